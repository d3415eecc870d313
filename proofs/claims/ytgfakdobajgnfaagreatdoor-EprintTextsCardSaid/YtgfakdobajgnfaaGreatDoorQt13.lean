import Derived.Recover
import Derived.Test.YtgfakdobajgnfaaGreatDoorQt12
import Derived.Test.YtgfakdobajgnfaaGreatDoorQt9
set_option maxRecDepth 100000
set_option maxHeartbeats 16000000
namespace Go.Proofs.YtgfakdobajgnfaaGreatDoor
open Go Go.RowKit
theorem jZ (w:World):(binOp BinOp.eql 20 .nilIface .nilIface).run Tryz.prog w= .ok (.bool true) w:=by kernel_rfl
theorem Ze (er:Int)(w:World):(binOp BinOp.eql 20 (.iface 131 (.int .i64 er)) .nilIface).run Tryz.prog w= .ok (.bool false) w:=by kernel_rfl
theorem mF (er:Int)(w:World):(Instr.typeAssert (.iface 131 (.int .i64 er)) 20 131 true).run Tryz.prog w= .ok (.tuple #[.int .i64 er,.bool true]) w:=by kernel_rfl
theorem Ih {w:World}{b:Nat}{x:Value}{t:TypeId}(h:w.heap[b]? =some (.cells #[x] t (0,0))):w.cell? ⟨b,0,none⟩=some x/\w.frozen? ⟨b,0,none⟩=false:=
 ⟨by simp only[World.cell?,h];rfl,by simp only[World.frozen?,h];simp⟩
theorem Yu (w:World)(o0 o1 o2 o3 o4:Obj):((((((w.alloc o0).alloc o1).alloc o2).alloc o3).alloc o4).heap[w.heap.size]? =some o0/\(((((w.alloc o0).alloc o1).alloc o2).alloc o3).alloc o4).heap[w.heap.size+1]? =some o1/\(((((w.alloc o0).alloc o1).alloc o2).alloc o3).alloc o4).heap[w.heap.size+1+1]? =some o2/\
 (((((w.alloc o0).alloc o1).alloc o2).alloc o3).alloc o4).heap[w.heap.size+1+1+1]? =some o3/\(((((w.alloc o0).alloc o1).alloc o2).alloc o3).alloc o4).heap[w.heap.size+1+1+1+1]? =some o4):=by
 have z1:(w.alloc o0).heap.size=w.heap.size+1:=by simp
 have z2:((w.alloc o0).alloc o1).heap.size=w.heap.size+1+1:=by simp
 have z3:(((w.alloc o0).alloc o1).alloc o2).heap.size=w.heap.size+1+1+1:=by simp
 have z4:((((w.alloc o0).alloc o1).alloc o2).alloc o3).heap.size=w.heap.size+1+1+1+1:=by simp
 have h0:=Az w o0;have h1:=Az (w.alloc o0) o1;have h2:=Az ((w.alloc o0).alloc o1) o2;have h3:=Az (((w.alloc o0).alloc o1).alloc o2) o3;have h4:=Az ((((w.alloc o0).alloc o1).alloc o2).alloc o3) o4;rw[z1] at h1;rw[z2] at h2;rw[z3] at h3;rw[z4] at h4;refine⟨?_,?_,?_,?_,h4⟩
 ·rw[Below.heap_alloc _ _ _ qO,Below.heap_alloc _ _ _ qO,Below.heap_alloc _ _ _ qO,Below.heap_alloc _ _ _ qO];exact h0
 ·rw[Below.heap_alloc _ _ _ qO,Below.heap_alloc _ _ _ qO,Below.heap_alloc _ _ _ qO];exact h1
 ·rw[Below.heap_alloc _ _ _ qO,Below.heap_alloc _ _ _ qO];exact h2
 rw[Below.heap_alloc _ _ _ qO];exact h3
theorem bM (a b c d x:Value):(#[a,b,c,d]++(Array.replicate 14 undef).setIfInBounds 3 x)= #[a,b,c,d,undef,undef,undef,x,undef,undef,undef,undef,undef,undef,undef,undef,undef,undef]:=rfl
theorem Sb (a0 a1 a2 a3:Addr)(w:World):
 CallsD Tryz.prog 88 #[.pointer (some a0),.pointer (some a1),.pointer (some a2),.pointer (some a3)] .returning w fun e u' w'=>e= .returned (.tuple #[])/\u'= .returning/\w'=w:=by
 have hnil:=jZ;refine callsD_of_wpS Tryz.func88 rfl fun c₀ cs hu=>?_
 apply wpS_seq;apply wpS_region;simp [wpOpsS,go_sem,recoverD,hu,Tryz.ntmps88,Exit.thenS];refine wpS_of_wp ?_;rw[bM];go_wp2_with fail;refine⟨rfl,.returning,?_,.tuple #[],?_,rfl,rfl,rfl⟩
 ·rw[←hu]
 simp [results,Tryz.results88,go_sem]
theorem Zr (b p1 p2 p3 p0:Nat)(er:Int)(older:List PanicEntry)(at':Int)(w:World)(h0:w.cell? ⟨p0,0,none⟩=some (.pointer (some ⟨b,0,none⟩)))(h1:w.cell? ⟨b,1,none⟩=some (.int .i64 at'))
 (x1 x2 x3:Value) (c1:w.cell? ⟨p1,0,none⟩=some x1) (c2:w.cell? ⟨p2,0,none⟩=some x2) (c3:w.cell? ⟨p3,0,none⟩=some x3) (f1:w.frozen? ⟨p1,0,none⟩=false) (f2:w.frozen? ⟨p2,0,none⟩=false) (f3:w.frozen? ⟨p3,0,none⟩=false)
 (d12:¬p1=p2) (d13:¬p1=p3) (d23:¬p2=p3):
 CallsD Tryz.prog 88 #[.pointer (some ⟨p0,0,none⟩),.pointer (some ⟨p1,0,none⟩),.pointer (some ⟨p2,0,none⟩),.pointer (some ⟨p3,0,none⟩)] (.panicking ({v:= .iface 131 (.int .i64 er),recovered:=false}::older)) w fun e u' w'=>
  e= .returned (.tuple #[])/\u'= .panicking ({v:= .iface 131 (.int .i64 er),recovered:=true}::older)/\w'=((w.setCell ⟨p1,0,none⟩ (.slice none 0 0)).setCell ⟨p2,0,none⟩ (.int .i64 at')).setCell ⟨p3,0,none⟩ (.int .i64 er):=by
 have hst:=Ze er;have hta:=mF er;refine callsD_of_wpS Tryz.func88 rfl fun c₀ cs hu=>?_
 apply wpS_seq;apply wpS_region;simp [wpOpsS,go_sem,recoverD,hu,Tryz.ntmps88,Exit.thenS];refine wpS_of_wp ?_;rw[bM];go_wp2_with fail;refine⟨rfl,_,rfl,.tuple #[],?_,rfl,rfl,rfl⟩;simp [results,Tryz.results88,go_sem]
def Qq (w:World)(ts:List Tkn)(n:Nat)(x:ExR)(e:Ending)(w':World):Prop:=
 Below w.heap.size w w'/\match x with
  | .error p=>e= .returned (.tuple #[.slice none 0 0,.int .i64 ((ts.length - p.2.length:Nat):Int),.int .i64 p.1])
  | .ok p=>if 60<p.1.size then e= .returned (.tuple #[.slice none 0 0,.int .i64 (n:Int),.int .i64 7]) else
   ∃v,e= .returned (.tuple #[v,.int .i64 ((ts.length - p.2.length:Nat):Int),.int .i64 0])/\Ig w' w.heap.size [] v (p.1.flat 0)
theorem aW {w:World}{vl:Value}{ts:List Tkn}(ht:Iv w vl ts)(hn:∀t∈ts,t.w.k=1->t.w.t≠[40])(hbig:ts.length<=1000000)(n:Nat)(hnl:n<=ts.length):
 Calls Tryz.prog 53 #[vl,.int .i64 (n:Int)] w (Qq w ts n (Bd 0 0 (ts.drop n))):=by
 obtain⟨va,vc,rfl⟩:=ht.form;have hmf:∀(fn:Fn) (first cap:Array Value) (w:World),(Instr.makeFunc fn first cap).run Tryz.prog w= .ok (.func fn first cap) w:=fun _ _ _ _=>rfl
 have i0:¬((n:Int)<0):=by omega
 have i1:¬((ts.length:Int)<(n:Int)):=by omega
 have i2:decide ((n:Int)<0)=false:=by simp
 have i3:decide ((ts.length:Int)<(n:Int))=false:=by simp;omega
 obtain⟨x,hx⟩:∃x,Bd 0 0 (ts.drop n)=x:=⟨_,rfl⟩;rw[hx];obtain⟨W5,hW5⟩:∃W5,((((w.alloc (.cells #[.slice none 0 0] 31)).alloc (.cells #[.int .i64 0] 3)).alloc (.cells #[.int .i64 0] 27)).alloc (.cells #[.slice va ts.length vc,.int .i64 (n:Int),.int .i64 0,.slice none 0 0] 130)).alloc (.cells #[.pointer (some ⟨w.heap.size+1+1+1,0,none⟩)] 128)=W5:=⟨_,rfl⟩
 have hb5:Below w.heap.size w W5:=by
  rw[←hW5];exact(((((Aq _ w).alloc (Ak _) _).alloc qQ _).alloc qV _).alloc qV _).alloc qV _
 obtain⟨q0,q1,q2,q3,q4⟩:W5.heap[w.heap.size]? =some (.cells #[.slice none 0 0] 31 (0,0))/\W5.heap[w.heap.size+1]? =some (.cells #[.int .i64 0] 3 (0,0))/\W5.heap[w.heap.size+1+1]? =some (.cells #[.int .i64 0] 27 (0,0))/\
  W5.heap[w.heap.size+1+1+1]? =some (.cells #[.slice va ts.length vc,.int .i64 (n:Int),.int .i64 0,.slice none 0 0] 130 (0,0))/\W5.heap[w.heap.size+1+1+1+1]? =some (.cells #[.pointer (some ⟨w.heap.size+1+1+1,0,none⟩)] 128 (0,0)):=by
  rw[←hW5];exact Yu w _ _ _ _ _
 have hlen:ts.length - (ts.drop n).length=n:=by rw[List.length_drop];omega
 have hR:C3 W5 w.heap.size [w.heap.size+1] (w.heap.size+1+1+1) (.slice va ts.length vc) ts (ts.drop n) 0 (.slice none 0 0) []:=
  ⟨⟨n,rfl⟩,ht.below hb5,hn,ht.lt,by omega,fun x h=>(by simp at h;subst h;have:=Ay q1;exact this),by omega,hbig,by simp only[List.length_nil,List.length_drop];omega,by rw[hlen];exact q3,[],World.ownsRow_nil _ _ _ _,trivial⟩
 have hc:=fA w.heap.size (w.heap.size+1+1+1) (.slice va ts.length vc) ts _ [w.heap.size+1] 0 0 (ts.drop n) W5 (.slice none 0 0) [] qO (Nat.lt_succ_self _) hR hb5.size;rw[hx] at hc;have Hc:Hid (Calls Tryz.prog 89 #[.pointer (some ⟨w.heap.size+1+1+1,0,none⟩),.int .i64 0] W5 (B8 W5 w.heap.size [w.heap.size+1] (w.heap.size+1+1+1) (.slice va ts.length vc) ts 0 (.slice none 0 0) [] x)):=Ax hc;have HB5:=Ax hb5;have hap:=fun{p:Nat} {cs:Array Value} {T:TypeId} (h:W5.heap[p]? =some (.cells cs T (0,0))) (h1:130≠T) (h2:43≠T)=>hR.apart h h1 h2
 have Q0:=Ax (And.intro q0 (hap q0 qP qP));have Q1:=Ax (And.intro q1 (hap q1 qP qP));have Q2:=Ax (And.intro q2 (hap q2 qP qP));have Q4:=Ax (And.intro q4 (hap q4 qP qP));clear hb5 q0 q1 q2 q3 q4 hR hc hlen hap;subst hW5;have hcl:=Hc.out;clear hcl;go_enter_defers Tryz.func53,Tryz.ntmps53;go_wp2_with fail;refine Hc.out.mono ?_;rintro e V1 hp;cases x with
 |error p=>
  obtain⟨er,q⟩:=p;obtain⟨rfl,⟨dd,vv,hrb⟩,ho⟩:=hp;obtain⟨a0,af0⟩:=Ih (ho.cells_of Q0.out.1 Q0.out.2);obtain⟨a1,af1⟩:=Ih (ho.cells_of Q1.out.1 Q1.out.2);obtain⟨a2,af2⟩:=Ih (ho.cells_of Q2.out.1 Q2.out.2);obtain⟨a4,_⟩:=Ih (ho.cells_of Q4.out.1 Q4.out.2);obtain⟨_,b1,_⟩:=Ds hrb;have hbV:Below w.heap.size w V1:=Bz HB5.out ho (by simp [Value.ownBlock];omega) (by have:=HB5.out.size;exact this);have HBV:=Ax hbV;have hq:ts.length - q.length=ts.length - q.length:=rfl;obtain⟨m,hm⟩:∃m,ts.length - q.length=m:=⟨_,rfl⟩;rw[hm] at b1;have Hm:=Ax hm;clear hrb ho hbV hq hm hx Q0 Q1 Q2 Q4;go_wp2_with fail;refine leaves_cons (f:=88) (args:= #[.pointer (some ⟨w.heap.size+1+1+1+1,0,none⟩),.pointer (some ⟨w.heap.size,0,none⟩),.pointer (some ⟨w.heap.size+1,0,none⟩),.pointer (some ⟨w.heap.size+1+1,0,none⟩)]) qQ (by simp [go_sem]) ?_;refine(Zr (w.heap.size+1+1+1) w.heap.size (w.heap.size+1) (w.heap.size+1+1) (w.heap.size+1+1+1+1) er [] (m:Int) V1 a4 b1 _ _ _ a0 a1 a2 af0 af1 af2 qO qO qO).mono ?_;rintro e u' w'' ⟨rfl,rfl,rfl⟩;refine⟨.tuple #[.slice none 0 0,.int .i64 (m:Int),.int .i64 er],?_,?_⟩
  ·simp [results,Tryz.results53,go_sem, *]
  refine⟨((HBV.out.setCell (Ak _) _).setCell qQ _).setCell qV _,?_⟩;rw[←Hm.out]
 |ok p=>
  obtain⟨a,q⟩:=p;obtain⟨rfl,v1,hr1,hch⟩:=hp;have ho:=hch.only;obtain⟨a0,af0⟩:=Ih (ho.cells_of Q0.out.1 Q0.out.2);obtain⟨a1,af1⟩:=Ih (ho.cells_of Q1.out.1 Q1.out.2);obtain⟨a2,af2⟩:=Ih (ho.cells_of Q2.out.1 Q2.out.2);obtain⟨a4,_⟩:=Ih (ho.cells_of Q4.out.1 Q4.out.2);obtain⟨_,b1,_,b3,_⟩:=Ds hr1.blk;have hbV:Below w.heap.size w V1:=Bz HB5.out ho (by simp [Value.ownBlock];omega) (by have:=HB5.out.size;exact this);obtain⟨kvs,hk1,hk2⟩:=hr1.tree;obtain⟨la,lc,rfl⟩:=Ez hk1;simp only[List.nil_append,List.length_nil,Ex.flat_len] at b3 hk1 hr1 hk2;have htr:Ig V1 w.heap.size [w.heap.size+1] (.slice la a.size lc) (a.flat 0):=⟨kvs,by rw[Ex.flat_len];exact hk1,hk2⟩;have hfew:=hr1.few;rw[Ex.flat_len] at hfew;have HBV:=Ax hbV;have HTR:=Ax htr;have HH0:=Ax (ho.cells_of Q0.out.1 Q0.out.2);have HH1:=Ax (ho.cells_of Q1.out.1 Q1.out.2);have HH2:=Ax (ho.cells_of Q2.out.1 Q2.out.2);obtain⟨m,hm⟩:∃m,ts.length - q.length=m:=⟨_,rfl⟩;rw[hm] at b1;have Hm:=Ax hm;clear hr1 hch ho hbV hk1 hk2 htr hm hx Q0 Q1 Q2 Q4;by_cases h60:60<a.size
  ·have j1:decide ((60:Int)<(a.size:Int))=true:=by simp;omega
   have j2:(60:Int)<(a.size:Int):=by omega
   have H60:=Ax h60;clear h60;go_wp2_with fail;refine leaves_cons (f:=88) (args:= #[.pointer (some ⟨w.heap.size+1+1+1+1,0,none⟩),.pointer (some ⟨w.heap.size,0,none⟩),.pointer (some ⟨w.heap.size+1,0,none⟩),.pointer (some ⟨w.heap.size+1+1,0,none⟩)]) qQ (by simp [go_sem]) ?_;refine(Sb _ _ _ _ _).mono ?_;rintro e u' w'' ⟨rfl,rfl,rfl⟩;refine⟨.tuple #[.slice none 0 0,.int .i64 (n:Int),.int .i64 7],?_,?_⟩
   ·simp [results,Tryz.results53,go_sem, *]
   refine⟨((HBV.out.setCell (Ak _) _).setCell qQ _).setCell qV _,?_⟩
   show(if 60<a.size then _ else _)
   rw[Ap H60.out]
  have j1:decide ((60:Int)<(a.size:Int))=false:=by simp;omega
  have j2:(a.size:Int)<=60:=by omega
  have H60:=Ax h60;clear h60;go_wp2_with fail;go_region;go_wp2_with fail;refine leaves_cons (f:=88) (args:= #[.pointer (some ⟨w.heap.size+1+1+1+1,0,none⟩),.pointer (some ⟨w.heap.size,0,none⟩),.pointer (some ⟨w.heap.size+1,0,none⟩),.pointer (some ⟨w.heap.size+1+1,0,none⟩)]) qQ (by simp [go_sem]) ?_;refine(Sb _ _ _ _ _).mono ?_;rintro e u' w'' ⟨rfl,rfl,rfl⟩;refine⟨.tuple #[.slice la a.size lc,.int .i64 (m:Int),.int .i64 0],?_,?_⟩
  ·simp [results,Tryz.results53,go_sem, *]
  have hO:Bb [w.heap.size,w.heap.size+1,w.heap.size+1+1] V1 ((((V1.setCell ⟨w.heap.size,0,none⟩ (.slice la a.size lc)).setCell ⟨w.heap.size+1,0,none⟩ (.int .i64 (m:Int))).setCell ⟨w.heap.size+1+1,0,none⟩ (.int .i64 0)).drew):=
   Bb.drew ((((Bb.refl _ V1).setCell (.inl qQ) _).setCell (.inl qQ) _).setCell (.inl qQ) _)
  refine⟨Bz HBV.out hO qV HBV.out.size,?_⟩
  show(if 60<a.size then _ else _)
  rw[Ao H60.out];refine⟨_,by rw[←Hm.out],HTR.out.imp (fun _ r=>Bh r hO fun k e hm=>?_) fun v n xs hx r=>⟨Bh r hO fun k e hm=>?_,fun _ _ hm=>(by cases hm)⟩⟩
  ·simp only[List.mem_cons,List.not_mem_nil,or_false] at hm;rcases hm with rfl|rfl|rfl
   ·exact Bj r HH0.out qP e
   ·exact Bj r HH1.out qP e
   exact Bj r HH2.out qP e
  simp only[List.mem_cons,List.not_mem_nil,or_false] at hm;rcases hm with rfl|rfl|rfl
  ·exact Bj r HH0.out qP e
  ·exact hx _ e qQ
  exact Bj r HH2.out qP e
open Go Go.Lib
inductive Pv (w:Wd):Prop where
 |name (h:w.k=1) (t:Ir w.t=true) (v:w.v=v0)
 |var (h:w.k=2) (t:Ir w.t=true) (v:w.v=v0)
 |self (h:w.k=3) (t:w.t=[]) (v:w.v=v0)
 |num (h:w.k=4) (t:D0 w.t= .ok w.v) (m:∃c r,w.t=c::r/\Bc c=true/\Br w.t=w.t.length)
 |str (h:w.k=5) (t:D0 (34::w.t++[34])= .ok w.v) (m:∀c∈w.t,El c=true) (s:Ba false (w.t++[34])=w.t.length)
 |sym (h:w.k=6) (t:Ir w.t=true) (v:w.v=(5,0,w.t))
 |sign (h:w.k=7) (t:w.t∈F4\/w.t∈Lz.map fun c=>[c]) (v:w.v=v0)
theorem N4 {c:UInt8}{r:List UInt8}(hc:Dx c=true)(h:((c::r).take (A7 Cn (c::r))).length<=12):Ir ((c::r).take (A7 Cn (c::r)))=true:=by
 have hn:Cn c=true:=by unfold Cn;rw[hc];rfl
 rw[Di hn,Nat.add_comm,List.take_succ_cons] at h ⊢
 show(decide ((r.take (A7 Cn r)).length<12) && Dx c && (r.take (A7 Cn r)).all fun b=>Dx b||Bc b)=true
 rw[hc,Bool.and_true,Bool.and_eq_true,decide_eq_true_eq];exact⟨by rw[Aa] at h;omega,List.all_eq_true.2 (Ft r)⟩
theorem eA {l:List UInt8}{w:Wd}{n:Nat}(h:Bq l= .ok (w,n)):Pv w:=by
 have hsh:∀{w':Wd} {m:Nat},C0 w' m= .ok (w,n)->w'=w/\w'.t.length<=12:=fun{w' m} hh=>by
  unfold C0 at hh
  split at hh
  ·cases hh
  rename_i hl
  injection hh with hh;exact⟨Ar Prod.fst hh,by omega⟩
 unfold Bq at h;cases l with
 |nil=>cases h
 |cons c r=>
  simp only at h;by_cases h1:Dx c=true
  ·rw[Ap h1] at h;obtain⟨rfl,hl⟩:=hsh h;exact .name rfl (N4 h1 hl) rfl
  rw[Ao h1] at h;by_cases h2:Bc c=true
  ·rw[Ap h2] at h;unfold Lv at h;have hp:=Ny (r:=r) h2;cases hv:D0 ((c::r).take (Br (c::r))) with
   |error e=>rw[hv] at h;cases h
   |ok v=>
    rw[hv] at h;injection h with h;injection h with h _;subst h;refine .num rfl hv ⟨c,r.take (Br (c::r) - 1),?_,h2,?_⟩
    ·show(c::r).take _=_
     obtain⟨m,hm⟩:∃m,Br (c::r)=m+1:=⟨Br (c::r) - 1,by omega⟩;rw[hm];rfl
    show Br ((c::r).take _)=((c::r).take _).length;rw[X3 _ _ (Ak _),List.length_take,Nat.min_eq_left hp.2]
  rw[Ao h2] at h;by_cases h3:c=34
  ·rw[Ap h3,Gc] at h;by_cases hq:((c::r).drop (1+Ba false r)).head? =some 34
   ·rw[Ap hq] at h;cases hv:D0 ((c::r).take (Ba false r+2)) with
    |error e=>rw[hv] at h;cases h
    |ok v=>
     rw[hv] at h;injection h with h;injection h with h _;subst h h3;rw[Nat.add_comm,List.drop_succ_cons] at hq;have ht:=Rc hq;rw[List.take_succ_cons,ht] at hv;refine .str rfl hv (Mg false r) ?_;show Ba false (r.take (Ba false r)++[34])=(r.take (Ba false r)).length;rw[←ht,Pp false r _ (Nat.lt_succ_self _),List.length_take,Nat.min_eq_left (N2 false r)]
   rw[Ao hq] at h;cases h
  rw[Ao h3] at h;by_cases h4:c=63
  ·subst h4;rw[Ap rfl] at h;by_cases hm:D6 (63::r)=true
   ·rw[Ap hm] at h;obtain⟨rfl,hl⟩:=hsh h;cases r with
    |nil=>cases hm
    |cons d r=>exact .var rfl (N4 hm hl) rfl
   rw[Ao hm] at h;injection h with h;injection h with h _;subst h;exact .self rfl rfl rfl
  rw[Ao h4] at h;by_cases h5:c=35/\D6 (c::r)=true
  ·rw[Ap h5] at h;obtain⟨rfl,hl⟩:=hsh h;cases r with
   |nil=>cases h5.2
   |cons d r=>exact .sym rfl (N4 h5.2 hl) rfl
  rw[Ao h5] at h;unfold Fj at h
  split at h
  ·rename_i h6
   injection h with h;injection h with h _;subst h;exact .sign rfl (.inl h6) rfl
  split at h
  ·rename_i h6
   injection h with h;injection h with h _;subst h;exact .sign rfl (.inr h6) rfl
  cases h
theorem O2 {l:List UInt8}{ts:List Tkn}(h:Fu l= .ok ts):∀t∈ts,Pv t.w:=fun t ht=>by
 obtain⟨c,r,n,_,hw⟩:=Sd _ l 1 1 ts (Ak _) h t ht;exact eA hw
theorem Xc:Ir [40]=false:=by decide
theorem Uy {l:List UInt8}{ts:List Tkn}(h:Fu l= .ok ts):∀t∈ts,t.w.k=1->t.w.t≠[40]:=fun t ht hk e=>by
 cases O2 h t ht with
 |name _ ht' _=>rw[e,Xc] at ht';cases ht'
 |var h _ _=>omega
 |self h _ _=>omega
 |num h _ _=>omega
 |str h _ _ _=>omega
 |sym h _ _=>omega
 |sign h _ _=>omega
theorem Pu:∀(k:Nat) (l:List UInt8) (a b:Int) (ts:List Tkn),l.length<=k->1<=a->1<=b->LX l a b= .ok ts->∀t∈ts,1<=t.line/\t.line<=a+(l.length:Nat)/\1<=t.col/\t.col<=b+(l.length:Nat)
 |k,l,a,b,ts,hk,ha,hb,h=>by
  refine Mp (P:=fun l=>l.length<=k->LX l a b= .ok ts->∀t∈ts,1<=t.line/\t.line<=a+(l.length:Nat)/\1<=t.col/\t.col<=b+(l.length:Nat)) l ?_ ?_ ?_ ?_ ?_ ?_ hk h
  ·rintro rfl _ h;rw[L4] at h;injection h with h;subst h;intro t ht;cases ht
  ·rintro r rfl hk h t ht;obtain⟨k,rfl⟩:∃j,k=j+1:=⟨k - 1,by rw[Aa] at hk;omega⟩;rw[Ru] at h
   have:=Pu k r (a+1) 1 ts sB qO qP h t ht
   rw[Aa];omega
  ·rintro r rfl hk h t ht;obtain⟨k,rfl⟩:∃j,k=j+1:=⟨k - 1,by rw[Aa] at hk;omega⟩;rw[Ma] at h
   have:=Pu k r a (b+1) ts sB ha qO h t ht
   rw[Aa];omega
  ·rintro r rfl hk h t ht;obtain⟨k,rfl⟩:∃j,k=j+1:=⟨k - 1,by rw[Aa] at hk;omega⟩;have hp:=G2 (q:=Fi) (c:=59) (r:=r) qP;have hle:=C2 Fi (59::r);rw[Pw] at h
   have:=Pu k _ a _ ts rN ha qO h t ht
   rw[List.length_drop] at this;omega
  ·rintro c r e rfl hc hw hk h;rw[Qb hc hw] at h;cases h
  rintro c r w n rfl hc hw hk h t ht;obtain⟨k,rfl⟩:∃j,k=j+1:=⟨k - 1,by rw[Aa] at hk;omega⟩;obtain⟨hn,hnl⟩:=E4 hw;rw[Iu hc hw] at h;cases hx:LX ((c::r).drop n) a (b+n) with
  |error e=>rw[hx] at h;cases h
  |ok us=>
   rw[hx] at h;injection h with h;subst h;rw[List.mem_cons] at ht;rcases ht with rfl|ht
   ·simp only;omega
   have:=Pu k _ a _ us rN ha qO hx t ht
   rw[List.length_drop] at this;omega
theorem Li {l:List UInt8}{ts:List Tkn}(h:Fu l= .ok ts):∀t∈ts,1<=t.line/\t.line<=1+(l.length:Nat)/\1<=t.col/\t.col<=1+(l.length:Nat):=
 Pu _ l 1 1 ts (Ak _) qP qP h
theorem cT:∀{l:List Nat} {x:Nat},x∈l->x<=l.sum
 |y::l,x,h=>by
  rw[List.sum_cons];rcases List.mem_cons.1 h with rfl|h
  ·omega
  have:=cT h
  omega
theorem U5 {l:List UInt8}{ts:List Tkn}(h:Fu l= .ok ts):∀t∈ts,t.w.t.length<=2*l.length:=fun t ht=>by
 have h1:=(I9 _ l 1 1 ts (Ak _) h).1;have h2:(Fv t.w).length<=(ts.map fun t=>(Fv t.w).length).sum:=cT (List.mem_map.2 ⟨t,ht,rfl⟩)
 have h3:t.w.t.length<=(Fv t.w).length:=by
  unfold Fv
  repeat' split
  all_goals (simp;try omega)
 omega
theorem Lx {x:ExR}{g:Ex->List Tkn->ExR}{p:Int×List Tkn}(h:x.next g= .error p):x= .error p\/∃a q,x= .ok (a,q)/\g a q= .error p:=by
 cases x with
 |error e=>exact .inl h
 |ok y=>exact .inr ⟨y.1,y.2,rfl,h⟩
theorem Yo {a:Ex}{q:List Tkn}{p:Int×List Tkn}(h:Dp a q= .error p):p.1=4:=by
 unfold Dp at h
 split at h
 ·cases h
 injection h with h;rw[←h]
theorem Yj {d:Nat}{r:List Tkn}{g:List Tkn->ExR}{p:Int×List Tkn}(h:Ca d r g= .error p):p.1=4\/p.1=12\/(isH [40] r=true/\d≠12/\g r.tail= .error p):=by
 unfold Ca at h
 split at h
 ·rename_i hp
  split at h
  ·injection h with h;rw[←h];exact .inr (.inl rfl)
  rename_i hd
  exact .inr (.inr ⟨hp,hd,h⟩)
 injection h with h;rw[←h];exact .inl rfl
theorem X6:∀td d r,td.ok->∀p,exE td d r= .error p->p.1=4\/p.1=12\/p.1=14:=by
 refine R2 (P:=fun td d r=>∀p,exE td d r= .error p->p.1=4\/p.1=12\/p.1=14) ?_ ?_ ?_ ?_ ?_
 ·intro n d r hn h1 h2 p h;rw[show exE (.lvl n) d r=_ from Gx hn] at h;by_cases hp:isH (Fc n) r=true
  ·rw[Ap hp] at h;obtain⟨t,q0,rfl⟩:=Cu hp;by_cases hd:d=12
   ·rw[Ap hd] at h;injection h with h;rw[←h];exact .inr (.inl rfl)
   rw[Ao hd] at h;rcases Lx h with h3|⟨a,q,_,h3⟩
   ·exact h1 t q0 rfl hp hd p h3
   cases h3
  rw[Ao hp] at h;exact h2 tX p h
 ·intro d r h1 h2 p h;rw[show exE (.lvl 7) d r=_ from Bw d r] at h;cases r with
  |nil=>
   injection h with h;rw[←h];exact .inl rfl
  |cons t r=>
   simp only at h;cases hl:Cz t with
   |some x=>rw[hl] at h;cases h
   |none=>
    cases hc:D5 t with
    |some c=>
     rw[hl,hc] at h;rcases Yj h with h3|h3|⟨h3,h4,h5⟩
     ·exact .inl h3
     ·exact .inr (.inl h3)
     obtain⟨t',q',rfl⟩:=Cu h3;exact h1 t t' q' c rfl hl hc h3 h4 p h5
    |none=>
     rw[hl,hc] at h;rcases Yj h with h3|h3|⟨h3,h4,h5⟩
     ·exact .inl h3
     ·exact .inr (.inl h3)
     rcases Lx h5 with h6|⟨a,q,_,h6⟩
     ·exact h2 t r rfl hl hc h3 h4 p h6
     exact .inl (Yo h6)
 ·intro n d r h5 hn2 h1 h2 p h;rw[show exE (.lvl n) d r=_ from Hu h5 hn2] at h;rcases Lx h with h3|⟨a,q,h3,h4⟩
  ·exact h1 p h3
  exact h2 a q h3 p h4
 ·intro n b d r h1 p h;rw[show exE (.row n b) d r=_ from Fr n b d r] at h;by_cases hz:Bn r (Bs n)=0
  ·rw[Ap hz] at h;cases h
  rw[Ao hz] at h;obtain⟨t,r',rfl⟩:=Fo hz;obtain⟨h5,hn2⟩:=Mf hz;obtain⟨k1,k2⟩:=h1 t r' rfl hz h5 hn2;rcases Lx h with h3|⟨a,q,h3,h4⟩
  ·exact k1 p h3
  by_cases h3n:n=3
  ·rw[Ap h3n] at h4;cases h4
  rw[Ao h3n] at h4;exact k2 a q h3 p h4
 intro c ks d r h1 h2 p h;rw[show exE (.args c ks) d r=_ from F0 c ks d r] at h;rcases Lx h with h3|⟨a,q,h3,h4⟩
 ·exact h1 p h3
 by_cases hm:(isH [44] q && decide (ks.length+1=c.most)||isH [41] q && decide (ks.length+1<c.least))=true
 ·rw[Ap hm] at h4;injection h4 with h4;rw[←h4];exact .inr (.inr rfl)
 rw[Ao hm] at h4;by_cases hcm:isH [44] q=true
 ·rw[Ap hcm] at h4;obtain⟨t',q',rfl⟩:=Cu hcm;exact h2 a t' q' h3 hcm p h4
 rw[Ao hcm] at h4;exact .inl (Yo h4)
def E8 (ts:List Tkn):Int×Int:=match ts.getLast? with
 |none=>(1,1)
 |some t=>(t.line,t.col+t.w.t.length+if t.w.k=2\/t.w.k=3\/t.w.k=6 then 1 else if t.w.k=5 then 2 else 0)
def Qc (ts q:List Tkn):Int×Int:=match q with
 |t::_=>(t.line,t.col)
 |[]=>E8 ts
def Cf (l:List UInt8):Except ((Int×Int)×Int) Ex:=match Fu l with
 | .error (a,b,e)=> .error ((a,b),e)
 | .ok ts=>match Bd 0 0 ts with
   | .error (e,q)=> .error (Qc ts q,e)
   | .ok (a,q)=>if 60<a.size then .error (Qc ts ts,7) else if q=[] then .ok a else .error (Qc ts q,4)
open Go Go.RowKit Go.Lib Go.Sort Go.Shelf
theorem pF {s:ByteArray}(w:World)(hs:s.size<=65536)(hR:Rd w){ts:List Tkn}(h:Fu (dl s)= .ok ts):
 Calls Tryz.prog 52 #[.string s] w fun e w'=>∃v,e= .returned (.tuple #[v,.agg #[.int .i64 0,.int .i64 0],.int .i64 0])/\w'.ownsRow w.heap.size 94 7 v ts.length (Ec ts)/\Below w.heap.size w w':=by
 refine(bQ s w hs hR).mono ?_;exact zw3
theorem pR {s:ByteArray}(w:World)(hs:s.size<=65536)(hR:Rd w){a b q:Int}(h:Fu (dl s)= .error (a,b,q)):
 Calls Tryz.prog 52 #[.string s] w fun e w'=>e= .returned (.tuple #[.slice none 0 0,.agg #[.int .i64 a,.int .i64 b],.int .i64 q])/\Below w.heap.size w w':=by
 refine(bQ s w hs hR).mono ?_;rintro e w' ⟨hb,he⟩;rw[h] at he;exact⟨he,hb⟩
open Go Go.RowKit Go.Lib Go.Sort Go.Shelf
theorem Zk {w:World}{v:Value}{ts:List Tkn}(ht:Iv w v ts)(hc:∀t∈ts,0<=t.col/\t.col<=1000000/\t.w.t.length<=1000000)(hbig:ts.length<=1000000):
 Calls Tryz.prog 54 #[v] w fun e w'=>e= .returned (.agg #[.int .i64 (E8 ts).1,.int .i64 (E8 ts).2])/\Below w.heap.size w w':=by
 by_cases h0:ts=[]
 ·subst h0;obtain⟨va,vc,rfl⟩:=ht.form;simp only[List.length_nil];clear hc hbig ht;go_enter Tryz.func54,Tryz.ntmps54;go_wp2_with fail;refine Au (v:= .agg #[.int .i64 1,.int .i64 1]) rR rfl ?_;refine⟨rfl,?_⟩;exact(Aq _ w).alloc (Ak _) _
 obtain⟨m,hm⟩:∃m,ts.length=m+1:=⟨ts.length - 1,by have:=List.length_pos_iff.2 h0;omega⟩;have hml:m<ts.length:=by omega
 obtain⟨g,c,rfl,hg,t0,t1,t2,t3,t4,t5,t6⟩:=ht.at hml
 have hlast:ts.getLast? =some ts[m]:=by
  rw[List.getLast?_eq_getElem?,hm,Nat.add_sub_cancel,Ag hml]
 have hcc:=hc ts[m] (List.getElem_mem hml)
 have hbe:E8 ts=(ts[m].line,ts[m].col+ts[m].w.t.length+if ts[m].w.k=2\/ts[m].w.k=3\/ts[m].w.k=6 then 1 else if ts[m].w.k=5 then 2 else 0):=by
  unfold E8;rw[hlast]
 rw[hbe];obtain⟨t,he⟩:∃t,ts[m]=t:=⟨_,rfl⟩;rw[he] at t0 t1 t2 t3 t4 t5 t6 hcc ⊢;obtain⟨⟨tk,tt,tv1,tv2,tv3⟩,tl,tc⟩:=t;simp only at t0 t1 t2 t3 t4 t5 t6 hcc ⊢;rw[hm];obtain⟨hc1,hc2,hc3⟩:=hcc;have hm6:m+1<=1000000:=by omega
 obtain⟨W1,hW1⟩:∃W1,w.alloc (.cells #[.int .i64 0,.int .i64 0] 33)=W1:=⟨_,rfl⟩;have hb1:Below w.heap.size w W1:=by rw[←hW1];exact(Aq _ w).alloc (Ak _) _
 have hz1:W1.heap.size=w.heap.size+1:=by rw[←hW1];simp
 have hp1:=Az w (.cells #[.int .i64 0,.int .i64 0] 33);rw[hW1] at hp1;have t0':=A6 hb1 t0;have t1':=A6 hb1 t1;have t2':=A6 hb1 t2;have t3':=A6 hb1 t3;have t4':=A6 hb1 t4;have t5':=A6 hb1 t5;have t6':=A6 hb1 t6;obtain⟨W2,hW2⟩:∃W2,W1.alloc (.cells #[.int .u8 tk,.string ⟨tt.toArray⟩,.int .u8 tv1,.int .i64 tv2,.string ⟨tv3.toArray⟩,.int .i64 tl,.int .i64 tc] 94)=W2:=⟨_,rfl⟩;have hb2:Below W1.heap.size W1 W2:=by rw[←hW2];exact(Aq _ W1).alloc (Ak _) _
 have hz2:W2.heap.size=w.heap.size+2:=by rw[←hW2];simp [hz1]
 have hp2:=Az W1 (.cells #[.int .u8 tk,.string ⟨tt.toArray⟩,.int .u8 tv1,.int .i64 tv2,.string ⟨tv3.toArray⟩,.int .i64 tl,.int .i64 tc] 94);rw[hW2,hz1] at hp2;obtain⟨s0,s1,s2,s3,s4,s5,s6⟩:=Gr hp2;obtain⟨W3,hW3⟩:∃W3,W2.alloc (.cells #[.int .i64 tl,.int .i64 tc] 33)=W3:=⟨_,rfl⟩;have hb3:Below W2.heap.size W2 W3:=by rw[←hW3];exact(Aq _ W2).alloc (Ak _) _
 have hz3:W3.heap.size=w.heap.size+3:=by rw[←hW3];simp [hz2]
 have hp3:=Az W2 (.cells #[.int .i64 tl,.int .i64 tc] 33);rw[hW3,hz2] at hp3;have hq2:=(hb3.block _ (Ay hp2)).trans hp2;have hq1:=(hb3.block _ qO).trans ((hb2.block _ (Ay hp1)).trans hp1);obtain⟨r0,r1,r2,r3,r4,r5,r6⟩:=Gr hq2;obtain⟨x0,x1,xf⟩:=B9 hp3;obtain⟨y0,y1,yf⟩:=B9 hq1;have xf0:=xf 0;have xf1:=xf 1;have yf0:=yf 0;have yf1:=yf 1;have HB3:=Ax (hb1.trans ((hb2.trans (hb3.mono hb2.size)).mono hb1.size));clear hb1 hb2 hb3 hp1 hp2 hp3 hq1 hq2 xf yf t0 t1 t2 t3 t4 t5 t6 hbe hlast hc he ht hbig h0;by_cases hk:tk=2\/tk=3\/tk=6
 ·rcases hk with rfl|rfl|rfl
  ·exact zyu
  ·exact zyu
  exact zyu
 by_cases h5:tk=5
 ·subst h5;go_enter Tryz.func54,Tryz.ntmps54;go_wp2_with fail;refine Au (v:= .agg #[.int .i64 tl,.int .i64 (tc+(tt.length:Int)+2)]) rR rfl ?_;refine⟨by simp [*],?_⟩;exact(((HB3.out.setCell qQ _).setCell qQ _).setCell qQ _).setCell qQ _
 have j2:(tk==2)=false:=by simp at hk ⊢;omega
 have j3:(tk==3)=false:=by simp at hk ⊢;omega
 have j6:(tk==6)=false:=by simp at hk ⊢;omega
 have j5:(tk==5)=false:=by simpa using h5
 rw[Ao hk,Ao h5,Int.add_zero];clear hk h5;go_enter Tryz.func54,Tryz.ntmps54;go_wp2_with fail;refine Au (v:= .agg #[.int .i64 tl,.int .i64 (tc+(tt.length:Int))]) rR rfl ?_;refine⟨by simp [*],?_⟩;exact((HB3.out.setCell qQ _).setCell qQ _).setCell qQ _
def Qp (w:World)(x:Except ((Int×Int)×Int) Ex)(e:Ending)(w':World):Prop:=
 Below w.heap.size w w'/\match x with
  | .error p=>e= .returned (.tuple #[.slice none 0 0,.agg #[.int .i64 p.1.1,.int .i64 p.1.2],.int .i64 p.2])
  | .ok a=>∃v,e= .returned (.tuple #[v,.agg #[.int .i64 0,.int .i64 0],.int .i64 0])/\Ig w' w.heap.size [] v (a.flat 0)
theorem nH {s:ByteArray}(w:World)(hs:s.size<=65536)(hR:Rd w){a b q:Int}(h:Fu (dl s)= .error (a,b,q)):Calls Tryz.prog 20 #[.string s] w (Qp w (Cf (dl s))):=by
 have hx:Cf (dl s)= .error ((a,b),q):=by unfold Cf;rw[h]
 have hq:q=4\/q=9:=((Ll _ (dl s) 1 1 (Ak _) qP).1 a b q h).2.2;have hq1:(q !=0)=true:=by rcases hq with rfl|rfl<;>rfl
 have hq2:(q==0)=false:=by rcases hq with rfl|rfl<;>rfl
 obtain⟨W1,hW1⟩:∃W1,w.alloc (.cells #[.int .i64 0,.int .i64 0] 33)=W1:=⟨_,rfl⟩;have hb1:Below w.heap.size w W1:=by rw[←hW1];exact(Aq _ w).alloc (Ak _) _
 have hp1:=Az w (.cells #[.int .i64 0,.int .i64 0] 33);rw[hW1] at hp1;have L1:=Ax (pR (s:=s) W1 hs (hR.below hb1) h);have HB1:=Ax hb1;have HP1:=Ax hp1;rw[hx];clear hx h hR hb1 hp1 hq;go_enter Tryz.func20,Tryz.ntmps20;go_wp2_with fail;refine L1.out.mono ?_;rintro e V2 ⟨rfl,hb2⟩;have hp2:=(hb2.block _ (Ay HP1.out)).trans HP1.out;obtain⟨V3,hV3⟩:∃V3,V2.alloc (.cells #[.int .i64 a,.int .i64 b] 33)=V3:=⟨_,rfl⟩;have hb3:Below V2.heap.size V2 V3:=by rw[←hV3];exact(Aq _ V2).alloc (Ak _) _
 have hp3:=Az V2 (.cells #[.int .i64 a,.int .i64 b] 33);rw[hV3] at hp3;have hp4:=(hb3.block _ (Ay hp2)).trans hp2;obtain⟨x0,x1,_⟩:=B9 hp3;obtain⟨y0,y1,yf⟩:=B9 hp4;have yf0:=yf 0;have yf1:=yf 1;have HB3:=Ax (HB1.out.trans ((hb2.trans (hb3.mono hb2.size)).mono HB1.out.size));have hne:¬w.heap.size=V2.heap.size:=by have:=Ay hp2;omega
 have hne2:¬V2.heap.size=w.heap.size:=fun h=>hne h.symm
 clear hb2 hb3 hp2 hp3 hp4 yf L1 HP1;go_wp2_with fail;go_region;go_wp2_with fail;refine Au (v:= .tuple #[.slice none 0 0,.agg #[.int .i64 a,.int .i64 b],.int .i64 q]) rY rfl ?_;exact⟨((HB3.out.setCell qQ _).setCell qQ _).drew,rfl⟩
inductive Mid (ts:List Tkn)(w:World)(V:World)(v:Value)(n:Nat)(e0:Int):Except ((Int×Int)×Int) Ex->Prop where
 |tree (a:Ex) (he:e0=0) (hn:n=ts.length) (ht:Ig V w.heap.size [] v (a.flat 0)):Mid ts w V v n e0 (.ok a)
 |more (t:Tkn) (he:e0=0) (hn:ts[n]? =some t):Mid ts w V v n e0 (.error ((t.line,t.col),4))
 |bad (t:Tkn) (he:e0≠0) (hn:ts[n]? =some t):Mid ts w V v n e0 (.error ((t.line,t.col),e0))
 |end' (he:e0≠0) (hn:n=ts.length):Mid ts w V v n e0 (.error (E8 ts,e0))
theorem Suf.head {t:Tkn}{q ts:List Tkn}(h:Suf (t::q) ts):ts[ts.length - (t::q).length]? =some t:=by
 have h1:=h.at_drop;have h2:=Ar (fun l=>l[0]?) h1;simpa using h2.symm
theorem jB {w V V':World}{ts:List Tkn}{l:List UInt8}(hl:Fu l= .ok ts){e:Ending}(h:Qq V ts 0 (Bd 0 0 ts) e V')(hw:w.heap.size<=V.heap.size):
 ∃(v:Value) (n:Nat) (e0:Int),e= .returned (.tuple #[v,.int .i64 (n:Int),.int .i64 e0])/\n<=ts.length/\(∃a k c,v= .slice a k c)/\Mid ts w V' v n e0 (Cf l)/\Below V.heap.size V V':=by
 have hx:Cf l=match Bd 0 0 ts with
  | .error (e,q)=> .error (Qc ts q,e)
  | .ok (a,q)=>if 60<a.size then .error (Qc ts ts,7) else if q=[] then .ok a else .error (Qc ts q,4):=by
  simp only[Cf,hl]
  all_goals (cases Bd 0 0 ts<;>rfl)
 obtain⟨hb,h⟩:=h;cases hq:Bd 0 0 ts with
 |error p=>
  obtain⟨er,q⟩:=p;rw[hq] at h hx;have hs:=oG (td:= .lvl 0) sS (show exE (.lvl 0) 0 ts=_ from hq)
  have he:er≠0:=by
   have:=X6 (.lvl 0) 0 ts sS _ (show exE (.lvl 0) 0 ts=_ from hq)
   simp only at this;omega
  refine⟨_,_,er,h,by omega,⟨_,_,_,rfl⟩,?_,hb⟩;rw[hx];simp only;cases q with
  |nil=>exact .end' he qQ
  |cons t q=>exact .bad t he hs.head
 |ok p=>
  obtain⟨a,q⟩:=p;rw[hq] at h hx;simp only at h hx;have hs:=Dy (n:=0) qO hq;by_cases h60:60<a.size
  ·rw[Ap h60] at h hx;refine⟨_,0,7,h,by omega,⟨_,_,_,rfl⟩,?_,hb⟩;rw[hx];cases ts with
   |nil=>simp at hs
   |cons t ts=>exact .bad t qP rfl
  rw[Ao h60] at h hx;obtain⟨v,h1,h2⟩:=h
  have hv:∃a k c,v= .slice a k c:=by
   obtain⟨kvs,h3,_⟩:=h2;obtain⟨x,c,rfl⟩:=Ez h3;exact⟨_,_,_,rfl⟩
  refine⟨v,_,0,h1,by omega,hv,?_,hb⟩;rw[hx];cases q with
  |nil=>
   rw[Ap rfl];refine .tree a rfl qQ ?_;obtain⟨kvs,h3,h4⟩:=h2;exact⟨kvs,Mx h3 hw,C9.base hw h4⟩
  |cons t q=>
   rw[Ao qQ];exact .more t rfl hs.1.head
theorem mD {s:ByteArray}(w:World)(hs:s.size<=65536)(hR:Rd w){ts:List Tkn}(h:Fu (dl s)= .ok ts):Calls Tryz.prog 20 #[.string s] w (Qp w (Cf (dl s))):=by
 have hlen:=(I9 _ (dl s) 1 1 ts (Ak _) h).2;have hpl:=Li h;have hsh:=U5 h;rw[A5] at hlen;have hbig:ts.length<=1000000:=by omega
 have hcols:∀t∈ts,0<=t.col/\t.col<=1000000/\t.w.t.length<=1000000:=fun t ht=>by
  have h1:=hpl t ht;have h2:=hsh t ht;rw[A5] at h1 h2;omega
 obtain⟨W1,hW1⟩:∃W1,w.alloc (.cells #[.int .i64 0,.int .i64 0] 33)=W1:=⟨_,rfl⟩;have hb1:Below w.heap.size w W1:=by rw[←hW1];exact(Aq _ w).alloc (Ak _) _
 have hp1:=Az w (.cells #[.int .i64 0,.int .i64 0] 33);rw[hW1] at hp1;have L1:=Ax (pF (s:=s) W1 hs (hR.below hb1) h);have HB1:=Ax hb1;have HP1:=Ax hp1;have HL:=Ax h;have Hcols:=Ax hcols;have Hnam:=Ax (Uy h);clear h hR hb1 hp1 hcols hpl hsh hs;go_enter Tryz.func20,Tryz.ntmps20;go_wp2_with fail;refine L1.out.mono ?_;rintro e V2 ⟨tv,rfl,hrow,hb2⟩;have htk:=Iv.of_row hrow;obtain⟨ta,tc,rfl⟩:=htk.form;have hp2:=(hb2.block _ (Ay HP1.out)).trans HP1.out;obtain⟨V3,hV3⟩:∃V3,V2.alloc (.cells #[.int .i64 0,.int .i64 0] 33)=V3:=⟨_,rfl⟩;have hb3:Below V2.heap.size V2 V3:=by rw[←hV3];exact(Aq _ V2).alloc (Ak _) _
 have hp4:=(hb3.block _ (Ay hp2)).trans hp2;have hB3:=HB1.out.trans ((hb2.trans (hb3.mono hb2.size)).mono HB1.out.size);have ht3:=htk.below hb3;have hpa:Calls Tryz.prog 53 #[.slice ta ts.length tc,.int .i64 0] V3 (Qq V3 ts 0 (Bd 0 0 ts)):=aW ht3 Hnam.out hbig 0 (Nat.zero_le _);have HPA:=Ax hpa;have HB3:=Ax hB3;have HP4:=Ax hp4;have HT3:=Ax ht3;clear hb2 hp2 hb3 hp4 hB3 ht3 hpa htk hrow L1 HP1;subst hV3;go_wp2_with fail;refine HPA.out.mono ?_;rintro e V4 hp;obtain⟨v,n,e0,rfl,hn,⟨va,vk,vc,rfl⟩,hmid,hb4⟩:=jB (w:=w) HL.out hp HB3.out.size;have hB4:=HB3.out.trans (hb4.mono HB3.out.size);have hp5:=(hb4.block _ (Ay HP4.out)).trans HP4.out;have ht4:=HT3.out.below hb4;have HB4:=Ax hB4;have HP5:=Ax hp5;have HT4:=Ax ht4;obtain⟨x,hx⟩:∃x,Cf (dl s)=x:=⟨_,rfl⟩;rw[hx] at hmid;have HX:=Ax hx;clear hp hb4 hB4 hp5 ht4 HPA HP4 HT3 HL hx;obtain⟨y0,y1,yf⟩:=B9 HP5.out;have yf0:=yf 0;have yf1:=yf 1;clear yf;cases hmid with
 |tree a he hn' ht=>
  subst he;subst hn';have HT:=Ax ht;clear ht;go_wp2_with fail;refine Au (v:= .tuple #[.slice va vk vc,.agg #[.int .i64 0,.int .i64 0],.int .i64 0]) rY rfl ?_;exact zyp
 |more t he hn'=>
  obtain⟨hnl,hte⟩:=List.getElem?_eq_some_iff.1 hn';obtain⟨g,c,et,hg,t0,t1,t2,t3,t4,t5,t6⟩:=HT4.out.at hnl;injection et with e1 _ e3;subst e1;subst e3;rw[hte] at t5 t6;have i0:(0:Int)<=(n:Int):=by omega
  have i1:(n:Int)<(ts.length:Int):=by omega
  have i2:decide ((n:Int)<(ts.length:Int))=true:=by simp;omega
  have hgw:g<V4.drew.heap.size:=hg;subst he;clear t0 t1 t2 t3 t4 hte hn' hg;go_wp2_with fail;go_region;go_wp2_with fail;refine Au (v:= .tuple #[.slice none 0 0,.agg #[.int .i64 t.line,.int .i64 t.col],.int .i64 4]) rY rfl ?_;exact zxq
 |bad t he hn'=>
  obtain⟨hnl,hte⟩:=List.getElem?_eq_some_iff.1 hn';obtain⟨g,c,et,hg,t0,t1,t2,t3,t4,t5,t6⟩:=HT4.out.at hnl;injection et with e1 _ e3;subst e1;subst e3;rw[hte] at t5 t6;have i0:(0:Int)<=(n:Int):=by omega
  have i1:(n:Int)<(ts.length:Int):=by omega
  have i2:decide ((n:Int)<(ts.length:Int))=true:=by simp;omega
  have hgw:g<V4.drew.heap.size:=hg;have j1:(e0==0)=false:=by simpa using he
  have HE:=Ax he;clear he;clear t0 t1 t2 t3 t4 hte hn' hg;go_wp2_with fail;go_region;go_wp2_with fail;refine Au (v:= .tuple #[.slice none 0 0,.agg #[.int .i64 t.line,.int .i64 t.col],.int .i64 e0]) rY rfl ?_;exact zxq
 |end' he hn'=>
  subst hn';have hbe:=Zk HT4.out Hcols.out hbig;have j1:(e0==0)=false:=by simpa using he
  have Hbe:=Ax hbe;clear he hbe;go_wp2_with fail;refine Hbe.out.mono ?_;rintro e V5 ⟨rfl,hb5⟩;have hp6:=(hb5.block _ (Ay HP5.out)).trans HP5.out;obtain⟨y0,y1,yf⟩:=B9 hp6;have yf0:=yf 0;have yf1:=yf 1;have HB5:=Ax (HB4.out.trans (hb5.mono HB4.out.size));clear hp6 hb5 yf Hbe;go_wp2_with fail;refine Au (v:= .tuple #[.slice none 0 0,.agg #[.int .i64 (E8 ts).1,.int .i64 (E8 ts).2],.int .i64 e0]) rY rfl ?_;rw[HX.out];exact⟨(HB5.out.setCell qQ _).setCell qQ _,rfl⟩
theorem Uc (s:ByteArray)(w:World)(hs:s.size<=65536)(hR:Rd w):Calls Tryz.prog 20 #[.string s] w (Qp w (Cf (dl s))):=by
 cases h:Fu (dl s) with
 |error p=>exact nH w hs hR (a:=p.1) (b:=p.2.1) (q:=p.2.2) h
 |ok ts=>exact mD w hs hR h
open Go Go.RowKit Go.Lib Go.Sort Go.Shelf
structure Nz where
 h:Hd
 kids:List Int
def Nd.z (n:Nd):Nz:=⟨n.h,n.kids.map fun(k:Nat)=>(k:Int)⟩
def En (w:World)(x:Value)(l:List Int):Prop:=l.length<=1000000/\∃a c,x= .slice a l.length c/\∀i (h:i<l.length),∃b off,a=some ⟨b,off,none⟩/\w.cell? ⟨b,off+i,none⟩=some (.int .i64 l[i])
theorem En.below {w w':World}{x:Value}{l:List Int}(h:En w x l)(hb:Below w.heap.size w w'):En w' x l:=by
 obtain⟨h1,a,c,h2,h3⟩:=h;refine⟨h1,a,c,h2,fun i hi=>?_⟩;obtain⟨b,off,e,hc⟩:=h3 i hi;exact⟨b,off,e,A6 hb hc⟩
theorem En.of_row {w:World}{B:Nat}{v:Value}{l:List Nat}(hl:l.length<=1000000)(h:w.ownsRow B 3 1 v l.length (Eg l)):En w v (l.map fun(k:Nat)=>(k:Int)):=by
 rcases h.2 with ⟨e,h0⟩|⟨g,cap,cur,rfl,_,hg,hc,_⟩
 ·exact zxw
 refine⟨by simpa using hl,some ⟨g,0,none⟩,cap,by simp,fun i hi=>⟨g,0,rfl,?_⟩⟩;have hi':i<l.length:=by simpa using hi
 have:=h.cells (g:=g) rfl i (.int .i64 (l[i]:Int)) (by simp [Eg,hi'])
 rw[Addr.add_lit,Nat.zero_add] at this;rw[Nat.zero_add];simpa using this
def Nt (w:World)(b off:Nat)(h:Hd)(kv:Value):Prop:=
 w.cell? ⟨b,off,none⟩=some (.int .u8 h.op)/\w.cell? ⟨b,off+1,none⟩=some (.int .u8 h.v.1)/\w.cell? ⟨b,off+2,none⟩=some (.int .i64 h.v.2.1)/\w.cell? ⟨b,off+3,none⟩=some (.string ⟨h.v.2.2.toArray⟩)/\
 w.cell? ⟨b,off+4,none⟩=some (.string ⟨h.name.toArray⟩)/\w.cell? ⟨b,off+5,none⟩=some kv/\w.cell? ⟨b,off+6,none⟩=some (.int .i64 h.line)/\w.cell? ⟨b,off+7,none⟩=some (.int .i64 h.col)
theorem Nt.below {w w':World}{b off:Nat}{h:Hd}{kv:Value}(q:Nt w b off h kv)(hb:Below w.heap.size w w'):Nt w' b off h kv:=
 ⟨A6 hb q.1,A6 hb q.2.1,A6 hb q.2.2.1,A6 hb q.2.2.2.1,A6 hb q.2.2.2.2.1,A6 hb q.2.2.2.2.2.1,A6 hb q.2.2.2.2.2.2.1,A6 hb q.2.2.2.2.2.2.2⟩
def TrZ (w:World)(v:Value)(l:List Nz):Prop:=l.length<=1000000/\∃a c,v= .slice a l.length c/\∀i (h:i<l.length),∃b off kv,a=some ⟨b,off,none⟩/\Nt w b (off+i*8) l[i].h kv/\En w kv l[i].kids
theorem TrZ.below {w w':World}{v:Value}{l:List Nz}(h:TrZ w v l)(hb:Below w.heap.size w w'):TrZ w' v l:=by
 obtain⟨h1,a,c,h2,h3⟩:=h;refine⟨h1,a,c,h2,fun i hi=>?_⟩;obtain⟨b,off,kv,e,hc,hk⟩:=h3 i hi;exact⟨b,off,kv,e,hc.below hb,hk.below hb⟩
theorem T8 {w:World}{B:Nat}{X:List Nat}:∀{vs:List Value} {ns:List Nd},C9 w B X vs ns->∀(i:Nat) (h:i<ns.length),∃kv,vs[i]? =some kv/\w.ownsRow B 3 1 kv ns[i].kids.length (Eg ns[i].kids)/\
 (C4 vs ns)[i*8]? =some (.int .u8 ns[i].h.op)/\(C4 vs ns)[i*8+1]? =some (.int .u8 ns[i].h.v.1)/\(C4 vs ns)[i*8+2]? =some (.int .i64 ns[i].h.v.2.1)/\(C4 vs ns)[i*8+3]? =some (.string ⟨ns[i].h.v.2.2.toArray⟩)/\
 (C4 vs ns)[i*8+4]? =some (.string ⟨ns[i].h.name.toArray⟩)/\(C4 vs ns)[i*8+5]? =some kv/\(C4 vs ns)[i*8+6]? =some (.int .i64 ns[i].h.line)/\(C4 vs ns)[i*8+7]? =some (.int .i64 ns[i].h.col)
 |[],[],_,i,h=>by simp at h
 |v::vs,n::ns,hk,0,_=>⟨v,rfl,hk.1.1,rfl,rfl,rfl,rfl,rfl,rfl,rfl,rfl⟩
 |v::vs,n::ns,hk,i+1,h=>by
  have:=T8 hk.2 i rI
  rw[show(i+1)*8=i*8+1+1+1+1+1+1+1+1 by omega];exact this
 |[],_::_,h,_,_=>h.elim
 |_::_,[],h,_,_=>h.elim
def pW (ns:List Nd):Prop:=∀n∈ns,n.kids.length<=1000000
theorem Ig.z {w:World}{B:Nat}{X:List Nat}{v:Value}{ns:List Nd}(h:Ig w B X v ns)(hl:ns.length<=1000000)(hs:pW ns):TrZ w v (ns.map Nd.z):=by
 obtain⟨kvs,h1,h2⟩:=h;rcases h1.2 with ⟨e,h0⟩|⟨g,cap,cur,rfl,_,hg,hc,_⟩
 ·have:ns=[]:=List.eq_nil_of_length_eq_zero h0
  subst this;exact⟨by simp,none,0,e,fun i hi=>by simp at hi⟩
 refine⟨by simpa using hl,some ⟨g,0,none⟩,cap,by simp,fun i hi=>?_⟩;have hi':i<ns.length:=by simpa using hi
 obtain⟨kv,_,hk,g0,g1,g2,g3,g4,g5,g6,g7⟩:=T8 h2 i hi'
 have hcell:∀j u,(C4 kvs ns)[j]? =some u->w.cell? ⟨g,0+j,none⟩=some u:=fun j u hj=>by
  have:=h1.cells (g:=g) rfl j u hj
  rwa [Addr.add_lit] at this
 have he:(ns.map Nd.z)[i]=Nd.z ns[i]:=by simp
 refine⟨g,0,kv,rfl,?_,?_⟩
 ·rw[he];exact⟨hcell _ _ g0,hcell _ _ g1,hcell _ _ g2,hcell _ _ g3,hcell _ _ g4,hcell _ _ g5,hcell _ _ g6,hcell _ _ g7⟩
 rw[he];exact En.of_row (hs _ (List.getElem_mem hi')) hk
theorem lM {x y:Value}{l m:List Int}(w:World)(hx:En w x l)(hy:En w y m):Calls Tryz.prog 60 #[x,y] w fun e w'=>e= .returned (.bool (decide (l=m)))/\Below w.heap.size w w':=by
 obtain⟨hx1,a,c,rfl,hx2⟩:=hx;obtain⟨hy1,a',c',rfl,hy2⟩:=hy;by_cases hn:l.length=m.length
 ·by_cases h0:l.length=0
  ·obtain rfl:l=[]:=List.eq_nil_of_length_eq_zero h0;obtain rfl:m=[]:=List.eq_nil_of_length_eq_zero qO;refine(Tryz.slices_Equal_int_empty a a' c 0 c' w qO).mono ?_;rintro e w' ⟨rfl,rfl⟩;exact⟨by simp,Aq _ _⟩
  obtain⟨b,off,e1,_⟩:=hx2 0 qO;obtain⟨b',off',e2,_⟩:=hy2 0 qO;subst e1;subst e2;refine(Tryz.slices_Equal_int b off l.length c b' off' m.length c' l m w (Ak _) (Ak _) qO qO (fun j h=>?_) (fun j h=>?_)).mono ?_
  ·obtain⟨b2,o2,e,hc⟩:=hx2 j h;injection e with e;injection e with e1 e2;subst e1;subst e2;rw[hc,List.getD_eq_getElem?_getD,Ag h];rfl
  ·obtain⟨b2,o2,e,hc⟩:=hy2 j h;injection e with e;injection e with e1 e2;subst e1;subst e2;rw[hc,List.getD_eq_getElem?_getD,Ag h];rfl
  rintro e w' ⟨rfl,q,rfl⟩;refine⟨?_,Be (Aq _ _) q⟩;rw[List.take_length,List.take_length];congr 2;rw[Bool.eq_iff_iff];simp
 have hd:decide (l=m)=false:=An fun h=>hn (Ar List.length h)
 rw[hd];have h1:(((l.length:Nat):Int) !=((m.length:Nat):Int))=true:=by simp;omega
 clear hx2 hy2 hd hn;go_enter Tryz.func60,Tryz.ntmps60;exact zy3
def D1 (x y:Nz):Bool:=decide (x.h.op=y.h.op) && (decide (x.h.v=y.h.v) && (decide (x.h.name=y.h.name) && decide (x.kids=y.kids)))
theorem P8 (x y:Nz):D1 x y=true↔x.h.bare=y.h.bare/\x.kids=y.kids:=by
 obtain⟨⟨a1,a2,a3,a4,a5⟩,ak⟩:=x;obtain⟨⟨b1,b2,b3,b4,b5⟩,bk⟩:=y;simp [D1,Hd.bare,and_assoc]
def Dm:List Nz->List Nz->Bool
 |[],[]=>true
 |x::l,y::m=>D1 x y && Dm l m
 |_,_=>false
def Nz.bare (n:Nz):Nz:=⟨n.h.bare,n.kids⟩
theorem N9:∀(l m:List Nz),Dm l m=true↔l.map Nz.bare=m.map Nz.bare
 |[],[]=>by simp [Dm]
 |[],_::_=>by simp [Dm]
 |_::_,[]=>by simp [Dm]
 |x::l,y::m=>by
  simp only[Dm,Bool.and_eq_true,P8,N9 l m,List.map_cons,List.cons.injEq,Nz.bare,Nz.mk.injEq]
theorem Vr (h1 h2:Hd)(kv1 kv2:Value)(k1 k2:List Int)(w:World)(hx:En w kv1 k1)(hy:En w kv2 k2):
 Calls Tryz.prog 59 #[.agg #[.int .u8 h1.op,.int .u8 h1.v.1,.int .i64 h1.v.2.1,.string ⟨h1.v.2.2.toArray⟩,.string ⟨h1.name.toArray⟩,kv1,.int .i64 h1.line,.int .i64 h1.col],.agg #[.int .u8 h2.op,.int .u8 h2.v.1,.int .i64 h2.v.2.1,.string ⟨h2.v.2.2.toArray⟩,.string ⟨h2.name.toArray⟩,kv2,.int .i64 h2.line,.int .i64 h2.col]] w
  fun e w'=>e= .returned (.bool (D1 ⟨h1,k1⟩ ⟨h2,k2⟩))/\Below w.heap.size w w':=by
 obtain⟨op1,⟨vk1,vn1,vs1⟩,nm1,ln1,cl1⟩:=h1;obtain⟨op2,⟨vk2,vn2,vs2⟩,nm2,ln2,cl2⟩:=h2;by_cases e0:op1=op2
 ·subst e0;by_cases e1:vk1=vk2
  ·subst e1;by_cases e2:vn1=vn2
   ·subst e2;by_cases e3:vs1=vs2
    ·subst e3;by_cases e4:nm1=nm2
     ·subst e4;have hb:Below w.heap.size w ((w.alloc (.cells #[.int .u8 op1,.int .u8 vk1,.int .i64 vn1,.string ⟨vs1.toArray⟩,.string ⟨nm1.toArray⟩,kv1,.int .i64 ln1,.int .i64 cl1] 43)).alloc (.cells #[.int .u8 op1,.int .u8 vk1,.int .i64 vn1,.string ⟨vs1.toArray⟩,.string ⟨nm1.toArray⟩,kv2,.int .i64 ln2,.int .i64 cl2] 43)):=((Aq _ w).alloc (Ak _) _).alloc qQ _;have hc:=lM _ (hx.below hb) (hy.below hb);have HC:=Ax hc;have HB:=Ax hb;clear hx hy hc hb;go_enter Tryz.func59,Tryz.ntmps59;go_wp2_with fail;refine HC.out.mono ?_;rintro e V ⟨rfl,hb2⟩;have HB2:=Ax (HB.out.trans (hb2.mono HB.out.size));clear hb2 HC HB;go_wp2_with fail;go_ret;exact⟨by simp [D1],HB2.out⟩
     have f:(nm1==nm2)=false:=by simpa using e4
     have hz:D1 ⟨⟨op1,(vk1,vn1,vs1),nm1,ln1,cl1⟩,k1⟩ ⟨⟨op1,(vk1,vn1,vs1),nm2,ln2,cl2⟩,k2⟩=false:=by simp [D1,e4]
     rw[hz];clear hz hx hy e4;exact zys
    have f:(vs1==vs2)=false:=by simpa using e3
    have hz:D1 ⟨⟨op1,(vk1,vn1,vs1),nm1,ln1,cl1⟩,k1⟩ ⟨⟨op1,(vk1,vn1,vs2),nm2,ln2,cl2⟩,k2⟩=false:=by simp [D1,e3]
    rw[hz];clear hz hx hy e3;exact zys
   have f:(vn1==vn2)=false:=by simpa using e2
   have hz:D1 ⟨⟨op1,(vk1,vn1,vs1),nm1,ln1,cl1⟩,k1⟩ ⟨⟨op1,(vk1,vn2,vs2),nm2,ln2,cl2⟩,k2⟩=false:=by simp [D1,e2]
   rw[hz];clear hz hx hy e2;exact zys
  have f:(vk1==vk2)=false:=by simpa using e1
  have hz:D1 ⟨⟨op1,(vk1,vn1,vs1),nm1,ln1,cl1⟩,k1⟩ ⟨⟨op1,(vk2,vn2,vs2),nm2,ln2,cl2⟩,k2⟩=false:=by simp [D1,e1]
  rw[hz];clear hz hx hy e1;exact zys
 have f:(op1==op2)=false:=by simpa using e0
 have hz:D1 ⟨⟨op1,(vk1,vn1,vs1),nm1,ln1,cl1⟩,k1⟩ ⟨⟨op2,(vk2,vn2,vs2),nm2,ln2,cl2⟩,k2⟩=false:=by simp [D1,e0]
 rw[hz];clear hz hx hy e0;exact zys
theorem kA {v1 v2:Value}{l m:List Nz}(w:World)(hx:TrZ w v1 l)(hy:TrZ w v2 m):Calls Tryz.prog 23 #[v1,v2] w fun e w'=>e= .returned (.bool (Dm l m))/\Below w.heap.size w w':=by
 have hef:Calls Tryz.prog 58 #[v1,v2,.func (.func 59) #[] #[]] w fun e w'=>e= .returned (.bool (Dm l m))/\Below w.heap.size w w':=by
  have hl1:=hx.1;have hm1:=hy.1;have HX:=Ax hx;have HY:=Ax hy;obtain⟨_,a,c,rfl,_⟩:=hx;obtain⟨_,a',c',rfl,_⟩:=hy;by_cases hn:l.length=m.length
  ·rw[←hn];have HN:=Ax hn;have hlm:l.length<=m.length:=by omega
   clear hn;go_enter Tryz.func58,Tryz.ntmps58;go_wp2_with fail
   go_loopw [17] (fun vi wr=>∃j:Nat,j<=l.length/\vi= .int .i64 j/\Hid (Dm (l.drop j) (m.drop j)=Dm l m)/\Hid (Below w.heap.size w wr)) (fun vi _=>l.length - (intOf vi).toNat)
   case atStart=>exact⟨0,Nat.zero_le _,rfl,rfl,Aq _ _⟩
   obtain⟨j,hj,rfl,hq,hb⟩:=hrel;by_cases hjl:j<l.length
   ·have hjm:j<m.length:=by omega
    have hx2:=HX.out.below hb.out;have hy2:=HY.out.below hb.out;obtain⟨_,ax,cx,ex,hx3⟩:=hx2;obtain⟨_,ay,cy,ey,hy3⟩:=hy2;injection ex with ex1 _ ex2;injection ey with ey1 _ ey2;subst ex1 ex2 ey1 ey2;obtain⟨bx,ox,kx,rfl,hnx,hix⟩:=hx3 j hjl;obtain⟨by',oy,ky,rfl,hny,hiy⟩:=hy3 j hjm
    have hs:(D1 l[j] m[j] && Dm (l.drop (j+1)) (m.drop (j+1)))=Dm l m:=by
     rw[←hq.out,List.drop_eq_getElem_cons hjl,List.drop_eq_getElem_cons hjm];rfl
    obtain⟨⟨hd1,k1⟩,e1⟩:∃z,l[j]=z:=⟨_,rfl⟩;obtain⟨⟨hd2,k2⟩,e2⟩:∃z,m[j]=z:=⟨_,rfl⟩;rw[e1] at hnx hix hs;rw[e2] at hny hiy hs;simp only at hnx hix hny hiy;obtain⟨op1,⟨vk1,vn1,vs1⟩,nm1,ln1,cl1⟩:=hd1;obtain⟨op2,⟨vk2,vn2,vs2⟩,nm2,ln2,cl2⟩:=hd2;obtain⟨ak,ck,rfl⟩:∃ak ck,kx= .slice ak k1.length ck:=⟨_,_,hix.2.choose_spec.choose_spec.1⟩;obtain⟨ak',ck',rfl⟩:∃ak ck,ky= .slice ak k2.length ck:=⟨_,_,hiy.2.choose_spec.choose_spec.1⟩;obtain⟨x0,x1,x2,x3,x4,x5,x6,x7⟩:=hnx;obtain⟨y0,y1,y2,y3,y4,y5,y6,y7⟩:=hny;simp only at x0 x1 x2 x3 x4 x5 x6 x7 y0 y1 y2 y3 y4 y5 y6 y7;have hb2:Below wr.heap.size wr ((wr.alloc (.cells #[.int .u8 op1,.int .u8 vk1,.int .i64 vn1,.string ⟨vs1.toArray⟩,.string ⟨nm1.toArray⟩,.slice ak k1.length ck,.int .i64 ln1,.int .i64 cl1] 43)).alloc (.cells #[.int .u8 op2,.int .u8 vk2,.int .i64 vn2,.string ⟨vs2.toArray⟩,.string ⟨nm2.toArray⟩,.slice ak' k2.length ck',.int .i64 ln2,.int .i64 cl2] 43)):=((Aq _ wr).alloc (Ak _) _).alloc qQ _;have hc:=Vr ⟨op1,(vk1,vn1,vs1),nm1,ln1,cl1⟩ ⟨op2,(vk2,vn2,vs2),nm2,ln2,cl2⟩ (.slice ak k1.length ck) (.slice ak' k2.length ck') k1 k2 _ (hix.below hb2) (hiy.below hb2);simp only at hc;have HC:=Ax hc;have HS:=Ax hs;have HB:=Ax (hb.out.trans (hb2.mono hb.out.size));have hbx:bx<wr.heap.size:=Bp x0;have hby:by'<wr.heap.size:=Bp y0;have i1:(0:Int)<=(j:Int):=by omega
    have i2:(j:Int)<(l.length:Int):=by omega
    have i3:(j:Int)<(m.length:Int):=by omega
    clear hb hb2 hc hs hq hix hiy hx3 hy3 e1 e2;go_wp2_with fail;refine HC.out.mono ?_;rintro e V ⟨rfl,hbV⟩;have HBV:=Ax (HB.out.trans (hbV.mono HB.out.size));have hs:=HS.out;clear hbV HC HB HS x0 x1 x2 x3 x4 x5 x6 x7 y0 y1 y2 y3 y4 y5 y6 y7 hbx hby;cases hz:D1 ⟨⟨op1,(vk1,vn1,vs1),nm1,ln1,cl1⟩,k1⟩ ⟨⟨op2,(vk2,vn2,vs2),nm2,ln2,cl2⟩,k2⟩ with
    |true=>
     rw[hz,Bool.true_and] at hs;have HS:=Ax hs;clear hs hz;go_wp2_with fail;go_roundw
     case rel=>exact⟨j+1,by omega,by go_num,HS,HBV⟩
     case measure=>simp [intOf];omega
    |false=>
     rw[hz,Bool.false_and] at hs;have HS:=Ax hs;clear hs hz;go_wp2_with fail;go_ret;exact⟨by rw[←HS.out];rfl,HBV.out⟩
   obtain rfl:j=l.length:=by omega
   have hs:=hq.out;rw[List.drop_length,HN.out,List.drop_length] at hs;have HS:=Ax hs;have HB:=Ax hb.out;clear hq hb hs;go_wp2_with fail;go_ret;exact⟨by rw[←HS.out];rfl,HB.out⟩
  have hs:Dm l m=false:=by
   cases h:Dm l m with
   |false=>rfl
   |true=>exact absurd (by simpa using Ar List.length ((N9 l m).1 h)) hn
  rw[hs];have h1:(((l.length:Nat):Int) !=((m.length:Nat):Int))=true:=by simp;omega
  clear hn hs HX HY;go_enter Tryz.func58,Tryz.ntmps58;exact zy3
 have HE:=Ax hef;obtain⟨_,a,c,rfl,_⟩:=hx;obtain⟨_,a',c',rfl,_⟩:=hy;clear hef;go_enter Tryz.func23,Tryz.ntmps23;go_wp2_with fail;refine HE.out.mono ?_;rintro e V ⟨rfl,hb2⟩;have HB:=Ax hb2;clear hb2 HE;go_wp2_with fail;go_ret;exact⟨rfl,HB.out⟩
open Go Go.RowKit Go.Lib Go.Sort Go.Shelf
theorem qD {s:ByteArray}{a:Ex}(w:World)(hs:s.size<=65536)(hR:Rd w)(h:Cf (dl s)= .ok a):Calls Tryz.prog 20 #[.string s] w fun e w'=>∃v,e= .returned (.tuple #[v,.agg #[.int .i64 0,.int .i64 0],.int .i64 0])/\Ig w' w.heap.size [] v (a.flat 0)/\Below w.heap.size w w':=by
 refine(Uc s w hs hR).mono ?_;exact zw3
theorem pU {s:ByteArray}{x y q:Int}(w:World)(hs:s.size<=65536)(hR:Rd w)(h:Cf (dl s)= .error ((x,y),q)):Calls Tryz.prog 20 #[.string s] w fun e w'=>e= .returned (.tuple #[.slice none 0 0,.agg #[.int .i64 x,.int .i64 y],.int .i64 q])/\Below w.heap.size w w':=by
 refine(Uc s w hs hR).mono ?_;rintro e w' ⟨hb,he⟩;rw[h] at he;exact⟨he,hb⟩
end Go.Proofs.YtgfakdobajgnfaaGreatDoor
