import Derived.Recover
import Derived.Test.YtgfakdobajgnfaaGreatDoorQn6
set_option maxRecDepth 100000
set_option maxHeartbeats 16000000
namespace Go.Proofs.YtgfakdobajgnfaaGreatDoor
open Go Go.RowKit
theorem fA (w:World):(binOp BinOp.eql 20 .nilIface .nilIface).run Tryz.prog w= .ok (.bool true) w:=by kernel_rfl
theorem Yt (er:Int)(w:World):(binOp BinOp.eql 20 (.iface 131 (.int .i64 er)) .nilIface).run Tryz.prog w= .ok (.bool false) w:=by kernel_rfl
theorem kS (er:Int)(w:World):(Instr.typeAssert (.iface 131 (.int .i64 er)) 20 131 true).run Tryz.prog w= .ok (.tuple #[.int .i64 er,.bool true]) w:=by kernel_rfl
theorem Gv {w:World}{b:Nat}{x:Value}{t:TypeId}(h:w.heap[b]? =some (.cells #[x] t (0,0))):w.cell? ⟨b,0,none⟩=some x/\w.frozen? ⟨b,0,none⟩=false:=
 ⟨by simp only[World.cell?,h];rfl,by simp only[World.frozen?,h];simp⟩
theorem Vy (w:World)(o0 o1 o2 o3 o4:Obj):((((((w.alloc o0).alloc o1).alloc o2).alloc o3).alloc o4).heap[w.heap.size]? =some o0/\(((((w.alloc o0).alloc o1).alloc o2).alloc o3).alloc o4).heap[w.heap.size+1]? =some o1/\(((((w.alloc o0).alloc o1).alloc o2).alloc o3).alloc o4).heap[w.heap.size+1+1]? =some o2/\
 (((((w.alloc o0).alloc o1).alloc o2).alloc o3).alloc o4).heap[w.heap.size+1+1+1]? =some o3/\(((((w.alloc o0).alloc o1).alloc o2).alloc o3).alloc o4).heap[w.heap.size+1+1+1+1]? =some o4):=by
 have z1:(w.alloc o0).heap.size=w.heap.size+1:=by simp
 have z2:((w.alloc o0).alloc o1).heap.size=w.heap.size+1+1:=by simp
 have z3:(((w.alloc o0).alloc o1).alloc o2).heap.size=w.heap.size+1+1+1:=by simp
 have z4:((((w.alloc o0).alloc o1).alloc o2).alloc o3).heap.size=w.heap.size+1+1+1+1:=by simp
 have h0:=A0 w o0;have h1:=A0 (w.alloc o0) o1;have h2:=A0 ((w.alloc o0).alloc o1) o2;have h3:=A0 (((w.alloc o0).alloc o1).alloc o2) o3;have h4:=A0 ((((w.alloc o0).alloc o1).alloc o2).alloc o3) o4;rw[z1] at h1;rw[z2] at h2;rw[z3] at h3;rw[z4] at h4;refine⟨?_,?_,?_,?_,h4⟩
 ·rw[Below.heap_alloc _ _ _ nU,Below.heap_alloc _ _ _ nU,Below.heap_alloc _ _ _ nU,Below.heap_alloc _ _ _ nU];exact h0
 ·rw[Below.heap_alloc _ _ _ nU,Below.heap_alloc _ _ _ nU,Below.heap_alloc _ _ _ nU];exact h1
 ·rw[Below.heap_alloc _ _ _ nU,Below.heap_alloc _ _ _ nU];exact h2
 rw[Below.heap_alloc _ _ _ nU];exact h3
theorem aF (a b c d x:Value):(#[a,b,c,d]++(Array.replicate 14 undef).setIfInBounds 3 x)= #[a,b,c,d,undef,undef,undef,x,undef,undef,undef,undef,undef,undef,undef,undef,undef,undef]:=rfl
theorem Q6 (a0 a1 a2 a3:Addr)(w:World):
 CallsD Tryz.prog 88 #[.pointer (some a0),.pointer (some a1),.pointer (some a2),.pointer (some a3)] .returning w fun e u' w'=>e= .returned (.tuple #[])/\u'= .returning/\w'=w:=by
 have hnil:=fA;refine callsD_of_wpS Tryz.func88 rfl fun c₀ cs hu=>?_
 apply wpS_seq;apply wpS_region;simp [wpOpsS,go_sem,recoverD,hu,Tryz.ntmps88,Exit.thenS];refine wpS_of_wp ?_;rw[aF];go_wp2_with fail;refine⟨rfl,.returning,?_,.tuple #[],?_,rfl,rfl,rfl⟩
 ·rw[←hu]
 simp [results,Tryz.results88,go_sem]
theorem Zh (b p1 p2 p3 p0:Nat)(er:Int)(older:List PanicEntry)(at':Int)(w:World)(h0:w.cell? ⟨p0,0,none⟩=some (.pointer (some ⟨b,0,none⟩)))(h1:w.cell? ⟨b,1,none⟩=some (.int .i64 at'))
 (x1 x2 x3:Value) (c1:w.cell? ⟨p1,0,none⟩=some x1) (c2:w.cell? ⟨p2,0,none⟩=some x2) (c3:w.cell? ⟨p3,0,none⟩=some x3) (f1:w.frozen? ⟨p1,0,none⟩=false) (f2:w.frozen? ⟨p2,0,none⟩=false) (f3:w.frozen? ⟨p3,0,none⟩=false)
 (d12:¬p1=p2) (d13:¬p1=p3) (d23:¬p2=p3):
 CallsD Tryz.prog 88 #[.pointer (some ⟨p0,0,none⟩),.pointer (some ⟨p1,0,none⟩),.pointer (some ⟨p2,0,none⟩),.pointer (some ⟨p3,0,none⟩)] (.panicking ({v:= .iface 131 (.int .i64 er),recovered:=false}::older)) w fun e u' w'=>
  e= .returned (.tuple #[])/\u'= .panicking ({v:= .iface 131 (.int .i64 er),recovered:=true}::older)/\w'=((w.setCell ⟨p1,0,none⟩ (.slice none 0 0)).setCell ⟨p2,0,none⟩ (.int .i64 at')).setCell ⟨p3,0,none⟩ (.int .i64 er):=by
 have hst:=Yt er;have hta:=kS er;refine callsD_of_wpS Tryz.func88 rfl fun c₀ cs hu=>?_
 apply wpS_seq;apply wpS_region;simp [wpOpsS,go_sem,recoverD,hu,Tryz.ntmps88,Exit.thenS];refine wpS_of_wp ?_;rw[aF];go_wp2_with fail;refine⟨rfl,_,rfl,.tuple #[],?_,rfl,rfl,rfl⟩;simp [results,Tryz.results88,go_sem]
def Pd (w:World)(ts:List Tkn)(n:Nat)(x:ExR)(e:Ending)(w':World):Prop:=
 Below w.heap.size w w'/\match x with
  | .error p=>e= .returned (.tuple #[.slice none 0 0,.int .i64 ((ts.length - p.2.length:Nat):Int),.int .i64 p.1])
  | .ok p=>if 60<p.1.size then e= .returned (.tuple #[.slice none 0 0,.int .i64 (n:Int),.int .i64 7]) else
   ∃v,e= .returned (.tuple #[v,.int .i64 ((ts.length - p.2.length:Nat):Int),.int .i64 0])/\Gu w' w.heap.size [] v (p.1.flat 0)
theorem Yy {w:World}{vl:Value}{ts:List Tkn}(ht:G4 w vl ts)(hn:∀t∈ts,t.w.k=1->t.w.t≠[40])(hbig:ts.length<=1000000)(n:Nat)(hnl:n<=ts.length):
 Calls Tryz.prog 53 #[vl,.int .i64 (n:Int)] w (Pd w ts n (A9 0 0 (ts.drop n))):=by
 obtain⟨va,vc,rfl⟩:=ht.form;have hmf:∀(fn:Fn) (first cap:Array Value) (w:World),(Instr.makeFunc fn first cap).run Tryz.prog w= .ok (.func fn first cap) w:=fun _ _ _ _=>rfl
 have i0:¬((n:Int)<0):=by omega
 have i1:¬((ts.length:Int)<(n:Int)):=by omega
 have i2:decide ((n:Int)<0)=false:=by simp
 have i3:decide ((ts.length:Int)<(n:Int))=false:=by simp;omega
 obtain⟨x,hx⟩:∃x,A9 0 0 (ts.drop n)=x:=⟨_,rfl⟩;rw[hx];obtain⟨W5,hW5⟩:∃W5,((((w.alloc (.cells #[.slice none 0 0] 31)).alloc (.cells #[.int .i64 0] 3)).alloc (.cells #[.int .i64 0] 27)).alloc (.cells #[.slice va ts.length vc,.int .i64 (n:Int),.int .i64 0,.slice none 0 0] 130)).alloc (.cells #[.pointer (some ⟨w.heap.size+1+1+1,0,none⟩)] 128)=W5:=⟨_,rfl⟩
 have hb5:Below w.heap.size w W5:=by
  rw[←hW5];exact(((((Aq _ w).alloc (Ak _) _).alloc nW _).alloc oB _).alloc oB _).alloc oB _
 obtain⟨q0,q1,q2,q3,q4⟩:W5.heap[w.heap.size]? =some (.cells #[.slice none 0 0] 31 (0,0))/\W5.heap[w.heap.size+1]? =some (.cells #[.int .i64 0] 3 (0,0))/\W5.heap[w.heap.size+1+1]? =some (.cells #[.int .i64 0] 27 (0,0))/\
  W5.heap[w.heap.size+1+1+1]? =some (.cells #[.slice va ts.length vc,.int .i64 (n:Int),.int .i64 0,.slice none 0 0] 130 (0,0))/\W5.heap[w.heap.size+1+1+1+1]? =some (.cells #[.pointer (some ⟨w.heap.size+1+1+1,0,none⟩)] 128 (0,0)):=by
  rw[←hW5];exact Vy w _ _ _ _ _
 have hlen:ts.length - (ts.drop n).length=n:=by rw[List.length_drop];omega
 have hR:Cq W5 w.heap.size [w.heap.size+1] (w.heap.size+1+1+1) (.slice va ts.length vc) ts (ts.drop n) 0 (.slice none 0 0) []:=
  ⟨⟨n,rfl⟩,ht.below hb5,hn,ht.lt,by omega,fun x h=>(by simp at h;subst h;have:=Ay q1;exact this),by omega,hbig,by simp only[List.length_nil,List.length_drop];omega,by rw[hlen];exact q3,[],World.ownsRow_nil _ _ _ _,trivial⟩
 have hc:=dQ w.heap.size (w.heap.size+1+1+1) (.slice va ts.length vc) ts _ [w.heap.size+1] 0 0 (ts.drop n) W5 (.slice none 0 0) [] nU (Nat.lt_succ_self _) hR hb5.size;rw[hx] at hc;have Hc:Hid (Calls Tryz.prog 89 #[.pointer (some ⟨w.heap.size+1+1+1,0,none⟩),.int .i64 0] W5 (Bz W5 w.heap.size [w.heap.size+1] (w.heap.size+1+1+1) (.slice va ts.length vc) ts 0 (.slice none 0 0) [] x)):=Ax hc;have HB5:=Ax hb5;have hap:=fun{p:Nat} {cs:Array Value} {T:TypeId} (h:W5.heap[p]? =some (.cells cs T (0,0))) (h1:130≠T) (h2:43≠T)=>hR.apart h h1 h2
 have Q0:=Ax (And.intro q0 (hap q0 nV nV));have Q1:=Ax (And.intro q1 (hap q1 nV nV));have Q2:=Ax (And.intro q2 (hap q2 nV nV));have Q4:=Ax (And.intro q4 (hap q4 nV nV));clear hb5 q0 q1 q2 q3 q4 hR hc hlen hap;subst hW5;have hcl:=Hc.out;clear hcl;go_enter_defers Tryz.func53,Tryz.ntmps53;go_wp2_with fail;refine Hc.out.mono ?_;rintro e V1 hp;cases x with
 |error p=>
  obtain⟨er,q⟩:=p;obtain⟨rfl,⟨dd,vv,hrb⟩,ho⟩:=hp;obtain⟨a0,af0⟩:=Gv (ho.cells_of Q0.out.1 Q0.out.2);obtain⟨a1,af1⟩:=Gv (ho.cells_of Q1.out.1 Q1.out.2);obtain⟨a2,af2⟩:=Gv (ho.cells_of Q2.out.1 Q2.out.2);obtain⟨a4,_⟩:=Gv (ho.cells_of Q4.out.1 Q4.out.2);obtain⟨_,b1,_⟩:=Dd hrb;have hbV:Below w.heap.size w V1:=Bn HB5.out ho (by simp [Value.ownBlock];omega) (by have:=HB5.out.size;exact this);have HBV:=Ax hbV;have hq:ts.length - q.length=ts.length - q.length:=rfl;obtain⟨m,hm⟩:∃m,ts.length - q.length=m:=⟨_,rfl⟩;rw[hm] at b1;have Hm:=Ax hm;clear hrb ho hbV hq hm hx Q0 Q1 Q2 Q4;go_wp2_with fail;refine leaves_cons (f:=88) (args:= #[.pointer (some ⟨w.heap.size+1+1+1+1,0,none⟩),.pointer (some ⟨w.heap.size,0,none⟩),.pointer (some ⟨w.heap.size+1,0,none⟩),.pointer (some ⟨w.heap.size+1+1,0,none⟩)]) nW (by simp [go_sem]) ?_;refine(Zh (w.heap.size+1+1+1) w.heap.size (w.heap.size+1) (w.heap.size+1+1) (w.heap.size+1+1+1+1) er [] (m:Int) V1 a4 b1 _ _ _ a0 a1 a2 af0 af1 af2 nU nU nU).mono ?_;rintro e u' w'' ⟨rfl,rfl,rfl⟩;refine⟨.tuple #[.slice none 0 0,.int .i64 (m:Int),.int .i64 er],?_,?_⟩
  ·simp [results,Tryz.results53,go_sem, *]
  refine⟨((HBV.out.setCell (Ak _) _).setCell nW _).setCell oB _,?_⟩;rw[←Hm.out]
 |ok p=>
  obtain⟨a,q⟩:=p;obtain⟨rfl,v1,hr1,hch⟩:=hp;have ho:=hch.only;obtain⟨a0,af0⟩:=Gv (ho.cells_of Q0.out.1 Q0.out.2);obtain⟨a1,af1⟩:=Gv (ho.cells_of Q1.out.1 Q1.out.2);obtain⟨a2,af2⟩:=Gv (ho.cells_of Q2.out.1 Q2.out.2);obtain⟨a4,_⟩:=Gv (ho.cells_of Q4.out.1 Q4.out.2);obtain⟨_,b1,_,b3,_⟩:=Dd hr1.blk;have hbV:Below w.heap.size w V1:=Bn HB5.out ho (by simp [Value.ownBlock];omega) (by have:=HB5.out.size;exact this);obtain⟨kvs,hk1,hk2⟩:=hr1.tree;obtain⟨la,lc,rfl⟩:=D9 hk1;simp only[List.nil_append,List.length_nil,Ex.flat_len] at b3 hk1 hr1 hk2;have htr:Gu V1 w.heap.size [w.heap.size+1] (.slice la a.size lc) (a.flat 0):=⟨kvs,by rw[Ex.flat_len];exact hk1,hk2⟩;have hfew:=hr1.few;rw[Ex.flat_len] at hfew;have HBV:=Ax hbV;have HTR:=Ax htr;have HH0:=Ax (ho.cells_of Q0.out.1 Q0.out.2);have HH1:=Ax (ho.cells_of Q1.out.1 Q1.out.2);have HH2:=Ax (ho.cells_of Q2.out.1 Q2.out.2);obtain⟨m,hm⟩:∃m,ts.length - q.length=m:=⟨_,rfl⟩;rw[hm] at b1;have Hm:=Ax hm;clear hr1 hch ho hbV hk1 hk2 htr hm hx Q0 Q1 Q2 Q4;by_cases h60:60<a.size
  ·have j1:decide ((60:Int)<(a.size:Int))=true:=by simp;omega
   have j2:(60:Int)<(a.size:Int):=by omega
   have H60:=Ax h60;clear h60;go_wp2_with fail;refine leaves_cons (f:=88) (args:= #[.pointer (some ⟨w.heap.size+1+1+1+1,0,none⟩),.pointer (some ⟨w.heap.size,0,none⟩),.pointer (some ⟨w.heap.size+1,0,none⟩),.pointer (some ⟨w.heap.size+1+1,0,none⟩)]) nW (by simp [go_sem]) ?_;refine(Q6 _ _ _ _ _).mono ?_;rintro e u' w'' ⟨rfl,rfl,rfl⟩;refine⟨.tuple #[.slice none 0 0,.int .i64 (n:Int),.int .i64 7],?_,?_⟩
   ·simp [results,Tryz.results53,go_sem, *]
   refine⟨((HBV.out.setCell (Ak _) _).setCell nW _).setCell oB _,?_⟩
   show(if 60<a.size then _ else _)
   rw[Ap H60.out]
  have j1:decide ((60:Int)<(a.size:Int))=false:=by simp;omega
  have j2:(a.size:Int)<=60:=by omega
  have H60:=Ax h60;clear h60;go_wp2_with fail;go_region;go_wp2_with fail;refine leaves_cons (f:=88) (args:= #[.pointer (some ⟨w.heap.size+1+1+1+1,0,none⟩),.pointer (some ⟨w.heap.size,0,none⟩),.pointer (some ⟨w.heap.size+1,0,none⟩),.pointer (some ⟨w.heap.size+1+1,0,none⟩)]) nW (by simp [go_sem]) ?_;refine(Q6 _ _ _ _ _).mono ?_;rintro e u' w'' ⟨rfl,rfl,rfl⟩;refine⟨.tuple #[.slice la a.size lc,.int .i64 (m:Int),.int .i64 0],?_,?_⟩
  ·simp [results,Tryz.results53,go_sem, *]
  have hO:A8 [w.heap.size,w.heap.size+1,w.heap.size+1+1] V1 ((((V1.setCell ⟨w.heap.size,0,none⟩ (.slice la a.size lc)).setCell ⟨w.heap.size+1,0,none⟩ (.int .i64 (m:Int))).setCell ⟨w.heap.size+1+1,0,none⟩ (.int .i64 0)).drew):=
   A8.drew ((((A8.refl _ V1).setCell (.inl nW) _).setCell (.inl nW) _).setCell (.inl nW) _)
  refine⟨Bn HBV.out hO oB HBV.out.size,?_⟩
  show(if 60<a.size then _ else _)
  rw[Ao H60.out];refine⟨_,by rw[←Hm.out],HTR.out.imp (fun _ r=>Bh r hO fun k e hm=>?_) fun v n xs hx r=>⟨Bh r hO fun k e hm=>?_,fun _ _ hm=>(by cases hm)⟩⟩
  ·simp only[List.mem_cons,List.not_mem_nil,or_false] at hm;rcases hm with rfl|rfl|rfl
   ·exact Bf r HH0.out nV e
   ·exact Bf r HH1.out nV e
   exact Bf r HH2.out nV e
  simp only[List.mem_cons,List.not_mem_nil,or_false] at hm;rcases hm with rfl|rfl|rfl
  ·exact Bf r HH0.out nV e
  ·exact hx _ e nW
  exact Bf r HH2.out nV e
open Go Go.RowKit Go.Lib Go.Sort Go.Shelf
theorem iR (c:UInt8):D6 c=(decide (97<=(c.toNat:Int)) && decide ((c.toNat:Int)<=122)):=by
 unfold D6;congr 1
 ·exact decide_eq_decide.2 nU
 exact decide_eq_decide.2 nU
theorem gO (c:UInt8):Bg c=(decide (48<=(c.toNat:Int)) && decide ((c.toNat:Int)<=57)):=by
 unfold Bg;congr 1
 ·exact decide_eq_decide.2 nU
 exact decide_eq_decide.2 nU
theorem Md (c:UInt8)(w:World):Calls Tryz.prog 142 #[.int .u8 (c.toNat:Int)] w fun e w'=>e= .returned (.bool (D6 c))/\w=w':=by
 rw[iR];obtain⟨p,hp⟩:∃p,decide (97<=(c.toNat:Int))=p:=⟨_,rfl⟩;obtain⟨q,hq⟩:∃q,decide ((c.toNat:Int)<=122)=q:=⟨_,rfl⟩;cases p<;>cases q
 all_goals
  go_enter Tryz.func142,Tryz.ntmps142
  go_wp2
  go_ret;exact⟨by simp [hp,hq],rfl⟩
theorem Jk (c:UInt8)(w:World):Calls Tryz.prog 144 #[.int .u8 (c.toNat:Int)] w fun e w'=>e= .returned (.bool (Bg c))/\w=w':=by
 rw[gO];obtain⟨p,hp⟩:∃p,decide (48<=(c.toNat:Int))=p:=⟨_,rfl⟩;obtain⟨q,hq⟩:∃q,decide ((c.toNat:Int)<=57)=q:=⟨_,rfl⟩;cases p<;>cases q
 all_goals
  go_enter Tryz.func144,Tryz.ntmps144
  go_wp2
  go_ret;exact⟨by simp [hp,hq],rfl⟩
def Co (c:UInt8):Bool:=D6 c||Bg c
theorem Sr (c:UInt8)(w:World):Calls Tryz.prog 143 #[.int .u8 (c.toNat:Int)] w fun e w'=>e= .returned (.bool (Co c))/\w=w':=by
 unfold Co;have h1:=Md c w;have h2:=Jk c w;obtain⟨p,hp⟩:∃p,D6 c=p:=⟨_,rfl⟩;obtain⟨q,hq⟩:∃q,Bg c=q:=⟨_,rfl⟩;rw[hp] at h1 ⊢;rw[hq] at h2 ⊢;have H1:=Ax h1;have H2:=Ax h2;clear h1 h2 hp hq;cases p
 ·go_enter Tryz.func143,Tryz.ntmps143;go_wp2_with fail;refine H1.out.mono ?_;rintro e w' ⟨rfl,rfl⟩;go_wp2_with fail;refine H2.out.mono ?_;rintro e w' ⟨rfl,rfl⟩
  go_wp2
  go_ret;exact⟨by simp,rfl⟩
 go_enter Tryz.func143,Tryz.ntmps143;go_wp2_with fail;refine H1.out.mono ?_;rintro e w' ⟨rfl,rfl⟩
 go_wp2
 go_ret;exact⟨by simp,rfl⟩
theorem iL (c:UInt8)(w:World):Calls Tryz.prog 140 #[.int .u8 (c.toNat:Int)] w fun e w'=>e= .returned (.bool (c !=10))/\w=w':=by
 have h:(c !=10)=((c.toNat:Int) !=10):=by
  by_cases e:c=10
  ·subst e;rfl
  have h1:(c !=10)=true:=by simpa using e
  have h2:c.toNat≠10:=fun q=>e (UInt8.toNat_inj.1 q)
  have h3:((c.toNat:Int) !=10)=true:=by simp;omega
  rw[h1,h3]
 rw[h];go_enter Tryz.func140,Tryz.ntmps140
 go_wp2
 go_ret;exact⟨by simp,rfl⟩
theorem Tl (s:ByteArray)(fn:Nat)(caps:Array Value)(p:Nat->Bool)(I:Nat->World->Prop)(eg:∀args w,(callFunc fn args).run Tryz.prog w= .ok (.enter fn args) w)
 (hs:s.size<=9223372036854775806) (a n:Nat) (w:World) (han:a<=n) (hn:n<=s.size) (hlt:∀i,a<=i->i<n->p i=true) (hend:n<s.size->p n=false)
 (hI:I a w) (hstep:∀i V (h:i<s.size),a<=i->I i V->Calls Tryz.prog fn (#[.int .u8 (s[i].toNat:Int)]++caps) V fun e V'=>e= .returned (.bool (p i))/\I (i+1) V'):
 Calls Tryz.prog 139 #[.string s,.int .i64 a,.func (.func fn) #[] caps] w fun e w'=>e= .returned (.int .i64 ((n:Int) - (a:Int)))/\∃k,I k w':=by
 have Hlt:=Ax hlt;have Hend:=Ax hend;have Hst:=Ax hstep;have HI:=Ax hI;clear hlt hend hstep hI;go_enter Tryz.func139,Tryz.ntmps139
 go_wp2
 go_loopw [7] (fun v7 wr=>∃i:Nat,a<=i/\i<=n/\v7= .int .i64 i/\Hid (I i wr)) (fun v7 _=>n - (intOf v7).toNat)
 case atStart=>exact⟨a,Ak _,han,rfl,HI.out⟩
 obtain⟨i,hai,hin,rfl,hq⟩:=hrel;by_cases hi:i<s.size
 ·have hc:=Hst.out i wr hi hai hq.out;have j1:(i:Int)<(s.size:Int):=by omega
  have j0:(0:Int)<=(i:Int):=by omega
  by_cases hlt:i<n
  ·rw[Hlt.out i hai hlt] at hc;have Hc:=Ax hc;clear hc hq;go_wp2_with fail;refine Hc.out.mono ?_;rintro e V ⟨rfl,hV⟩;have HV:=Ax hV;clear hV Hc
   go_wp2
   go_roundw
   case rel=>exact⟨i+1,by omega,by omega,by go_num,HV.out⟩
   case measure=>simp [intOf];omega
  obtain rfl:i=n:=by omega
  rw[Hend.out hi] at hc;have Hc:=Ax hc;clear hc hq;go_wp2_with fail;refine Hc.out.mono ?_;rintro e V ⟨rfl,hV⟩;have HV:=Ax hV;clear hV Hc
  go_wp2
  go_ret;exact⟨rfl,_,HV.out⟩
 obtain rfl:i=n:=by omega
 have j1:¬(i:Int)<(s.size:Int):=by omega
 go_wp2
 go_ret;exact⟨rfl,_,hq.out⟩
def A7 (q:UInt8->Bool)(l:List UInt8):Nat:=(l.takeWhile q).length
theorem Dh (q:UInt8->Bool)(l:List UInt8):A7 q l<=l.length:=by
 unfold A7
 have:=Ar List.length (List.takeWhile_append_dropWhile (p:=q) (l:=l))
 rw[Ab] at this;omega
theorem Vv (q:UInt8->Bool):∀(l:List UInt8) (i:Nat),i<A7 q l->∃c,l[i]? =some c/\q c=true
 |[],i,h=>by simp [A7] at h
 |c::l,i,h=>by
  unfold A7 at h;rw[List.takeWhile_cons] at h;by_cases hc:q c=true
  ·rw[Ap hc] at h;cases i with
   |zero=>exact⟨c,rfl,hc⟩
   |succ i=>
    obtain⟨d,h1,h2⟩:=Vv q l i (by simpa[A7] using h);exact⟨d,h1,h2⟩
  rw[Ao hc] at h;simp at h
theorem Tf (q:UInt8->Bool):∀(l:List UInt8),A7 q l<l.length->∃c,l[A7 q l]? =some c/\q c=false
 |[],h=>by simp [A7] at h
 |c::l,h=>by
  unfold A7 at h ⊢;rw[List.takeWhile_cons] at h ⊢;by_cases hc:q c=true
  ·rw[Ap hc] at h ⊢;obtain⟨d,h1,h2⟩:=Tf q l (by simpa[A7] using h);exact⟨d,by simpa[A7] using h1,h2⟩
  rw[Ao hc];exact⟨c,rfl,by simpa using hc⟩
theorem Iv (s:ByteArray)(fn:Nat)(q:UInt8->Bool)(eg:∀args w,(callFunc fn args).run Tryz.prog w= .ok (.enter fn args) w)(hs:s.size<=9223372036854775806)(a:Nat)(w:World)(ha:a<=s.size)
 (hq:∀(c:UInt8) (V:World),Calls Tryz.prog fn #[.int .u8 (c.toNat:Int)] V fun e V'=>e= .returned (.bool (q c))/\V=V'):
 Calls Tryz.prog 139 #[.string s,.int .i64 a,.func (.func fn) #[] #[]] w fun e w'=>e= .returned (.int .i64 (A7 q ((dl s).drop a):Nat))/\w=w':=by
 have hle:=Dh q ((dl s).drop a);rw[List.length_drop,A4] at hle;have hget:∀i (h:i<s.size),(dl s)[i]? =some s[i]:=fun i h=>Fu h
 refine(Tl s fn #[] (fun i=>((dl s)[i]?.map q).getD false) (fun _ V=>w=V) eg hs a (a+A7 q ((dl s).drop a)) w nU nU (fun i h1 h2=>?_) (fun h=>?_) rfl (fun i V h _ hV=>?_)).mono ?_
 ·obtain⟨c,h3,h4⟩:=Vv q ((dl s).drop a) (i - a) nU;rw[List.getElem?_drop,show a+(i - a)=i by omega] at h3;simp [h3,h4]
 ·obtain⟨c,h3,h4⟩:=Tf q ((dl s).drop a) qD;rw[List.getElem?_drop] at h3;simp [h3,h4]
 ·refine(hq s[i] V).mono ?_;rintro e V' ⟨rfl,rfl⟩;exact⟨by rw[hget i h];rfl,hV⟩
 rintro e w' ⟨rfl,k,hk⟩;exact⟨by congr 2;omega,hk⟩
open Go Go.Lib
def B9 (l:List UInt8):Nat:=
 match l.drop (A7 Bg l) with
 |46::c::r=>if Bg c then A7 Bg l+(1+A7 Bg (c::r)) else A7 Bg l
 |_=>A7 Bg l
def Ll (l:List UInt8):Except Int (Wd×Nat):=
 match Dq (l.take (B9 l)) with
 | .ok v=> .ok (⟨4,l.take (B9 l),v⟩,B9 l)
 | .error e=> .error (if e=9 then 9 else 4)
def Ba:Bool->List UInt8->Nat
 |_,[]=>0
 |esc,c::r=>if(c==34 && !esc)||!Gy c then 0 else 1+Ba (c==92 && !esc) r
def R0 (l:List UInt8):Except Int (Wd×Nat):=
 if(l.drop (1+Ba false l.tail)).head? =some 34 then
  match Dq (l.take (Ba false l.tail+2)) with
  | .ok v=> .ok (⟨5,l.tail.take (Ba false l.tail),v⟩,Ba false l.tail+2)
  | .error _=> .error 4
 else .error 4
def Jc:List (List UInt8):=[[60,61],[62,61],[60,62],[46,46]]
def Kq:List UInt8:=[40,41,91,93,44,58,61,60,62,43,45,42,47]
def Fq (l:List UInt8):Except Int (Wd×Nat):=
 if l.take 2∈Jc then .ok (⟨7,l.take 2,v0⟩,2) else if l.take 1∈Kq.map fun c=>[c] then .ok (⟨7,l.take 1,v0⟩,1) else .error 4
def Cv (w:Wd)(n:Nat):Except Int (Wd×Nat):=if 12<w.t.length then .error 4 else .ok (w,n)
def Eu (l:List UInt8):Bool:=match l with
 |_::c::_=>D6 c
 |_=>false
def Bv (l:List UInt8):Except Int (Wd×Nat):=
 match l with
 |[]=> .error 4
 |c::r=>
  if D6 c then Cv ⟨1,l.take (A7 Co l),v0⟩ (A7 Co l)
  else if Bg c then Ll l
  else if c=34 then R0 l
  else if c=63 then(if Eu l then Cv ⟨2,r.take (A7 Co r),v0⟩ (1+A7 Co r) else .ok (⟨3,[],v0⟩,1))
  else if c=35/\Eu l=true then Cv ⟨6,r.take (A7 Co r),(5,0,r.take (A7 Co r))⟩ (1+A7 Co r)
  else Fq l
def I2:Nat->List UInt8->Int->Int->Except (Int×Int×Int) (List Tkn)
 |0,_,_,_=> .ok []
 |f+1,l,line,col=>
  match l with
  |[]=> .ok []
  |c::r=>
   if c=10 then I2 f r (line+1) 1
   else if c=59 then I2 f (l.drop (A7 (fun c=>c !=10) l)) line (col+A7 (fun c=>c !=10) l)
   else if c=32 then I2 f r line (col+1)
   else match Bv l with
    | .error e=> .error (line,col,e)
    | .ok (w,n)=>match I2 f (l.drop n) line (col+n) with
      | .error e=> .error e
      | .ok ts=> .ok (⟨w,line,col⟩::ts)
def Fb (l:List UInt8):Except (Int×Int×Int) (List Tkn):=I2 l.length l 1 1
theorem Ep {q:UInt8->Bool}{c:UInt8}{r:List UInt8}(h:q c=true):A7 q (c::r)=1+A7 q r:=by
 unfold A7;rw[List.takeWhile_cons,Ap h,Aa];omega
theorem Ly:∀(b:Bool) (l:List UInt8),Ba b l<=l.length
 |_,[]=>Ak _
 |b,c::r=>by
  unfold Ba
  split
  ·omega
  have:=Ly (c==92 && !b) r
  rw[Aa];omega
theorem L0 {c:UInt8}{r:List UInt8}(h:Bg c=true):1<=B9 (c::r)/\B9 (c::r)<=(c::r).length:=by
 have h1:=Ep (q:=Bg) (r:=r) h;have h2:=Dh Bg (c::r);unfold B9
 split
 ·rename_i d q e
  have h3:=Ar List.length e;rw[List.length_drop] at h3;simp only[Aa] at h3 h2 ⊢;have h4:=Dh Bg (d::q);simp only[Aa] at h4
  split<;>omega
 omega
theorem Ew {l:List UInt8}{w:Wd}{n:Nat}(h:Bv l= .ok (w,n)):1<=n/\n<=l.length:=by
 unfold Bv at h;cases l with
 |nil=>cases h
 |cons c r=>
  simp only at h
  have hsh:∀{w':Wd} {m:Nat},Cv w' m= .ok (w,n)->m=n:=fun{w' m} hh=>by
   unfold Cv at hh
   split at hh
   ·cases hh
   injection hh with hh;exact Ar Prod.snd hh
  by_cases h1:D6 c=true
  ·rw[Ap h1] at h
   have:=hsh h
   have h2:=Ep (q:=Co) (r:=r) (show Co c=true by unfold Co;rw[h1];rfl);have h3:=Dh Co (c::r);omega
  rw[Ao h1] at h;by_cases h2:Bg c=true
  ·rw[Ap h2] at h;unfold Ll at h
   split at h
   ·injection h with h
    have:=Ar Prod.snd h
    have h3:=L0 (r:=r) h2;simp only at this;omega
   cases h
  rw[Ao h2] at h;by_cases h3:c=34
  ·rw[Ap h3] at h;unfold R0 at h
   split at h
   ·rename_i hq
    split at h
    ·injection h with h
     have:=Ar Prod.snd h
     simp only[List.tail_cons] at this hq
     have h5:(1+Ba false r)<(c::r).length:=by
      rw[List.head?_drop] at hq;exact(List.getElem?_eq_some_iff.1 hq).1
     omega
    cases h
   cases h
  rw[Ao h3] at h;have hr:=Dh Co r;by_cases h4:c=63
  ·rw[Ap h4] at h
   split at h
   ·have:=hsh h
    rw[Aa];omega
   injection h with h
   have:=Ar Prod.snd h
   simp only at this;rw[Aa];omega
  rw[Ao h4] at h;by_cases h5:c=35/\Eu (c::r)=true
  ·rw[Ap h5] at h
   have:=hsh h
   rw[Aa];omega
  rw[Ao h5] at h;unfold Fq at h
  split at h
  ·rename_i hm
   injection h with h
   have:=Ar Prod.snd h
   simp only at this
   have h6:((c::r).take 2).length=2:=by
    have:∀x∈Jc,x.length=2:=by decide
    exact this _ hm
   rw[List.length_take] at h6;omega
  split at h
  ·injection h with h
   have:=Ar Prod.snd h
   simp only at this;rw[Aa];omega
  cases h
open Go Go.Lib
theorem F6 {q:UInt8->Bool}:∀(l:List UInt8),∀c∈l.take (A7 q l),q c=true
 |[],c,h=>by simp at h
 |d::l,c,h=>by
  by_cases hd:q d=true
  ·rw[Ep hd,Nat.add_comm,List.take_succ_cons,List.mem_cons] at h;rcases h with rfl|h
   ·exact hd
   exact F6 l c h
  have:A7 q (d::l)=0:=by
   unfold A7;rw[List.takeWhile_cons,Ao hd];rfl
  rw[this] at h;simp at h
theorem Mu {q:UInt8->Bool}:∀(l:List UInt8) (m:Nat),A7 q l<=m->A7 q (l.take m)=A7 q l
 |[],m,_=>by simp
 |d::l,m,h=>by
  by_cases hd:q d=true
  ·rw[Ep hd] at h ⊢;cases m with
   |zero=>omega
   |succ m=>
    rw[List.take_succ_cons,Ep hd,Mu l m nU]
  have e:∀r,A7 q (d::r)=0:=fun r=>by
   unfold A7;rw[List.takeWhile_cons,Ao hd];rfl
  rw[e];cases m with
  |zero=>rfl
  |succ m=>rw[List.take_succ_cons,e]
open Go Go.Lib
def nK (r:List UInt8):Prop:=∀c,r.head? =some c->c=10\/c=32
theorem nK.nam {r:List UInt8}(h:nK r):∀c,r.head? =some c->Co c=false:=fun c hc=>by
 rcases h c hc with rfl|rfl<;>rfl
theorem Cd (b:Bool)(c:UInt8)(q:List UInt8):Ba b (c::q)=if((c==34 && !b)||!Gy c)=true then 0 else 1+Ba (c==92 && !b) q:=by
 conv=>lhs;unfold Ba
theorem Ha (c:UInt8)(q:List UInt8):R0 (c::q)=if((c::q).drop (1+Ba false q)).head? =some 34 then
 match Dq ((c::q).take (Ba false q+2)) with
 | .ok v=> .ok (⟨5,q.take (Ba false q),v⟩,Ba false q+2)
 | .error _=> .error 4
 else .error 4:=rfl
theorem Ov {w w':Wd}{m n:Nat}(h:Cv w' m= .ok (w,n)):m=n/\w'=w/\Cv w' m= .ok (w',m):=by
 unfold Cv at h ⊢
 split at h
 ·cases h
 rename_i hn
 injection h with h;simp only[Prod.mk.injEq] at h;exact⟨h.2,h.1,by rw[Ao hn]⟩
open Go Go.Lib
theorem Nf:∀(b:Bool) (l:List UInt8) (m:Nat),Ba b l<m->Ba b (l.take m)=Ba b l
 |b,[],m,_=>by simp
 |b,c::q,m,h=>by
  obtain⟨m,rfl⟩:∃k,m=k+1:=⟨m - 1,by omega⟩;rw[List.take_succ_cons,Cd,Cd];rw[Cd] at h;by_cases hc:((c==34 && !b)||!Gy c)=true
  ·rw[Ap hc,Ap hc]
  rw[Ao hc] at h;rw[Ao hc,Ao hc,Nf _ q m nU]
def Ci (n:Nat)(x:List UInt8):Nat:=match x with
 |46::c::r=>if Bg c then n+(1+A7 Bg (c::r)) else n
 |_=>n
theorem Fl (l:List UInt8):B9 l=Ci (A7 Bg l) (l.drop (A7 Bg l)):=rfl
theorem Xr (n:Nat)(x:List UInt8):n<=Ci n x:=by
 unfold Ci
 split
 ·split<;>omega
 omega
theorem Ud (n m:Nat)(x:List UInt8)(h:Ci n x<=n+m):Ci n (x.take m)=Ci n x:=by
 match x with
 |[]=>simp
 |[a]=>
  have e:Ci n [a]=n:=by unfold Ci;split<;>simp_all
  cases m with
  |zero=>rw[e];rfl
  |succ m=>simp
 |a::c::q=>
  by_cases ha:a=46/\Bg c=true
  ·obtain⟨rfl,hc⟩:=ha;have e:∀y,Ci n (46::c::y)=n+(1+A7 Bg (c::y)):=fun y=>by unfold Ci;simp [hc]
   rw[e] at h;have hk:=Ep (q:=Bg) (r:=q) hc;obtain⟨k,rfl⟩:∃k,m=k+2:=⟨m - 2,by omega⟩;have h3:=Mu (q:=Bg) (c::q) (k+1) nU;rw[List.take_succ_cons] at h3;rw[List.take_succ_cons,List.take_succ_cons,e,e,h3]
  have e1:∀y,Ci n (a::c::y)=n:=fun y=>by
   unfold Ci
   split
   ·rename_i e
    simp only[List.cons.injEq] at e;obtain⟨e1,e2,_⟩:=e;subst e1 e2;rw[Ao (fun h=>ha ⟨rfl,h⟩)]
   rfl
  rw[e1]
  match m with
  |0=>rfl
  |1=>
   show Ci n [a]=n;unfold Ci
   split<;>simp_all
  |m+2=>rw[List.take_succ_cons,List.take_succ_cons,e1]
theorem Xf (l:List UInt8)(m:Nat)(h:B9 l<=m):B9 (l.take m)=B9 l:=by
 have hsp:=Xr (A7 Bg l) (l.drop (A7 Bg l));rw[←Fl] at hsp;rw[Fl,Mu (q:=Bg) l m nU,List.drop_take,Ud _ _ _ (by rw[←Fl];omega),←Fl]
open Go Go.Lib
theorem F8 {q:UInt8->Bool}{c:UInt8}{r:List UInt8}(h:q c=true):1<=A7 q (c::r):=by
 rw[Ep h];omega
theorem Ga:∀(f g:Nat) (l:List UInt8) (a b:Int),l.length<=f->l.length<=g->I2 f l a b=I2 g l a b
 |0,g,l,a,b,hf,_=>by
  obtain rfl:l=[]:=List.eq_nil_of_length_eq_zero nU;cases g with
  |zero=>rfl
  |succ g=>rfl
 |f+1,g,l,a,b,hf,hg=>by
  cases l with
  |nil=>cases g<;>rfl
  |cons c r=>
   obtain⟨g,rfl⟩:∃k,g=k+1:=⟨g - 1,by rw[Aa] at hg;omega⟩;rw[Aa] at hf hg;unfold I2;simp only;rw[Ga f g r (a+1) 1 nU nU,Ga f g r a (b+1) nU nU];by_cases h1:c=10
   ·rw[Ap h1,Ap h1]
   rw[Ao h1,Ao h1];by_cases h2:c=59
   ·rw[Ap h2,Ap h2]
    have:=F8 (q:=fun c=>c !=10) (c:=c) (r:=r) qO
    exact Ga f g _ _ _ pE pE
   rw[Ao h2,Ao h2];by_cases h3:c=32
   ·rw[Ap h3,Ap h3]
   rw[Ao h3,Ao h3];cases hw:Bv (c::r) with
   |error e=>rfl
   |ok p=>
    obtain⟨w,n⟩:=p;obtain⟨h4,_⟩:=Ew hw;simp only;rw[Ga f g ((c::r).drop n) a (b+n) pE pE]
open Go Go.Lib
theorem Kh:∀(b:Bool) (l:List UInt8),∀c∈l.take (Ba b l),Gy c=true
 |b,[],c,h=>by simp at h
 |b,d::q,c,h=>by
  rw[Cd] at h;by_cases hc:((d==34 && !b)||!Gy d)=true
  ·rw[Ap hc] at h;simp at h
  rw[Ao hc,Nat.add_comm,List.take_succ_cons,List.mem_cons] at h;rcases h with rfl|h
  ·simp only[Bool.or_eq_true,not_or,Bool.not_eq_true,Bool.not_eq_false'] at hc;exact hc.2
  exact Kh _ q c h
theorem Wf (n:Nat)(x:List UInt8):∃k,Ci n x=n+k/\∀c∈x.take k,Bg c=true\/c=46:=by
 unfold Ci
 split
 ·rename_i c r
  split
  ·refine⟨1+A7 Bg (c::r),rfl,fun d hd=>?_⟩;rw[Nat.add_comm,List.take_succ_cons,List.mem_cons] at hd;rcases hd with rfl|hd
   ·exact .inr rfl
   exact .inl (F6 _ d hd)
  exact⟨0,rfl,by simp⟩
 exact⟨0,rfl,by simp⟩
theorem Zm (l:List UInt8):∀c∈l.take (B9 l),Bg c=true\/c=46:=by
 intro c hc;obtain⟨k,h1,h2⟩:=Wf (A7 Bg l) (l.drop (A7 Bg l));rw[Fl,h1,List.take_add,List.mem_append] at hc;rcases hc with hc|hc
 ·exact .inl (F6 _ c hc)
 exact h2 c hc
theorem Qm {c:UInt8}(h:Co c=true):c≠10:=by rintro rfl;cases h
theorem eP {c:UInt8}(h:Gy c=true):c≠10:=by rintro rfl;cases h
theorem iD {c:UInt8}(h:Bg c=true\/c=46):c≠10:=by
 rintro rfl;rcases h with h|h
 ·cases h
 cases h
def Jg (w:Wd):List UInt8:=
 if w.k=2\/w.k=3 then 63::w.t else if w.k=5 then 34::(w.t++[34]) else if w.k=6 then 35::w.t else w.t
theorem Pt {q:List UInt8}{k:Nat}(h:(q.drop k).head? =some 34):q.take (k+1)=q.take k++[34]:=by
 rw[List.head?_drop] at h;rw[List.take_add_one,h];rfl
theorem U4 {l:List UInt8}{w:Wd}{n:Nat}(h:Bv l= .ok (w,n)):Jg w=l.take n/\∀c∈l.take n,c≠10:=by
 unfold Bv at h;cases l with
 |nil=>cases h
 |cons c r=>
  simp only at h;by_cases h1:D6 c=true
  ·rw[Ap h1] at h;obtain⟨e1,e2,_⟩:=Ov h;subst e1 e2;exact⟨rfl,fun d hd=>Qm (F6 _ d hd)⟩
  rw[Ao h1] at h;by_cases h2:Bg c=true
  ·rw[Ap h2] at h;unfold Ll at h;cases hp:Dq ((c::r).take (B9 (c::r))) with
   |error e=>rw[hp] at h;cases h
   |ok v=>
    rw[hp] at h;injection h with h;simp only[Prod.mk.injEq] at h;obtain⟨e1,e2⟩:=h;subst e1 e2;exact⟨rfl,fun d hd=>iD (Zm _ d hd)⟩
  rw[Ao h2] at h;by_cases h3:c=34
  ·rw[Ap h3,Ha] at h;by_cases hq:((c::r).drop (1+Ba false r)).head? =some 34
   ·rw[Ap hq] at h;cases hp:Dq ((c::r).take (Ba false r+2)) with
    |error e=>rw[hp] at h;cases h
    |ok v=>
     rw[hp] at h;injection h with h;simp only[Prod.mk.injEq] at h;obtain⟨e1,e2⟩:=h;subst e1 e2 h3;rw[Nat.add_comm,List.drop_succ_cons] at hq;have ht:=Pt hq;rw[List.take_succ_cons,ht];refine⟨rfl,fun d hd=>?_⟩;rw[List.mem_cons,List.mem_append] at hd;rcases hd with rfl|hd|hd
     ·decide
     ·exact eP (Kh _ _ d hd)
     rw[List.mem_singleton] at hd;subst hd;decide
   rw[Ao hq] at h;cases h
  rw[Ao h3] at h;by_cases h4:c=63
  ·rw[Ap h4] at h;by_cases hm:Eu (c::r)=true
   ·rw[Ap hm] at h;obtain⟨e1,e2,_⟩:=Ov h;subst e1 e2 h4;exact zw0
   rw[Ao hm] at h;injection h with h;simp only[Prod.mk.injEq] at h;obtain⟨e1,e2⟩:=h;subst e1 e2 h4;refine⟨rfl,fun d hd=>?_⟩;simp only[List.take_succ_cons,List.take_zero,List.mem_singleton] at hd;subst hd;decide
  rw[Ao h4] at h;by_cases h5:c=35/\Eu (c::r)=true
  ·rw[Ap h5] at h;obtain⟨e1,e2,_⟩:=Ov h;subst e1 e2;obtain⟨rfl,_⟩:=h5;exact zw0
  rw[Ao h5] at h;unfold Fq at h;by_cases h6:(c::r).take 2∈Jc
  ·rw[Ap h6] at h;injection h with h;simp only[Prod.mk.injEq] at h;obtain⟨e1,e2⟩:=h;subst e1 e2;exact⟨rfl,(show ∀x∈Jc,∀d∈x,d≠10 by decide) _ h6⟩
  rw[Ao h6] at h;by_cases h7:(c::r).take 1∈Kq.map fun c=>[c]
  ·rw[Ap h7] at h;injection h with h;simp only[Prod.mk.injEq] at h;obtain⟨e1,e2⟩:=h;subst e1 e2;exact⟨rfl,(show ∀x∈Kq.map (fun c=>[c]),∀d∈x,d≠10 by decide) _ h7⟩
  rw[Ao h7] at h;cases h
theorem Ox {l:List UInt8}{e:Int}(h:Bv l= .error e):e=4\/e=9:=by
 have hsh:∀{w':Wd} {m:Nat},Cv w' m= .error e->e=4:=fun{w' m} hh=>by
  unfold Cv at hh
  split at hh
  ·injection hh with hh;exact hh.symm
  cases hh
 unfold Bv at h;cases l with
 |nil=>injection h with h;exact .inl h.symm
 |cons c r=>
  simp only at h
  split at h
  ·exact .inl (hsh h)
  split at h
  ·unfold Ll at h
   split at h
   ·cases h
   injection h with h;rw[←h]
   split
   ·exact .inr rfl
   exact .inl rfl
  split at h
  ·unfold R0 at h
   split at h
   ·split at h
    ·cases h
    injection h with h;exact .inl h.symm
   injection h with h;exact .inl h.symm
  split at h
  ·split at h
   ·exact .inl (hsh h)
   cases h
  split at h
  ·exact .inl (hsh h)
  unfold Fq at h
  split at h
  ·cases h
  split at h
  ·cases h
  injection h with h;exact .inl h.symm
open Go Go.Lib
def LX (l:List UInt8)(a b:Int):Except (Int×Int×Int) (List Tkn):=I2 l.length l a b
theorem aN (l:List UInt8):Fb l=LX l 1 1:=rfl
def Zx (t:Tkn):Except (Int×Int×Int) (List Tkn)->Except (Int×Int×Int) (List Tkn)
 | .error e=> .error e
 | .ok ts=> .ok (t::ts)
theorem Me (a b:Int):LX [] a b= .ok []:=rfl
theorem Qb (r:List UInt8)(a b:Int):LX (10::r) a b=LX r (a+1) 1:=rfl
theorem N9 (r:List UInt8)(a b:Int):LX (32::r) a b=LX r a (b+1):=rfl
def Eo (c:UInt8):Bool:=c !=10
theorem Op (r:List UInt8)(a b:Int):LX (59::r) a b=LX ((59::r).drop (A7 Eo (59::r))) a (b+A7 Eo (59::r)):=by
 have hp:=F8 (q:=Eo) (c:=59) (r:=r) nV;have e:LX (59::r) a b=I2 r.length ((59::r).drop (A7 Eo (59::r))) a (b+A7 Eo (59::r)):=rfl;rw[e];exact Ga _ _ _ _ _ pE (Ak _)
def Uq (c:UInt8):Prop:=c≠10/\c≠59/\c≠32
theorem Ot {c:UInt8}{r:List UInt8}(hc:Uq c){e:Int}(h:Bv (c::r)= .error e)(a b:Int):LX (c::r) a b= .error (a,b,e):=by
 unfold LX;rw[Aa];unfold I2;simp only;rw[Ao hc.1,Ao hc.2.1,Ao hc.2.2,h]
theorem Lj {c:UInt8}{r:List UInt8}(hc:Uq c){w:Wd}{n:Nat}(h:Bv (c::r)= .ok (w,n))(a b:Int):LX (c::r) a b=Zx ⟨w,a,b⟩ (LX ((c::r).drop n) a (b+n)):=by
 obtain⟨hn,_⟩:=Ew h;have e:LX ((c::r).drop n) a (b+n)=I2 r.length ((c::r).drop n) a (b+n):=Ga _ _ _ _ _ (Ak _) pE;rw[e];unfold LX;rw[Aa]
 conv=>lhs;unfold I2
 simp only;rw[Ao hc.1,Ao hc.2.1,Ao hc.2.2,h];simp only;cases I2 r.length ((c::r).drop n) a (b+n)<;>rfl
theorem K8 {P:List UInt8->Prop}(l:List UInt8)(h0:l=[]->P l)(h1:∀r,l=10::r->P l)(h2:∀r,l=32::r->P l)(h3:∀r,l=59::r->P l)
 (h4:∀c r e,l=c::r->Uq c->Bv l= .error e->P l) (h5:∀c r w n,l=c::r->Uq c->Bv l= .ok (w,n)->P l):P l:=by
 cases l with
 |nil=>exact h0 rfl
 |cons c r=>
  by_cases e1:c=10
  ·subst e1;exact h1 r rfl
  by_cases e2:c=32
  ·subst e2;exact h2 r rfl
  by_cases e3:c=59
  ·subst e3;exact h3 r rfl
  cases hw:Bv (c::r) with
  |error e=>exact h4 c r e rfl ⟨e1,e3,e2⟩ hw
  |ok p=>obtain⟨w,n⟩:=p;exact h5 c r w n rfl ⟨e1,e3,e2⟩ hw
def Tkn.down (d:Int)(t:Tkn):Tkn:=⟨t.w,t.line+d,t.col⟩
def I4 (x:Except (Int×Int×Int) (List Tkn))(y:Except (Int×Int×Int) (List Tkn)):Except (Int×Int×Int) (List Tkn):=
 match x with
 | .error e=> .error e
 | .ok ts=>match y with
   | .error e=> .error e
   | .ok us=> .ok (ts++us)
theorem We {t:Tkn}{x:Except (Int×Int×Int) (List Tkn)}{ts:List Tkn}(h:Zx t x= .ok ts):∃us,x= .ok us/\ts=t::us:=by
 cases x with
 |error e=>cases h
 |ok us=>injection h with h;exact⟨us,rfl,h.symm⟩
def nG (a b c d:Int):Prop:=a<c\/a=c/\b<d
def nE (a b c d:Int):Prop:=a<c\/a=c/\b<=d
theorem J2:∀(k:Nat) (l:List UInt8) (a b:Int),l.length<=k->1<=b->
 (∀x y e,LX l a b= .error (x,y,e)->a<=x/\1<=y/\(e=4\/e=9))/\
 (∀ts,LX l a b= .ok ts->(∀t∈ts,nE a b t.line t.col)/\ts.Pairwise (fun s t=>nG s.line s.col t.line t.col))
 |k,l,a,b,hk,hb=>by
  refine K8 (P:=fun l=>l.length<=k->(∀x y e,LX l a b= .error (x,y,e)->a<=x/\1<=y/\(e=4\/e=9))/\(∀ts,LX l a b= .ok ts->(∀t∈ts,nE a b t.line t.col)/\ts.Pairwise (fun s t=>nG s.line s.col t.line t.col))) l ?_ ?_ ?_ ?_ ?_ ?_ hk
  ·rintro rfl _;refine⟨fun x y e h=>?_,fun ts h=>?_⟩
   ·rw[Me] at h;cases h
   rw[Me] at h;injection h with h;subst h;exact⟨by simp,List.Pairwise.nil⟩
  ·rintro r rfl hk;obtain⟨k,rfl⟩:∃j,k=j+1:=⟨k - 1,by rw[Aa] at hk;omega⟩;obtain⟨h1,h2⟩:=J2 k r (a+1) 1 pH nU;rw[Qb];refine⟨fun x y e h=>?_,fun ts h=>?_⟩
   ·obtain⟨h3,h4,h5⟩:=h1 x y e h;exact⟨by omega,h4,h5⟩
   obtain⟨h3,h4⟩:=h2 ts h;refine⟨fun t ht=>?_,h4⟩;rcases h3 t ht with h5|⟨h5,h6⟩
   ·exact .inl nU
   exact .inl nU
  ·rintro r rfl hk;obtain⟨k,rfl⟩:∃j,k=j+1:=⟨k - 1,by rw[Aa] at hk;omega⟩;obtain⟨h1,h2⟩:=J2 k r a (b+1) pH nU;rw[N9];exact zxa
  ·rintro r rfl hk;obtain⟨k,rfl⟩:∃j,k=j+1:=⟨k - 1,by rw[Aa] at hk;omega⟩;have hp:=F8 (q:=Eo) (c:=59) (r:=r) nV;rw[Op];obtain⟨h1,h2⟩:=J2 k ((59::r).drop (A7 Eo (59::r))) a (b+A7 Eo (59::r)) oW nU;exact zxa
  ·rintro c r e rfl hc hw hk;rw[Ot hc hw];refine⟨fun x y e' h=>?_,fun ts h=>by cases h⟩;injection h with h;simp only[Prod.mk.injEq] at h;obtain⟨rfl,rfl,rfl⟩:=h;exact⟨Int.le_refl _,hb,Ox hw⟩
  rintro c r w n rfl hc hw hk;obtain⟨k,rfl⟩:∃j,k=j+1:=⟨k - 1,by rw[Aa] at hk;omega⟩;obtain⟨hn,_⟩:=Ew hw;rw[Lj hc hw];obtain⟨h1,h2⟩:=J2 k ((c::r).drop n) a (b+n) oW nU;cases hx:LX ((c::r).drop n) a (b+n) with
  |error q=>
   obtain⟨x',y',e'⟩:=q;refine⟨fun x y e h=>?_,fun ts h=>by cases h⟩;injection h with h;simp only[Prod.mk.injEq] at h;obtain⟨rfl,rfl,rfl⟩:=h;exact h1 _ _ _ hx
  |ok us=>
   refine⟨fun x y e h=>(by cases h),fun ts h=>?_⟩;injection h with h;subst h;obtain⟨h3,h4⟩:=h2 us hx;refine⟨fun t ht=>?_,List.Pairwise.cons (fun t ht=>?_) h4⟩
   ·rw[List.mem_cons] at ht;rcases ht with rfl|ht
    ·exact .inr ⟨rfl,Int.le_refl _⟩
    rcases h3 t ht with h5|⟨h5,h6⟩
    ·exact .inl h5
    exact .inr ⟨h5,by omega⟩
   rcases h3 t ht with h5|⟨h5,h6⟩
   ·exact .inl h5
   exact .inr ⟨h5,by show b<t.col;omega⟩
def aC (w:Wd):Prop:=∃c r n,Uq c/\Bv (c::r)= .ok (w,n)
theorem Rl:∀(k:Nat) (l:List UInt8) (a b:Int) (ts:List Tkn),l.length<=k->LX l a b= .ok ts->∀t∈ts,aC t.w
 |k,l,a,b,ts,hk,h=>by
  refine K8 (P:=fun l=>l.length<=k->LX l a b= .ok ts->∀t∈ts,aC t.w) l ?_ ?_ ?_ ?_ ?_ ?_ hk h
  ·rintro rfl _ h;rw[Me] at h;injection h with h;subst h;simp
  ·rintro q rfl hk h;obtain⟨k,rfl⟩:∃j,k=j+1:=⟨k - 1,by rw[Aa] at hk;omega⟩;exact Rl k q (a+1) 1 ts pH h
  ·rintro q rfl hk h;obtain⟨k,rfl⟩:∃j,k=j+1:=⟨k - 1,by rw[Aa] at hk;omega⟩;exact Rl k q a (b+1) ts pH h
  ·rintro q rfl hk h;obtain⟨k,rfl⟩:∃j,k=j+1:=⟨k - 1,by rw[Aa] at hk;omega⟩;have hp:=F8 (q:=Eo) (c:=59) (r:=q) nV;rw[Op] at h;exact Rl k _ a _ ts oW h
  ·rintro c q e rfl hc hw hk h;rw[Ot hc hw] at h;cases h
  rintro c q w n rfl hc hw hk h;obtain⟨k,rfl⟩:∃j,k=j+1:=⟨k - 1,by rw[Aa] at hk;omega⟩;obtain⟨hn,_⟩:=Ew hw;rw[Lj hc hw] at h;obtain⟨us,hu,rfl⟩:=We h;intro t ht;rw[List.mem_cons] at ht;rcases ht with rfl|ht
  ·exact⟨c,q,n,hc,hw⟩
  exact Rl k _ a _ us oW hu t ht
def I6 (sep:List UInt8):List (List UInt8)->List UInt8
 |[]=>[]
 |[x]=>x
 |x::y::r=>x++(sep++I6 sep (y::r))
theorem Hk:∀(k:Nat) (l:List UInt8) (a b:Int) (ts:List Tkn),l.length<=k->LX l a b= .ok ts->ts.length+(ts.map fun t=>(Jg t.w).length).sum<=2*l.length/\ts.length<=l.length
 |k,l,a,b,ts,hk,h=>by
  refine K8 (P:=fun l=>l.length<=k->LX l a b= .ok ts->ts.length+(ts.map fun t=>(Jg t.w).length).sum<=2*l.length/\ts.length<=l.length) l ?_ ?_ ?_ ?_ ?_ ?_ hk h
  ·rintro rfl _ h;rw[Me] at h;injection h with h;subst h;simp
  ·rintro q rfl hk h;obtain⟨k,rfl⟩:∃j,k=j+1:=⟨k - 1,by rw[Aa] at hk;omega⟩
   have:=Hk k q (a+1) 1 ts pH h
   rw[Aa];omega
  ·rintro q rfl hk h;obtain⟨k,rfl⟩:∃j,k=j+1:=⟨k - 1,by rw[Aa] at hk;omega⟩
   have:=Hk k q a (b+1) ts pH h
   rw[Aa];omega
  ·rintro q rfl hk h;obtain⟨k,rfl⟩:∃j,k=j+1:=⟨k - 1,by rw[Aa] at hk;omega⟩;have hp:=F8 (q:=Eo) (c:=59) (r:=q) nV;rw[Op] at h
   have:=Hk k _ a _ ts oW h
   rw[List.length_drop] at this;omega
  ·rintro c q e rfl hc hw hk h;rw[Ot hc hw] at h;cases h
  rintro c q w n rfl hc hw hk h;obtain⟨k,rfl⟩:∃j,k=j+1:=⟨k - 1,by rw[Aa] at hk;omega⟩;obtain⟨hn,hnl⟩:=Ew hw;obtain⟨hs,_⟩:=U4 hw;rw[Lj hc hw] at h;obtain⟨us,hu,rfl⟩:=We h
  have:=Hk k _ a _ us oW hu
  rw[List.length_drop] at this;rw[Aa,List.map_cons,List.sum_cons,hs,List.length_take];omega
open Go Go.Lib
inductive Sd (w:Wd):Prop where
 |name (h:w.k=1) (t:Hy w.t=true) (v:w.v=v0)
 |var (h:w.k=2) (t:Hy w.t=true) (v:w.v=v0)
 |self (h:w.k=3) (t:w.t=[]) (v:w.v=v0)
 |num (h:w.k=4) (t:Dq w.t= .ok w.v) (m:∃c r,w.t=c::r/\Bg c=true/\B9 w.t=w.t.length)
 |str (h:w.k=5) (t:Dq (34::w.t++[34])= .ok w.v) (m:∀c∈w.t,Gy c=true) (s:Ba false (w.t++[34])=w.t.length)
 |sym (h:w.k=6) (t:Hy w.t=true) (v:w.v=(5,0,w.t))
 |sign (h:w.k=7) (t:w.t∈Jc\/w.t∈Kq.map fun c=>[c]) (v:w.v=v0)
theorem L3 {c:UInt8}{r:List UInt8}(hc:D6 c=true)(h:((c::r).take (A7 Co (c::r))).length<=12):Hy ((c::r).take (A7 Co (c::r)))=true:=by
 have hn:Co c=true:=by unfold Co;rw[hc];rfl
 rw[Ep hn,Nat.add_comm,List.take_succ_cons] at h ⊢
 show(decide ((r.take (A7 Co r)).length<12) && D6 c && (r.take (A7 Co r)).all fun b=>D6 b||Bg b)=true
 rw[hc,Bool.and_true,Bool.and_eq_true,decide_eq_true_eq];exact⟨by rw[Aa] at h;omega,List.all_eq_true.2 (F6 r)⟩
theorem bF {l:List UInt8}{w:Wd}{n:Nat}(h:Bv l= .ok (w,n)):Sd w:=by
 have hsh:∀{w':Wd} {m:Nat},Cv w' m= .ok (w,n)->w'=w/\w'.t.length<=12:=fun{w' m} hh=>by
  unfold Cv at hh
  split at hh
  ·cases hh
  rename_i hl
  injection hh with hh;exact⟨Ar Prod.fst hh,by omega⟩
 unfold Bv at h;cases l with
 |nil=>cases h
 |cons c r=>
  simp only at h;by_cases h1:D6 c=true
  ·rw[Ap h1] at h;obtain⟨rfl,hl⟩:=hsh h;exact .name rfl (L3 h1 hl) rfl
  rw[Ao h1] at h;by_cases h2:Bg c=true
  ·rw[Ap h2] at h;unfold Ll at h;have hp:=L0 (r:=r) h2;cases hv:Dq ((c::r).take (B9 (c::r))) with
   |error e=>rw[hv] at h;cases h
   |ok v=>
    rw[hv] at h;injection h with h;injection h with h _;subst h;refine .num rfl hv ⟨c,r.take (B9 (c::r) - 1),?_,h2,?_⟩
    ·show(c::r).take _=_
     obtain⟨m,hm⟩:∃m,B9 (c::r)=m+1:=⟨B9 (c::r) - 1,by omega⟩;rw[hm];rfl
    show B9 ((c::r).take _)=((c::r).take _).length;rw[Xf _ _ (Ak _),List.length_take,Nat.min_eq_left hp.2]
  rw[Ao h2] at h;by_cases h3:c=34
  ·rw[Ap h3,Ha] at h;by_cases hq:((c::r).drop (1+Ba false r)).head? =some 34
   ·rw[Ap hq] at h;cases hv:Dq ((c::r).take (Ba false r+2)) with
    |error e=>rw[hv] at h;cases h
    |ok v=>
     rw[hv] at h;injection h with h;injection h with h _;subst h h3;rw[Nat.add_comm,List.drop_succ_cons] at hq;have ht:=Pt hq;rw[List.take_succ_cons,ht] at hv;refine .str rfl hv (Kh false r) ?_;show Ba false (r.take (Ba false r)++[34])=(r.take (Ba false r)).length;rw[←ht,Nf false r _ (Nat.lt_succ_self _),List.length_take,Nat.min_eq_left (Ly false r)]
   rw[Ao hq] at h;cases h
  rw[Ao h3] at h;by_cases h4:c=63
  ·subst h4;rw[Ap rfl] at h;by_cases hm:Eu (63::r)=true
   ·rw[Ap hm] at h;obtain⟨rfl,hl⟩:=hsh h;cases r with
    |nil=>cases hm
    |cons d r=>exact .var rfl (L3 hm hl) rfl
   rw[Ao hm] at h;injection h with h;injection h with h _;subst h;exact .self rfl rfl rfl
  rw[Ao h4] at h;by_cases h5:c=35/\Eu (c::r)=true
  ·rw[Ap h5] at h;obtain⟨rfl,hl⟩:=hsh h;cases r with
   |nil=>cases h5.2
   |cons d r=>exact .sym rfl (L3 h5.2 hl) rfl
  rw[Ao h5] at h;unfold Fq at h
  split at h
  ·rename_i h6
   injection h with h;injection h with h _;subst h;exact .sign rfl (.inl h6) rfl
  split at h
  ·rename_i h6
   injection h with h;injection h with h _;subst h;exact .sign rfl (.inr h6) rfl
  cases h
theorem Nh {l:List UInt8}{ts:List Tkn}(h:Fb l= .ok ts):∀t∈ts,Sd t.w:=fun t ht=>by
 obtain⟨c,r,n,_,hw⟩:=Rl _ l 1 1 ts (Ak _) h t ht;exact bF hw
theorem Vh:Hy [40]=false:=by decide
theorem Tn {l:List UInt8}{ts:List Tkn}(h:Fb l= .ok ts):∀t∈ts,t.w.k=1->t.w.t≠[40]:=fun t ht hk e=>by
 cases Nh h t ht with
 |name _ ht' _=>rw[e,Vh] at ht';cases ht'
 |var h _ _=>omega
 |self h _ _=>omega
 |num h _ _=>omega
 |str h _ _ _=>omega
 |sym h _ _=>omega
 |sign h _ _=>omega
theorem N5:∀(k:Nat) (l:List UInt8) (a b:Int) (ts:List Tkn),l.length<=k->1<=a->1<=b->LX l a b= .ok ts->∀t∈ts,1<=t.line/\t.line<=a+(l.length:Nat)/\1<=t.col/\t.col<=b+(l.length:Nat)
 |k,l,a,b,ts,hk,ha,hb,h=>by
  refine K8 (P:=fun l=>l.length<=k->LX l a b= .ok ts->∀t∈ts,1<=t.line/\t.line<=a+(l.length:Nat)/\1<=t.col/\t.col<=b+(l.length:Nat)) l ?_ ?_ ?_ ?_ ?_ ?_ hk h
  ·rintro rfl _ h;rw[Me] at h;injection h with h;subst h;intro t ht;cases ht
  ·rintro r rfl hk h t ht;obtain⟨k,rfl⟩:∃j,k=j+1:=⟨k - 1,by rw[Aa] at hk;omega⟩;rw[Qb] at h
   have:=N5 k r (a+1) 1 ts pH nU nV h t ht
   rw[Aa];omega
  ·rintro r rfl hk h t ht;obtain⟨k,rfl⟩:∃j,k=j+1:=⟨k - 1,by rw[Aa] at hk;omega⟩;rw[N9] at h
   have:=N5 k r a (b+1) ts pH ha nU h t ht
   rw[Aa];omega
  ·rintro r rfl hk h t ht;obtain⟨k,rfl⟩:∃j,k=j+1:=⟨k - 1,by rw[Aa] at hk;omega⟩;have hp:=F8 (q:=Eo) (c:=59) (r:=r) nV;have hle:=Dh Eo (59::r);rw[Op] at h
   have:=N5 k _ a _ ts oW ha nU h t ht
   rw[List.length_drop] at this;omega
  ·rintro c r e rfl hc hw hk h;rw[Ot hc hw] at h;cases h
  rintro c r w n rfl hc hw hk h t ht;obtain⟨k,rfl⟩:∃j,k=j+1:=⟨k - 1,by rw[Aa] at hk;omega⟩;obtain⟨hn,hnl⟩:=Ew hw;rw[Lj hc hw] at h;cases hx:LX ((c::r).drop n) a (b+n) with
  |error e=>rw[hx] at h;cases h
  |ok us=>
   rw[hx] at h;injection h with h;subst h;rw[List.mem_cons] at ht;rcases ht with rfl|ht
   ·simp only;omega
   have:=N5 k _ a _ us oW ha nU hx t ht
   rw[List.length_drop] at this;omega
theorem Jz {l:List UInt8}{ts:List Tkn}(h:Fb l= .ok ts):∀t∈ts,1<=t.line/\t.line<=1+(l.length:Nat)/\1<=t.col/\t.col<=1+(l.length:Nat):=
 N5 _ l 1 1 ts (Ak _) nV nV h
theorem Zu:∀{l:List Nat} {x:Nat},x∈l->x<=l.sum
 |y::l,x,h=>by
  rw[List.sum_cons];rcases List.mem_cons.1 h with rfl|h
  ·omega
  have:=Zu h
  omega
theorem S5 {l:List UInt8}{ts:List Tkn}(h:Fb l= .ok ts):∀t∈ts,t.w.t.length<=2*l.length:=fun t ht=>by
 have h1:=(Hk _ l 1 1 ts (Ak _) h).1;have h2:(Jg t.w).length<=(ts.map fun t=>(Jg t.w).length).sum:=Zu (List.mem_map.2 ⟨t,ht,rfl⟩)
 have h3:t.w.t.length<=(Jg t.w).length:=by
  unfold Jg
  repeat' split
  all_goals (simp;try omega)
 omega
theorem Kj {x:ExR}{g:Ex->List Tkn->ExR}{p:Int×List Tkn}(h:x.next g= .error p):x= .error p\/∃a q,x= .ok (a,q)/\g a q= .error p:=by
 cases x with
 |error e=>exact .inl h
 |ok y=>exact .inr ⟨y.1,y.2,rfl,h⟩
theorem U9 {a:Ex}{q:List Tkn}{p:Int×List Tkn}(h:Dx a q= .error p):p.1=4:=by
 unfold Dx at h
 split at h
 ·cases h
 injection h with h;rw[←h]
theorem Uw {d:Nat}{r:List Tkn}{g:List Tkn->ExR}{p:Int×List Tkn}(h:B8 d r g= .error p):p.1=4\/p.1=12\/(isH [40] r=true/\d≠12/\g r.tail= .error p):=by
 unfold B8 at h
 split at h
 ·rename_i hp
  split at h
  ·injection h with h;rw[←h];exact .inr (.inl rfl)
  rename_i hd
  exact .inr (.inr ⟨hp,hd,h⟩)
 injection h with h;rw[←h];exact .inl rfl
theorem Vt:∀td d r,td.ok->∀p,exE td d r= .error p->p.1=4\/p.1=12\/p.1=14:=by
 refine Ue (P:=fun td d r=>∀p,exE td d r= .error p->p.1=4\/p.1=12\/p.1=14) ?_ ?_ ?_ ?_ ?_
 ·intro n d r hn h1 h2 p h;rw[show exE (.lvl n) d r=_ from Jn hn] at h;by_cases hp:isH (Jl n) r=true
  ·rw[Ap hp] at h;obtain⟨t,q0,rfl⟩:=Cx hp;by_cases hd:d=12
   ·rw[Ap hd] at h;injection h with h;rw[←h];exact .inr (.inl rfl)
   rw[Ao hd] at h;rcases Kj h with h3|⟨a,q,_,h3⟩
   ·exact h1 t q0 rfl hp hd p h3
   cases h3
  rw[Ao hp] at h;exact h2 (by simpa using hp) p h
 ·intro d r h1 h2 p h;rw[show exE (.lvl 7) d r=_ from Bw d r] at h;cases r with
  |nil=>
   injection h with h;rw[←h];exact .inl rfl
  |cons t r=>
   simp only at h;cases hl:Da t with
   |some x=>rw[hl] at h;cases h
   |none=>
    cases hc:Eb t with
    |some c=>
     rw[hl,hc] at h;rcases Uw h with h3|h3|⟨h3,h4,h5⟩
     ·exact .inl h3
     ·exact .inr (.inl h3)
     obtain⟨t',q',rfl⟩:=Cx h3;exact h1 t t' q' c rfl hl hc h3 h4 p h5
    |none=>
     rw[hl,hc] at h;rcases Uw h with h3|h3|⟨h3,h4,h5⟩
     ·exact .inl h3
     ·exact .inr (.inl h3)
     rcases Kj h5 with h6|⟨a,q,_,h6⟩
     ·exact h2 t r rfl hl hc h3 h4 p h6
     exact .inl (U9 h6)
 ·intro n d r h5 hn2 h1 h2 p h;rw[show exE (.lvl n) d r=_ from K4 h5 hn2] at h;rcases Kj h with h3|⟨a,q,h3,h4⟩
  ·exact h1 p h3
  exact h2 a q h3 p h4
 ·intro n b d r h1 p h;rw[show exE (.row n b) d r=_ from G3 n b d r] at h;by_cases hz:B2 r (Bq n)=0
  ·rw[Ap hz] at h;cases h
  rw[Ao hz] at h;obtain⟨t,r',rfl⟩:=Fk hz;obtain⟨h5,hn2⟩:=Ro hz;obtain⟨k1,k2⟩:=h1 t r' rfl hz h5 hn2;rcases Kj h with h3|⟨a,q,h3,h4⟩
  ·exact k1 p h3
  by_cases h3n:n=3
  ·rw[Ap h3n] at h4;cases h4
  rw[Ao h3n] at h4;exact k2 a q h3 p h4
 intro c ks d r h1 h2 p h;rw[show exE (.args c ks) d r=_ from Ig c ks d r] at h;rcases Kj h with h3|⟨a,q,h3,h4⟩
 ·exact h1 p h3
 by_cases hm:(isH [44] q && decide (ks.length+1=c.most)||isH [41] q && decide (ks.length+1<c.least))=true
 ·rw[Ap hm] at h4;injection h4 with h4;rw[←h4];exact .inr (.inr rfl)
 rw[Ao hm] at h4;by_cases hcm:isH [44] q=true
 ·rw[Ap hcm] at h4;obtain⟨t',q',rfl⟩:=Cx hcm;exact h2 a t' q' h3 hcm p h4
 rw[Ao hcm] at h4;exact .inl (U9 h4)
def El (ts:List Tkn):Int×Int:=match ts.getLast? with
 |none=>(1,1)
 |some t=>(t.line,t.col+t.w.t.length+if t.w.k=2\/t.w.k=3\/t.w.k=6 then 1 else if t.w.k=5 then 2 else 0)
def Ol (ts q:List Tkn):Int×Int:=match q with
 |t::_=>(t.line,t.col)
 |[]=>El ts
def Cm (l:List UInt8):Except ((Int×Int)×Int) Ex:=match Fb l with
 | .error (a,b,e)=> .error ((a,b),e)
 | .ok ts=>match A9 0 0 ts with
   | .error (e,q)=> .error (Ol ts q,e)
   | .ok (a,q)=>if 60<a.size then .error (Ol ts ts,7) else if q=[] then .ok a else .error (Ol ts q,4)
end Go.Proofs.YtgfakdobajgnfaaGreatDoor
