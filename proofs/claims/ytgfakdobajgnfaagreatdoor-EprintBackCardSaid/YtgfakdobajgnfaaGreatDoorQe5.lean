import Derived.Test.YtgfakdobajgnfaaGreatDoorQe4
set_option maxRecDepth 100000
set_option maxHeartbeats 16000000
namespace Go.Proofs.YtgfakdobajgnfaaGreatDoor
open Go Go.RowKit
theorem lU (w:World):(binOp BinOp.eql 20 .nilIface .nilIface).run Tryz.prog w= .ok (.bool true) w:=by kernel_rfl
theorem Z6 (er:Int)(w:World):(binOp BinOp.eql 20 (.iface 131 (.int .i64 er)) .nilIface).run Tryz.prog w= .ok (.bool false) w:=by kernel_rfl
theorem oC (er:Int)(w:World):(Instr.typeAssert (.iface 131 (.int .i64 er)) 20 131 true).run Tryz.prog w= .ok (.tuple #[.int .i64 er,.bool true]) w:=by kernel_rfl
theorem Iz {w:World}{b:Nat}{x:Value}{t:TypeId}(h:w.heap[b]? =some (.cells #[x] t (0,0))):w.cell? ⟨b,0,none⟩=some x/\w.frozen? ⟨b,0,none⟩=false:=
 ⟨by simp only[World.cell?,h];rfl,by simp only[World.frozen?,h];simp⟩
theorem Ym (w:World)(o0 o1 o2 o3 o4:Obj):((((((w.alloc o0).alloc o1).alloc o2).alloc o3).alloc o4).heap[w.heap.size]? =some o0/\(((((w.alloc o0).alloc o1).alloc o2).alloc o3).alloc o4).heap[w.heap.size+1]? =some o1/\(((((w.alloc o0).alloc o1).alloc o2).alloc o3).alloc o4).heap[w.heap.size+1+1]? =some o2/\
 (((((w.alloc o0).alloc o1).alloc o2).alloc o3).alloc o4).heap[w.heap.size+1+1+1]? =some o3/\(((((w.alloc o0).alloc o1).alloc o2).alloc o3).alloc o4).heap[w.heap.size+1+1+1+1]? =some o4):=by
 have z1:(w.alloc o0).heap.size=w.heap.size+1:=by simp
 have z2:((w.alloc o0).alloc o1).heap.size=w.heap.size+1+1:=by simp
 have z3:(((w.alloc o0).alloc o1).alloc o2).heap.size=w.heap.size+1+1+1:=by simp
 have z4:((((w.alloc o0).alloc o1).alloc o2).alloc o3).heap.size=w.heap.size+1+1+1+1:=by simp
 have h0:=Au w o0
 have h1:=Au (w.alloc o0) o1
 have h2:=Au ((w.alloc o0).alloc o1) o2
 have h3:=Au (((w.alloc o0).alloc o1).alloc o2) o3
 have h4:=Au ((((w.alloc o0).alloc o1).alloc o2).alloc o3) o4
 rw[z1] at h1
 rw[z2] at h2
 rw[z3] at h3
 rw[z4] at h4
 refine⟨?_,?_,?_,?_,h4⟩
 ·rw[Below.heap_alloc _ _ _ rA,Below.heap_alloc _ _ _ rA,Below.heap_alloc _ _ _ rA,Below.heap_alloc _ _ _ rA]
  exact h0
 ·rw[Below.heap_alloc _ _ _ rA,Below.heap_alloc _ _ _ rA,Below.heap_alloc _ _ _ rA]
  exact h1
 ·rw[Below.heap_alloc _ _ _ rA,Below.heap_alloc _ _ _ rA]
  exact h2
 ·rw[Below.heap_alloc _ _ _ rA]
  exact h3
theorem dQ (a b c d x:Value):(#[a,b,c,d]++(Array.replicate 14 undef).setIfInBounds 3 x)= #[a,b,c,d,undef,undef,undef,x,undef,undef,undef,undef,undef,undef,undef,undef,undef,undef]:=rfl
theorem Tz (a0 a1 a2 a3:Addr)(w:World):
 CallsD Tryz.prog 88 #[.pointer (some a0),.pointer (some a1),.pointer (some a2),.pointer (some a3)] .returning w fun e u' w'=>e= .returned (.tuple #[])/\u'= .returning/\w'=w:=by
 have hnil:=lU
 refine callsD_of_wpS Tryz.func88 rfl fun c₀ cs hu=>?_
 apply wpS_seq
 apply wpS_region
 simp [wpOpsS,go_sem,recoverD,hu,Tryz.ntmps88,Exit.thenS]
 refine wpS_of_wp ?_
 rw[dQ]
 go_wp2_with fail
 refine⟨rfl,.returning,?_,.tuple #[],?_,rfl,rfl,rfl⟩
 ·rw[←hu]
 ·simp [results,Tryz.results88,go_sem]
theorem bH (b p1 p2 p3 p0:Nat)(er:Int)(older:List PanicEntry)(at':Int)(w:World)(h0:w.cell? ⟨p0,0,none⟩=some (.pointer (some ⟨b,0,none⟩)))(h1:w.cell? ⟨b,1,none⟩=some (.int .i64 at'))
 (x1 x2 x3:Value) (c1:w.cell? ⟨p1,0,none⟩=some x1) (c2:w.cell? ⟨p2,0,none⟩=some x2) (c3:w.cell? ⟨p3,0,none⟩=some x3) (f1:w.frozen? ⟨p1,0,none⟩=false) (f2:w.frozen? ⟨p2,0,none⟩=false) (f3:w.frozen? ⟨p3,0,none⟩=false)
 (d12:¬p1=p2) (d13:¬p1=p3) (d23:¬p2=p3):
 CallsD Tryz.prog 88 #[.pointer (some ⟨p0,0,none⟩),.pointer (some ⟨p1,0,none⟩),.pointer (some ⟨p2,0,none⟩),.pointer (some ⟨p3,0,none⟩)] (.panicking ({v:= .iface 131 (.int .i64 er),recovered:=false}::older)) w fun e u' w'=>
  e= .returned (.tuple #[])/\u'= .panicking ({v:= .iface 131 (.int .i64 er),recovered:=true}::older)/\w'=((w.setCell ⟨p1,0,none⟩ (.slice none 0 0)).setCell ⟨p2,0,none⟩ (.int .i64 at')).setCell ⟨p3,0,none⟩ (.int .i64 er):=by
 have hst:=Z6 er
 have hta:=oC er
 refine callsD_of_wpS Tryz.func88 rfl fun c₀ cs hu=>?_
 apply wpS_seq
 apply wpS_region
 simp [wpOpsS,go_sem,recoverD,hu,Tryz.ntmps88,Exit.thenS]
 refine wpS_of_wp ?_
 rw[dQ]
 go_wp2_with fail
 refine⟨rfl,_,rfl,.tuple #[],?_,rfl,rfl,rfl⟩
 simp [results,Tryz.results88,go_sem]
def Rx (w:World)(ts:List Tkn)(n:Nat)(x:ExR)(e:Ending)(w':World):Prop:=
 Below w.heap.size w w'/\match x with
  | .error p=>e= .returned (.tuple #[.slice none 0 0,.int .i64 ((ts.length - p.2.length:Nat):Int),.int .i64 p.1])
  | .ok p=>if 60<p.1.size then e= .returned (.tuple #[.slice none 0 0,.int .i64 (n:Int),.int .i64 7]) else
   ∃v,e= .returned (.tuple #[v,.int .i64 ((ts.length - p.2.length:Nat):Int),.int .i64 0])/\Gr w' w.heap.size [] v (p.1.flat 0)
theorem aK {w:World}{vl:Value}{ts:List Tkn}(ht:Jo w vl ts)(hn:∀t∈ts,t.w.k=1->t.w.t≠[40])(hbig:ts.length<=1000000)(n:Nat)(hnl:n<=ts.length):
 Calls Tryz.prog 53 #[vl,.int .i64 (n:Int)] w (Rx w ts n (A2 0 0 (ts.drop n))):=by
 obtain⟨va,vc,rfl⟩:=ht.form
 have hmf:∀(fn:Fn) (first cap:Array Value) (w:World),(Instr.makeFunc fn first cap).run Tryz.prog w= .ok (.func fn first cap) w:=fun _ _ _ _=>rfl
 have i0:¬((n:Int)<0):=by omega
 have i1:¬((ts.length:Int)<(n:Int)):=by omega
 have i2:decide ((n:Int)<0)=false:=by simp
 have i3:decide ((ts.length:Int)<(n:Int))=false:=by simp;omega
 obtain⟨x,hx⟩:∃x,A2 0 0 (ts.drop n)=x:=⟨_,rfl⟩
 rw[hx]
 obtain⟨W5,hW5⟩:∃W5,((((w.alloc (.cells #[.slice none 0 0] 31)).alloc (.cells #[.int .i64 0] 3)).alloc (.cells #[.int .i64 0] 27)).alloc (.cells #[.slice va ts.length vc,.int .i64 (n:Int),.int .i64 0,.slice none 0 0] 130)).alloc (.cells #[.pointer (some ⟨w.heap.size+1+1+1,0,none⟩)] 128)=W5:=⟨_,rfl⟩
 have hb5:Below w.heap.size w W5:=by
  rw[←hW5]
  exact(((((Below.refl _ w).alloc (Ak _) _).alloc rC _).alloc rH _).alloc rH _).alloc rH _
 obtain⟨q0,q1,q2,q3,q4⟩:W5.heap[w.heap.size]? =some (.cells #[.slice none 0 0] 31 (0,0))/\W5.heap[w.heap.size+1]? =some (.cells #[.int .i64 0] 3 (0,0))/\W5.heap[w.heap.size+1+1]? =some (.cells #[.int .i64 0] 27 (0,0))/\
  W5.heap[w.heap.size+1+1+1]? =some (.cells #[.slice va ts.length vc,.int .i64 (n:Int),.int .i64 0,.slice none 0 0] 130 (0,0))/\W5.heap[w.heap.size+1+1+1+1]? =some (.cells #[.pointer (some ⟨w.heap.size+1+1+1,0,none⟩)] 128 (0,0)):=by
  rw[←hW5]
  exact Ym w _ _ _ _ _
 have hlen:ts.length - (ts.drop n).length=n:=by rw[List.length_drop];omega
 have hR:Ct W5 w.heap.size [w.heap.size+1] (w.heap.size+1+1+1) (.slice va ts.length vc) ts (ts.drop n) 0 (.slice none 0 0) []:=
  ⟨⟨n,rfl⟩,ht.below hb5,hn,ht.lt,by omega,fun x h=>(by simp at h;subst h;have:=Aq q1;exact this),by omega,hbig,by simp only[List.length_nil,List.length_drop];omega,by rw[hlen];exact q3,[],World.ownsRow_nil _ _ _ _,trivial⟩
 have hc:=eY w.heap.size (w.heap.size+1+1+1) (.slice va ts.length vc) ts _ [w.heap.size+1] 0 0 (ts.drop n) W5 (.slice none 0 0) [] rA (Nat.lt_succ_self _) hR hb5.size
 rw[hx] at hc
 have Hc:Hid (Calls Tryz.prog 89 #[.pointer (some ⟨w.heap.size+1+1+1,0,none⟩),.int .i64 0] W5 (Bw W5 w.heap.size [w.heap.size+1] (w.heap.size+1+1+1) (.slice va ts.length vc) ts 0 (.slice none 0 0) [] x)):=Ao hc
 have HB5:=Ao hb5
 have hap:=fun{p:Nat} {cs:Array Value} {T:TypeId} (h:W5.heap[p]? =some (.cells cs T (0,0))) (h1:130≠T) (h2:43≠T)=>hR.apart h h1 h2
 have Q0:=Ao (And.intro q0 (hap q0 rB rB))
 have Q1:=Ao (And.intro q1 (hap q1 rB rB))
 have Q2:=Ao (And.intro q2 (hap q2 rB rB))
 have Q4:=Ao (And.intro q4 (hap q4 rB rB))
 clear hb5 q0 q1 q2 q3 q4 hR hc hlen hap
 subst hW5
 have hcl:=Hc.out
 clear hcl
 go_enter_defers Tryz.func53,Tryz.ntmps53
 go_wp2_with fail
 refine Hc.out.mono ?_
 rintro e V1 hp
 cases x with
 |error p=>
  obtain⟨er,q⟩:=p
  obtain⟨rfl,⟨dd,vv,hrb⟩,ho⟩:=hp
  obtain⟨a0,af0⟩:=Iz (ho.cells_of Q0.out.1 Q0.out.2)
  obtain⟨a1,af1⟩:=Iz (ho.cells_of Q1.out.1 Q1.out.2)
  obtain⟨a2,af2⟩:=Iz (ho.cells_of Q2.out.1 Q2.out.2)
  obtain⟨a4,_⟩:=Iz (ho.cells_of Q4.out.1 Q4.out.2)
  obtain⟨_,b1,_⟩:=Du hrb
  have hbV:Below w.heap.size w V1:=Bp HB5.out ho (by simp [Value.ownBlock];omega) (by have:=HB5.out.size;exact this)
  have HBV:=Ao hbV
  have hq:ts.length - q.length=ts.length - q.length:=rfl
  obtain⟨m,hm⟩:∃m,ts.length - q.length=m:=⟨_,rfl⟩
  rw[hm] at b1
  have Hm:=Ao hm
  clear hrb ho hbV hq hm hx Q0 Q1 Q2 Q4
  go_wp2_with fail
  refine leaves_cons (f:=88) (args:= #[.pointer (some ⟨w.heap.size+1+1+1+1,0,none⟩),.pointer (some ⟨w.heap.size,0,none⟩),.pointer (some ⟨w.heap.size+1,0,none⟩),.pointer (some ⟨w.heap.size+1+1,0,none⟩)]) rC (by simp [go_sem]) ?_
  refine(bH (w.heap.size+1+1+1) w.heap.size (w.heap.size+1) (w.heap.size+1+1) (w.heap.size+1+1+1+1) er [] (m:Int) V1 a4 b1 _ _ _ a0 a1 a2 af0 af1 af2 rA rA rA).mono ?_
  rintro e u' w'' ⟨rfl,rfl,rfl⟩
  refine⟨.tuple #[.slice none 0 0,.int .i64 (m:Int),.int .i64 er],?_,?_⟩
  ·simp [results,Tryz.results53,go_sem, *]
  ·refine⟨((HBV.out.setCell (Ak _) _).setCell rC _).setCell rH _,?_⟩
   rw[←Hm.out]
 |ok p=>
  obtain⟨a,q⟩:=p
  obtain⟨rfl,v1,hr1,hch⟩:=hp
  have ho:=hch.only
  obtain⟨a0,af0⟩:=Iz (ho.cells_of Q0.out.1 Q0.out.2)
  obtain⟨a1,af1⟩:=Iz (ho.cells_of Q1.out.1 Q1.out.2)
  obtain⟨a2,af2⟩:=Iz (ho.cells_of Q2.out.1 Q2.out.2)
  obtain⟨a4,_⟩:=Iz (ho.cells_of Q4.out.1 Q4.out.2)
  obtain⟨_,b1,_,b3,_⟩:=Du hr1.blk
  have hbV:Below w.heap.size w V1:=Bp HB5.out ho (by simp [Value.ownBlock];omega) (by have:=HB5.out.size;exact this)
  obtain⟨kvs,hk1,hk2⟩:=hr1.tree
  obtain⟨la,lc,rfl⟩:=Fi hk1
  simp only[List.nil_append,List.length_nil,Ex.flat_len] at b3 hk1 hr1 hk2
  have htr:Gr V1 w.heap.size [w.heap.size+1] (.slice la a.size lc) (a.flat 0):=⟨kvs,by rw[Ex.flat_len];exact hk1,hk2⟩
  have hfew:=hr1.few
  rw[Ex.flat_len] at hfew
  have HBV:=Ao hbV
  have HTR:=Ao htr
  have HH0:=Ao (ho.cells_of Q0.out.1 Q0.out.2)
  have HH1:=Ao (ho.cells_of Q1.out.1 Q1.out.2)
  have HH2:=Ao (ho.cells_of Q2.out.1 Q2.out.2)
  obtain⟨m,hm⟩:∃m,ts.length - q.length=m:=⟨_,rfl⟩
  rw[hm] at b1
  have Hm:=Ao hm
  clear hr1 hch ho hbV hk1 hk2 htr hm hx Q0 Q1 Q2 Q4
  by_cases h60:60<a.size
  ·have j1:decide ((60:Int)<(a.size:Int))=true:=by simp;omega
   have j2:(60:Int)<(a.size:Int):=by omega
   have H60:=Ao h60
   clear h60
   go_wp2_with fail
   refine leaves_cons (f:=88) (args:= #[.pointer (some ⟨w.heap.size+1+1+1+1,0,none⟩),.pointer (some ⟨w.heap.size,0,none⟩),.pointer (some ⟨w.heap.size+1,0,none⟩),.pointer (some ⟨w.heap.size+1+1,0,none⟩)]) rC (by simp [go_sem]) ?_
   refine(Tz _ _ _ _ _).mono ?_
   rintro e u' w'' ⟨rfl,rfl,rfl⟩
   refine⟨.tuple #[.slice none 0 0,.int .i64 (n:Int),.int .i64 7],?_,?_⟩
   ·simp [results,Tryz.results53,go_sem, *]
   ·refine⟨((HBV.out.setCell (Ak _) _).setCell rC _).setCell rH _,?_⟩
    show(if 60<a.size then _ else _)
    rw[if_pos H60.out]
  ·have j1:decide ((60:Int)<(a.size:Int))=false:=by simp;omega
   have j2:(a.size:Int)<=60:=by omega
   have H60:=Ao h60
   clear h60
   go_wp2_with fail
   go_region
   go_wp2_with fail
   refine leaves_cons (f:=88) (args:= #[.pointer (some ⟨w.heap.size+1+1+1+1,0,none⟩),.pointer (some ⟨w.heap.size,0,none⟩),.pointer (some ⟨w.heap.size+1,0,none⟩),.pointer (some ⟨w.heap.size+1+1,0,none⟩)]) rC (by simp [go_sem]) ?_
   refine(Tz _ _ _ _ _).mono ?_
   rintro e u' w'' ⟨rfl,rfl,rfl⟩
   refine⟨.tuple #[.slice la a.size lc,.int .i64 (m:Int),.int .i64 0],?_,?_⟩
   ·simp [results,Tryz.results53,go_sem, *]
   ·have hO:A4 [w.heap.size,w.heap.size+1,w.heap.size+1+1] V1 ((((V1.setCell ⟨w.heap.size,0,none⟩ (.slice la a.size lc)).setCell ⟨w.heap.size+1,0,none⟩ (.int .i64 (m:Int))).setCell ⟨w.heap.size+1+1,0,none⟩ (.int .i64 0)).drew):=
     A4.drew ((((A4.refl _ V1).setCell (.inl rC) _).setCell (.inl rC) _).setCell (.inl rC) _)
    refine⟨Bp HBV.out hO rH HBV.out.size,?_⟩
    show(if 60<a.size then _ else _)
    rw[if_neg H60.out]
    refine⟨_,by rw[←Hm.out],HTR.out.imp (fun _ r=>A8 r hO fun k e hm=>?_) fun v n xs hx r=>⟨A8 r hO fun k e hm=>?_,fun _ _ hm=>(by cases hm)⟩⟩
    ·simp only[List.mem_cons,List.not_mem_nil,or_false] at hm
     rcases hm with rfl|rfl|rfl
     ·exact Bb r HH0.out rB e
     ·exact Bb r HH1.out rB e
     ·exact Bb r HH2.out rB e
    ·simp only[List.mem_cons,List.not_mem_nil,or_false] at hm
     rcases hm with rfl|rfl|rfl
     ·exact Bb r HH0.out rB e
     ·exact hx _ e rC
     ·exact Bb r HH2.out rB e
end Go.Proofs.YtgfakdobajgnfaaGreatDoor
namespace Go.Proofs
open Go.Shelf
def Tryz.lays169_ren:Go.Shelf.Ren:=⟨fun|169=>130|n=>n,fun|70=>179|9=>9|0=>0|72=>181|37=>40|127=>218|3=>3|5=>5|n=>n,fun|n=>n⟩
theorem Tryz.lays169:Go.Proofs.Lays.n169 Tryz.prog Tryz.lays169_ren:={
 mixed:=by kernel_rfl
 f169:=Tryz.func130.trans (congrArg some qZ)
 t0:=Tryz.underlying0
 a0:=Tryz.isAgg0
 z0:=Tryz.sizeOf0
 v0:=Tryz.zeroValue0
 t3:=Tryz.underlying3
 a3:=Tryz.isAgg3
 z3:=Tryz.sizeOf3
 v3:=Tryz.zeroValue3
 t9:=Tryz.underlying9
 a9:=Tryz.isAgg9
 z9:=Tryz.sizeOf9
 v9:=Tryz.zeroValue9
 t37:=Tryz.underlying40
 a37:=Tryz.isAgg40
 z37:=Tryz.sizeOf40
 v37:=Tryz.zeroValue40
 t70:=Tryz.underlying179
 a70:=Tryz.isAgg179
 z70:=Tryz.sizeOf179
 v70:=Tryz.zeroValue179
 t72:=Tryz.underlying181
 a72:=Tryz.isAgg181
 z72:=Tryz.sizeOf181
 v72:=Tryz.zeroValue181
 t127:=Tryz.underlying218
 a127:=Tryz.isAgg218
 z127:=Tryz.sizeOf218
 v127:=Tryz.zeroValue218}
theorem Tryz.Builder_Extra_169:Builder.Extra Tryz.prog Tryz.lays169_ren:={
 sizeBuilder:=by kernel_rfl
 liesBuilder:=by kernel_rfl
 t5:=Tryz.underlying5
 a5:=Tryz.isAgg5
 z5:=Tryz.sizeOf5
 v5:=Tryz.zeroValue5
 infoByte:=by kernel_rfl
 cellsByte:=by kernel_rfl
 sizeByte:=by kernel_rfl
 neB5:=by decide}
open Go.RowKit in
theorem Tryz.Builder_String_any (B b:Nat)(l:List UInt8)(w:World)(h:Lib.IsBuilder 181 5 B b (Lib.byteCells l) w)(hBw:B<=w.heap.size):
 Calls Tryz.prog 130 #[.pointer (some ⟨b,0,none⟩)] w fun e w'=>e= .returned (.string ⟨l.toArray⟩)/\Below B w w':=Any.Builder_String_any Tryz.lays169 Tryz.Builder_Extra_169 B b l w h hBw
def Tryz.lays156_ren:Go.Shelf.Ren:=⟨fun|156=>169|165=>187|166=>188|169=>130|240=>193|241=>228|276=>232|277=>241|n=>n,fun|31=>39|9=>9|3=>3|4=>4|0=>0|20=>20|72=>181|76=>214|70=>179|37=>40|75=>119|127=>218|164=>254|5=>5|80=>183|n=>n,fun|n=>n⟩
theorem Tryz.lays156:Go.Proofs.Lays.n156 Tryz.prog Tryz.lays156_ren:={
 mixed:=by kernel_rfl
 f156:=Tryz.func169.trans (congrArg some qZ)
 f165:=Tryz.func187.trans (congrArg some qZ)
 f166:=Tryz.func188.trans (congrArg some qZ)
 f169:=Tryz.func130.trans (congrArg some qZ)
 f240:=Tryz.func193.trans (congrArg some qZ)
 f241:=Tryz.func228.trans (congrArg some qZ)
 f276:=Tryz.func232.trans (congrArg some qZ)
 f277:=Tryz.func241.trans (congrArg some qZ)
 t0:=Tryz.underlying0
 a0:=Tryz.isAgg0
 z0:=Tryz.sizeOf0
 v0:=Tryz.zeroValue0
 t3:=Tryz.underlying3
 a3:=Tryz.isAgg3
 z3:=Tryz.sizeOf3
 v3:=Tryz.zeroValue3
 t4:=Tryz.underlying4
 a4:=Tryz.isAgg4
 z4:=Tryz.sizeOf4
 v4:=Tryz.zeroValue4
 t9:=Tryz.underlying9
 a9:=Tryz.isAgg9
 z9:=Tryz.sizeOf9
 v9:=Tryz.zeroValue9
 t20:=Tryz.underlying20
 a20:=Tryz.isAgg20
 z20:=Tryz.sizeOf20
 v20:=Tryz.zeroValue20
 t31:=Tryz.underlying39
 a31:=Tryz.isAgg39
 z31:=Tryz.sizeOf39
 v31:=Tryz.zeroValue39
 t37:=Tryz.underlying40
 a37:=Tryz.isAgg40
 z37:=Tryz.sizeOf40
 v37:=Tryz.zeroValue40
 t70:=Tryz.underlying179
 a70:=Tryz.isAgg179
 z70:=Tryz.sizeOf179
 v70:=Tryz.zeroValue179
 t72:=Tryz.underlying181
 a72:=Tryz.isAgg181
 z72:=Tryz.sizeOf181
 v72:=Tryz.zeroValue181
 t75:=Tryz.underlying119
 a75:=Tryz.isAgg119
 z75:=Tryz.sizeOf119
 v75:=Tryz.zeroValue119
 t76:=Tryz.underlying214
 a76:=Tryz.isAgg214
 z76:=Tryz.sizeOf214
 v76:=Tryz.zeroValue214
 t127:=Tryz.underlying218
 a127:=Tryz.isAgg218
 z127:=Tryz.sizeOf218
 v127:=Tryz.zeroValue218
 t164:=Tryz.underlying254
 a164:=Tryz.isAgg254
 z164:=Tryz.sizeOf254
 v164:=Tryz.zeroValue254}
theorem Tryz.Builder_Extra_156:Builder.Extra Tryz.prog Tryz.lays156_ren:={
 sizeBuilder:=by kernel_rfl
 liesBuilder:=by kernel_rfl
 t5:=Tryz.underlying5
 a5:=Tryz.isAgg5
 z5:=Tryz.sizeOf5
 v5:=Tryz.zeroValue5
 infoByte:=by kernel_rfl
 cellsByte:=by kernel_rfl
 sizeByte:=by kernel_rfl
 neB5:=by decide}
open Go.RowKit in
theorem Tryz.strings_Join_none (a:Option Addr)(c:Nat)(sep:ByteArray)(w:World):
 Calls Tryz.prog 169 #[.slice a 0 c,.string sep] w fun e w'=>e= .returned (.string ⟨#[]⟩)/\w'=w:=Any.strings_Join_none Tryz.lays156 Tryz.Builder_Extra_156 a c sep w
open Go.RowKit in
theorem Tryz.strings_Join (bk o c:Nat)(xs:List ByteArray)(sep:ByteArray)(w:World)(hcells:∀(j:Nat) x,xs[j]? =some x->w.cell? ⟨bk,o+j,none⟩=some (.string x))(hbk:bk<w.heap.size)(hN:xs.length<=140737488355328)(hcap:xs.length<=c)(hlen:(Lib.join (xs.map (·.data.toList)) sep.data.toList).length<=140737488355328):
 Calls Tryz.prog 169 #[.slice (some ⟨bk,o,none⟩) xs.length c,.string sep] w fun e w'=>e= .returned (.string ⟨(Lib.join (xs.map (·.data.toList)) sep.data.toList).toArray⟩)/\Below w.heap.size w w':=Any.strings_Join Tryz.lays156 Tryz.Builder_Extra_156 bk o c xs sep w hcells hbk hN hcap hlen
def Tryz.lays162_ren:Go.Shelf.Ren:=⟨fun|162=>74|232=>120|227=>121|234=>122|236=>123|228=>183|271=>184|151=>185|120=>224|197=>189|152=>225|260=>229|137=>200|119=>240|224=>173|225=>172|217=>171|266=>218|n=>n,fun|9=>9|4=>4|3=>3|5=>5|117=>171|116=>170|0=>0|124=>174|21=>21|105=>210|46=>200|119=>267|139=>270|138=>269|n=>n,fun|3=>6|4=>7|n=>n⟩
theorem Tryz.lays162:Go.Proofs.Lays.n162 Tryz.prog Tryz.lays162_ren:={
 mixed:=by kernel_rfl
 f119:=Tryz.func240.trans (congrArg some qZ)
 f120:=Tryz.func224.trans (congrArg some qZ)
 f137:=Tryz.func200.trans (congrArg some qZ)
 f151:=Tryz.func185.trans (congrArg some qZ)
 f152:=Tryz.func225.trans (congrArg some qZ)
 f162:=Tryz.func74.trans (congrArg some qZ)
 f197:=Tryz.func189.trans (congrArg some qZ)
 f217:=Tryz.func171.trans (congrArg some qZ)
 f224:=Tryz.func173.trans (congrArg some qZ)
 f225:=Tryz.func172.trans (congrArg some qZ)
 f227:=Tryz.func121.trans (congrArg some qZ)
 f228:=Tryz.func183.trans (congrArg some qZ)
 f232:=Tryz.func120.trans (congrArg some qZ)
 f234:=Tryz.func122.trans (congrArg some qZ)
 f236:=Tryz.func123.trans (congrArg some qZ)
 f260:=Tryz.func229.trans (congrArg some qZ)
 f266:=Tryz.func218.trans (congrArg some qZ)
 f271:=Tryz.func184.trans (congrArg some qZ)
 t0:=Tryz.underlying0
 a0:=Tryz.isAgg0
 z0:=Tryz.sizeOf0
 v0:=Tryz.zeroValue0
 t3:=Tryz.underlying3
 a3:=Tryz.isAgg3
 z3:=Tryz.sizeOf3
 v3:=Tryz.zeroValue3
 t4:=Tryz.underlying4
 a4:=Tryz.isAgg4
 z4:=Tryz.sizeOf4
 v4:=Tryz.zeroValue4
 t5:=Tryz.underlying5
 a5:=Tryz.isAgg5
 z5:=Tryz.sizeOf5
 v5:=Tryz.zeroValue5
 t9:=Tryz.underlying9
 a9:=Tryz.isAgg9
 z9:=Tryz.sizeOf9
 v9:=Tryz.zeroValue9
 t21:=Tryz.underlying21
 a21:=Tryz.isAgg21
 z21:=Tryz.sizeOf21
 v21:=Tryz.zeroValue21
 t46:=Tryz.underlying200
 a46:=Tryz.isAgg200
 z46:=Tryz.sizeOf200
 v46:=Tryz.zeroValue200
 t105:=Tryz.underlying210
 a105:=Tryz.isAgg210
 z105:=Tryz.sizeOf210
 v105:=Tryz.zeroValue210
 t116:=Tryz.underlying170
 a116:=Tryz.isAgg170
 z116:=Tryz.sizeOf170
 t117:=Tryz.underlying171
 a117:=Tryz.isAgg171
 z117:=Tryz.sizeOf171
 v117:=Tryz.zeroValue171
 t119:=Tryz.underlying267
 a119:=Tryz.isAgg267
 z119:=Tryz.sizeOf267
 t124:=Tryz.underlying174
 a124:=Tryz.isAgg174
 z124:=Tryz.sizeOf174
 v124:=Tryz.zeroValue174
 t138:=Tryz.underlying269
 a138:=Tryz.isAgg269
 z138:=Tryz.sizeOf269
 v138:=Tryz.zeroValue269
 t139:=Tryz.underlying270
 a139:=Tryz.isAgg270
 z139:=Tryz.sizeOf270
 v139:=Tryz.zeroValue270
 g3:=by kernel_rfl
 g4:=by kernel_rfl}
open Go.RowKit in
theorem Tryz.strings_TrimRight_one (s:ByteArray)(c:UInt8)(hc:c.toNat<128)(w:World)(hs:s.size<=9223372036854775807):
 Calls Tryz.prog 74 #[.string s,.string ⟨#[c]⟩] w fun e w'=>e= .returned (.string ⟨(Lib.trimRightB s.data.toList c).toArray⟩)/\w'=w:=Any.strings_TrimRight_one Tryz.lays162 s c hc w hs
def Tryz.lays137_ren:Go.Shelf.Ren:=⟨fun|137=>200|217=>171|266=>218|n=>n,fun|9=>9|5=>5|3=>3|n=>n,fun|n=>n⟩
theorem Tryz.lays137:Go.Proofs.Lays.n137 Tryz.prog Tryz.lays137_ren:={
 mixed:=by kernel_rfl
 f137:=Tryz.func200.trans (congrArg some qZ)
 f217:=Tryz.func171.trans (congrArg some qZ)
 f266:=Tryz.func218.trans (congrArg some qZ)
 t3:=Tryz.underlying3
 a3:=Tryz.isAgg3
 z3:=Tryz.sizeOf3
 v3:=Tryz.zeroValue3
 t5:=Tryz.underlying5
 a5:=Tryz.isAgg5
 z5:=Tryz.sizeOf5
 v5:=Tryz.zeroValue5
 t9:=Tryz.underlying9
 a9:=Tryz.isAgg9
 z9:=Tryz.sizeOf9
 v9:=Tryz.zeroValue9}
open Go.RowKit in
theorem Tryz.strings_IndexByte (s:ByteArray)(c:Int)(w:World):
 Calls Tryz.prog 200 #[.string s,.int .u8 c] w fun e w'=>e= .returned (.int .i64 (Lib.indexByte s.data.toList c.toNat.toUInt8))/\w'=w:=Any.strings_IndexByte Tryz.lays137 s c w
def Tryz.lays121_ren:Go.Shelf.Ren:=⟨fun|121=>46|214=>76|n=>n,fun|4=>4|9=>9|n=>n,fun|n=>n⟩
theorem Tryz.lays121:Go.Proofs.Lays.n121 Tryz.prog Tryz.lays121_ren:={
 mixed:=by kernel_rfl
 f121:=Tryz.func46.trans (congrArg some qZ)
 f214:=Tryz.func76.trans (congrArg some qZ)
 t4:=Tryz.underlying4
 a4:=Tryz.isAgg4
 z4:=Tryz.sizeOf4
 v4:=Tryz.zeroValue4
 t9:=Tryz.underlying9
 a9:=Tryz.isAgg9
 z9:=Tryz.sizeOf9
 v9:=Tryz.zeroValue9}
open Go.RowKit in
theorem Tryz.strconv_FormatBool (b:Bool)(w:World):
 Calls Tryz.prog 46 #[.bool b] w fun e w'=>e= .returned (.string ⟨(Lib.formatBool b).toArray⟩)/\w'=w:=Any.strconv_FormatBool Tryz.lays121 b w
def Tryz.laysM173_ren:Go.Shelf.Ren:=⟨fun|173=>43|246=>73|283=>116|284=>117|285=>118|286=>119|129=>179|317=>178|318=>180|319=>181|320=>182|337=>222|338=>223|n=>n,fun|2=>2|3=>3|9=>9|4=>4|171=>163|0=>0|53=>55|37=>40|5=>5|173=>166|212=>205|51=>206|20=>20|213=>207|46=>200|232=>264|233=>265|n=>n,fun|17=>1|18=>4|19=>5|n=>n⟩
theorem Tryz.laysM173:Go.Proofs.LaysM.n173 Tryz.prog Tryz.laysM173_ren:={
 mixed:=by kernel_rfl
 f129:=Tryz.func179.trans (congrArg some qZ)
 f173:=Tryz.func43.trans (congrArg some qZ)
 f246:=Tryz.func73.trans (congrArg some qZ)
 f283:=Tryz.func116.trans (congrArg some qZ)
 f284:=Tryz.func117.trans (congrArg some qZ)
 f285:=Tryz.func118.trans (congrArg some qZ)
 f286:=Tryz.func119.trans (congrArg some qZ)
 f317:=Tryz.func178.trans (congrArg some qZ)
 f318:=Tryz.func180.trans (congrArg some qZ)
 f319:=Tryz.func181.trans (congrArg some qZ)
 f320:=Tryz.func182.trans (congrArg some qZ)
 f337:=Tryz.func222.trans (congrArg some qZ)
 f338:=Tryz.func223.trans (congrArg some qZ)
 t0:=Tryz.underlying0
 a0:=Tryz.isAgg0
 z0:=Tryz.sizeOf0
 v0:=Tryz.zeroValue0
 t2:=Tryz.underlying2
 a2:=Tryz.isAgg2
 z2:=Tryz.sizeOf2
 v2:=Tryz.zeroValue2
 t3:=Tryz.underlying3
 a3:=Tryz.isAgg3
 z3:=Tryz.sizeOf3
 v3:=Tryz.zeroValue3
 t4:=Tryz.underlying4
 a4:=Tryz.isAgg4
 z4:=Tryz.sizeOf4
 v4:=Tryz.zeroValue4
 t5:=Tryz.underlying5
 a5:=Tryz.isAgg5
 z5:=Tryz.sizeOf5
 v5:=Tryz.zeroValue5
 t9:=Tryz.underlying9
 a9:=Tryz.isAgg9
 z9:=Tryz.sizeOf9
 v9:=Tryz.zeroValue9
 t20:=Tryz.underlying20
 a20:=Tryz.isAgg20
 z20:=Tryz.sizeOf20
 v20:=Tryz.zeroValue20
 t37:=Tryz.underlying40
 a37:=Tryz.isAgg40
 z37:=Tryz.sizeOf40
 v37:=Tryz.zeroValue40
 t46:=Tryz.underlying200
 a46:=Tryz.isAgg200
 z46:=Tryz.sizeOf200
 v46:=Tryz.zeroValue200
 t51:=Tryz.underlying206
 a51:=Tryz.isAgg206
 z51:=Tryz.sizeOf206
 v51:=Tryz.zeroValue206
 t53:=Tryz.underlying55
 a53:=Tryz.isAgg55
 z53:=Tryz.sizeOf55
 v53:=Tryz.zeroValue55
 t171:=Tryz.underlying163
 a171:=Tryz.isAgg163
 z171:=Tryz.sizeOf163
 v171:=Tryz.zeroValue163
 t173:=Tryz.underlying166
 a173:=Tryz.isAgg166
 z173:=Tryz.sizeOf166
 v173:=Tryz.zeroValue166
 t212:=Tryz.underlying205
 a212:=Tryz.isAgg205
 z212:=Tryz.sizeOf205
 v212:=Tryz.zeroValue205
 t213:=Tryz.underlying207
 a213:=Tryz.isAgg207
 z213:=Tryz.sizeOf207
 t232:=Tryz.underlying264
 a232:=Tryz.isAgg264
 z232:=Tryz.sizeOf264
 v232:=Tryz.zeroValue264
 t233:=Tryz.underlying265
 a233:=Tryz.isAgg265
 z233:=Tryz.sizeOf265
 v233:=Tryz.zeroValue265
 g17:=by kernel_rfl
 g18:=by kernel_rfl
 g19:=by kernel_rfl
 i0:=by kernel_rfl
 i2:=by kernel_rfl
 i3:=by kernel_rfl
 i4:=by kernel_rfl
 i5:=by kernel_rfl
 i9:=by kernel_rfl
 i20:=by kernel_rfl
 i37:=by kernel_rfl
 i46:=by kernel_rfl
 i51:=by kernel_rfl
 i53:=by kernel_rfl
 i171:=by kernel_rfl
 i173:=by kernel_rfl
 i212:=by kernel_rfl
 i232:=by kernel_rfl
 i233:=by kernel_rfl
 m17:=by kernel_rfl
 m18:=by kernel_rfl
 m19:=by kernel_rfl}
open Go.RowKit Go.Sort Go.Lib in
theorem Tryz.strconv_FormatInt_10 (n:Int)(h0: -9223372036854775808<=n)(h1:n<=9223372036854775807)(w:World)(htab:Lib.TabIs Tryz.prog w "internal/strconv.uint64pow10" .u64 Lib.pow10Tab):
 Calls Tryz.prog 43 #[.int .i64 n,.int .i64 10] w fun e w'=>e= .returned (.string ⟨(Lib.itoa n).toArray⟩)/\∃k os,w'=grow (w.drewN k) os:=Any.strconv_FormatInt_10 Tryz.laysM173 n h0 h1 w htab
def Tryz.laysC174_ren:Go.Shelf.Ren:=⟨fun|174=>85|247=>136|245=>137|287=>194|279=>195|280=>196|281=>197|282=>198|321=>233|322=>234|316=>235|171=>237|205=>236|243=>242|246=>73|283=>116|284=>117|285=>118|286=>119|129=>179|317=>178|318=>180|319=>181|320=>182|337=>222|338=>223|n=>n,fun|9=>9|3=>3|2=>2|75=>119|85=>120|4=>4|167=>219|5=>5|53=>55|175=>220|46=>200|168=>222|37=>40|0=>0|210=>258|21=>21|127=>218|145=>273|143=>271|171=>163|173=>166|212=>205|51=>206|20=>20|213=>207|232=>264|233=>265|80=>183|n=>n,fun|15=>2|16=>3|17=>1|18=>4|19=>5|n=>n⟩
theorem Tryz.laysC174:Go.Proofs.LaysC.n174 Tryz.prog Tryz.laysC174_ren:={
 mixed:=by kernel_rfl
 f129:=Tryz.func179.trans (congrArg some qZ)
 f171:=Tryz.func237.trans (congrArg some qZ)
 f174:=Tryz.func85.trans (congrArg some qZ)
 f205:=Tryz.func236.trans (congrArg some qZ)
 f243:=Tryz.func242.trans (congrArg some qZ)
 f245:=Tryz.func137.trans (congrArg some qZ)
 f246:=Tryz.func73.trans (congrArg some qZ)
 f247:=Tryz.func136.trans (congrArg some qZ)
 f279:=Tryz.func195.trans (congrArg some qZ)
 f280:=Tryz.func196.trans (congrArg some qZ)
 f281:=Tryz.func197.trans (congrArg some qZ)
 f282:=Tryz.func198.trans (congrArg some qZ)
 f283:=Tryz.func116.trans (congrArg some qZ)
 f284:=Tryz.func117.trans (congrArg some qZ)
 f285:=Tryz.func118.trans (congrArg some qZ)
 f286:=Tryz.func119.trans (congrArg some qZ)
 f287:=Tryz.func194.trans (congrArg some qZ)
 f316:=Tryz.func235.trans (congrArg some qZ)
 f317:=Tryz.func178.trans (congrArg some qZ)
 f318:=Tryz.func180.trans (congrArg some qZ)
 f319:=Tryz.func181.trans (congrArg some qZ)
 f320:=Tryz.func182.trans (congrArg some qZ)
 f321:=Tryz.func233.trans (congrArg some qZ)
 f322:=Tryz.func234.trans (congrArg some qZ)
 f337:=Tryz.func222.trans (congrArg some qZ)
 f338:=Tryz.func223.trans (congrArg some qZ)
 t0:=Tryz.underlying0
 a0:=Tryz.isAgg0
 z0:=Tryz.sizeOf0
 v0:=Tryz.zeroValue0
 t2:=Tryz.underlying2
 a2:=Tryz.isAgg2
 z2:=Tryz.sizeOf2
 v2:=Tryz.zeroValue2
 t3:=Tryz.underlying3
 a3:=Tryz.isAgg3
 z3:=Tryz.sizeOf3
 v3:=Tryz.zeroValue3
 t4:=Tryz.underlying4
 a4:=Tryz.isAgg4
 z4:=Tryz.sizeOf4
 v4:=Tryz.zeroValue4
 t5:=Tryz.underlying5
 a5:=Tryz.isAgg5
 z5:=Tryz.sizeOf5
 v5:=Tryz.zeroValue5
 t9:=Tryz.underlying9
 a9:=Tryz.isAgg9
 z9:=Tryz.sizeOf9
 v9:=Tryz.zeroValue9
 t20:=Tryz.underlying20
 a20:=Tryz.isAgg20
 z20:=Tryz.sizeOf20
 v20:=Tryz.zeroValue20
 t21:=Tryz.underlying21
 a21:=Tryz.isAgg21
 z21:=Tryz.sizeOf21
 v21:=Tryz.zeroValue21
 t37:=Tryz.underlying40
 a37:=Tryz.isAgg40
 z37:=Tryz.sizeOf40
 v37:=Tryz.zeroValue40
 t46:=Tryz.underlying200
 a46:=Tryz.isAgg200
 z46:=Tryz.sizeOf200
 v46:=Tryz.zeroValue200
 t51:=Tryz.underlying206
 a51:=Tryz.isAgg206
 z51:=Tryz.sizeOf206
 v51:=Tryz.zeroValue206
 t53:=Tryz.underlying55
 a53:=Tryz.isAgg55
 z53:=Tryz.sizeOf55
 v53:=Tryz.zeroValue55
 t75:=Tryz.underlying119
 a75:=Tryz.isAgg119
 z75:=Tryz.sizeOf119
 v75:=Tryz.zeroValue119
 t85:=Tryz.underlying120
 a85:=Tryz.isAgg120
 z85:=Tryz.sizeOf120
 v85:=Tryz.zeroValue120
 t127:=Tryz.underlying218
 a127:=Tryz.isAgg218
 z127:=Tryz.sizeOf218
 v127:=Tryz.zeroValue218
 t143:=Tryz.underlying271
 a143:=Tryz.isAgg271
 z143:=Tryz.sizeOf271
 v143:=Tryz.zeroValue271
 t145:=Tryz.underlying273
 a145:=Tryz.isAgg273
 z145:=Tryz.sizeOf273
 v145:=Tryz.zeroValue273
 t167:=Tryz.underlying219
 a167:=Tryz.isAgg219
 z167:=Tryz.sizeOf219
 v167:=Tryz.zeroValue219
 t168:=Tryz.underlying222
 a168:=Tryz.isAgg222
 z168:=Tryz.sizeOf222
 v168:=Tryz.zeroValue222
 t171:=Tryz.underlying163
 a171:=Tryz.isAgg163
 z171:=Tryz.sizeOf163
 v171:=Tryz.zeroValue163
 t173:=Tryz.underlying166
 a173:=Tryz.isAgg166
 z173:=Tryz.sizeOf166
 v173:=Tryz.zeroValue166
 t175:=Tryz.underlying220
 a175:=Tryz.isAgg220
 z175:=Tryz.sizeOf220
 v175:=Tryz.zeroValue220
 t210:=Tryz.underlying258
 a210:=Tryz.isAgg258
 z210:=Tryz.sizeOf258
 v210:=Tryz.zeroValue258
 t212:=Tryz.underlying205
 a212:=Tryz.isAgg205
 z212:=Tryz.sizeOf205
 v212:=Tryz.zeroValue205
 t213:=Tryz.underlying207
 a213:=Tryz.isAgg207
 z213:=Tryz.sizeOf207
 t232:=Tryz.underlying264
 a232:=Tryz.isAgg264
 z232:=Tryz.sizeOf264
 v232:=Tryz.zeroValue264
 t233:=Tryz.underlying265
 a233:=Tryz.isAgg265
 z233:=Tryz.sizeOf265
 v233:=Tryz.zeroValue265
 g15:=by kernel_rfl
 g16:=by kernel_rfl
 g17:=by kernel_rfl
 g18:=by kernel_rfl
 g19:=by kernel_rfl
 t80:=Tryz.underlying183
 a80:=Tryz.isAgg183
 z80:=Tryz.sizeOf183
 v80:=Tryz.zeroValue183
 i0:=by kernel_rfl
 i2:=by kernel_rfl
 i3:=by kernel_rfl
 i4:=by kernel_rfl
 i5:=by kernel_rfl
 i9:=by kernel_rfl
 i20:=by kernel_rfl
 i21:=by kernel_rfl
 i37:=by kernel_rfl
 i46:=by kernel_rfl
 i51:=by kernel_rfl
 i53:=by kernel_rfl
 i75:=by kernel_rfl
 i80:=by kernel_rfl
 i85:=by kernel_rfl
 i127:=by kernel_rfl
 i143:=by kernel_rfl
 i145:=by kernel_rfl
 i167:=by kernel_rfl
 i168:=by kernel_rfl
 i171:=by kernel_rfl
 i173:=by kernel_rfl
 i175:=by kernel_rfl
 i210:=by kernel_rfl
 i212:=by kernel_rfl
 i232:=by kernel_rfl
 i233:=by kernel_rfl
 m15:=by kernel_rfl
 m16:=by kernel_rfl
 m17:=by kernel_rfl
 m18:=by kernel_rfl
 m19:=by kernel_rfl
 c0:=by kernel_rfl
 c2:=by kernel_rfl
 c3:=by kernel_rfl
 c4:=by kernel_rfl
 c5:=by kernel_rfl
 c9:=by kernel_rfl
 c20:=by kernel_rfl
 c21:=by kernel_rfl
 c37:=by kernel_rfl
 c46:=by kernel_rfl
 c51:=by kernel_rfl
 c53:=by kernel_rfl
 c75:=by kernel_rfl
 c80:=by kernel_rfl
 c85:=by kernel_rfl
 c127:=by kernel_rfl
 c143:=by kernel_rfl
 c145:=by kernel_rfl
 c167:=by kernel_rfl
 c168:=by kernel_rfl
 c171:=by kernel_rfl
 c173:=by kernel_rfl
 c175:=by kernel_rfl
 c210:=by kernel_rfl
 c212:=by kernel_rfl
 c213:=by kernel_rfl
 c232:=by kernel_rfl
 c233:=by kernel_rfl}
open Go.RowKit in
theorem Tryz.strconv_ParseInt_10_at64_ok (s:ByteArray)(hmax:s.size<=9223372036854775806)(v:Int)(h:Lib.parseIntB 64 s.data.toList= .ok v)(w:World):
 Calls Tryz.prog 85 #[.string s,.int .i64 10,.int .i64 64] w fun e w'=>e= .returned (.tuple #[.int .i64 v,.nilIface])/\(w'=w\/∃t,w'=Lib.bytesWorld w 5 t):=Any.strconv_ParseInt_10_at64_ok Tryz.laysC174 s hmax v h w
open Go.RowKit in
theorem Tryz.strconv_ParseInt_10_at64_range (s:ByteArray)(hlim:s.size<=281474976710656)(h:Lib.parseIntB 64 s.data.toList= .range)(ev:Value)(w:World)(hv:w.cell? ⟨3,0,none⟩=some ev)(hev:ev= .nilIface\/∃te pe,ev= .iface te pe):
 Calls Tryz.prog 85 #[.string s,.int .i64 10,.int .i64 64] w fun e w'=>∃N,e= .returned (.tuple #[.int .i64 (Lib.intSat 64 s.data.toList),.iface 222 (.pointer (some ⟨N,0,none⟩))])/\w.heap.size<=N/\w'.heap[N]? =some (.cells #[.string ⟨#[80,97,114,115,101,73,110,116]⟩,.string s,ev] 258 (0,0))/\Below w.heap.size w w':=Any.strconv_ParseInt_10_at64_range Tryz.laysC174 s hlim h ev w hv hev
def Tryz.lays144_ren:Go.Shelf.Ren:=⟨fun|144=>33|143=>65|219=>98|217=>171|225=>172|224=>173|267=>174|266=>218|314=>219|n=>n,fun|9=>9|4=>4|3=>3|5=>5|46=>200|146=>246|51=>206|n=>n,fun|1=>0|n=>n⟩
theorem Tryz.lays144:Go.Proofs.Lays.n144 Tryz.prog Tryz.lays144_ren:={
 mixed:=by kernel_rfl
 f143:=Tryz.func65.trans (congrArg some qZ)
 f144:=Tryz.func33.trans (congrArg some qZ)
 f217:=Tryz.func171.trans (congrArg some qZ)
 f219:=Tryz.func98.trans (congrArg some qZ)
 f224:=Tryz.func173.trans (congrArg some qZ)
 f225:=Tryz.func172.trans (congrArg some qZ)
 f266:=Tryz.func218.trans (congrArg some qZ)
 f267:=Tryz.func174.trans (congrArg some qZ)
 f314:=Tryz.func219.trans (congrArg some qZ)
 t3:=Tryz.underlying3
 a3:=Tryz.isAgg3
 z3:=Tryz.sizeOf3
 v3:=Tryz.zeroValue3
 t4:=Tryz.underlying4
 a4:=Tryz.isAgg4
 z4:=Tryz.sizeOf4
 v4:=Tryz.zeroValue4
 t5:=Tryz.underlying5
 a5:=Tryz.isAgg5
 z5:=Tryz.sizeOf5
 v5:=Tryz.zeroValue5
 t9:=Tryz.underlying9
 a9:=Tryz.isAgg9
 z9:=Tryz.sizeOf9
 v9:=Tryz.zeroValue9
 t46:=Tryz.underlying200
 a46:=Tryz.isAgg200
 z46:=Tryz.sizeOf200
 v46:=Tryz.zeroValue200
 t51:=Tryz.underlying206
 a51:=Tryz.isAgg206
 z51:=Tryz.sizeOf206
 v51:=Tryz.zeroValue206
 t146:=Tryz.underlying246
 a146:=Tryz.isAgg246
 z146:=Tryz.sizeOf246
 v146:=Tryz.zeroValue246
 g1:=by kernel_rfl}
open Go.RowKit Go.Lib in
theorem Tryz.strings_Contains (s sub:ByteArray)(m:Int)(w:World)(hs:s.size<4294967281)(hm:w.cell? ⟨0,0,none⟩=some (.int .i64 m)):
 Calls Tryz.prog 33 #[.string s,.string sub] w fun e w'=>e= .returned (.bool (Lib.contains s.data.toList sub.data.toList))/\w'=w:=Any.strings_Contains Tryz.lays144 s sub m w hs hm
def Tryz.lays145_ren:Go.Shelf.Ren:=⟨fun|145=>81|220=>132|219=>98|217=>171|225=>172|224=>173|267=>174|266=>218|314=>219|n=>n,fun|9=>9|4=>4|59=>116|3=>3|5=>5|46=>200|146=>246|51=>206|n=>n,fun|1=>0|n=>n⟩
theorem Tryz.lays145:Go.Proofs.Lays.n145 Tryz.prog Tryz.lays145_ren:={
 mixed:=by kernel_rfl
 f145:=Tryz.func81.trans (congrArg some qZ)
 f217:=Tryz.func171.trans (congrArg some qZ)
 f219:=Tryz.func98.trans (congrArg some qZ)
 f220:=Tryz.func132.trans (congrArg some qZ)
 f224:=Tryz.func173.trans (congrArg some qZ)
 f225:=Tryz.func172.trans (congrArg some qZ)
 f266:=Tryz.func218.trans (congrArg some qZ)
 f267:=Tryz.func174.trans (congrArg some qZ)
 f314:=Tryz.func219.trans (congrArg some qZ)
 t3:=Tryz.underlying3
 a3:=Tryz.isAgg3
 z3:=Tryz.sizeOf3
 v3:=Tryz.zeroValue3
 t4:=Tryz.underlying4
 a4:=Tryz.isAgg4
 z4:=Tryz.sizeOf4
 v4:=Tryz.zeroValue4
 t5:=Tryz.underlying5
 a5:=Tryz.isAgg5
 z5:=Tryz.sizeOf5
 v5:=Tryz.zeroValue5
 t9:=Tryz.underlying9
 a9:=Tryz.isAgg9
 z9:=Tryz.sizeOf9
 v9:=Tryz.zeroValue9
 t46:=Tryz.underlying200
 a46:=Tryz.isAgg200
 z46:=Tryz.sizeOf200
 v46:=Tryz.zeroValue200
 t51:=Tryz.underlying206
 a51:=Tryz.isAgg206
 z51:=Tryz.sizeOf206
 v51:=Tryz.zeroValue206
 t59:=Tryz.underlying116
 a59:=Tryz.isAgg116
 z59:=Tryz.sizeOf116
 v59:=Tryz.zeroValue116
 t146:=Tryz.underlying246
 a146:=Tryz.isAgg246
 z146:=Tryz.sizeOf246
 v146:=Tryz.zeroValue246
 g1:=by kernel_rfl}
open Go.RowKit Go.Lib in
theorem Tryz.strings_Cut (s sep:ByteArray)(m:Int)(w:World)(hs:s.size<4294967281)(hm:w.cell? ⟨0,0,none⟩=some (.int .i64 m)):
 Calls Tryz.prog 81 #[.string s,.string sep] w fun e w'=>e= .returned (.tuple #[.string ⟨(Lib.cut s.data.toList sep.data.toList).1.toArray⟩,.string ⟨(Lib.cut s.data.toList sep.data.toList).2.1.toArray⟩,.bool (Lib.cut s.data.toList sep.data.toList).2.2])/\∃n,w'=w.drewN n:=Any.strings_Cut Tryz.lays145 s sep m w hs hm
def Tryz.laysGw17_ren:Go.Shelf.Ren:=⟨fun|17=>113|15=>177|20=>221|n=>n,fun|9=>9|23=>162|4=>4|3=>3|0=>0|21=>21|n=>n,fun|n=>n⟩
theorem Tryz.laysGw17:Go.Proofs.LaysGw.n17 Tryz.prog Tryz.laysGw17_ren:={
 mixed:=by kernel_rfl
 f15:=Tryz.func177.trans (congrArg some qZ)
 f17:=Tryz.func113.trans (congrArg some qZ)
 f20:=Tryz.func221.trans (congrArg some qZ)
 t0:=Tryz.underlying0
 a0:=Tryz.isAgg0
 z0:=Tryz.sizeOf0
 v0:=Tryz.zeroValue0
 i0:=by kernel_rfl
 t3:=Tryz.underlying3
 a3:=Tryz.isAgg3
 z3:=Tryz.sizeOf3
 v3:=Tryz.zeroValue3
 i3:=by kernel_rfl
 t4:=Tryz.underlying4
 a4:=Tryz.isAgg4
 z4:=Tryz.sizeOf4
 v4:=Tryz.zeroValue4
 i4:=by kernel_rfl
 t9:=Tryz.underlying9
 a9:=Tryz.isAgg9
 z9:=Tryz.sizeOf9
 v9:=Tryz.zeroValue9
 i9:=by kernel_rfl
 t21:=Tryz.underlying21
 a21:=Tryz.isAgg21
 z21:=Tryz.sizeOf21
 v21:=Tryz.zeroValue21
 i21:=by kernel_rfl
 t23:=Tryz.underlying162
 a23:=Tryz.isAgg162
 z23:=Tryz.sizeOf162
 v23:=Tryz.zeroValue162
 i23:=by kernel_rfl}
open Go.RowKit Go.Lib in
theorem Tryz.strings_ContainsFunc_runes (g:Nat)(lb:Array Value)(eg:∀args w,(callFunc g args).run Tryz.prog w= .ok (.enter g args) w)(p:Nat->Bool)(s:ByteArray)(w:World)(hp:PredAtRunes Tryz.prog g lb p w):
 Calls Tryz.prog 113 #[.string s,.func (.func g) #[] lb] w fun e w'=>e= .returned (.bool (decide (0<=Lib.idxFunc p true s)))/\Below w.heap.size w w':=Any.strings_ContainsFunc_runes Tryz.laysGw17 g lb eg p s w hp
def Tryz.lays99_ren:Go.Shelf.Ren:=⟨fun|99=>84|206=>135|n=>n,fun|9=>9|4=>4|3=>3|n=>n,fun|n=>n⟩
theorem Tryz.lays99:Go.Proofs.Lays.n99 Tryz.prog Tryz.lays99_ren:={
 mixed:=by kernel_rfl
 f99:=Tryz.func84.trans (congrArg some qZ)
 f206:=Tryz.func135.trans (congrArg some qZ)
 t3:=Tryz.underlying3
 a3:=Tryz.isAgg3
 z3:=Tryz.sizeOf3
 v3:=Tryz.zeroValue3
 t4:=Tryz.underlying4
 a4:=Tryz.isAgg4
 z4:=Tryz.sizeOf4
 v4:=Tryz.zeroValue4
 t9:=Tryz.underlying9
 a9:=Tryz.isAgg9
 z9:=Tryz.sizeOf9
 v9:=Tryz.zeroValue9}
open Go.RowKit Go.Lib in
theorem Tryz.strings_HasPrefix (s p:ByteArray)(w:World):
 Calls Tryz.prog 84 #[.string s,.string p] w fun e w'=>e= .returned (.bool (Lib.hasPrefix s.data.toList p.data.toList))/\w'=w:=Any.strings_HasPrefix Tryz.lays99 s p w
def Tryz.lays101_ren:Go.Shelf.Ren:=⟨fun|101=>82|208=>133|206=>135|n=>n,fun|9=>9|4=>4|3=>3|n=>n,fun|n=>n⟩
theorem Tryz.lays101:Go.Proofs.Lays.n101 Tryz.prog Tryz.lays101_ren:={
 mixed:=by kernel_rfl
 f101:=Tryz.func82.trans (congrArg some qZ)
 f206:=Tryz.func135.trans (congrArg some qZ)
 f208:=Tryz.func133.trans (congrArg some qZ)
 t3:=Tryz.underlying3
 a3:=Tryz.isAgg3
 z3:=Tryz.sizeOf3
 v3:=Tryz.zeroValue3
 t4:=Tryz.underlying4
 a4:=Tryz.isAgg4
 z4:=Tryz.sizeOf4
 v4:=Tryz.zeroValue4
 t9:=Tryz.underlying9
 a9:=Tryz.isAgg9
 z9:=Tryz.sizeOf9
 v9:=Tryz.zeroValue9}
open Go.RowKit Go.Lib in
theorem Tryz.strings_TrimPrefix (s p:ByteArray)(w:World):
 Calls Tryz.prog 82 #[.string s,.string p] w fun e w'=>e= .returned (.string ⟨(Lib.trimPrefix s.data.toList p.data.toList).toArray⟩)/\w'=w:=Any.strings_TrimPrefix Tryz.lays101 s p w
def Tryz.lays155_ren:Go.Shelf.Ren:=⟨fun|155=>75|154=>124|138=>186|165=>187|143=>65|166=>188|197=>189|169=>130|195=>226|218=>227|240=>193|241=>228|219=>98|260=>229|276=>232|277=>241|217=>171|225=>172|224=>173|267=>174|266=>218|314=>219|n=>n,fun|9=>9|3=>3|4=>4|72=>181|0=>0|76=>214|105=>210|21=>21|5=>5|70=>179|20=>20|37=>40|75=>119|127=>218|164=>254|46=>200|119=>267|139=>270|138=>269|146=>246|51=>206|80=>183|n=>n,fun|1=>0|3=>6|4=>7|n=>n⟩
theorem Tryz.lays155:Go.Proofs.Lays.n155 Tryz.prog Tryz.lays155_ren:={
 mixed:=by kernel_rfl
 f138:=Tryz.func186.trans (congrArg some qZ)
 f143:=Tryz.func65.trans (congrArg some qZ)
 f154:=Tryz.func124.trans (congrArg some qZ)
 f155:=Tryz.func75.trans (congrArg some qZ)
 f165:=Tryz.func187.trans (congrArg some qZ)
 f166:=Tryz.func188.trans (congrArg some qZ)
 f169:=Tryz.func130.trans (congrArg some qZ)
 f195:=Tryz.func226.trans (congrArg some qZ)
 f197:=Tryz.func189.trans (congrArg some qZ)
 f217:=Tryz.func171.trans (congrArg some qZ)
 f218:=Tryz.func227.trans (congrArg some qZ)
 f219:=Tryz.func98.trans (congrArg some qZ)
 f224:=Tryz.func173.trans (congrArg some qZ)
 f225:=Tryz.func172.trans (congrArg some qZ)
 f240:=Tryz.func193.trans (congrArg some qZ)
 f241:=Tryz.func228.trans (congrArg some qZ)
 f260:=Tryz.func229.trans (congrArg some qZ)
 f266:=Tryz.func218.trans (congrArg some qZ)
 f267:=Tryz.func174.trans (congrArg some qZ)
 f276:=Tryz.func232.trans (congrArg some qZ)
 f277:=Tryz.func241.trans (congrArg some qZ)
 f314:=Tryz.func219.trans (congrArg some qZ)
 t0:=Tryz.underlying0
 a0:=Tryz.isAgg0
 z0:=Tryz.sizeOf0
 v0:=Tryz.zeroValue0
 t3:=Tryz.underlying3
 a3:=Tryz.isAgg3
 z3:=Tryz.sizeOf3
 v3:=Tryz.zeroValue3
 t4:=Tryz.underlying4
 a4:=Tryz.isAgg4
 z4:=Tryz.sizeOf4
 v4:=Tryz.zeroValue4
 t5:=Tryz.underlying5
 a5:=Tryz.isAgg5
 z5:=Tryz.sizeOf5
 v5:=Tryz.zeroValue5
 t9:=Tryz.underlying9
 a9:=Tryz.isAgg9
 z9:=Tryz.sizeOf9
 v9:=Tryz.zeroValue9
 t20:=Tryz.underlying20
 a20:=Tryz.isAgg20
 z20:=Tryz.sizeOf20
 v20:=Tryz.zeroValue20
 t21:=Tryz.underlying21
 a21:=Tryz.isAgg21
 z21:=Tryz.sizeOf21
 v21:=Tryz.zeroValue21
 t37:=Tryz.underlying40
 a37:=Tryz.isAgg40
 z37:=Tryz.sizeOf40
 v37:=Tryz.zeroValue40
 t46:=Tryz.underlying200
 a46:=Tryz.isAgg200
 z46:=Tryz.sizeOf200
 v46:=Tryz.zeroValue200
 t51:=Tryz.underlying206
 a51:=Tryz.isAgg206
 z51:=Tryz.sizeOf206
 v51:=Tryz.zeroValue206
 t70:=Tryz.underlying179
 a70:=Tryz.isAgg179
 z70:=Tryz.sizeOf179
 v70:=Tryz.zeroValue179
 t72:=Tryz.underlying181
 a72:=Tryz.isAgg181
 z72:=Tryz.sizeOf181
 v72:=Tryz.zeroValue181
 t75:=Tryz.underlying119
 a75:=Tryz.isAgg119
 z75:=Tryz.sizeOf119
 v75:=Tryz.zeroValue119
 t76:=Tryz.underlying214
 a76:=Tryz.isAgg214
 z76:=Tryz.sizeOf214
 v76:=Tryz.zeroValue214
 t105:=Tryz.underlying210
 a105:=Tryz.isAgg210
 z105:=Tryz.sizeOf210
 v105:=Tryz.zeroValue210
 t119:=Tryz.underlying267
 a119:=Tryz.isAgg267
 z119:=Tryz.sizeOf267
 t127:=Tryz.underlying218
 a127:=Tryz.isAgg218
 z127:=Tryz.sizeOf218
 v127:=Tryz.zeroValue218
 t138:=Tryz.underlying269
 a138:=Tryz.isAgg269
 z138:=Tryz.sizeOf269
 v138:=Tryz.zeroValue269
 t139:=Tryz.underlying270
 a139:=Tryz.isAgg270
 z139:=Tryz.sizeOf270
 v139:=Tryz.zeroValue270
 t146:=Tryz.underlying246
 a146:=Tryz.isAgg246
 z146:=Tryz.sizeOf246
 v146:=Tryz.zeroValue246
 t164:=Tryz.underlying254
 a164:=Tryz.isAgg254
 z164:=Tryz.sizeOf254
 v164:=Tryz.zeroValue254
 g1:=by kernel_rfl
 g3:=by kernel_rfl
 g4:=by kernel_rfl}
theorem Tryz.Builder_Extra_155:Builder.Extra Tryz.prog Tryz.lays155_ren:={
 sizeBuilder:=by kernel_rfl
 liesBuilder:=by kernel_rfl
 t5:=Tryz.underlying5
 a5:=Tryz.isAgg5
 z5:=Tryz.sizeOf5
 v5:=Tryz.zeroValue5
 infoByte:=by kernel_rfl
 cellsByte:=by kernel_rfl
 sizeByte:=by kernel_rfl
 neB5:=by decide}
open Go.RowKit Go.Lib in
theorem Tryz.strings_ReplaceAll (s old new:ByteArray)(m:Int)(w:World)(hs:s.size<4294967281)(hm:w.cell? ⟨0,0,none⟩=some (.int .i64 m))(h1:1<=old.size)(hlen:s.size+Lib.countB s old*new.size<=140737488355328):
 Calls Tryz.prog 75 #[.string s,.string old,.string new] w fun e w'=>
  e= .returned (.string ⟨(Lib.replaceAll s.data.toList old.data.toList new.data.toList).toArray⟩)/\Below w.heap.size w w':=Any.strings_ReplaceAll Tryz.lays155 Tryz.Builder_Extra_155 s old new m w hs hm h1 hlen
def Tryz.lays111_ren:Go.Shelf.Ren:=⟨fun|111=>60|n=>n,fun|28=>41|3=>3|4=>4|0=>0|n=>n,fun|n=>n⟩
theorem Tryz.lays111:Go.Proofs.Lays.n111 Tryz.prog Tryz.lays111_ren:={
 mixed:=by kernel_rfl
 f111:=Tryz.func60.trans (congrArg some qZ)
 t0:=Tryz.underlying0
 a0:=Tryz.isAgg0
 z0:=Tryz.sizeOf0
 v0:=Tryz.zeroValue0
 t3:=Tryz.underlying3
 a3:=Tryz.isAgg3
 z3:=Tryz.sizeOf3
 v3:=Tryz.zeroValue3
 t4:=Tryz.underlying4
 a4:=Tryz.isAgg4
 z4:=Tryz.sizeOf4
 v4:=Tryz.zeroValue4
 t28:=Tryz.underlying41
 a28:=Tryz.isAgg41
 z28:=Tryz.sizeOf41
 v28:=Tryz.zeroValue41}
open Go.RowKit Go.Lib in
theorem Tryz.slices_Equal_int (b1 o1 n c b2 o2 m d:Nat)(xs ys:List Int)(w:World)(hx:n<=xs.length)(hy:m<=ys.length)(hbig:n<=9223372036854775807)(hbig2:m<=9223372036854775807)(hc1:∀j,j<xs.length->w.cell? ⟨b1,o1+j,none⟩=some (.int .i64 (xs.getD j 0)))(hc2:∀j,j<ys.length->w.cell? ⟨b2,o2+j,none⟩=some (.int .i64 (ys.getD j 0))):
 Calls Tryz.prog 60 #[.slice (some ⟨b1,o1,none⟩) n c,.slice (some ⟨b2,o2,none⟩) m d] w fun e w'=>e= .returned (.bool (xs.take n==ys.take m))/\∃q,w'=w.drewN q:=Any.slices_Equal_int Tryz.lays111 b1 o1 n c b2 o2 m d xs ys w hx hy hbig hbig2 hc1 hc2
open Go.RowKit Go.Lib in
theorem Tryz.slices_Equal_int_empty (a1 a2:Option Addr)(c m d:Nat)(w:World)(hbig2:m<=9223372036854775807):
 Calls Tryz.prog 60 #[.slice a1 0 c,.slice a2 m d] w fun e w'=>e= .returned (.bool (decide (m=0)))/\w'=w:=Any.slices_Equal_int_empty Tryz.lays111 a1 a2 c m d w hbig2
end Go.Proofs
