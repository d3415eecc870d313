import Derived.Shelf.Small.Strs
import Derived.Shelf.Strings.BuilderK
import Derived.Shelf.Strings.Builder2Cap
import Derived.Shelf.Strconv.Itoa3
import Derived.Shelf.Strconv.ParseIntPublic10
import Derived.Shelf.Strings.Cut
import Derived.Shelf.GgClosure.StringsIndexFuncTop
import Derived.Shelf.Strings.Prefix
import Derived.Shelf.Strings.Replace
import Derived.Shelf.Unicode.DecodeLast
import Derived.Test.YtgfakdobajgnfaaGreatDoorQk4
set_option maxRecDepth 100000
set_option maxHeartbeats 16000000
namespace Go.Proofs.YtgfakdobajgnfaaGreatDoor
open Go Go.RowKit
theorem lU (w:World):(binOp BinOp.eql 20 .nilIface .nilIface).run Tryz.prog w= .ok (.bool true) w:=by kernel_rfl
theorem Y4 (c:Int)(w:World):(binOp BinOp.eql 20 (.iface 131 (.int .i64 c)) .nilIface).run Tryz.prog w= .ok (.bool false) w:=by kernel_rfl
theorem mI (c:Int)(w:World):(Instr.typeAssert (.iface 131 (.int .i64 c)) 20 131 true).run Tryz.prog w= .ok (.tuple #[.int .i64 c,.bool true]) w:=by kernel_rfl
theorem G6 {w:World}{b:Nat}{x:Value}{t:TypeId}(h:w.heap[b]? =some (.cells #[x] t (0,0))):w.cell? ⟨b,0,none⟩=some x/\w.frozen? ⟨b,0,none⟩=false:=
 ⟨by simp only[World.cell?,h];rfl,by simp only[World.frozen?,h];simp⟩
theorem Wk (w:World)(c d e f g:Obj):((((((w.alloc c).alloc d).alloc e).alloc f).alloc g).heap[w.heap.size]? =some c/\(((((w.alloc c).alloc d).alloc e).alloc f).alloc g).heap[w.heap.size+1]? =some d/\(((((w.alloc c).alloc d).alloc e).alloc f).alloc g).heap[w.heap.size+1+1]? =some e/\
 (((((w.alloc c).alloc d).alloc e).alloc f).alloc g).heap[w.heap.size+1+1+1]? =some f/\(((((w.alloc c).alloc d).alloc e).alloc f).alloc g).heap[w.heap.size+1+1+1+1]? =some g):=by
 have m:(w.alloc c).heap.size=w.heap.size+1:=by simp
 have n:((w.alloc c).alloc d).heap.size=w.heap.size+1+1:=by simp
 have o:(((w.alloc c).alloc d).alloc e).heap.size=w.heap.size+1+1+1:=by simp
 have p:((((w.alloc c).alloc d).alloc e).alloc f).heap.size=w.heap.size+1+1+1+1:=by simp
 have q:=Az w c;have h:=Az (w.alloc c) d;have i:=Az ((w.alloc c).alloc d) e;have j:=Az (((w.alloc c).alloc d).alloc e) f;have k:=Az ((((w.alloc c).alloc d).alloc e).alloc f) g;rw[m] at h;rw[n] at i;rw[o] at j;rw[p] at k;refine⟨?_,?_,?_,?_,k⟩
 ·rw[Below.heap_alloc _ _ _ rF,Below.heap_alloc _ _ _ rF,Below.heap_alloc _ _ _ rF,Below.heap_alloc _ _ _ rF];exact q
 ·rw[Below.heap_alloc _ _ _ rF,Below.heap_alloc _ _ _ rF,Below.heap_alloc _ _ _ rF];exact h
 ·rw[Below.heap_alloc _ _ _ rF,Below.heap_alloc _ _ _ rF];exact i
 rw[Below.heap_alloc _ _ _ rF];exact j
theorem cJ (a b c d x:Value):(#[a,b,c,d]++(Array.replicate 14 undef).setIfInBounds 3 x)= #[a,b,c,d,undef,undef,undef,x,undef,undef,undef,undef,undef,undef,undef,undef,undef,undef]:=rfl
theorem Sc (f g h i:Addr)(w:World):
 CallsD Tryz.prog 88 #[.pointer (some f),.pointer (some g),.pointer (some h),.pointer (some i)] .returning w fun e u' w'=>e= .returned (.tuple #[])/\u'= .returning/\w'=w:=by
 have c:=lU;refine callsD_of_wpS Tryz.func88 rfl fun j cs d=>?_
 apply wpS_seq;apply wpS_region;simp [wpOpsS,go_sem,recoverD,d,Tryz.ntmps88,Exit.thenS];refine wpS_of_wp ?_;rw[cJ];go_wp2_with fail;refine⟨rfl,.returning,?_,.tuple #[],?_,rfl,rfl,rfl⟩
 ·rw[←d]
 simp [results,Tryz.results88,go_sem]
theorem aT (b d f g j:Nat)(h:Int)(c:List PanicEntry)(i:Int)(w:World)(y:w.cell? ⟨j,0,none⟩=some (.pointer (some ⟨b,0,none⟩)))(A:w.cell? ⟨b,1,none⟩=some (.int .i64 i))
 (k m n:Value) (C:w.cell? ⟨d,0,none⟩=some k) (D:w.cell? ⟨f,0,none⟩=some m) (E:w.cell? ⟨g,0,none⟩=some n) (F:w.frozen? ⟨d,0,none⟩=false) (G:w.frozen? ⟨f,0,none⟩=false) (I:w.frozen? ⟨g,0,none⟩=false)
 (o:¬d=f) (p:¬d=g) (q:¬f=g):
 CallsD Tryz.prog 88 #[.pointer (some ⟨j,0,none⟩),.pointer (some ⟨d,0,none⟩),.pointer (some ⟨f,0,none⟩),.pointer (some ⟨g,0,none⟩)] (.panicking ({v:= .iface 131 (.int .i64 h),recovered:=false}::c)) w fun e u' w'=>
  e= .returned (.tuple #[])/\u'= .panicking ({v:= .iface 131 (.int .i64 h),recovered:=true}::c)/\w'=((w.setCell ⟨d,0,none⟩ (.slice none 0 0)).setCell ⟨f,0,none⟩ (.int .i64 i)).setCell ⟨g,0,none⟩ (.int .i64 h):=by
 have r:=Y4 h;have u:=mI h;refine callsD_of_wpS Tryz.func88 rfl fun L cs x=>?_
 apply wpS_seq;apply wpS_region;simp [wpOpsS,go_sem,recoverD,x,Tryz.ntmps88,Exit.thenS];refine wpS_of_wp ?_;rw[cJ];go_wp2_with fail;refine⟨rfl,_,rfl,.tuple #[],?_,rfl,rfl,rfl⟩;simp [results,Tryz.results88,go_sem]
def Qh (w:World)(ts:List Tkn)(n:Nat)(x:ExR)(e:Ending)(w':World):Prop:=
 Below w.heap.size w w'/\match x with
  | .error p=>e= .returned (.tuple #[.slice none 0 0,.int .i64 ((ts.length - p.2.length:Nat):Int),.int .i64 p.1])
  | .ok p=>if 60<p.1.size then e= .returned (.tuple #[.slice none 0 0,.int .i64 (n:Int),.int .i64 7]) else
   ∃v,e= .returned (.tuple #[v,.int .i64 ((ts.length - p.2.length:Nat):Int),.int .i64 0])/\Hh w' w.heap.size [] v (p.1.flat 0)
theorem aM {w:World}{vl:Value}{ts:List Tkn}(ht:Ih w vl ts)(hn:∀t∈ts,t.w.k=1->t.w.t≠[40])(U:ts.length<=1000000)(n:Nat)(k8:n<=ts.length):
 Calls Tryz.prog 53 #[vl,.int .i64 (n:Int)] w (Qh w ts n (Bc 0 0 (ts.drop n))):=by
 obtain⟨V,W,rfl⟩:=ht.form;have l7:∀(fn:Fn) (first cap:Array Value) (w:World),(Instr.makeFunc fn first cap).run Tryz.prog w= .ok (.func fn first cap) w:=fun _ _ _ _=>rfl
 have i0:¬((n:Int)<0):=by omega
 have i1:¬((ts.length:Int)<(n:Int)):=by omega
 have i2:decide ((n:Int)<0)=false:=by simp
 have i3:decide ((ts.length:Int)<(n:Int))=false:=by simp;omega
 obtain⟨x,O⟩:∃x,Bc 0 0 (ts.drop n)=x:=⟨_,rfl⟩;rw[O];obtain⟨g,I⟩:∃g,((((w.alloc (.cells #[.slice none 0 0] 31)).alloc (.cells #[.int .i64 0] 3)).alloc (.cells #[.int .i64 0] 27)).alloc (.cells #[.slice V ts.length W,.int .i64 (n:Int),.int .i64 0,.slice none 0 0] 130)).alloc (.cells #[.pointer (some ⟨w.heap.size+1+1+1,0,none⟩)] 128)=g:=⟨_,rfl⟩
 have y:Below w.heap.size w g:=by
  rw[←I];exact(((((Aq _ w).alloc (Ak _) _).alloc rI _).alloc rM _).alloc rM _).alloc rM _
 obtain⟨q0,q1,q2,q3,q4⟩:g.heap[w.heap.size]? =some (.cells #[.slice none 0 0] 31 (0,0))/\g.heap[w.heap.size+1]? =some (.cells #[.int .i64 0] 3 (0,0))/\g.heap[w.heap.size+1+1]? =some (.cells #[.int .i64 0] 27 (0,0))/\
  g.heap[w.heap.size+1+1+1]? =some (.cells #[.slice V ts.length W,.int .i64 (n:Int),.int .i64 0,.slice none 0 0] 130 (0,0))/\g.heap[w.heap.size+1+1+1+1]? =some (.cells #[.pointer (some ⟨w.heap.size+1+1+1,0,none⟩)] 128 (0,0)):=by
  rw[←I];exact Wk w _ _ _ _ _
 have D:ts.length - (ts.drop n).length=n:=by rw[List.length_drop];omega
 have hR:Cy g w.heap.size [w.heap.size+1] (w.heap.size+1+1+1) (.slice V ts.length W) ts (ts.drop n) 0 (.slice none 0 0) []:=
  ⟨⟨n,rfl⟩,ht.below y,hn,ht.lt,by omega,fun x h=>(by simp at h;subst h;have:=Ay q1;exact this),by omega,U,by simp only[List.length_nil,List.length_drop];omega,by rw[D];exact q3,[],World.ownsRow_nil _ _ _ _,trivial⟩
 have hc:=dK w.heap.size (w.heap.size+1+1+1) (.slice V ts.length W) ts _ [w.heap.size+1] 0 0 (ts.drop n) g (.slice none 0 0) [] rF (Nat.lt_succ_self _) hR y.size;rw[O] at hc;have Hc:Hid (Calls Tryz.prog 89 #[.pointer (some ⟨w.heap.size+1+1+1,0,none⟩),.int .i64 0] g (B5 g w.heap.size [w.heap.size+1] (w.heap.size+1+1+1) (.slice V ts.length W) ts 0 (.slice none 0 0) [] x)):=Ax hc;have A:=Ax y;have i:=fun{p:Nat} {cs:Array Value} {T:TypeId} (h:g.heap[p]? =some (.cells cs T (0,0))) (h1:130≠T) (h2:43≠T)=>hR.apart h h1 h2
 have E:=Ax (And.intro q0 (i q0 rH rH));have F:=Ax (And.intro q1 (i q1 rH rH));have G:=Ax (And.intro q2 (i q2 rH rH));have R:=Ax (And.intro q4 (i q4 rH rH));clear y q0 q1 q2 q3 q4 hR hc D i;subst I;have i6:=Hc.out;clear i6;go_enter_defers Tryz.func53,Tryz.ntmps53;go_wp2_with fail;refine Hc.out.mono ?_;rintro e L hp;cases x with
 |error p=>
  obtain⟨er,q⟩:=p;obtain⟨rfl,⟨dd,vv,X⟩,c⟩:=hp;obtain⟨a0,Y⟩:=G6 (c.cells_of E.out.1 E.out.2);obtain⟨a1,Z⟩:=G6 (c.cells_of F.out.1 F.out.2);obtain⟨a2,a8⟩:=G6 (c.cells_of G.out.1 G.out.2);obtain⟨a4,_⟩:=G6 (c.cells_of R.out.1 R.out.2);obtain⟨_,b1,_⟩:=Dn X;have j:Below w.heap.size w L:=Bq A.out c (by simp [Value.ownBlock];omega) (by have:=A.out.size;exact this);have o:=Ax j;have hq:ts.length - q.length=ts.length - q.length:=rfl;obtain⟨m,d⟩:∃m,ts.length - q.length=m:=⟨_,rfl⟩;rw[d] at b1;have Hm:=Ax d;clear X c j hq d O E F G R;go_wp2_with fail;refine leaves_cons (f:=88) (args:= #[.pointer (some ⟨w.heap.size+1+1+1+1,0,none⟩),.pointer (some ⟨w.heap.size,0,none⟩),.pointer (some ⟨w.heap.size+1,0,none⟩),.pointer (some ⟨w.heap.size+1+1,0,none⟩)]) rI (by simp [go_sem]) ?_;refine(aT (w.heap.size+1+1+1) w.heap.size (w.heap.size+1) (w.heap.size+1+1) (w.heap.size+1+1+1+1) er [] (m:Int) L a4 b1 _ _ _ a0 a1 a2 Y Z a8 rF rF rF).mono ?_;rintro e u' b7 ⟨rfl,rfl,rfl⟩;refine⟨.tuple #[.slice none 0 0,.int .i64 (m:Int),.int .i64 er],?_,?_⟩
  ·simp [results,Tryz.results53,go_sem, *]
  refine⟨((o.out.setCell (Ak _) _).setCell rI _).setCell rM _,?_⟩;rw[←Hm.out]
 |ok p=>
  obtain⟨a,q⟩:=p;obtain⟨rfl,v1,u,b8⟩:=hp;have c:=b8.only;obtain⟨a0,Y⟩:=G6 (c.cells_of E.out.1 E.out.2);obtain⟨a1,Z⟩:=G6 (c.cells_of F.out.1 F.out.2);obtain⟨a2,a8⟩:=G6 (c.cells_of G.out.1 G.out.2);obtain⟨a4,_⟩:=G6 (c.cells_of R.out.1 R.out.2);obtain⟨_,b1,_,b3,_⟩:=Dn u.blk;have j:Below w.heap.size w L:=Bq A.out c (by simp [Value.ownBlock];omega) (by have:=A.out.size;exact this);obtain⟨i7,C,M⟩:=u.tree;obtain⟨la,lc,rfl⟩:=D8 C;simp only[List.nil_append,List.length_nil,Ex.flat_len] at b3 C u M;have d8:Hh L w.heap.size [w.heap.size+1] (.slice la a.size lc) (a.flat 0):=⟨i7,by rw[Ex.flat_len];exact C,M⟩;have f7:=u.few;rw[Ex.flat_len] at f7;have o:=Ax j;have j8:=Ax d8;have f8:=Ax (c.cells_of E.out.1 E.out.2);have j9:=Ax (c.cells_of F.out.1 F.out.2);have f9:=Ax (c.cells_of G.out.1 G.out.2);obtain⟨m,d⟩:∃m,ts.length - q.length=m:=⟨_,rfl⟩;rw[d] at b1;have Hm:=Ax d;clear u b8 c j C M d8 d O E F G R;by_cases h60:60<a.size
  ·have j1:decide ((60:Int)<(a.size:Int))=true:=by simp;omega
   have j2:(60:Int)<(a.size:Int):=by omega
   have N:=Ax h60;clear h60;go_wp2_with fail;refine leaves_cons (f:=88) (args:= #[.pointer (some ⟨w.heap.size+1+1+1+1,0,none⟩),.pointer (some ⟨w.heap.size,0,none⟩),.pointer (some ⟨w.heap.size+1,0,none⟩),.pointer (some ⟨w.heap.size+1+1,0,none⟩)]) rI (by simp [go_sem]) ?_;refine(Sc _ _ _ _ _).mono ?_;rintro e u' b7 ⟨rfl,rfl,rfl⟩;refine⟨.tuple #[.slice none 0 0,.int .i64 (n:Int),.int .i64 7],?_,?_⟩
   ·simp [results,Tryz.results53,go_sem, *]
   refine⟨((o.out.setCell (Ak _) _).setCell rI _).setCell rM _,?_⟩
   show(if 60<a.size then _ else _)
   rw[Ap N.out]
  have j1:decide ((60:Int)<(a.size:Int))=false:=by simp;omega
  have j2:(a.size:Int)<=60:=by omega
  have N:=Ax h60;clear h60;go_wp2_with fail;go_region;go_wp2_with fail;refine leaves_cons (f:=88) (args:= #[.pointer (some ⟨w.heap.size+1+1+1+1,0,none⟩),.pointer (some ⟨w.heap.size,0,none⟩),.pointer (some ⟨w.heap.size+1,0,none⟩),.pointer (some ⟨w.heap.size+1+1,0,none⟩)]) rI (by simp [go_sem]) ?_;refine(Sc _ _ _ _ _).mono ?_;rintro e u' b7 ⟨rfl,rfl,rfl⟩;refine⟨.tuple #[.slice la a.size lc,.int .i64 (m:Int),.int .i64 0],?_,?_⟩
  ·simp [results,Tryz.results53,go_sem, *]
  have hO:Bb [w.heap.size,w.heap.size+1,w.heap.size+1+1] L ((((L.setCell ⟨w.heap.size,0,none⟩ (.slice la a.size lc)).setCell ⟨w.heap.size+1,0,none⟩ (.int .i64 (m:Int))).setCell ⟨w.heap.size+1+1,0,none⟩ (.int .i64 0)).drew):=
   Bb.drew ((((Bb.refl _ L).setCell (.inl rI) _).setCell (.inl rI) _).setCell (.inl rI) _)
  refine⟨Bq o.out hO rM o.out.size,?_⟩
  show(if 60<a.size then _ else _)
  rw[Ao N.out];refine⟨_,by rw[←Hm.out],j8.out.imp (fun _ r=>Bj r hO fun k e d=>?_) fun v n xs O r=>⟨Bj r hO fun k e d=>?_,fun _ _ d=>(by cases d)⟩⟩
  ·simp only[List.mem_cons,List.not_mem_nil,or_false] at d;rcases d with rfl|rfl|rfl
   ·exact Bh r f8.out rH e
   ·exact Bh r j9.out rH e
   exact Bh r f9.out rH e
  simp only[List.mem_cons,List.not_mem_nil,or_false] at d;rcases d with rfl|rfl|rfl
  ·exact Bh r f8.out rH e
  ·exact O _ e rI
  exact Bh r f9.out rH e
end Go.Proofs.YtgfakdobajgnfaaGreatDoor
namespace Go.Proofs
open Go.Shelf
def Tryz.lays169_ren:Go.Shelf.Ren:=⟨fun|169=>130|n=>n,fun|70=>179|9=>9|0=>0|72=>181|37=>40|127=>218|3=>3|5=>5|n=>n,fun|n=>n⟩
theorem Tryz.lays169:Go.Proofs.Lays.n169 Tryz.prog Tryz.lays169_ren:={
 mixed:=by kernel_rfl
 f169:=Tryz.func130.trans (Ar some rG)
 t0:=Tryz.underlying0
 a0:=Tryz.isAgg0
 z0:=Tryz.sizeOf0
 v0:=Tryz.zeroValue0
 t3:=Tryz.underlying3
 a3:=Tryz.isAgg3
 z3:=Tryz.sizeOf3
 v3:=Tryz.zeroValue3
 t9:=Tryz.underlying9
 a9:=Tryz.isAgg9
 z9:=Tryz.sizeOf9
 v9:=Tryz.zeroValue9
 t37:=Tryz.underlying40
 a37:=Tryz.isAgg40
 z37:=Tryz.sizeOf40
 v37:=Tryz.zeroValue40
 t70:=Tryz.underlying179
 a70:=Tryz.isAgg179
 z70:=Tryz.sizeOf179
 v70:=Tryz.zeroValue179
 t72:=Tryz.underlying181
 a72:=Tryz.isAgg181
 z72:=Tryz.sizeOf181
 v72:=Tryz.zeroValue181
 t127:=Tryz.underlying218
 a127:=Tryz.isAgg218
 z127:=Tryz.sizeOf218
 v127:=Tryz.zeroValue218}
theorem Tryz.Builder_Extra_169:Builder.Extra Tryz.prog Tryz.lays169_ren:={
 sizeBuilder:=by kernel_rfl
 liesBuilder:=by kernel_rfl
 t5:=Tryz.underlying5
 a5:=Tryz.isAgg5
 z5:=Tryz.sizeOf5
 v5:=Tryz.zeroValue5
 infoByte:=by kernel_rfl
 cellsByte:=by kernel_rfl
 sizeByte:=by kernel_rfl
 neB5:=by decide}
open Go.RowKit in
theorem Tryz.Builder_String_any (B b:Nat)(l:List UInt8)(w:World)(h:Lib.IsBuilder 181 5 B b (Lib.byteCells l) w)(c:B<=w.heap.size):
 Calls Tryz.prog 130 #[.pointer (some ⟨b,0,none⟩)] w fun e w'=>e= .returned (.string ⟨l.toArray⟩)/\Below B w w':=Any.Builder_String_any Tryz.lays169 Tryz.Builder_Extra_169 B b l w h c
def Tryz.lays156_ren:Go.Shelf.Ren:=⟨fun|156=>169|165=>187|166=>188|169=>130|240=>193|241=>228|276=>232|277=>241|n=>n,fun|31=>39|9=>9|3=>3|4=>4|0=>0|20=>20|72=>181|76=>214|70=>179|37=>40|75=>119|127=>218|164=>254|5=>5|80=>183|n=>n,fun|n=>n⟩
theorem Tryz.lays156:Go.Proofs.Lays.n156 Tryz.prog Tryz.lays156_ren:={
 mixed:=by kernel_rfl
 f156:=Tryz.func169.trans (Ar some rG)
 f165:=Tryz.func187.trans (Ar some rG)
 f166:=Tryz.func188.trans (Ar some rG)
 f169:=Tryz.func130.trans (Ar some rG)
 f240:=Tryz.func193.trans (Ar some rG)
 f241:=Tryz.func228.trans (Ar some rG)
 f276:=Tryz.func232.trans (Ar some rG)
 f277:=Tryz.func241.trans (Ar some rG)
 t0:=Tryz.underlying0
 a0:=Tryz.isAgg0
 z0:=Tryz.sizeOf0
 v0:=Tryz.zeroValue0
 t3:=Tryz.underlying3
 a3:=Tryz.isAgg3
 z3:=Tryz.sizeOf3
 v3:=Tryz.zeroValue3
 t4:=Tryz.underlying4
 a4:=Tryz.isAgg4
 z4:=Tryz.sizeOf4
 v4:=Tryz.zeroValue4
 t9:=Tryz.underlying9
 a9:=Tryz.isAgg9
 z9:=Tryz.sizeOf9
 v9:=Tryz.zeroValue9
 t20:=Tryz.underlying20
 a20:=Tryz.isAgg20
 z20:=Tryz.sizeOf20
 v20:=Tryz.zeroValue20
 t31:=Tryz.underlying39
 a31:=Tryz.isAgg39
 z31:=Tryz.sizeOf39
 v31:=Tryz.zeroValue39
 t37:=Tryz.underlying40
 a37:=Tryz.isAgg40
 z37:=Tryz.sizeOf40
 v37:=Tryz.zeroValue40
 t70:=Tryz.underlying179
 a70:=Tryz.isAgg179
 z70:=Tryz.sizeOf179
 v70:=Tryz.zeroValue179
 t72:=Tryz.underlying181
 a72:=Tryz.isAgg181
 z72:=Tryz.sizeOf181
 v72:=Tryz.zeroValue181
 t75:=Tryz.underlying119
 a75:=Tryz.isAgg119
 z75:=Tryz.sizeOf119
 v75:=Tryz.zeroValue119
 t76:=Tryz.underlying214
 a76:=Tryz.isAgg214
 z76:=Tryz.sizeOf214
 v76:=Tryz.zeroValue214
 t127:=Tryz.underlying218
 a127:=Tryz.isAgg218
 z127:=Tryz.sizeOf218
 v127:=Tryz.zeroValue218
 t164:=Tryz.underlying254
 a164:=Tryz.isAgg254
 z164:=Tryz.sizeOf254
 v164:=Tryz.zeroValue254}
theorem Tryz.Builder_Extra_156:Builder.Extra Tryz.prog Tryz.lays156_ren:={
 sizeBuilder:=by kernel_rfl
 liesBuilder:=by kernel_rfl
 t5:=Tryz.underlying5
 a5:=Tryz.isAgg5
 z5:=Tryz.sizeOf5
 v5:=Tryz.zeroValue5
 infoByte:=by kernel_rfl
 cellsByte:=by kernel_rfl
 sizeByte:=by kernel_rfl
 neB5:=by decide}
open Go.RowKit in
theorem Tryz.strings_Join_none (a:Option Addr)(c:Nat)(d:ByteArray)(w:World):
 Calls Tryz.prog 169 #[.slice a 0 c,.string d] w fun e w'=>e= .returned (.string ⟨#[]⟩)/\w'=w:=Any.strings_Join_none Tryz.lays156 Tryz.Builder_Extra_156 a c d w
open Go.RowKit in
theorem Tryz.strings_Join (k o c:Nat)(g:List ByteArray)(d:ByteArray)(w:World)(f:∀(j:Nat) x,g[j]? =some x->w.cell? ⟨k,o+j,none⟩=some (.string x))(m:k<w.heap.size)(n:g.length<=140737488355328)(h:g.length<=c)(i:(Lib.join (g.map (·.data.toList)) d.data.toList).length<=140737488355328):
 Calls Tryz.prog 169 #[.slice (some ⟨k,o,none⟩) g.length c,.string d] w fun e w'=>e= .returned (.string ⟨(Lib.join (g.map (·.data.toList)) d.data.toList).toArray⟩)/\Below w.heap.size w w':=Any.strings_Join Tryz.lays156 Tryz.Builder_Extra_156 k o c g d w f m n h i
def Tryz.lays162_ren:Go.Shelf.Ren:=⟨fun|162=>74|232=>120|227=>121|234=>122|236=>123|228=>183|271=>184|151=>185|120=>224|197=>189|152=>225|260=>229|137=>200|119=>240|224=>173|225=>172|217=>171|266=>218|n=>n,fun|9=>9|4=>4|3=>3|5=>5|117=>171|116=>170|0=>0|124=>174|21=>21|105=>210|46=>200|119=>267|139=>270|138=>269|n=>n,fun|3=>6|4=>7|n=>n⟩
theorem Tryz.lays162:Go.Proofs.Lays.n162 Tryz.prog Tryz.lays162_ren:={
 mixed:=by kernel_rfl
 f119:=Tryz.func240.trans (Ar some rG)
 f120:=Tryz.func224.trans (Ar some rG)
 f137:=Tryz.func200.trans (Ar some rG)
 f151:=Tryz.func185.trans (Ar some rG)
 f152:=Tryz.func225.trans (Ar some rG)
 f162:=Tryz.func74.trans (Ar some rG)
 f197:=Tryz.func189.trans (Ar some rG)
 f217:=Tryz.func171.trans (Ar some rG)
 f224:=Tryz.func173.trans (Ar some rG)
 f225:=Tryz.func172.trans (Ar some rG)
 f227:=Tryz.func121.trans (Ar some rG)
 f228:=Tryz.func183.trans (Ar some rG)
 f232:=Tryz.func120.trans (Ar some rG)
 f234:=Tryz.func122.trans (Ar some rG)
 f236:=Tryz.func123.trans (Ar some rG)
 f260:=Tryz.func229.trans (Ar some rG)
 f266:=Tryz.func218.trans (Ar some rG)
 f271:=Tryz.func184.trans (Ar some rG)
 t0:=Tryz.underlying0
 a0:=Tryz.isAgg0
 z0:=Tryz.sizeOf0
 v0:=Tryz.zeroValue0
 t3:=Tryz.underlying3
 a3:=Tryz.isAgg3
 z3:=Tryz.sizeOf3
 v3:=Tryz.zeroValue3
 t4:=Tryz.underlying4
 a4:=Tryz.isAgg4
 z4:=Tryz.sizeOf4
 v4:=Tryz.zeroValue4
 t5:=Tryz.underlying5
 a5:=Tryz.isAgg5
 z5:=Tryz.sizeOf5
 v5:=Tryz.zeroValue5
 t9:=Tryz.underlying9
 a9:=Tryz.isAgg9
 z9:=Tryz.sizeOf9
 v9:=Tryz.zeroValue9
 t21:=Tryz.underlying21
 a21:=Tryz.isAgg21
 z21:=Tryz.sizeOf21
 v21:=Tryz.zeroValue21
 t46:=Tryz.underlying200
 a46:=Tryz.isAgg200
 z46:=Tryz.sizeOf200
 v46:=Tryz.zeroValue200
 t105:=Tryz.underlying210
 a105:=Tryz.isAgg210
 z105:=Tryz.sizeOf210
 v105:=Tryz.zeroValue210
 t116:=Tryz.underlying170
 a116:=Tryz.isAgg170
 z116:=Tryz.sizeOf170
 t117:=Tryz.underlying171
 a117:=Tryz.isAgg171
 z117:=Tryz.sizeOf171
 v117:=Tryz.zeroValue171
 t119:=Tryz.underlying267
 a119:=Tryz.isAgg267
 z119:=Tryz.sizeOf267
 t124:=Tryz.underlying174
 a124:=Tryz.isAgg174
 z124:=Tryz.sizeOf174
 v124:=Tryz.zeroValue174
 t138:=Tryz.underlying269
 a138:=Tryz.isAgg269
 z138:=Tryz.sizeOf269
 v138:=Tryz.zeroValue269
 t139:=Tryz.underlying270
 a139:=Tryz.isAgg270
 z139:=Tryz.sizeOf270
 v139:=Tryz.zeroValue270
 g3:=by kernel_rfl
 g4:=by kernel_rfl}
open Go.RowKit in
theorem Tryz.strings_TrimRight_one (s:ByteArray)(c:UInt8)(d:c.toNat<128)(w:World)(f:s.size<=9223372036854775807):
 Calls Tryz.prog 74 #[.string s,.string ⟨#[c]⟩] w fun e w'=>e= .returned (.string ⟨(Lib.trimRightB s.data.toList c).toArray⟩)/\w'=w:=Any.strings_TrimRight_one Tryz.lays162 s c d w f
def Tryz.lays137_ren:Go.Shelf.Ren:=⟨fun|137=>200|217=>171|266=>218|n=>n,fun|9=>9|5=>5|3=>3|n=>n,fun|n=>n⟩
theorem Tryz.lays137:Go.Proofs.Lays.n137 Tryz.prog Tryz.lays137_ren:={
 mixed:=by kernel_rfl
 f137:=Tryz.func200.trans (Ar some rG)
 f217:=Tryz.func171.trans (Ar some rG)
 f266:=Tryz.func218.trans (Ar some rG)
 t3:=Tryz.underlying3
 a3:=Tryz.isAgg3
 z3:=Tryz.sizeOf3
 v3:=Tryz.zeroValue3
 t5:=Tryz.underlying5
 a5:=Tryz.isAgg5
 z5:=Tryz.sizeOf5
 v5:=Tryz.zeroValue5
 t9:=Tryz.underlying9
 a9:=Tryz.isAgg9
 z9:=Tryz.sizeOf9
 v9:=Tryz.zeroValue9}
open Go.RowKit in
theorem Tryz.strings_IndexByte (s:ByteArray)(c:Int)(w:World):
 Calls Tryz.prog 200 #[.string s,.int .u8 c] w fun e w'=>e= .returned (.int .i64 (Lib.indexByte s.data.toList c.toNat.toUInt8))/\w'=w:=Any.strings_IndexByte Tryz.lays137 s c w
def Tryz.lays121_ren:Go.Shelf.Ren:=⟨fun|121=>46|214=>76|n=>n,fun|4=>4|9=>9|n=>n,fun|n=>n⟩
theorem Tryz.lays121:Go.Proofs.Lays.n121 Tryz.prog Tryz.lays121_ren:={
 mixed:=by kernel_rfl
 f121:=Tryz.func46.trans (Ar some rG)
 f214:=Tryz.func76.trans (Ar some rG)
 t4:=Tryz.underlying4
 a4:=Tryz.isAgg4
 z4:=Tryz.sizeOf4
 v4:=Tryz.zeroValue4
 t9:=Tryz.underlying9
 a9:=Tryz.isAgg9
 z9:=Tryz.sizeOf9
 v9:=Tryz.zeroValue9}
open Go.RowKit in
theorem Tryz.strconv_FormatBool (b:Bool)(w:World):
 Calls Tryz.prog 46 #[.bool b] w fun e w'=>e= .returned (.string ⟨(Lib.formatBool b).toArray⟩)/\w'=w:=Any.strconv_FormatBool Tryz.lays121 b w
def Tryz.laysM173_ren:Go.Shelf.Ren:=⟨fun|173=>43|246=>73|283=>116|284=>117|285=>118|286=>119|129=>179|317=>178|318=>180|319=>181|320=>182|337=>222|338=>223|n=>n,fun|2=>2|3=>3|9=>9|4=>4|171=>163|0=>0|53=>55|37=>40|5=>5|173=>166|212=>205|51=>206|20=>20|213=>207|46=>200|232=>264|233=>265|n=>n,fun|17=>1|18=>4|19=>5|n=>n⟩
theorem Tryz.laysM173:Go.Proofs.LaysM.n173 Tryz.prog Tryz.laysM173_ren:={
 mixed:=by kernel_rfl
 f129:=Tryz.func179.trans (Ar some rG)
 f173:=Tryz.func43.trans (Ar some rG)
 f246:=Tryz.func73.trans (Ar some rG)
 f283:=Tryz.func116.trans (Ar some rG)
 f284:=Tryz.func117.trans (Ar some rG)
 f285:=Tryz.func118.trans (Ar some rG)
 f286:=Tryz.func119.trans (Ar some rG)
 f317:=Tryz.func178.trans (Ar some rG)
 f318:=Tryz.func180.trans (Ar some rG)
 f319:=Tryz.func181.trans (Ar some rG)
 f320:=Tryz.func182.trans (Ar some rG)
 f337:=Tryz.func222.trans (Ar some rG)
 f338:=Tryz.func223.trans (Ar some rG)
 t0:=Tryz.underlying0
 a0:=Tryz.isAgg0
 z0:=Tryz.sizeOf0
 v0:=Tryz.zeroValue0
 t2:=Tryz.underlying2
 a2:=Tryz.isAgg2
 z2:=Tryz.sizeOf2
 v2:=Tryz.zeroValue2
 t3:=Tryz.underlying3
 a3:=Tryz.isAgg3
 z3:=Tryz.sizeOf3
 v3:=Tryz.zeroValue3
 t4:=Tryz.underlying4
 a4:=Tryz.isAgg4
 z4:=Tryz.sizeOf4
 v4:=Tryz.zeroValue4
 t5:=Tryz.underlying5
 a5:=Tryz.isAgg5
 z5:=Tryz.sizeOf5
 v5:=Tryz.zeroValue5
 t9:=Tryz.underlying9
 a9:=Tryz.isAgg9
 z9:=Tryz.sizeOf9
 v9:=Tryz.zeroValue9
 t20:=Tryz.underlying20
 a20:=Tryz.isAgg20
 z20:=Tryz.sizeOf20
 v20:=Tryz.zeroValue20
 t37:=Tryz.underlying40
 a37:=Tryz.isAgg40
 z37:=Tryz.sizeOf40
 v37:=Tryz.zeroValue40
 t46:=Tryz.underlying200
 a46:=Tryz.isAgg200
 z46:=Tryz.sizeOf200
 v46:=Tryz.zeroValue200
 t51:=Tryz.underlying206
 a51:=Tryz.isAgg206
 z51:=Tryz.sizeOf206
 v51:=Tryz.zeroValue206
 t53:=Tryz.underlying55
 a53:=Tryz.isAgg55
 z53:=Tryz.sizeOf55
 v53:=Tryz.zeroValue55
 t171:=Tryz.underlying163
 a171:=Tryz.isAgg163
 z171:=Tryz.sizeOf163
 v171:=Tryz.zeroValue163
 t173:=Tryz.underlying166
 a173:=Tryz.isAgg166
 z173:=Tryz.sizeOf166
 v173:=Tryz.zeroValue166
 t212:=Tryz.underlying205
 a212:=Tryz.isAgg205
 z212:=Tryz.sizeOf205
 v212:=Tryz.zeroValue205
 t213:=Tryz.underlying207
 a213:=Tryz.isAgg207
 z213:=Tryz.sizeOf207
 t232:=Tryz.underlying264
 a232:=Tryz.isAgg264
 z232:=Tryz.sizeOf264
 v232:=Tryz.zeroValue264
 t233:=Tryz.underlying265
 a233:=Tryz.isAgg265
 z233:=Tryz.sizeOf265
 v233:=Tryz.zeroValue265
 g17:=by kernel_rfl
 g18:=by kernel_rfl
 g19:=by kernel_rfl
 i0:=by kernel_rfl
 i2:=by kernel_rfl
 i3:=by kernel_rfl
 i4:=by kernel_rfl
 i5:=by kernel_rfl
 i9:=by kernel_rfl
 i20:=by kernel_rfl
 i37:=by kernel_rfl
 i46:=by kernel_rfl
 i51:=by kernel_rfl
 i53:=by kernel_rfl
 i171:=by kernel_rfl
 i173:=by kernel_rfl
 i212:=by kernel_rfl
 i232:=by kernel_rfl
 i233:=by kernel_rfl
 m17:=by kernel_rfl
 m18:=by kernel_rfl
 m19:=by kernel_rfl}
open Go.RowKit Go.Sort Go.Lib in
theorem Tryz.strconv_FormatInt_10 (n:Int)(d: -9223372036854775808<=n)(f:n<=9223372036854775807)(w:World)(c:Lib.TabIs Tryz.prog w "internal/strconv.uint64pow10" .u64 Lib.pow10Tab):
 Calls Tryz.prog 43 #[.int .i64 n,.int .i64 10] w fun e w'=>e= .returned (.string ⟨(Lib.itoa n).toArray⟩)/\∃k os,w'=grow (w.drewN k) os:=Any.strconv_FormatInt_10 Tryz.laysM173 n d f w c
def Tryz.laysC174_ren:Go.Shelf.Ren:=⟨fun|174=>85|247=>136|245=>137|287=>194|279=>195|280=>196|281=>197|282=>198|321=>233|322=>234|316=>235|171=>237|205=>236|243=>242|246=>73|283=>116|284=>117|285=>118|286=>119|129=>179|317=>178|318=>180|319=>181|320=>182|337=>222|338=>223|n=>n,fun|9=>9|3=>3|2=>2|75=>119|85=>120|4=>4|167=>219|5=>5|53=>55|175=>220|46=>200|168=>222|37=>40|0=>0|210=>258|21=>21|127=>218|145=>273|143=>271|171=>163|173=>166|212=>205|51=>206|20=>20|213=>207|232=>264|233=>265|80=>183|n=>n,fun|15=>2|16=>3|17=>1|18=>4|19=>5|n=>n⟩
theorem Tryz.laysC174:Go.Proofs.LaysC.n174 Tryz.prog Tryz.laysC174_ren:={
 mixed:=by kernel_rfl
 f129:=Tryz.func179.trans (Ar some rG)
 f171:=Tryz.func237.trans (Ar some rG)
 f174:=Tryz.func85.trans (Ar some rG)
 f205:=Tryz.func236.trans (Ar some rG)
 f243:=Tryz.func242.trans (Ar some rG)
 f245:=Tryz.func137.trans (Ar some rG)
 f246:=Tryz.func73.trans (Ar some rG)
 f247:=Tryz.func136.trans (Ar some rG)
 f279:=Tryz.func195.trans (Ar some rG)
 f280:=Tryz.func196.trans (Ar some rG)
 f281:=Tryz.func197.trans (Ar some rG)
 f282:=Tryz.func198.trans (Ar some rG)
 f283:=Tryz.func116.trans (Ar some rG)
 f284:=Tryz.func117.trans (Ar some rG)
 f285:=Tryz.func118.trans (Ar some rG)
 f286:=Tryz.func119.trans (Ar some rG)
 f287:=Tryz.func194.trans (Ar some rG)
 f316:=Tryz.func235.trans (Ar some rG)
 f317:=Tryz.func178.trans (Ar some rG)
 f318:=Tryz.func180.trans (Ar some rG)
 f319:=Tryz.func181.trans (Ar some rG)
 f320:=Tryz.func182.trans (Ar some rG)
 f321:=Tryz.func233.trans (Ar some rG)
 f322:=Tryz.func234.trans (Ar some rG)
 f337:=Tryz.func222.trans (Ar some rG)
 f338:=Tryz.func223.trans (Ar some rG)
 t0:=Tryz.underlying0
 a0:=Tryz.isAgg0
 z0:=Tryz.sizeOf0
 v0:=Tryz.zeroValue0
 t2:=Tryz.underlying2
 a2:=Tryz.isAgg2
 z2:=Tryz.sizeOf2
 v2:=Tryz.zeroValue2
 t3:=Tryz.underlying3
 a3:=Tryz.isAgg3
 z3:=Tryz.sizeOf3
 v3:=Tryz.zeroValue3
 t4:=Tryz.underlying4
 a4:=Tryz.isAgg4
 z4:=Tryz.sizeOf4
 v4:=Tryz.zeroValue4
 t5:=Tryz.underlying5
 a5:=Tryz.isAgg5
 z5:=Tryz.sizeOf5
 v5:=Tryz.zeroValue5
 t9:=Tryz.underlying9
 a9:=Tryz.isAgg9
 z9:=Tryz.sizeOf9
 v9:=Tryz.zeroValue9
 t20:=Tryz.underlying20
 a20:=Tryz.isAgg20
 z20:=Tryz.sizeOf20
 v20:=Tryz.zeroValue20
 t21:=Tryz.underlying21
 a21:=Tryz.isAgg21
 z21:=Tryz.sizeOf21
 v21:=Tryz.zeroValue21
 t37:=Tryz.underlying40
 a37:=Tryz.isAgg40
 z37:=Tryz.sizeOf40
 v37:=Tryz.zeroValue40
 t46:=Tryz.underlying200
 a46:=Tryz.isAgg200
 z46:=Tryz.sizeOf200
 v46:=Tryz.zeroValue200
 t51:=Tryz.underlying206
 a51:=Tryz.isAgg206
 z51:=Tryz.sizeOf206
 v51:=Tryz.zeroValue206
 t53:=Tryz.underlying55
 a53:=Tryz.isAgg55
 z53:=Tryz.sizeOf55
 v53:=Tryz.zeroValue55
 t75:=Tryz.underlying119
 a75:=Tryz.isAgg119
 z75:=Tryz.sizeOf119
 v75:=Tryz.zeroValue119
 t85:=Tryz.underlying120
 a85:=Tryz.isAgg120
 z85:=Tryz.sizeOf120
 v85:=Tryz.zeroValue120
 t127:=Tryz.underlying218
 a127:=Tryz.isAgg218
 z127:=Tryz.sizeOf218
 v127:=Tryz.zeroValue218
 t143:=Tryz.underlying271
 a143:=Tryz.isAgg271
 z143:=Tryz.sizeOf271
 v143:=Tryz.zeroValue271
 t145:=Tryz.underlying273
 a145:=Tryz.isAgg273
 z145:=Tryz.sizeOf273
 v145:=Tryz.zeroValue273
 t167:=Tryz.underlying219
 a167:=Tryz.isAgg219
 z167:=Tryz.sizeOf219
 v167:=Tryz.zeroValue219
 t168:=Tryz.underlying222
 a168:=Tryz.isAgg222
 z168:=Tryz.sizeOf222
 v168:=Tryz.zeroValue222
 t171:=Tryz.underlying163
 a171:=Tryz.isAgg163
 z171:=Tryz.sizeOf163
 v171:=Tryz.zeroValue163
 t173:=Tryz.underlying166
 a173:=Tryz.isAgg166
 z173:=Tryz.sizeOf166
 v173:=Tryz.zeroValue166
 t175:=Tryz.underlying220
 a175:=Tryz.isAgg220
 z175:=Tryz.sizeOf220
 v175:=Tryz.zeroValue220
 t210:=Tryz.underlying258
 a210:=Tryz.isAgg258
 z210:=Tryz.sizeOf258
 v210:=Tryz.zeroValue258
 t212:=Tryz.underlying205
 a212:=Tryz.isAgg205
 z212:=Tryz.sizeOf205
 v212:=Tryz.zeroValue205
 t213:=Tryz.underlying207
 a213:=Tryz.isAgg207
 z213:=Tryz.sizeOf207
 t232:=Tryz.underlying264
 a232:=Tryz.isAgg264
 z232:=Tryz.sizeOf264
 v232:=Tryz.zeroValue264
 t233:=Tryz.underlying265
 a233:=Tryz.isAgg265
 z233:=Tryz.sizeOf265
 v233:=Tryz.zeroValue265
 g15:=by kernel_rfl
 g16:=by kernel_rfl
 g17:=by kernel_rfl
 g18:=by kernel_rfl
 g19:=by kernel_rfl
 t80:=Tryz.underlying183
 a80:=Tryz.isAgg183
 z80:=Tryz.sizeOf183
 v80:=Tryz.zeroValue183
 i0:=by kernel_rfl
 i2:=by kernel_rfl
 i3:=by kernel_rfl
 i4:=by kernel_rfl
 i5:=by kernel_rfl
 i9:=by kernel_rfl
 i20:=by kernel_rfl
 i21:=by kernel_rfl
 i37:=by kernel_rfl
 i46:=by kernel_rfl
 i51:=by kernel_rfl
 i53:=by kernel_rfl
 i75:=by kernel_rfl
 i80:=by kernel_rfl
 i85:=by kernel_rfl
 i127:=by kernel_rfl
 i143:=by kernel_rfl
 i145:=by kernel_rfl
 i167:=by kernel_rfl
 i168:=by kernel_rfl
 i171:=by kernel_rfl
 i173:=by kernel_rfl
 i175:=by kernel_rfl
 i210:=by kernel_rfl
 i212:=by kernel_rfl
 i232:=by kernel_rfl
 i233:=by kernel_rfl
 m15:=by kernel_rfl
 m16:=by kernel_rfl
 m17:=by kernel_rfl
 m18:=by kernel_rfl
 m19:=by kernel_rfl
 c0:=by kernel_rfl
 c2:=by kernel_rfl
 c3:=by kernel_rfl
 c4:=by kernel_rfl
 c5:=by kernel_rfl
 c9:=by kernel_rfl
 c20:=by kernel_rfl
 c21:=by kernel_rfl
 c37:=by kernel_rfl
 c46:=by kernel_rfl
 c51:=by kernel_rfl
 c53:=by kernel_rfl
 c75:=by kernel_rfl
 c80:=by kernel_rfl
 c85:=by kernel_rfl
 c127:=by kernel_rfl
 c143:=by kernel_rfl
 c145:=by kernel_rfl
 c167:=by kernel_rfl
 c168:=by kernel_rfl
 c171:=by kernel_rfl
 c173:=by kernel_rfl
 c175:=by kernel_rfl
 c210:=by kernel_rfl
 c212:=by kernel_rfl
 c213:=by kernel_rfl
 c232:=by kernel_rfl
 c233:=by kernel_rfl}
open Go.RowKit in
theorem Tryz.strconv_ParseInt_10_at64_ok (s:ByteArray)(c:s.size<=9223372036854775806)(v:Int)(h:Lib.parseIntB 64 s.data.toList= .ok v)(w:World):
 Calls Tryz.prog 85 #[.string s,.int .i64 10,.int .i64 64] w fun e w'=>e= .returned (.tuple #[.int .i64 v,.nilIface])/\(w'=w\/∃t,w'=Lib.bytesWorld w 5 t):=Any.strconv_ParseInt_10_at64_ok Tryz.laysC174 s c v h w
open Go.RowKit in
theorem Tryz.strconv_ParseInt_10_at64_range (s:ByteArray)(c:s.size<=281474976710656)(h:Lib.parseIntB 64 s.data.toList= .range)(d:Value)(w:World)(g:w.cell? ⟨3,0,none⟩=some d)(f:d= .nilIface\/∃i j,d= .iface i j):
 Calls Tryz.prog 85 #[.string s,.int .i64 10,.int .i64 64] w fun e w'=>∃N,e= .returned (.tuple #[.int .i64 (Lib.intSat 64 s.data.toList),.iface 222 (.pointer (some ⟨N,0,none⟩))])/\w.heap.size<=N/\w'.heap[N]? =some (.cells #[.string ⟨#[80,97,114,115,101,73,110,116]⟩,.string s,d] 258 (0,0))/\Below w.heap.size w w':=Any.strconv_ParseInt_10_at64_range Tryz.laysC174 s c h d w g f
def Tryz.lays145_ren:Go.Shelf.Ren:=⟨fun|145=>81|220=>132|219=>98|217=>171|225=>172|224=>173|267=>174|266=>218|314=>219|n=>n,fun|9=>9|4=>4|59=>116|3=>3|5=>5|46=>200|146=>246|51=>206|n=>n,fun|1=>0|n=>n⟩
theorem Tryz.lays145:Go.Proofs.Lays.n145 Tryz.prog Tryz.lays145_ren:={
 mixed:=by kernel_rfl
 f145:=Tryz.func81.trans (Ar some rG)
 f217:=Tryz.func171.trans (Ar some rG)
 f219:=Tryz.func98.trans (Ar some rG)
 f220:=Tryz.func132.trans (Ar some rG)
 f224:=Tryz.func173.trans (Ar some rG)
 f225:=Tryz.func172.trans (Ar some rG)
 f266:=Tryz.func218.trans (Ar some rG)
 f267:=Tryz.func174.trans (Ar some rG)
 f314:=Tryz.func219.trans (Ar some rG)
 t3:=Tryz.underlying3
 a3:=Tryz.isAgg3
 z3:=Tryz.sizeOf3
 v3:=Tryz.zeroValue3
 t4:=Tryz.underlying4
 a4:=Tryz.isAgg4
 z4:=Tryz.sizeOf4
 v4:=Tryz.zeroValue4
 t5:=Tryz.underlying5
 a5:=Tryz.isAgg5
 z5:=Tryz.sizeOf5
 v5:=Tryz.zeroValue5
 t9:=Tryz.underlying9
 a9:=Tryz.isAgg9
 z9:=Tryz.sizeOf9
 v9:=Tryz.zeroValue9
 t46:=Tryz.underlying200
 a46:=Tryz.isAgg200
 z46:=Tryz.sizeOf200
 v46:=Tryz.zeroValue200
 t51:=Tryz.underlying206
 a51:=Tryz.isAgg206
 z51:=Tryz.sizeOf206
 v51:=Tryz.zeroValue206
 t59:=Tryz.underlying116
 a59:=Tryz.isAgg116
 z59:=Tryz.sizeOf116
 v59:=Tryz.zeroValue116
 t146:=Tryz.underlying246
 a146:=Tryz.isAgg246
 z146:=Tryz.sizeOf246
 v146:=Tryz.zeroValue246
 g1:=by kernel_rfl}
open Go.RowKit Go.Lib in
theorem Tryz.strings_Cut (s c:ByteArray)(m:Int)(w:World)(d:s.size<4294967281)(f:w.cell? ⟨0,0,none⟩=some (.int .i64 m)):
 Calls Tryz.prog 81 #[.string s,.string c] w fun e w'=>e= .returned (.tuple #[.string ⟨(Lib.cut s.data.toList c.data.toList).1.toArray⟩,.string ⟨(Lib.cut s.data.toList c.data.toList).2.1.toArray⟩,.bool (Lib.cut s.data.toList c.data.toList).2.2])/\∃n,w'=w.drewN n:=Any.strings_Cut Tryz.lays145 s c m w d f
def Tryz.laysGw17_ren:Go.Shelf.Ren:=⟨fun|17=>113|15=>177|20=>221|n=>n,fun|9=>9|23=>162|4=>4|3=>3|0=>0|21=>21|n=>n,fun|n=>n⟩
theorem Tryz.laysGw17:Go.Proofs.LaysGw.n17 Tryz.prog Tryz.laysGw17_ren:={
 mixed:=by kernel_rfl
 f15:=Tryz.func177.trans (Ar some rG)
 f17:=Tryz.func113.trans (Ar some rG)
 f20:=Tryz.func221.trans (Ar some rG)
 t0:=Tryz.underlying0
 a0:=Tryz.isAgg0
 z0:=Tryz.sizeOf0
 v0:=Tryz.zeroValue0
 i0:=by kernel_rfl
 t3:=Tryz.underlying3
 a3:=Tryz.isAgg3
 z3:=Tryz.sizeOf3
 v3:=Tryz.zeroValue3
 i3:=by kernel_rfl
 t4:=Tryz.underlying4
 a4:=Tryz.isAgg4
 z4:=Tryz.sizeOf4
 v4:=Tryz.zeroValue4
 i4:=by kernel_rfl
 t9:=Tryz.underlying9
 a9:=Tryz.isAgg9
 z9:=Tryz.sizeOf9
 v9:=Tryz.zeroValue9
 i9:=by kernel_rfl
 t21:=Tryz.underlying21
 a21:=Tryz.isAgg21
 z21:=Tryz.sizeOf21
 v21:=Tryz.zeroValue21
 i21:=by kernel_rfl
 t23:=Tryz.underlying162
 a23:=Tryz.isAgg162
 z23:=Tryz.sizeOf162
 v23:=Tryz.zeroValue162
 i23:=by kernel_rfl}
open Go.RowKit Go.Lib in
theorem Tryz.strings_ContainsFunc_runes (g:Nat)(lb:Array Value)(c:∀args w,(callFunc g args).run Tryz.prog w= .ok (.enter g args) w)(p:Nat->Bool)(s:ByteArray)(w:World)(d:PredAtRunes Tryz.prog g lb p w):
 Calls Tryz.prog 113 #[.string s,.func (.func g) #[] lb] w fun e w'=>e= .returned (.bool (decide (0<=Lib.idxFunc p true s)))/\Below w.heap.size w w':=Any.strings_ContainsFunc_runes Tryz.laysGw17 g lb c p s w d
def Tryz.lays99_ren:Go.Shelf.Ren:=⟨fun|99=>84|206=>135|n=>n,fun|9=>9|4=>4|3=>3|n=>n,fun|n=>n⟩
theorem Tryz.lays99:Go.Proofs.Lays.n99 Tryz.prog Tryz.lays99_ren:={
 mixed:=by kernel_rfl
 f99:=Tryz.func84.trans (Ar some rG)
 f206:=Tryz.func135.trans (Ar some rG)
 t3:=Tryz.underlying3
 a3:=Tryz.isAgg3
 z3:=Tryz.sizeOf3
 v3:=Tryz.zeroValue3
 t4:=Tryz.underlying4
 a4:=Tryz.isAgg4
 z4:=Tryz.sizeOf4
 v4:=Tryz.zeroValue4
 t9:=Tryz.underlying9
 a9:=Tryz.isAgg9
 z9:=Tryz.sizeOf9
 v9:=Tryz.zeroValue9}
open Go.RowKit Go.Lib in
theorem Tryz.strings_HasPrefix (s p:ByteArray)(w:World):
 Calls Tryz.prog 84 #[.string s,.string p] w fun e w'=>e= .returned (.bool (Lib.hasPrefix s.data.toList p.data.toList))/\w'=w:=Any.strings_HasPrefix Tryz.lays99 s p w
def Tryz.lays101_ren:Go.Shelf.Ren:=⟨fun|101=>82|208=>133|206=>135|n=>n,fun|9=>9|4=>4|3=>3|n=>n,fun|n=>n⟩
theorem Tryz.lays101:Go.Proofs.Lays.n101 Tryz.prog Tryz.lays101_ren:={
 mixed:=by kernel_rfl
 f101:=Tryz.func82.trans (Ar some rG)
 f206:=Tryz.func135.trans (Ar some rG)
 f208:=Tryz.func133.trans (Ar some rG)
 t3:=Tryz.underlying3
 a3:=Tryz.isAgg3
 z3:=Tryz.sizeOf3
 v3:=Tryz.zeroValue3
 t4:=Tryz.underlying4
 a4:=Tryz.isAgg4
 z4:=Tryz.sizeOf4
 v4:=Tryz.zeroValue4
 t9:=Tryz.underlying9
 a9:=Tryz.isAgg9
 z9:=Tryz.sizeOf9
 v9:=Tryz.zeroValue9}
open Go.RowKit Go.Lib in
theorem Tryz.strings_TrimPrefix (s p:ByteArray)(w:World):
 Calls Tryz.prog 82 #[.string s,.string p] w fun e w'=>e= .returned (.string ⟨(Lib.trimPrefix s.data.toList p.data.toList).toArray⟩)/\w'=w:=Any.strings_TrimPrefix Tryz.lays101 s p w
def Tryz.lays155_ren:Go.Shelf.Ren:=⟨fun|155=>75|154=>124|138=>186|165=>187|143=>65|166=>188|197=>189|169=>130|195=>226|218=>227|240=>193|241=>228|219=>98|260=>229|276=>232|277=>241|217=>171|225=>172|224=>173|267=>174|266=>218|314=>219|n=>n,fun|9=>9|3=>3|4=>4|72=>181|0=>0|76=>214|105=>210|21=>21|5=>5|70=>179|20=>20|37=>40|75=>119|127=>218|164=>254|46=>200|119=>267|139=>270|138=>269|146=>246|51=>206|80=>183|n=>n,fun|1=>0|3=>6|4=>7|n=>n⟩
theorem Tryz.lays155:Go.Proofs.Lays.n155 Tryz.prog Tryz.lays155_ren:={
 mixed:=by kernel_rfl
 f138:=Tryz.func186.trans (Ar some rG)
 f143:=Tryz.func65.trans (Ar some rG)
 f154:=Tryz.func124.trans (Ar some rG)
 f155:=Tryz.func75.trans (Ar some rG)
 f165:=Tryz.func187.trans (Ar some rG)
 f166:=Tryz.func188.trans (Ar some rG)
 f169:=Tryz.func130.trans (Ar some rG)
 f195:=Tryz.func226.trans (Ar some rG)
 f197:=Tryz.func189.trans (Ar some rG)
 f217:=Tryz.func171.trans (Ar some rG)
 f218:=Tryz.func227.trans (Ar some rG)
 f219:=Tryz.func98.trans (Ar some rG)
 f224:=Tryz.func173.trans (Ar some rG)
 f225:=Tryz.func172.trans (Ar some rG)
 f240:=Tryz.func193.trans (Ar some rG)
 f241:=Tryz.func228.trans (Ar some rG)
 f260:=Tryz.func229.trans (Ar some rG)
 f266:=Tryz.func218.trans (Ar some rG)
 f267:=Tryz.func174.trans (Ar some rG)
 f276:=Tryz.func232.trans (Ar some rG)
 f277:=Tryz.func241.trans (Ar some rG)
 f314:=Tryz.func219.trans (Ar some rG)
 t0:=Tryz.underlying0
 a0:=Tryz.isAgg0
 z0:=Tryz.sizeOf0
 v0:=Tryz.zeroValue0
 t3:=Tryz.underlying3
 a3:=Tryz.isAgg3
 z3:=Tryz.sizeOf3
 v3:=Tryz.zeroValue3
 t4:=Tryz.underlying4
 a4:=Tryz.isAgg4
 z4:=Tryz.sizeOf4
 v4:=Tryz.zeroValue4
 t5:=Tryz.underlying5
 a5:=Tryz.isAgg5
 z5:=Tryz.sizeOf5
 v5:=Tryz.zeroValue5
 t9:=Tryz.underlying9
 a9:=Tryz.isAgg9
 z9:=Tryz.sizeOf9
 v9:=Tryz.zeroValue9
 t20:=Tryz.underlying20
 a20:=Tryz.isAgg20
 z20:=Tryz.sizeOf20
 v20:=Tryz.zeroValue20
 t21:=Tryz.underlying21
 a21:=Tryz.isAgg21
 z21:=Tryz.sizeOf21
 v21:=Tryz.zeroValue21
 t37:=Tryz.underlying40
 a37:=Tryz.isAgg40
 z37:=Tryz.sizeOf40
 v37:=Tryz.zeroValue40
 t46:=Tryz.underlying200
 a46:=Tryz.isAgg200
 z46:=Tryz.sizeOf200
 v46:=Tryz.zeroValue200
 t51:=Tryz.underlying206
 a51:=Tryz.isAgg206
 z51:=Tryz.sizeOf206
 v51:=Tryz.zeroValue206
 t70:=Tryz.underlying179
 a70:=Tryz.isAgg179
 z70:=Tryz.sizeOf179
 v70:=Tryz.zeroValue179
 t72:=Tryz.underlying181
 a72:=Tryz.isAgg181
 z72:=Tryz.sizeOf181
 v72:=Tryz.zeroValue181
 t75:=Tryz.underlying119
 a75:=Tryz.isAgg119
 z75:=Tryz.sizeOf119
 v75:=Tryz.zeroValue119
 t76:=Tryz.underlying214
 a76:=Tryz.isAgg214
 z76:=Tryz.sizeOf214
 v76:=Tryz.zeroValue214
 t105:=Tryz.underlying210
 a105:=Tryz.isAgg210
 z105:=Tryz.sizeOf210
 v105:=Tryz.zeroValue210
 t119:=Tryz.underlying267
 a119:=Tryz.isAgg267
 z119:=Tryz.sizeOf267
 t127:=Tryz.underlying218
 a127:=Tryz.isAgg218
 z127:=Tryz.sizeOf218
 v127:=Tryz.zeroValue218
 t138:=Tryz.underlying269
 a138:=Tryz.isAgg269
 z138:=Tryz.sizeOf269
 v138:=Tryz.zeroValue269
 t139:=Tryz.underlying270
 a139:=Tryz.isAgg270
 z139:=Tryz.sizeOf270
 v139:=Tryz.zeroValue270
 t146:=Tryz.underlying246
 a146:=Tryz.isAgg246
 z146:=Tryz.sizeOf246
 v146:=Tryz.zeroValue246
 t164:=Tryz.underlying254
 a164:=Tryz.isAgg254
 z164:=Tryz.sizeOf254
 v164:=Tryz.zeroValue254
 g1:=by kernel_rfl
 g3:=by kernel_rfl
 g4:=by kernel_rfl}
theorem Tryz.Builder_Extra_155:Builder.Extra Tryz.prog Tryz.lays155_ren:={
 sizeBuilder:=by kernel_rfl
 liesBuilder:=by kernel_rfl
 t5:=Tryz.underlying5
 a5:=Tryz.isAgg5
 z5:=Tryz.sizeOf5
 v5:=Tryz.zeroValue5
 infoByte:=by kernel_rfl
 cellsByte:=by kernel_rfl
 sizeByte:=by kernel_rfl
 neB5:=by decide}
open Go.RowKit Go.Lib in
theorem Tryz.strings_ReplaceAll (s c new:ByteArray)(m:Int)(w:World)(f:s.size<4294967281)(g:w.cell? ⟨0,0,none⟩=some (.int .i64 m))(h:1<=c.size)(d:s.size+Lib.countB s c*new.size<=140737488355328):
 Calls Tryz.prog 75 #[.string s,.string c,.string new] w fun e w'=>
  e= .returned (.string ⟨(Lib.replaceAll s.data.toList c.data.toList new.data.toList).toArray⟩)/\Below w.heap.size w w':=Any.strings_ReplaceAll Tryz.lays155 Tryz.Builder_Extra_155 s c new m w f g h d
def Tryz.lays111_ren:Go.Shelf.Ren:=⟨fun|111=>60|n=>n,fun|28=>41|3=>3|4=>4|0=>0|n=>n,fun|n=>n⟩
theorem Tryz.lays111:Go.Proofs.Lays.n111 Tryz.prog Tryz.lays111_ren:={
 mixed:=by kernel_rfl
 f111:=Tryz.func60.trans (Ar some rG)
 t0:=Tryz.underlying0
 a0:=Tryz.isAgg0
 z0:=Tryz.sizeOf0
 v0:=Tryz.zeroValue0
 t3:=Tryz.underlying3
 a3:=Tryz.isAgg3
 z3:=Tryz.sizeOf3
 v3:=Tryz.zeroValue3
 t4:=Tryz.underlying4
 a4:=Tryz.isAgg4
 z4:=Tryz.sizeOf4
 v4:=Tryz.zeroValue4
 t28:=Tryz.underlying41
 a28:=Tryz.isAgg41
 z28:=Tryz.sizeOf41
 v28:=Tryz.zeroValue41}
open Go.RowKit Go.Lib in
theorem Tryz.slices_Equal_int (k o n c p r m d:Nat)(g h:List Int)(w:World)(x:n<=g.length)(y:m<=h.length)(i:n<=9223372036854775807)(f:m<=9223372036854775807)(u:∀j,j<g.length->w.cell? ⟨k,o+j,none⟩=some (.int .i64 (g.getD j 0)))(v:∀j,j<h.length->w.cell? ⟨p,r+j,none⟩=some (.int .i64 (h.getD j 0))):
 Calls Tryz.prog 60 #[.slice (some ⟨k,o,none⟩) n c,.slice (some ⟨p,r,none⟩) m d] w fun e w'=>e= .returned (.bool (g.take n==h.take m))/\∃q,w'=w.drewN q:=Any.slices_Equal_int Tryz.lays111 k o n c p r m d g h w x y i f u v
open Go.RowKit Go.Lib in
theorem Tryz.slices_Equal_int_empty (g h:Option Addr)(c m d:Nat)(w:World)(f:m<=9223372036854775807):
 Calls Tryz.prog 60 #[.slice g 0 c,.slice h m d] w fun e w'=>e= .returned (.bool (decide (m=0)))/\w'=w:=Any.slices_Equal_int_empty Tryz.lays111 g h c m d w f
end Go.Proofs
