import Derived.RangeFuncLeaves
import Derived.OrdersIn
import Derived.Shelf.Abstract
import Derived.TacticsInMore
import Derived.LoopIn
import Derived.WalkSmall
import Derived.Test.YtgfakdobajgnfaaGreatDoorQk9
set_option maxRecDepth 100000
set_option maxHeartbeats 16000000
namespace Go.Proofs.YtgfakdobajgnfaaGreatDoor
open Go Go.RowKit
def E0 (T:TypeId->Prop)(B:Nat)(W c:World):Prop:=
 ∃row,W.grownBy c row/\∀r,row=some r->B<=r/\((∃o:Obj,W.heap[r]? =some o/\o.isCells=false)\/∃cs t d,T t/\W.heap[r]? =some (.cells cs t d))
theorem E0.put {T:TypeId->Prop}{B l:Nat}{W:World}{o:Obj}(o':Obj)(c:B<=l)(h:W.heap[l]? =some o)(d:o.isCells=false):E0 T B W (W.putObj l o'):=
 ⟨some l,grownBy_putObj' W l o',fun r e=>by cases e;exact⟨c,.inl ⟨o,h,d⟩⟩⟩
theorem E0.new (T:TypeId->Prop)(B:Nat)(W:World)(o:Obj):E0 T B W (W.alloc o):=⟨none,World.grownBy_alloc W o none,fun r e=>by cases e⟩
theorem E0.mono {T:TypeId->Prop}{B c:Nat}{W d:World}(h:E0 T B W d)(g:c<=B):E0 T c W d:=by
 obtain⟨row,i,f⟩:=h;exact⟨row,i,fun r e=>⟨Al g (f r e).1,(f r e).2⟩⟩
theorem E0.keeps {T:TypeId->Prop}{B k:Nat}{W g:World}{o:Obj}(h:E0 T B W g)(d:W.heap[k]? =some o)(i:k<B\/∃cs t j,o= .cells cs t j/\¬T t):g.heap[k]? =some o:=by
 obtain⟨row,m,n⟩:=h;refine(m.block k (Array.getElem?_eq_some_iff.1 d).1 fun e=>?_).trans d;obtain⟨x,p⟩:=n k e.symm;rcases i with i|⟨cs,t,j,rfl,q⟩
 ·omega
 rcases p with ⟨o,c,r⟩|⟨u,t',v,f,c⟩
 ·rw[d] at c;cases c;cases r
 rw[d] at c;cases c;exact q f
def jR {α:Type}(B:Nat)(c:α->World->World->Prop)(I d:List α->World->Prop)(pre:List α)(x:α)(W:World):Exit->Act->World->Prop
 | .normal,_,W'=>KeepsFrom B W W'/\c x W W'/\I (pre++[x]) W'
 | .ret,_,W'=>KeepsFrom B W W'/\d (pre++[x]) W'
 |_,_,_=>False
def pH {α:Type}(F:Fence)(n:Nat)(P:Program)(gf:Nat)(lb:Array Value)(c:α->Array Value)(T:TypeId->Prop)(f:List α->α->World->Prop)(g:α->World->World->Prop)(S:List α->Prop)(w:World):Prop:=
 ∀(l:Nat) (J Jx:List α->World->Prop) (W:World),Below w.heap.size w W->w.heap.size<W.heap.size->(∀s A B,J s A->E0 T W.heap.size A B->J s B)->(∀s A B,Jx s A->E0 T W.heap.size A B->Jx s B)->
  (∀pre x A,J pre A->f pre x A->YieldAt F (n - 1) P l (c x) A fun e B=>(e= .returned (.bool true)/\J (pre++[x]) B/\g x A B)\/(e= .returned (.bool false)/\Jx (pre++[x]) B))->
  J [] W->CallsIn F n P gf (#[.func (.yield l) #[] #[]]++lb) W fun e B=>(∃v,e= .returned v)/\((∃d,S d/\J d B)\/(∃pre,Jx pre B))
theorem Zk {α:Type}{F:Fence}{n:Nat}{P:Program}{g:Operand}{ps:Array Tmp}{d k:Code}{Q:Exit->Act->World->Prop}{a:Act}{w:World}
 (i7:F.round=none) (h1:1<=n) {gf:Nat} {lb:Array Value} (hg:a.eval g= .func (.func gf) #[] lb) (j8:F.fn gf) (eg:∀args w,(callFunc gf args).run P w= .ok (.enter gf args) w)
 {m:α->Array Value} {T:TypeId->Prop} {Of:List α->α->World->Prop} {Kp:α->World->World->Prop} {S:List α->Prop} (d8:pH F (n - 1) P gf lb m T Of Kp S w) (j9:∀x,(m x).size=ps.size)
 (I U:List α->World->Prop) (hI:∀s A B,I s A->E0 T w.heap.size A B->I s B) (f7:∀s A B,U s A->E0 T w.heap.size A B->U s B) (h0:I [] w) (M:α->Obj) (a₁:α->World->Act)
 (k8:∀pre x W l o o',Of pre x W->W.heap[l]? =some o->o.isCells=false->Of pre x ((W.alloc (M x)).putObj l o'))
 (l7:∀x W Y l o o' p p',W.heap[l]? =some o->o.isCells=false->Kp x ((W.alloc (M x)).putObj l o') Y->Y.heap[l]? =some p->p.isCells=false->Kp x W (Y.putObj l p'))
 (q:∀(l:Nat) (x:α) (W:World) (K:Act->World->Prop),K (a₁ x W) (W.alloc (M x))->
  d.wpIn (F.inRound l) (n - 1 - 1) P (Exit.then K (fun _ _ _=>False)) {tmps:=(ps.zip (m x)).foldl (fun t (p,v)=>t.setIfInBounds p v) a.tmps,defers:=[]} W)
 (V:∀(l:Nat) (pre:List α) (x:α) (W:World) (o o':Obj),w.heap.size<l->W.heap[l]? =some o->o.isCells=false->I pre ((W.alloc (M x)).putObj l o')->Of pre x ((W.alloc (M x)).putObj l o')->k.wpIn (F.inRound l) (n - 1 - 1) P (jR w.heap.size Kp I U pre x ((W.alloc (M x)).putObj l o')) (a₁ x W) ((W.alloc (M x)).putObj l o'))
 (X:∀(D:Nat) (xs:List α) (W:World),w.heap.size<=D->S xs->I xs W->W.heap[D]? =some (.deferred (some []))->Q .normal {a with defers:={target:= .collected D,args:= #[]}::a.defers} W)
 (Z:∀(D:Nat) (pre:List α) (W:World),w.heap.size<=D->U pre W->W.heap[D]? =some (.deferred (some []))->Code.ret.wpIn F n P Q {a with defers:={target:= .collected D,args:= #[]}::a.defers} W):
 (Code.rangeFunc g ps d k).wpIn F n P Q a w:=by
 refine wpIn_rangeFunc fun fn n9=>?_
 rw[i7]
 let R:LoopState->Option Code->Loop:=fun i j=>{state:=i,pending:=j,fn,tmps:=a.tmps,params:=ps,assign:=d,body:=k,defers:=w.heap.size}
 let L:=w.heap.size+1
 let Bk:LoopState->Option Code->World->Prop:=fun i j W=>W.heap[L]? =some (.loop (R i j))/\W.heap[w.heap.size]? =some (.deferred (some []))
 obtain⟨u,y⟩:∃u,(w.alloc (.deferred (some []))).alloc (.loop (R .ready none))=u:=⟨_,rfl⟩
 have f8:Bk .ready none u:=by
  rw[←y];refine⟨?_,(Below.heap_alloc _ _ _ rI).trans (World.alloc_heap_new w _)⟩
  have:=World.alloc_heap_new (w.alloc (.deferred (some []))) (.loop (R .ready none))
  rwa [World.size_alloc] at this
 have s7:u.heap.size=w.heap.size+2:=by rw[←y];simp
 have p8:I [] u:=by rw[←y];exact hI _ _ _ (hI _ _ _ h0 (E0.new T _ _ _)) (E0.new T _ _ _)
 have r7:Below w.heap.size w u:=by rw[←y];exact((Aq _ w).alloc (Ak _) _).alloc rI _
 have C:∀{i j A B},Bk i j A->E0 T u.heap.size A B->Bk i j B:=fun c N=>⟨N.keeps c.1 (.inl rF),N.keeps c.2 (.inl rF)⟩
 have f:∀{i j A} (st':LoopState) (pe':Option Code),Bk i j A->Bk st' pe' (A.putObj L (.loop (R st' pe'))):=fun{i j A} st' pe' c=>
  ⟨World.putObj_heap_same (Array.getElem?_eq_some_iff.1 c.1).1,(World.putObj_heap_other rF).trans c.2⟩
 have E:∀{i j A B},Bk i j A->KeepsFrom w.heap.size A B->Bk i j B:=fun c hf=>⟨hf.same _ _ rF c.1 rfl,hf.same _ _ (Ak _) c.2 rfl⟩
 have a8:∀{s i j A} (o':Obj),I s A->Bk i j A->I s (A.putObj L o'):=fun o' G c=>hI _ _ _ G (E0.put o' rF c.1 rfl)
 have O:∀{s i j A} (o':Obj),U s A->Bk i j A->U s (A.putObj L o'):=fun o' G c=>f7 _ _ _ G (E0.put o' rF c.1 rfl)
 refine⟨L,[{target:= .collected w.heap.size,args:= #[]}],u,{target:= .fn (.func gf) lb,args:= #[.func (.yield L) #[] #[]]},u,gf,#[.func (.yield L) #[] #[]]++lb,u,?_,?_,?_,?_,fun _=>h1,?_⟩
 ·rw[←y];exact run_enterLoop_outer _ _ _ _ _
 ·simp only[resolve,hg];simp [go_sem]
 ·intro f' f9;simp [Target.leads] at f9;subst f9;exact j8
 ·simp [invoke,go_sem,eg]
 refine(d8 L (fun pre W=>I pre W/\Bk .ready none W) (fun pre W=>U pre W/\Bk .done (some .ret) W) u r7 rF
  (fun s A B hs N=>⟨hI _ _ _ hs.1 (N.mono rF),C hs.2 N⟩) (fun s A B hs N=>⟨f7 _ _ _ hs.1 (N.mono rF),C hs.2 N⟩) ?_ ⟨p8,f8⟩).mono ?_
 ·rintro pre x A ⟨G,c⟩ r8;have b7:Bk .ready none (A.alloc (M x)):=⟨(Below.heap_alloc _ _ _ (Array.getElem?_eq_some_iff.1 c.1).1).trans c.1,(Below.heap_alloc _ _ _ (Array.getElem?_eq_some_iff.1 c.2).1).trans c.2⟩;have i6:=f .busy none b7;refine⟨fn,_,d,k,run_yield (r:=R .ready none) c.1 (j9 x),roundIn_of_wpIn n9 (q _ x A _ ⟨_,run_beginRound b7.1 rfl,?_⟩)⟩;refine wpIn_mono (V _ pre x A _ _ rF c.1 rfl (a8 _ (hI _ _ _ G (E0.new T _ _ _)) b7) (k8 _ _ _ _ _ _ r8 c.1 rfl)) ?_;rintro e a3 B hp;cases e with
  |normal=>
   obtain⟨hf,r9,b8⟩:=hp;have h:=E i6 hf;exact⟨_,_,run_endRound none h.1,.inl ⟨rfl,⟨a8 _ b8 h,f .ready none h⟩,l7 _ _ _ _ _ _ _ _ c.1 rfl r9 h.1 rfl⟩⟩
  |ret=>
   obtain⟨hf,b8⟩:=hp;have h:=E i6 hf;exact⟨_,_,run_endRound (some .ret) h.1,.inr ⟨rfl,O _ b8 h,f .done (some .ret) h⟩⟩
  |exit id=>exact hp.elim
  |goto t=>exact hp.elim
  |panic ch=>exact hp.elim
  |outgrown=>exact hp.elim
 rintro e B ⟨⟨v,rfl⟩,(⟨xs,hS,G,c⟩|⟨pre,G,c⟩)⟩
 ·exact⟨none,_,run_endLoop c.1 (by simp [R]),X _ xs _ (Ak _) hS (a8 _ G c) (f .exhausted none c).2⟩
 exact⟨some .ret,_,run_endLoop c.1 (by simp [R]),Z _ pre _ (Ak _) (O _ G c) (f .exhausted (some .ret) c).2⟩
def Vd (ops:Array Oper):Bool:=ops.all fun o=>match o.op with
 | .defer _=>false
 |_=>true
theorem Vu {ops:Array Oper}(h:Vd ops=true){i:Nat}{o:Oper}(d:ops[i]? =some o)(c:Call):o.op≠ .defer c:=fun e=>by
 obtain⟨f,rfl⟩:=Array.getElem?_eq_some_iff.1 d
 have:=Array.all_eq_true.1 h i f
 rw[e] at this;cases this
theorem Vs {F:Fence}{n:Nat}{P:Program}{o:Oper}{a:Act}{w:World}{K:Act->World->Prop}{Q:Exit->Act->World->Prop}(l:Nat)(_:F.round=none)(e:∀c,o.op≠ .defer c)(h:o.wpIn F n P a w K Q):o.wpIn (F.inRound l) n P a w K Q:=by
 refine⟨h.1,?_⟩;have d:=h.2;rw[Oper.semAt_eq _ _ _ e] at d ⊢;exact d
theorem Qb {F:Fence}{n:Nat}{P:Program}{md:Region.Mode}{ops:Array Oper}{Q:Exit->Act->World->Prop}(l:Nat)(f:F.round=none)(hd:Vd ops=true):∀(fuel:Nat) (d:Array Bool) (a:Act) (w:World),wpAnyIn F n P md ops Q fuel d a w->wpAnyIn (F.inRound l) n P md ops Q fuel d a w
 |0,_,_,_,h=>h
 |fuel+1,d,a,w,h=>by
  refine⟨h.1,fun i j=>?_⟩;have e:=wpOpIn_mono (fun a w=>Qb l f hd fuel _ a w) (h.2 i j);unfold wpOpIn at e ⊢;cases ho:ops[i]? with
  |none=>rw[ho] at e;exact e
  |some o=>
   rw[ho] at e;simp only at e ⊢
   split
   ·rename_i g
    rw[Ap g] at e;exact Vs l f (fun c=>Vu hd ho c) e
   rename_i g
   rw[Ao g] at e;exact e
theorem Kn {F:Fence}{n:Nat}{P:Program}{ops:Array Oper}{Q:Exit->Act->World->Prop}{id:Nat}{a:Act}{w:World}(l:Nat)(c:F.round=none)(hd:Vd ops=true)(d:P.follows .mixedOrders=true)
 (h:wpAnyIn F n P .any ops Q ops.size (Array.replicate ops.size false) a w.drew):(Code.region id ops true).wpIn (F.inRound l) n P Q a w:=
 wpIn_region_any d (Qb l c hd _ _ _ _ h)
open Go Go.RowKit Go.Lib Go.Shelf
attribute [local go_sem] Oper.semAt_some
structure It where
 ptr:Nat
 i:Nat
 line:Int
 col:Int
def itV (x:It):Array Value:= #[.pointer (some ⟨x.ptr,0,none⟩),.agg #[.int .i64 x.line,.int .i64 x.col]]
def itT:TypeId->Prop:=fun t=>t=33\/t=3
def Qn (l:List UInt8)(x:It):Tkn:=match B2 (l.drop x.i) with
 | .ok p=>⟨p.1,x.line,x.col⟩
 | .error _=>⟨⟨0,[],v0⟩,0,0⟩
def eI (ts:List Tkn):Except (Int×Int×Int) (List Tkn)->Except (Int×Int×Int) (List Tkn)
 | .error e=> .error e
 | .ok us=> .ok (ts++us)
theorem lO (x:Except (Int×Int×Int) (List Tkn)):eI [] x=x:=by cases x<;>rfl
theorem gK (ts:List Tkn)(t:Tkn)(x:Except (Int×Int×Int) (List Tkn)):eI ts (cQ t x)=eI (ts++[t]) x:=by
 cases x with
 |error e=>rfl
 |ok us=>show Except.ok (ts++t::us)=Except.ok (ts++[t]++us);simp
structure T7 (s:ByteArray)(n0:Nat)(pre:List It)(x:It)(W:World):Prop where
 box:W.heap[x.ptr]? =some (.cells #[.int .i64 (x.i:Nat)] 3 (0,0))
 low:n0<=x.ptr
 lt:x.i<s.size
 beg:Vx (s[x.i]'lt)
 law:LX (dl s) 1 1=eI (pre.map (Qn (dl s))) (LX ((dl s).drop x.i) x.line x.col)
 cnt:pre.length<=x.i
structure qH (s:ByteArray)(n0 sb:Nat)(x:It)(W W':World):Prop where
 same:∀k cs t fz,n0<=k->k≠x.ptr->itT t->W.heap[k]? =some (.cells cs t fz)->W'.heap[k]? =some (.cells cs t fz)
 sbox:∀cs fz,W.heap[sb]? =some (.cells cs 9 fz)->W'.heap[sb]? =some (.cells cs 9 fz)
 done:∃wd m,B2 ((dl s).drop x.i)= .ok (wd,m)/\W'.heap[x.ptr]? =some (.cells #[.int .i64 (m:Nat)] 3 (0,0))
structure Fk (s:ByteArray)(pre:List It)(i:Nat)(line col:Int):Prop where
 law:LX (dl s) 1 1=eI (pre.map (Qn (dl s))) (LX ((dl s).drop i) line col)
 l1:1<=line
 l2:line<=1+i
 c1:1<=col
 c2:col<=1+i
 cnt:pre.length<=i
theorem E0.set {T:TypeId->Prop}{B k i:Nat}{W:World}{cs:Array Value}{t:TypeId}{c:Nat×Nat}(h:W.heap[k]? =some (.cells cs t c))(d:T t)(f:B<=k)(v:Value):E0 T B W (W.setCell ⟨k,i,none⟩ v):=
 ⟨some k,⟨rfl,rfl,rfl,by simp [World.setCell],fun j _ g=>Below.heap_setCell _ _ _ _ (by rintro rfl;exact g rfl)⟩,fun r e=>by cases e;exact⟨f,.inr ⟨_,_,_,d,h⟩⟩⟩
theorem E0.drew (T:TypeId->Prop)(B:Nat)(W:World):E0 T B W W.drew:=⟨none,⟨rfl,rfl,rfl,Ak _,fun _ _ _=>rfl⟩,fun r e=>by cases e⟩
theorem Fk.down {s:ByteArray}{pre:List It}{i:Nat}{line col:Int}(h:Fk s pre i line col){r:List UInt8}(hd:(dl s).drop i=10::r):Fk s pre (i+1) (line+1) 1:=by
 have c:(dl s).drop (i+1)=r:=by rw[←List.drop_drop,hd];rfl
 have:=h.l1;have:=h.l2;have:=h.cnt
 refine⟨?_,by omega,by omega,by omega,by omega,by omega⟩;rw[h.law,hd,Q9,c]
theorem Fk.blank {s:ByteArray}{pre:List It}{i:Nat}{line col:Int}(h:Fk s pre i line col){r:List UInt8}(hd:(dl s).drop i=32::r):Fk s pre (i+1) line (col+1):=by
 have c:(dl s).drop (i+1)=r:=by rw[←List.drop_drop,hd];rfl
 have:=h.l1;have:=h.l2;have:=h.c1;have:=h.c2;have:=h.cnt
 refine⟨?_,by omega,by omega,by omega,by omega,by omega⟩;rw[h.law,hd,N4,c]
theorem Fk.rem {s:ByteArray}{pre:List It}{i:Nat}{line col:Int}(h:Fk s pre i line col){r:List UInt8}(hd:(dl s).drop i=59::r):Fk s pre (i+Ba Fc ((dl s).drop i)) line (col+Ba Fc ((dl s).drop i)):=by
 have:=h.l1;have:=h.l2;have:=h.c1;have:=h.c2;have:=h.cnt
 refine⟨?_,by omega,by omega,by omega,by omega,by omega⟩;rw[h.law,←List.drop_drop,hd,Pt]
theorem bZ {l:List UInt8}{x:It}{c:Wd}{m:Nat}(h:B2 (l.drop x.i)= .ok (c,m)):Qn l x=⟨c,x.line,x.col⟩:=by
 unfold Qn;rw[h]
theorem Fk.word {s:ByteArray}{pre:List It}{x:It}(h:Fk s pre x.i x.line x.col){c:UInt8}{r:List UInt8}(hd:(dl s).drop x.i=c::r)(e:Vx c){f:Wd}{m:Nat}(d:B2 ((dl s).drop x.i)= .ok (f,m)):Fk s (pre++[x]) (x.i+m) x.line (x.col+m):=by
 have:=h.l1;have:=h.l2;have:=h.c1;have:=h.c2;have:=h.cnt
 obtain⟨g,_⟩:=Fg d;refine⟨?_,by omega,by omega,by omega,by omega,by simp;omega⟩;rw[h.law,←List.drop_drop,List.map_append,List.map_singleton,bZ d];rw[hd] at d ⊢;rw[L0 e d,gK]
theorem Fk.done {s:ByteArray}{pre:List It}{line col:Int}(h:Fk s pre s.size line col):LX (dl s) 1 1= .ok (pre.map (Qn (dl s))):=by
 rw[h.law,List.drop_of_length_le (by rw[A5];exact Ak _),Np];simp [eI]
structure Gs (J:List It->World->Prop)(s:ByteArray)(B sb:Nat)(pre:List It)(line col:Int)(wr:World):Prop where
 lt:B<wr.heap.size
 at':wr.heap[B]? =some (.cells #[.int .i64 line,.int .i64 col] 33 (0,0))
 src:wr.heap[sb]? =some (.cells #[.string s] 9 (0,0))
 j:J pre wr
section
variable {J:List It->World->Prop} {s:ByteArray} {B sb:Nat} {pre:List It} {line col:Int} {wr:World}
theorem Gs.setL (h:Gs J s B sb pre line col wr)(d:sb<B)(c:∀s A C,J s A->E0 itT B A C->J s C)(x:Int):Gs J s B sb pre x col (wr.setCell ⟨B,0,none⟩ (.int .i64 x)):=
 ⟨by simp [World.setCell];exact h.lt,by rw[A2 h.at'];rfl,(Below.heap_setCell _ _ _ _ rM).trans h.src,c _ _ _ h.j (E0.set h.at' (.inl rfl) (Ak _) _)⟩
theorem Gs.setC (h:Gs J s B sb pre line col wr)(d:sb<B)(c:∀s A C,J s A->E0 itT B A C->J s C)(x:Int):Gs J s B sb pre line x (wr.setCell ⟨B,1,none⟩ (.int .i64 x)):=
 ⟨by simp [World.setCell];exact h.lt,by rw[A2 h.at'];rfl,(Below.heap_setCell _ _ _ _ rM).trans h.src,c _ _ _ h.j (E0.set h.at' (.inl rfl) (Ak _) _)⟩
theorem Gs.alloc (h:Gs J s B sb pre line col wr)(d:sb<B)(c:∀s A C,J s A->E0 itT B A C->J s C)(o:Obj):Gs J s B sb pre line col (wr.alloc o):=
 ⟨by have:=h.lt;simp;omega,(Below.heap_alloc _ _ _ h.lt).trans h.at',(Below.heap_alloc _ _ _ (by have:=h.lt;omega)).trans h.src,c _ _ _ h.j (E0.new _ _ _ _)⟩
theorem Gs.drew (h:Gs J s B sb pre line col wr)(c:∀s A C,J s A->E0 itT B A C->J s C):Gs J s B sb pre line col wr.drew:=
 ⟨h.lt,h.at',h.src,c _ _ _ h.j (E0.drew _ _ _)⟩
end
theorem Vm (n:Nat)(s:ByteArray)(hs:s.size<=65536)(sb:Nat)(w:World)(E:w.heap[sb]? =some (.cells #[.string s] 9 (0,0)))(hn:2<=n):
 pH Fence.wide n Tryz.prog 138 #[.pointer (some ⟨sb,0,none⟩)] itV itT (T7 s w.heap.size) (qH s w.heap.size sb) (fun xs=>LX (dl s) 1 1= .ok (xs.map (Qn (dl s)))) w:=by
 intro l J Jx W hW l7 hJ L hY h0;have b8:sb<w.heap.size:=Ay E;have M:=(hW.block sb b8).trans E
 have N:Gs J s W.heap.size sb [] 1 1 (W.alloc (.cells #[.int .i64 1,.int .i64 1] 33)):=
  ⟨by simp,(MapKept.heap_alloc W _).1,(Below.heap_alloc _ _ _ rF).trans M,hJ _ _ _ h0 (E0.new itT W.heap.size W _)⟩
 have O:=Ax N;have r:=Ax hJ;have n9:=Ax L;have HY:=Ax hY;clear N hJ L hY h0 M E hW;refine callsIn_of_wp Tryz.func138 rfl trivial ?_ rfl;simp only[Tryz.ntmps138,List.size_toArray,Aa,List.length_nil,Nat.reduceAdd,Nat.reduceSub,Array.replicate_succ,Array.replicate_zero,List.push_toArray,List.append_toArray,List.nil_append,List.cons_append]
 gi_wp2
 gi_loopw [4] (fun v4 wr=>∃(i:Nat) (line col:Int) (pre:List It),i<=s.size/\v4= .int .i64 i/\Hid (Gs J s W.heap.size sb pre line col wr)/\Hid (Fk s pre i line col)) (fun v4 _=>s.size - (intOf v4).toNat)
 case atStart=>exact⟨0,1,1,[],Nat.zero_le _,rfl,O.out,⟨by rw[List.map_nil,lO,List.drop_zero],by omega,by omega,by omega,by omega,by simp⟩⟩
 clear O;obtain⟨i,line,col,pre,hi,rfl,v,g⟩:=hrel;have p8:=v.out.lt;have c0:wr.cell? ⟨W.heap.size,0,none⟩=some (.int .i64 line):=by simp [World.cell?,v.out.at']
 have c1:wr.cell? ⟨W.heap.size,1,none⟩=some (.int .i64 col):=by simp [World.cell?,v.out.at']
 have f0:∀j,wr.frozen? ⟨W.heap.size,j,none⟩=false:=fun j=>by simp [World.frozen?,v.out.at']
 have cs:wr.cell? ⟨sb,0,none⟩=some (.string s):=by simp [World.cell?,v.out.src]
 have j8:sb<wr.heap.size:=by omega
 have f:sb<W.heap.size:=by omega
 have d8:=g.out.l2;have f7:=g.out.l1;have f8:=g.out.c2;have f9:=g.out.c1;by_cases hlk:i<s.size
 ·have i1:(i:Int)<(s.size:Int):=by omega
  have i0:(0:Int)<=(i:Int):=by omega
  have R:(dl s).drop i=s[i]::(dl s).drop (i+1):=by
   have l1:i<(dl s).length:=by rw[A5];exact hlk
   rw[List.drop_eq_getElem_cons l1];rfl
  have o:=Ax R;clear R
  have p:∀d:UInt8,s[i]≠d->((s[i].toNat:Int)==(d.toNat:Int))=false:=fun d hd=>by
   have:s[i].toNat≠d.toNat:=fun e=>hd (UInt8.toNat_inj.1 e)
   simp;omega
  by_cases h10:s[i]=10
  ·have j1:((s[i].toNat:Int)==10)=true:=by rw[h10];rfl
   have h:=Ax (g.out.down (by rw[o.out,h10]));have q:=Ax (((((v.out.setL f r.out (line+1)).setC f r.out 0).setC f r.out 1).alloc f r.out (.cells #[.int .i64 1] 3)).drew r.out);clear p h10 o
   gi_wp2
   gi_region
   all_goals
    gi_wp2
    go_roundw
    case rel=>exact⟨i+1,line+1,1,pre,by omega,by go_num,q.out,h.out⟩
    case measure=>simp [intOf];omega
  have j1:((s[i].toNat:Int)==10)=false:=p 10 h10;by_cases h59:s[i]=59
  ·have j2:((s[i].toNat:Int)==59)=true:=by rw[h59];rfl
   have k:=g.out.rem (by rw[o.out,h59]);have T:1<=Ba Fc ((dl s).drop i):=by rw[o.out];exact Gn (by rw[h59];rfl)
   have U:=Ds Fc ((dl s).drop i);rw[List.length_drop,A5] at U;have F:=fun V=>I7 s 140 Fc (fun args w=>by kernel_rfl) rF i V rF fun c V=>lI c V
   obtain⟨m,hm⟩:∃m,Ba Fc ((dl s).drop i)=m:=⟨_,rfl⟩;rw[hm] at k T U;simp only[hm] at F;have h:=Ax k;have i6:=Ax F;have q:=Ax (((v.out.setC f r.out (col+m)).alloc f r.out (.cells #[.int .i64 (m:Nat)] 3)).drew r.out);clear p h59 o k F hm h10
   gi_wp2
   refine⟨trivial,fun _=>by omega,?_⟩;refine(callsIn_wide.2 (i6.out _)).mono ?_;rintro e V ⟨rfl,rfl⟩
   gi_wp2
   gi_region
   all_goals
    gi_wp2
    go_roundw
    case rel=>exact⟨i+m,line,col+m,pre,by omega,by go_num,q.out,h.out⟩
    case measure=>simp [intOf];omega
  have j2:((s[i].toNat:Int)==59)=false:=p 59 h59;by_cases h32:s[i]=32
  ·have j3:((s[i].toNat:Int) !=32)=false:=by rw[h32];rfl
   have h:=Ax (g.out.blank (by rw[o.out,h32]));have q:=Ax (((v.out.setC f r.out (col+1)).alloc f r.out (.cells #[.int .i64 1] 3)).drew r.out);clear p h10 h59 h32 o
   gi_wp2
   gi_region
   all_goals
    gi_wp2
    go_roundw
    case rel=>exact⟨i+1,line,col+1,pre,by omega,by go_num,q.out,h.out⟩
    case measure=>simp [intOf];omega
  have j3:((s[i].toNat:Int) !=32)=true:=by
   have:=p 32 h32
   simpa using this
  have y:Vx s[i]:=⟨h10,h59,h32⟩;have G:=v.out.alloc f r.out (.cells #[.int .i64 (i:Nat)] 3);have X:T7 s w.heap.size pre ⟨wr.heap.size,i,line,col⟩ (wr.alloc (.cells #[.int .i64 (i:Nat)] 3)):=⟨(MapKept.heap_alloc wr _).1,sA,hlk,y,g.out.law,g.out.cnt⟩;obtain⟨fn,j9,b7,k8,hy,hR⟩:=HY.out pre ⟨wr.heap.size,i,line,col⟩ _ G.j X;unfold itV at hy;have I:=Ax G;have HR:=Ax hR;have Y:=Ax y;clear G X hR y p h10 h59 h32
  gi_wp2
  refine⟨fun _=>by omega,?_⟩;refine HR.out.mono ?_;rintro e A (⟨rfl,hjA,hkp⟩|⟨rfl,hjx⟩)
  ·obtain⟨wd,m,D,C⟩:=hkp.done;simp only at D C;have u:=hkp.same W.heap.size _ _ _ rF sA (.inl rfl) I.out.at';have Z:=hkp.sbox _ _ I.out.src;have a8:Gs J s W.heap.size sb (pre++[⟨wr.heap.size,i,line,col⟩]) line col A:=⟨Ay u,u,Z,hjA⟩;have k:=Fk.word (x:=⟨wr.heap.size,i,line,col⟩) g.out o.out Y.out D;simp only at k;obtain⟨r7,i7⟩:=Fg D;rw[List.length_drop,A5] at i7;have d0:A.cell? ⟨W.heap.size,0,none⟩=some (.int .i64 line):=by simp [World.cell?,u]
   have d1:A.cell? ⟨W.heap.size,1,none⟩=some (.int .i64 col):=by simp [World.cell?,u]
   have g0:∀j,A.frozen? ⟨W.heap.size,j,none⟩=false:=fun j=>by simp [World.frozen?,u]
   have d2:A.cell? ⟨wr.heap.size,0,none⟩=some (.int .i64 (m:Nat)):=by simp [World.cell?,C]
   have q:=Ax ((a8.setC f r.out (col+m)).drew r.out);have h:=Ax k;clear D C u Z a8 k hkp hjA I HR hy g v o c0 c1 f0 cs
   gi_wp2
   gi_region
   all_goals
    gi_wp2
    go_roundw
    case rel=>exact⟨i+m,line,col+m,_,by omega,by go_num,q.out,h.out⟩
    case measure=>simp [intOf];omega
  gi_wp2
  refine Au (results_none rfl _ _ _) rfl ?_;exact⟨⟨_,rfl⟩,.inr ⟨_,hjx⟩⟩
 obtain rfl:i=s.size:=by omega
 have Hd:=Ax g.out.done;clear g f7 d8 f9 f8
 gi_wp2
 go_end0
 exact⟨⟨_,rfl⟩,.inl ⟨pre,Hd.out,v.out.j⟩⟩
end Go.Proofs.YtgfakdobajgnfaaGreatDoor
