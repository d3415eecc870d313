import Derived.RangeFuncLeaves
import Derived.Shelf.Abstract
import Derived.TacticsInMore
import Derived.LoopIn
import Derived.WalkSmall
import Derived.Test.YtmpfilddeglgbaaGreatDoorQj9
set_option maxRecDepth 100000
set_option maxHeartbeats 16000000
namespace Go.Proofs.YtmpfilddeglgbaaGreatDoor
open Go Go.RowKit
def Fl (T:TypeId->Prop)(B:Nat)(W W':World):Prop:=
 ∃row,W.grownBy W' row/\∀r,row=some r->B<=r/\((∃o:Obj,W.heap[r]? =some o/\o.isCells=false)\/∃cs t fz,T t/\W.heap[r]? =some (.cells cs t fz))
theorem Fl.put {T:TypeId->Prop}{B l:Nat}{W:World}{o:Obj}(o':Obj)(hB:B<=l)(h:W.heap[l]? =some o)(ho:o.isCells=false):Fl T B W (W.putObj l o'):=
 ⟨some l,grownBy_putObj' W l o',fun r e=>by cases e;exact⟨hB,.inl ⟨o,h,ho⟩⟩⟩
theorem Fl.new (T:TypeId->Prop)(B:Nat)(W:World)(o:Obj):Fl T B W (W.alloc o):=⟨none,World.grownBy_alloc W o none,fun r e=>by cases e⟩
theorem Fl.mono {T:TypeId->Prop}{B B':Nat}{W W':World}(h:Fl T B W W')(hB:B'<=B):Fl T B' W W':=by
 obtain⟨row,h1,h2⟩:=h;exact⟨row,h1,fun r e=>⟨Al hB (h2 r e).1,(h2 r e).2⟩⟩
theorem Fl.keeps {T:TypeId->Prop}{B k:Nat}{W W':World}{o:Obj}(h:Fl T B W W')(hk:W.heap[k]? =some o)(hn:k<B\/∃cs t fz,o= .cells cs t fz/\¬T t):W'.heap[k]? =some o:=by
 obtain⟨row,h1,h2⟩:=h;refine(h1.block k (Array.getElem?_eq_some_iff.1 hk).1 fun e=>?_).trans hk;obtain⟨h3,h4⟩:=h2 k e.symm;rcases hn with hn|⟨cs,t,fz,rfl,ht⟩
 ·omega
 rcases h4 with ⟨o,ho,hc⟩|⟨cs',t',fz',ht',ho⟩
 ·rw[hk] at ho;cases ho;cases hc
 rw[hk] at ho;cases ho;exact ht ht'
def nX {α:Type}(B:Nat)(Kp:α->World->World->Prop)(I Ix:List α->World->Prop)(pre:List α)(x:α)(W:World):Exit->Act->World->Prop
 | .normal,_,W'=>KeepsFrom B W W'/\Kp x W W'/\I (pre++[x]) W'
 | .ret,_,W'=>KeepsFrom B W W'/\Ix (pre++[x]) W'
 |_,_,_=>False
def rK {α:Type}(F:Fence)(n:Nat)(P:Program)(gf:Nat)(lb:Array Value)(encs:α->Array Value)(T:TypeId->Prop)(Of:List α->α->World->Prop)(Kp:α->World->World->Prop)(S:List α->Prop)(w:World):Prop:=
 ∀(l:Nat) (J Jx:List α->World->Prop) (W:World),Below w.heap.size w W->w.heap.size<W.heap.size->(∀s A B,J s A->Fl T W.heap.size A B->J s B)->(∀s A B,Jx s A->Fl T W.heap.size A B->Jx s B)->
  (∀pre x A,J pre A->Of pre x A->YieldAt F (n - 1) P l (encs x) A fun e B=>(e= .returned (.bool true)/\J (pre++[x]) B/\Kp x A B)\/(e= .returned (.bool false)/\Jx (pre++[x]) B))->
  J [] W->CallsIn F n P gf (#[.func (.yield l) #[] #[]]++lb) W fun e B=>(∃v,e= .returned v)/\((∃xs,S xs/\J xs B)\/(∃pre,Jx pre B))
theorem bU {α:Type}{F:Fence}{n:Nat}{P:Program}{g:Operand}{ps:Array Tmp}{assign body:Code}{Q:Exit->Act->World->Prop}{a:Act}{w:World}
 (hro:F.round=none) (h1:1<=n) {gf:Nat} {lb:Array Value} (hg:a.eval g= .func (.func gf) #[] lb) (hFg:F.fn gf) (eg:∀args w,(callFunc gf args).run P w= .ok (.enter gf args) w)
 {encs:α->Array Value} {T:TypeId->Prop} {Of:List α->α->World->Prop} {Kp:α->World->World->Prop} {S:List α->Prop} (hseq:rK F (n - 1) P gf lb encs T Of Kp S w) (hps:∀x,(encs x).size=ps.size)
 (I Ix:List α->World->Prop) (hI:∀s A B,I s A->Fl T w.heap.size A B->I s B) (hIx:∀s A B,Ix s A->Fl T w.heap.size A B->Ix s B) (h0:I [] w) (ob:α->Obj) (a₁:α->World->Act)
 (hOf:∀pre x W l o o',Of pre x W->W.heap[l]? =some o->o.isCells=false->Of pre x ((W.alloc (ob x)).putObj l o'))
 (hKp:∀x W Y l o o' p p',W.heap[l]? =some o->o.isCells=false->Kp x ((W.alloc (ob x)).putObj l o') Y->Y.heap[l]? =some p->p.isCells=false->Kp x W (Y.putObj l p'))
 (hassign:∀(l:Nat) (x:α) (W:World) (K:Act->World->Prop),K (a₁ x W) (W.alloc (ob x))->
  assign.wpIn (F.inRound l) (n - 1 - 1) P (Exit.then K (fun _ _ _=>False)) {tmps:=(ps.zip (encs x)).foldl (fun t (p,v)=>t.setIfInBounds p v) a.tmps,defers:=[]} W)
 (hbody:∀(l:Nat) (pre:List α) (x:α) (W:World) (o o':Obj),w.heap.size<l->W.heap[l]? =some o->o.isCells=false->I pre ((W.alloc (ob x)).putObj l o')->Of pre x ((W.alloc (ob x)).putObj l o')->body.wpIn (F.inRound l) (n - 1 - 1) P (nX w.heap.size Kp I Ix pre x ((W.alloc (ob x)).putObj l o')) (a₁ x W) ((W.alloc (ob x)).putObj l o'))
 (hdone:∀(D:Nat) (xs:List α) (W:World),w.heap.size<=D->S xs->I xs W->W.heap[D]? =some (.deferred (some []))->Q .normal {a with defers:={target:= .collected D,args:= #[]}::a.defers} W)
 (hstop:∀(D:Nat) (pre:List α) (W:World),w.heap.size<=D->Ix pre W->W.heap[D]? =some (.deferred (some []))->Code.ret.wpIn F n P Q {a with defers:={target:= .collected D,args:= #[]}::a.defers} W):
 (Code.rangeFunc g ps assign body).wpIn F n P Q a w:=by
 refine wpIn_rangeFunc fun fn hfn=>?_
 rw[hro]
 let R:LoopState->Option Code->Loop:=fun st pe=>{state:=st,pending:=pe,fn,tmps:=a.tmps,params:=ps,assign,body,defers:=w.heap.size}
 let L:=w.heap.size+1
 let Bk:LoopState->Option Code->World->Prop:=fun st pe W=>W.heap[L]? =some (.loop (R st pe))/\W.heap[w.heap.size]? =some (.deferred (some []))
 obtain⟨W1,hW1⟩:∃W1,(w.alloc (.deferred (some []))).alloc (.loop (R .ready none))=W1:=⟨_,rfl⟩
 have hbk1:Bk .ready none W1:=by
  rw[←hW1];refine⟨?_,(Below.heap_alloc _ _ _ tH).trans (World.alloc_heap_new w _)⟩
  have:=World.alloc_heap_new (w.alloc (.deferred (some []))) (.loop (R .ready none))
  rwa [World.size_alloc] at this
 have hz1:W1.heap.size=w.heap.size+2:=by rw[←hW1];simp
 have hI1:I [] W1:=by rw[←hW1];exact hI _ _ _ (hI _ _ _ h0 (Fl.new T _ _ _)) (Fl.new T _ _ _)
 have hb1:Below w.heap.size w W1:=by rw[←hW1];exact((Aq _ w).alloc (Ak _) _).alloc tH _
 have hturn:∀{st pe A B},Bk st pe A->Fl T W1.heap.size A B->Bk st pe B:=fun hk ht=>⟨ht.keeps hk.1 (.inl tE),ht.keeps hk.2 (.inl tE)⟩
 have hput:∀{st pe A} (st':LoopState) (pe':Option Code),Bk st pe A->Bk st' pe' (A.putObj L (.loop (R st' pe'))):=fun{st pe A} st' pe' hk=>
  ⟨World.putObj_heap_same (Array.getElem?_eq_some_iff.1 hk.1).1,(World.putObj_heap_other tE).trans hk.2⟩
 have hkeep:∀{st pe A B},Bk st pe A->KeepsFrom w.heap.size A B->Bk st pe B:=fun hk hf=>⟨hf.same _ _ tE hk.1 rfl,hf.same _ _ (Ak _) hk.2 rfl⟩
 have hIp:∀{s st pe A} (o':Obj),I s A->Bk st pe A->I s (A.putObj L o'):=fun o' hi hk=>hI _ _ _ hi (Fl.put o' tE hk.1 rfl)
 have hIxp:∀{s st pe A} (o':Obj),Ix s A->Bk st pe A->Ix s (A.putObj L o'):=fun o' hi hk=>hIx _ _ _ hi (Fl.put o' tE hk.1 rfl)
 refine⟨L,[{target:= .collected w.heap.size,args:= #[]}],W1,{target:= .fn (.func gf) lb,args:= #[.func (.yield L) #[] #[]]},W1,gf,#[.func (.yield L) #[] #[]]++lb,W1,?_,?_,?_,?_,fun _=>h1,?_⟩
 ·rw[←hW1];exact run_enterLoop_outer _ _ _ _ _
 ·simp only[resolve,hg];simp [go_sem]
 ·intro f' hf';simp [Target.leads] at hf';subst hf';exact hFg
 ·simp [invoke,go_sem,eg]
 refine(hseq L (fun pre W=>I pre W/\Bk .ready none W) (fun pre W=>Ix pre W/\Bk .done (some .ret) W) W1 hb1 tE
  (fun s A B hs ht=>⟨hI _ _ _ hs.1 (ht.mono tE),hturn hs.2 ht⟩) (fun s A B hs ht=>⟨hIx _ _ _ hs.1 (ht.mono tE),hturn hs.2 ht⟩) ?_ ⟨hI1,hbk1⟩).mono ?_
 ·rintro pre x A ⟨hi,hk⟩ hof;have hka:Bk .ready none (A.alloc (ob x)):=⟨(Below.heap_alloc _ _ _ (Array.getElem?_eq_some_iff.1 hk.1).1).trans hk.1,(Below.heap_alloc _ _ _ (Array.getElem?_eq_some_iff.1 hk.2).1).trans hk.2⟩;have hk2:=hput .busy none hka;refine⟨fn,_,assign,body,run_yield (r:=R .ready none) hk.1 (hps x),roundIn_of_wpIn hfn (hassign _ x A _ ⟨_,run_beginRound hka.1 rfl,?_⟩)⟩;refine wpIn_mono (hbody _ pre x A _ _ tE hk.1 rfl (hIp _ (hI _ _ _ hi (Fl.new T _ _ _)) hka) (hOf _ _ _ _ _ _ hof hk.1 rfl)) ?_;rintro e a3 B hp;cases e with
  |normal=>
   obtain⟨hf,hkp,hi3⟩:=hp;have hk3:=hkeep hk2 hf;exact⟨_,_,run_endRound none hk3.1,.inl ⟨rfl,⟨hIp _ hi3 hk3,hput .ready none hk3⟩,hKp _ _ _ _ _ _ _ _ hk.1 rfl hkp hk3.1 rfl⟩⟩
  |ret=>
   obtain⟨hf,hi3⟩:=hp;have hk3:=hkeep hk2 hf;exact⟨_,_,run_endRound (some .ret) hk3.1,.inr ⟨rfl,hIxp _ hi3 hk3,hput .done (some .ret) hk3⟩⟩
  |exit id=>exact hp.elim
  |goto t=>exact hp.elim
  |panic ch=>exact hp.elim
  |outgrown=>exact hp.elim
 rintro e B ⟨⟨v,rfl⟩,(⟨xs,hS,hi,hk⟩|⟨pre,hi,hk⟩)⟩
 ·exact⟨none,_,run_endLoop hk.1 (by simp [R]),hdone _ xs _ (Ak _) hS (hIp _ hi hk) (hput .exhausted none hk).2⟩
 exact⟨some .ret,_,run_endLoop hk.1 (by simp [R]),hstop _ pre _ (Ak _) (hIxp _ hi hk) (hput .exhausted (some .ret) hk).2⟩
def Wy (ops:Array Oper):Bool:=ops.all fun o=>match o.op with
 | .defer _=>false
 |_=>true
theorem Xk {ops:Array Oper}(h:Wy ops=true){i:Nat}{o:Oper}(ho:ops[i]? =some o)(c:Call):o.op≠ .defer c:=fun e=>by
 obtain⟨hi,rfl⟩:=Array.getElem?_eq_some_iff.1 ho
 have:=Array.all_eq_true.1 h i hi
 rw[e] at this;cases this
theorem Xx {F:Fence}{n:Nat}{P:Program}{o:Oper}{a:Act}{w:World}{K:Act->World->Prop}{Q:Exit->Act->World->Prop}(l:Nat)(_:F.round=none)(ho:∀c,o.op≠ .defer c)(h:o.wpIn F n P a w K Q):o.wpIn (F.inRound l) n P a w K Q:=by
 refine⟨h.1,?_⟩;have h2:=h.2;rw[Oper.semAt_eq _ _ _ ho] at h2 ⊢;exact h2
theorem Rp {F:Fence}{n:Nat}{P:Program}{md:Region.Mode}{ops:Array Oper}{Q:Exit->Act->World->Prop}(l:Nat)(hro:F.round=none)(hd:Wy ops=true):∀(fuel:Nat) (listed:Array Bool) (a:Act) (w:World),wpAnyIn F n P md ops Q fuel listed a w->wpAnyIn (F.inRound l) n P md ops Q fuel listed a w
 |0,_,_,_,h=>h
 |fuel+1,listed,a,w,h=>by
  refine⟨h.1,fun i hi=>?_⟩;have h2:=wpOpIn_mono (fun a w=>Rp l hro hd fuel _ a w) (h.2 i hi);unfold wpOpIn at h2 ⊢;cases ho:ops[i]? with
  |none=>rw[ho] at h2;exact h2
  |some o=>
   rw[ho] at h2;simp only at h2 ⊢
   split
   ·rename_i hw
    rw[Ap hw] at h2;exact Xx l hro (fun c=>Xk hd ho c) h2
   rename_i hw
   rw[Ao hw] at h2;exact h2
theorem Lk {F:Fence}{n:Nat}{P:Program}{ops:Array Oper}{Q:Exit->Act->World->Prop}{id:Nat}{a:Act}{w:World}(l:Nat)(hro:F.round=none)(hd:Wy ops=true)(hm:P.follows .mixedOrders=true)
 (h:wpAnyIn F n P .any ops Q ops.size (Array.replicate ops.size false) a w.drew):(Code.region id ops true).wpIn (F.inRound l) n P Q a w:=
 wpIn_region_any hm (Rp l hro hd _ _ _ _ h)
open Go Go.RowKit Go.Lib Go.Shelf
attribute [local go_sem] Oper.semAt_some
structure It where
 ptr:Nat
 i:Nat
 line:Int
 col:Int
def itV (x:It):Array Value:= #[.pointer (some ⟨x.ptr,0,none⟩),.agg #[.int .i64 x.line,.int .i64 x.col]]
def itT:TypeId->Prop:=fun t=>t=26\/t=3
def R7 (l:List UInt8)(x:It):Tkn:=match Bh (l.drop x.i) with
 | .ok p=>⟨p.1,x.line,x.col⟩
 | .error _=>⟨⟨0,[],v0⟩,0,0⟩
def gH (ts:List Tkn):Except (Int×Int×Int) (List Tkn)->Except (Int×Int×Int) (List Tkn)
 | .error e=> .error e
 | .ok us=> .ok (ts++us)
theorem nQ (x:Except (Int×Int×Int) (List Tkn)):gH [] x=x:=by cases x<;>rfl
theorem iU (ts:List Tkn)(t:Tkn)(x:Except (Int×Int×Int) (List Tkn)):gH ts (G5 t x)=gH (ts++[t]) x:=by
 cases x with
 |error e=>rfl
 |ok us=>show Except.ok (ts++t::us)=Except.ok (ts++[t]++us);simp
structure Wm (s:ByteArray)(n0:Nat)(pre:List It)(x:It)(W:World):Prop where
 box:W.heap[x.ptr]? =some (.cells #[.int .i64 (x.i:Nat)] 3 (0,0))
 low:n0<=x.ptr
 lt:x.i<s.size
 beg:Ja (s[x.i]'lt)
 law:LX (dl s) 1 1=gH (pre.map (R7 (dl s))) (LX ((dl s).drop x.i) x.line x.col)
 cnt:pre.length<=x.i
structure sY (s:ByteArray)(n0 sb:Nat)(x:It)(W W':World):Prop where
 same:∀k cs t fz,n0<=k->k≠x.ptr->itT t->W.heap[k]? =some (.cells cs t fz)->W'.heap[k]? =some (.cells cs t fz)
 sbox:∀cs fz,W.heap[sb]? =some (.cells cs 9 fz)->W'.heap[sb]? =some (.cells cs 9 fz)
 done:∃wd m,Bh ((dl s).drop x.i)= .ok (wd,m)/\W'.heap[x.ptr]? =some (.cells #[.int .i64 (m:Nat)] 3 (0,0))
structure F4 (s:ByteArray)(pre:List It)(i:Nat)(line col:Int):Prop where
 law:LX (dl s) 1 1=gH (pre.map (R7 (dl s))) (LX ((dl s).drop i) line col)
 l1:1<=line
 l2:line<=1+i
 c1:1<=col
 c2:col<=1+i
 cnt:pre.length<=i
theorem Fl.set {T:TypeId->Prop}{B k i:Nat}{W:World}{cs:Array Value}{t:TypeId}{fz:Nat×Nat}(h:W.heap[k]? =some (.cells cs t fz))(ht:T t)(hB:B<=k)(v:Value):Fl T B W (W.setCell ⟨k,i,none⟩ v):=
 ⟨some k,⟨rfl,rfl,rfl,by simp [World.setCell],fun j _ hj=>Below.heap_setCell _ _ _ _ (by rintro rfl;exact hj rfl)⟩,fun r e=>by cases e;exact⟨hB,.inr ⟨_,_,_,ht,h⟩⟩⟩
theorem Fl.drew (T:TypeId->Prop)(B:Nat)(W:World):Fl T B W W.drew:=⟨none,⟨rfl,rfl,rfl,Ak _,fun _ _ _=>rfl⟩,fun r e=>by cases e⟩
theorem F4.down {s:ByteArray}{pre:List It}{i:Nat}{line col:Int}(h:F4 s pre i line col){r:List UInt8}(hd:(dl s).drop i=10::r):F4 s pre (i+1) (line+1) 1:=by
 have hr:(dl s).drop (i+1)=r:=by rw[←List.drop_drop,hd];rfl
 have:=h.l1;have:=h.l2;have:=h.cnt
 refine⟨?_,by omega,by omega,by omega,by omega,by omega⟩;rw[h.law,hd,Kl,hr]
theorem F4.blank {s:ByteArray}{pre:List It}{i:Nat}{line col:Int}(h:F4 s pre i line col){r:List UInt8}(hd:(dl s).drop i=32::r):F4 s pre (i+1) line (col+1):=by
 have hr:(dl s).drop (i+1)=r:=by rw[←List.drop_drop,hd];rfl
 have:=h.l1;have:=h.l2;have:=h.c1;have:=h.c2;have:=h.cnt
 refine⟨?_,by omega,by omega,by omega,by omega,by omega⟩;rw[h.law,hd,E8,hr]
theorem F4.rem {s:ByteArray}{pre:List It}{i:Nat}{line col:Int}(h:F4 s pre i line col){r:List UInt8}(hd:(dl s).drop i=59::r):F4 s pre (i+A5 Eo ((dl s).drop i)) line (col+A5 Eo ((dl s).drop i)):=by
 have:=h.l1;have:=h.l2;have:=h.c1;have:=h.c2;have:=h.cnt
 refine⟨?_,by omega,by omega,by omega,by omega,by omega⟩;rw[h.law,←List.drop_drop,hd,L6]
theorem dQ {l:List UInt8}{x:It}{wd:Wd}{m:Nat}(h:Bh (l.drop x.i)= .ok (wd,m)):R7 l x=⟨wd,x.line,x.col⟩:=by
 unfold R7;rw[h]
theorem F4.word {s:ByteArray}{pre:List It}{x:It}(h:F4 s pre x.i x.line x.col){c:UInt8}{r:List UInt8}(hd:(dl s).drop x.i=c::r)(hc:Ja c){wd:Wd}{m:Nat}(hw:Bh ((dl s).drop x.i)= .ok (wd,m)):F4 s (pre++[x]) (x.i+m) x.line (x.col+m):=by
 have:=h.l1;have:=h.l2;have:=h.c1;have:=h.c2;have:=h.cnt
 obtain⟨hm1,_⟩:=Eg hw;refine⟨?_,by omega,by omega,by omega,by omega,by simp;omega⟩;rw[h.law,←List.drop_drop,List.map_append,List.map_singleton,dQ hw];rw[hd] at hw ⊢;rw[Dl hc hw,iU]
theorem F4.done {s:ByteArray}{pre:List It}{line col:Int}(h:F4 s pre s.size line col):LX (dl s) 1 1= .ok (pre.map (R7 (dl s))):=by
 rw[h.law,List.drop_of_length_le (by rw[A4];exact Ak _),Iy];simp [gH]
structure Gs (J:List It->World->Prop)(s:ByteArray)(B sb:Nat)(pre:List It)(line col:Int)(wr:World):Prop where
 lt:B<wr.heap.size
 at':wr.heap[B]? =some (.cells #[.int .i64 line,.int .i64 col] 26 (0,0))
 src:wr.heap[sb]? =some (.cells #[.string s] 9 (0,0))
 j:J pre wr
section
variable {J:List It->World->Prop} {s:ByteArray} {B sb:Nat} {pre:List It} {line col:Int} {wr:World}
theorem Gs.setL (h:Gs J s B sb pre line col wr)(hs:sb<B)(hJ:∀s A C,J s A->Fl itT B A C->J s C)(x:Int):Gs J s B sb pre x col (wr.setCell ⟨B,0,none⟩ (.int .i64 x)):=
 ⟨by simp [World.setCell];exact h.lt,by rw[A2 h.at'];rfl,(Below.heap_setCell _ _ _ _ tL).trans h.src,hJ _ _ _ h.j (Fl.set h.at' (.inl rfl) (Ak _) _)⟩
theorem Gs.setC (h:Gs J s B sb pre line col wr)(hs:sb<B)(hJ:∀s A C,J s A->Fl itT B A C->J s C)(x:Int):Gs J s B sb pre line x (wr.setCell ⟨B,1,none⟩ (.int .i64 x)):=
 ⟨by simp [World.setCell];exact h.lt,by rw[A2 h.at'];rfl,(Below.heap_setCell _ _ _ _ tL).trans h.src,hJ _ _ _ h.j (Fl.set h.at' (.inl rfl) (Ak _) _)⟩
theorem Gs.alloc (h:Gs J s B sb pre line col wr)(hs:sb<B)(hJ:∀s A C,J s A->Fl itT B A C->J s C)(o:Obj):Gs J s B sb pre line col (wr.alloc o):=
 ⟨by have:=h.lt;simp;omega,(Below.heap_alloc _ _ _ h.lt).trans h.at',(Below.heap_alloc _ _ _ (by have:=h.lt;omega)).trans h.src,hJ _ _ _ h.j (Fl.new _ _ _ _)⟩
theorem Gs.drew (h:Gs J s B sb pre line col wr)(hJ:∀s A C,J s A->Fl itT B A C->J s C):Gs J s B sb pre line col wr.drew:=
 ⟨h.lt,h.at',h.src,hJ _ _ _ h.j (Fl.drew _ _ _)⟩
end
theorem Xi (n:Nat)(s:ByteArray)(hs:s.size<=65536)(sb:Nat)(w:World)(hsb:w.heap[sb]? =some (.cells #[.string s] 9 (0,0)))(hn:2<=n):
 rK Fence.wide n Tryz.prog 106 #[.pointer (some ⟨sb,0,none⟩)] itV itT (Wm s w.heap.size) (sY s w.heap.size sb) (fun xs=>LX (dl s) 1 1= .ok (xs.map (R7 (dl s)))) w:=by
 intro l J Jx W hW hgt hJ hJx hY h0;have hsl:sb<w.heap.size:=Ay hsb;have hsW:=(hW.block sb hsl).trans hsb
 have hg0:Gs J s W.heap.size sb [] 1 1 (W.alloc (.cells #[.int .i64 1,.int .i64 1] 26)):=
  ⟨by simp,(MapKept.heap_alloc W _).1,(Below.heap_alloc _ _ _ tE).trans hsW,hJ _ _ _ h0 (Fl.new itT W.heap.size W _)⟩
 have HG0:=Ax hg0;have HJ:=Ax hJ;have HJx:=Ax hJx;have HY:=Ax hY;clear hg0 hJ hJx hY h0 hsW hsb hW;refine callsIn_of_wp Tryz.func106 rfl trivial ?_ rfl;simp only[Tryz.ntmps106,List.size_toArray,Aa,List.length_nil,Nat.reduceAdd,Nat.reduceSub,Array.replicate_succ,Array.replicate_zero,List.push_toArray,List.append_toArray,List.nil_append,List.cons_append]
 gi_wp2
 gi_loopw [4] (fun v4 wr=>∃(i:Nat) (line col:Int) (pre:List It),i<=s.size/\v4= .int .i64 i/\Hid (Gs J s W.heap.size sb pre line col wr)/\Hid (F4 s pre i line col)) (fun v4 _=>s.size - (intOf v4).toNat)
 case atStart=>exact⟨0,1,1,[],Nat.zero_le _,rfl,HG0.out,⟨by rw[List.map_nil,nQ,List.drop_zero],by omega,by omega,by omega,by omega,by simp⟩⟩
 clear HG0;obtain⟨i,line,col,pre,hi,rfl,hg,hst⟩:=hrel;have hlt:=hg.out.lt;have c0:wr.cell? ⟨W.heap.size,0,none⟩=some (.int .i64 line):=by simp [World.cell?,hg.out.at']
 have c1:wr.cell? ⟨W.heap.size,1,none⟩=some (.int .i64 col):=by simp [World.cell?,hg.out.at']
 have f0:∀j,wr.frozen? ⟨W.heap.size,j,none⟩=false:=fun j=>by simp [World.frozen?,hg.out.at']
 have cs:wr.cell? ⟨sb,0,none⟩=some (.string s):=by simp [World.cell?,hg.out.src]
 have hsb2:sb<wr.heap.size:=by omega
 have hsW2:sb<W.heap.size:=by omega
 have hl2:=hst.out.l2;have hl1:=hst.out.l1;have hc2:=hst.out.c2;have hc1:=hst.out.c1;by_cases hlk:i<s.size
 ·have i1:(i:Int)<(s.size:Int):=by omega
  have i0:(0:Int)<=(i:Int):=by omega
  have hdr:(dl s).drop i=s[i]::(dl s).drop (i+1):=by
   have l1:i<(dl s).length:=by rw[A4];exact hlk
   rw[List.drop_eq_getElem_cons l1];rfl
  have Hdr:=Ax hdr;clear hdr
  have hne:∀d:UInt8,s[i]≠d->((s[i].toNat:Int)==(d.toNat:Int))=false:=fun d hd=>by
   have:s[i].toNat≠d.toNat:=fun e=>hd (UInt8.toNat_inj.1 e)
   simp;omega
  by_cases h10:s[i]=10
  ·have j1:((s[i].toNat:Int)==10)=true:=by rw[h10];rfl
   have Hst2:=Ax (hst.out.down (by rw[Hdr.out,h10]));have Hg2:=Ax (((((hg.out.setL hsW2 HJ.out (line+1)).setC hsW2 HJ.out 0).setC hsW2 HJ.out 1).alloc hsW2 HJ.out (.cells #[.int .i64 1] 3)).drew HJ.out);clear hne h10 Hdr
   gi_wp2
   gi_region
   all_goals
    gi_wp2
    go_roundw
    case rel=>exact⟨i+1,line+1,1,pre,by omega,by go_num,Hg2.out,Hst2.out⟩
    case measure=>simp [intOf];omega
  have j1:((s[i].toNat:Int)==10)=false:=hne 10 h10;by_cases h59:s[i]=59
  ·have j2:((s[i].toNat:Int)==59)=true:=by rw[h59];rfl
   have hst2:=hst.out.rem (by rw[Hdr.out,h59]);have hpos:1<=A5 Eo ((dl s).drop i):=by rw[Hdr.out];exact Fv (by rw[h59];rfl)
   have hle:=Cm Eo ((dl s).drop i);rw[List.length_drop,A4] at hle;have hwh:=fun V=>J2 s 108 Eo (fun args w=>by kernel_rfl) tE i V tE fun c V=>kI c V
   obtain⟨m,hm⟩:∃m,A5 Eo ((dl s).drop i)=m:=⟨_,rfl⟩;rw[hm] at hst2 hpos hle;simp only[hm] at hwh;have Hst2:=Ax hst2;have Hwh:=Ax hwh;have Hg2:=Ax (((hg.out.setC hsW2 HJ.out (col+m)).alloc hsW2 HJ.out (.cells #[.int .i64 (m:Nat)] 3)).drew HJ.out);clear hne h59 Hdr hst2 hwh hm h10
   gi_wp2
   refine⟨trivial,fun _=>by omega,?_⟩;refine(callsIn_wide.2 (Hwh.out _)).mono ?_;rintro e V ⟨rfl,rfl⟩
   gi_wp2
   gi_region
   all_goals
    gi_wp2
    go_roundw
    case rel=>exact⟨i+m,line,col+m,pre,by omega,by go_num,Hg2.out,Hst2.out⟩
    case measure=>simp [intOf];omega
  have j2:((s[i].toNat:Int)==59)=false:=hne 59 h59;by_cases h32:s[i]=32
  ·have j3:((s[i].toNat:Int) !=32)=false:=by rw[h32];rfl
   have Hst2:=Ax (hst.out.blank (by rw[Hdr.out,h32]));have Hg2:=Ax (((hg.out.setC hsW2 HJ.out (col+1)).alloc hsW2 HJ.out (.cells #[.int .i64 1] 3)).drew HJ.out);clear hne h10 h59 h32 Hdr
   gi_wp2
   gi_region
   all_goals
    gi_wp2
    go_roundw
    case rel=>exact⟨i+1,line,col+1,pre,by omega,by go_num,Hg2.out,Hst2.out⟩
    case measure=>simp [intOf];omega
  have j3:((s[i].toNat:Int) !=32)=true:=by
   have:=hne 32 h32
   simpa using this
  have hbeg:Ja s[i]:=⟨h10,h59,h32⟩;have hge:=hg.out.alloc hsW2 HJ.out (.cells #[.int .i64 (i:Nat)] 3);have hof:Wm s w.heap.size pre ⟨wr.heap.size,i,line,col⟩ (wr.alloc (.cells #[.int .i64 (i:Nat)] 3)):=⟨(MapKept.heap_alloc wr _).1,uC,hlk,hbeg,hst.out.law,hst.out.cnt⟩;obtain⟨fn,tmps,assign,body,hy,hR⟩:=HY.out pre ⟨wr.heap.size,i,line,col⟩ _ hge.j hof;unfold itV at hy;have Hge:=Ax hge;have HR:=Ax hR;have Hbeg:=Ax hbeg;clear hge hof hR hbeg hne h10 h59 h32
  gi_wp2
  refine⟨fun _=>by omega,?_⟩;refine HR.out.mono ?_;rintro e A (⟨rfl,hjA,hkp⟩|⟨rfl,hjx⟩)
  ·obtain⟨wd,m,hwd,hbox⟩:=hkp.done;simp only at hwd hbox;have hat:=hkp.same W.heap.size _ _ _ tE uC (.inl rfl) Hge.out.at';have hsr:=hkp.sbox _ _ Hge.out.src;have hgA:Gs J s W.heap.size sb (pre++[⟨wr.heap.size,i,line,col⟩]) line col A:=⟨Ay hat,hat,hsr,hjA⟩;have hst2:=F4.word (x:=⟨wr.heap.size,i,line,col⟩) hst.out Hdr.out Hbeg.out hwd;simp only at hst2;obtain⟨hm1,hm2⟩:=Eg hwd;rw[List.length_drop,A4] at hm2;have d0:A.cell? ⟨W.heap.size,0,none⟩=some (.int .i64 line):=by simp [World.cell?,hat]
   have d1:A.cell? ⟨W.heap.size,1,none⟩=some (.int .i64 col):=by simp [World.cell?,hat]
   have g0:∀j,A.frozen? ⟨W.heap.size,j,none⟩=false:=fun j=>by simp [World.frozen?,hat]
   have d2:A.cell? ⟨wr.heap.size,0,none⟩=some (.int .i64 (m:Nat)):=by simp [World.cell?,hbox]
   have Hg2:=Ax ((hgA.setC hsW2 HJ.out (col+m)).drew HJ.out);have Hst2:=Ax hst2;clear hwd hbox hat hsr hgA hst2 hkp hjA Hge HR hy hst hg Hdr c0 c1 f0 cs
   gi_wp2
   gi_region
   all_goals
    gi_wp2
    go_roundw
    case rel=>exact⟨i+m,line,col+m,_,by omega,by go_num,Hg2.out,Hst2.out⟩
    case measure=>simp [intOf];omega
  gi_wp2
  refine Au (results_none rfl _ _ _) rfl ?_;exact⟨⟨_,rfl⟩,.inr ⟨_,hjx⟩⟩
 obtain rfl:i=s.size:=by omega
 have Hd:=Ax hst.out.done;clear hst hl1 hl2 hc1 hc2
 gi_wp2
 go_end0
 exact⟨⟨_,rfl⟩,.inl ⟨pre,Hd.out,hg.out.j⟩⟩
end Go.Proofs.YtmpfilddeglgbaaGreatDoor
