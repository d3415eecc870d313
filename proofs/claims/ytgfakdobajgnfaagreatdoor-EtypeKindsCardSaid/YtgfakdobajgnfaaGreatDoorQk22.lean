import Derived.Below
import Derived.Test.YtgfakdobajgnfaaGreatDoorQk21
set_option maxRecDepth 100000
set_option maxHeartbeats 16000000
namespace Go.Proofs.YtgfakdobajgnfaaGreatDoor
open Go Go.RowKit
def Er:Array Bool->List Nat->List Bool->Array Bool
 |L,i::ms,b::d=>Er (L.setIfInBounds i b) ms d
 |L,_,_=>L
def Bo:Act->List (Option Nat)->List Value->Act
 |a,s::ss,v::u=>Bo (a.put s v) ss u
 |a,_,_=>a
def pU:Nat->List (List Bool)
 |0=>[[]]
 |k+1=>(pU k).flatMap fun d=>[false::d,true::d]
theorem X9:∀{d:List Bool},d∈pU d.length
 |[]=>List.mem_singleton.2 rfl
 |b::d=>by
  refine List.mem_flatMap.2 ⟨d,X9,?_⟩;cases b<;>simp
def Zy (c:List (List Nat))(e:List Bool)(n:Nat)(d:List Bool):Option Nat:=
 (List.range n).find? fun j=>e.getD j false && !(d.getD j true) && (c.getD j []).all fun l=>d.getD l false
def Yw (md:Region.Mode)(ops:Array Oper)(L:Array Bool)(c:List Nat)(e:List (List Nat))(f:List Bool):Bool:=
 Region.noSelect ops && (pU c.length).all fun d=>d.all id||match Zy e f c.length d with
  |some j=>Region.free md ops (Er L c d) (c.getD j 0) && (Region.ready md ops (Er L c d)).contains (c.getD j 0)
  |none=>((Region.ready md ops (Er L c d)).all fun i=>c.zipIdx.any fun p=>p.1==i && !(d.getD p.2 true) && !(f.getD p.2 false) && (e.getD p.2 []).all fun l=>d.getD l false) && !(Region.ready md ops (Er L c d)).isEmpty
theorem Nk:∀(e:List Nat) (L:Array Bool) (d:List Bool) (j i:Nat),e.Nodup->e[j]? =some i->d.length=e.length->(Er L e d).setIfInBounds i true=Er L e (d.set j true)
 |[],_,_,_,_,_,h,_=>by simp at h
 |m::e,L,[],_,_,_,_,h=>by simp at h
 |m::e,L,b::d,0,i,hn,h,hl=>by
  simp at h;subst h;rw[Ad]
  show(Er (L.setIfInBounds m b) e d).setIfInBounds m true=Er (L.setIfInBounds m true) e d
  have f:∀(e:List Nat) (L:Array Bool) (d:List Bool),m∉e->(Er L e d).setIfInBounds m true=Er (L.setIfInBounds m true) e d:=by
   intro e
   induction e with
   |nil=>intro L d _;cases d<;>rfl
   |cons k e ih=>
    intro L d g;cases d with
    |nil=>rfl
    |cons c d=>
     show(Er (L.setIfInBounds k c) e d).setIfInBounds m true=Er ((L.setIfInBounds m true).setIfInBounds k c) e d
     rw[ih _ _ (fun q=>g (Aj _ q)),Array.setIfInBounds_comm _ _ (fun q=>g (by rw[q];exact Ai))]
  rw[f e _ d (List.nodup_cons.1 hn).1];congr 1;exact Array.setIfInBounds_setIfInBounds _
 |m::e,L,b::d,j+1,i,hn,h,hl=>by
  rw[Ae];exact Nk e _ d j i (List.nodup_cons.1 hn).2 sD (by simpa using hl)
theorem jB (a:Act)(s:Option Nat)(v u:Value):(a.put s v).put s u=a.put s u:=by
 cases s with
 |none=>rfl
 |some s=>
  unfold Act.put;simp only;rw[Array.setIfInBounds_setIfInBounds]
def Nq:List (Option Nat)->Bool
 |[]=>true
 |none::ss=>Nq ss
 |some s::ss=>!(ss.contains (some s)) && Nq ss
theorem nQ (s:Option Nat)(v:Value):∀(f:List (Option Nat)) (a:Act) (u:List Value),(∀m,s=some m->some m∉f)->(Bo a f u).put s v=Bo (a.put s v) f u:=by
 intro f
 induction f with
 |nil=>intro a u _;cases u<;>rfl
 |cons k f ih=>
  intro a u g;cases u with
  |nil=>rfl
  |cons c u=>
   show(Bo (a.put k c) f u).put s v=Bo ((a.put s v).put k c) f u
   rw[ih _ _ (fun m e q=>g m e (Aj _ q)),Act.put_comm a c v (fun d e q=>g d q (by rw[←e];exact Ai))]
theorem Nv:∀(c:List (Option Nat)) (a:Act) (u:List Value) (j:Nat) (s:Option Nat) (v:Value),Nq c=true->c[j]? =some s->u.length=c.length->(Bo a c u).put s v=Bo a c (u.set j v)
 |[],_,_,_,_,_,_,h,_=>by simp at h
 |m::c,a,[],_,_,_,_,_,h=>by simp at h
 |m::c,a,x::u,0,s,v,hn,h,hl=>by
  simp at h;subst h;rw[Ad]
  show(Bo (a.put m x) c u).put m v=Bo (a.put m v) c u
  rw[nQ m v c _ u ?_,jB];rintro k rfl q;simp [Nq,q] at hn
 |m::c,a,x::u,j+1,s,v,hn,h,hl=>by
  rw[Ae];refine Nv c _ u j s v ?_ sD (by simpa using hl);cases m with
  |none=>exact hn
  |some m=>simp only[Nq,Bool.and_eq_true] at hn;exact hn.2
theorem Qi:∀(c:List Nat) (L:Array Bool),(c.all fun i=>!(L.getD i true))=true->Er L c (c.map fun _=>false)=L
 |[],_,_=>rfl
 |m::c,L,h=>by
  rw[List.all_cons,Bool.and_eq_true] at h
  have e:L.setIfInBounds m false=L:=by
   have d:=h.1;by_cases hm:m<L.size
   ·simp [hm] at d;refine Array.ext rI fun i f g=>?_
    rw[Array.getElem_setIfInBounds (by simpa using f)]
    split
    ·next e=>subst e;exact d.symm
    rfl
   simp [hm] at d
  show Er (L.setIfInBounds m false) c (c.map fun _=>false)=L;rw[e];exact Qi c L h.2
def O3 (a:Act)(c:List (Option Nat)):List Value:=c.map fun s=>match s with
 |some s=>a.tmps.getD s undef
 |none=>undef
theorem mF (a:Act)(s:Nat):a.put (some s) (a.tmps.getD s undef)=a:=by
 unfold Act.put;simp only
 have:a.tmps.setIfInBounds s (a.tmps.getD s undef)=a.tmps:=by
  by_cases hm:s<a.tmps.size
  ·refine Array.ext rI fun i c d=>?_
   rw[Array.getElem_setIfInBounds (by simpa using c)]
   split
   ·next e=>subst e;simp
   rfl
  rw[Array.setIfInBounds_eq_of_size_le rF]
 rw[this]
theorem Kx:∀(c:List (Option Nat)) (a:Act),Bo a c (O3 a c)=a
 |[],_=>rfl
 |none::c,a=>Kx c a
 |some s::c,a=>by
  show Bo (a.put (some s) (a.tmps.getD s undef)) c (O3 a c)=a;rw[mF];exact Kx c a
section
variable {P:Program} {ops:Array Oper} {Q:Exit->Act->World->Prop} {md:Region.Mode} {S:World->Prop}
def U6 (P:Program)(ops:Array Oper)(Q:Exit->Act->World->Prop)(Inv:List Bool->List Value->World->Prop)(a:Act)(c:List Nat)(e:List (Option Nat))(f:List (List Nat))(j:Nat):Prop:=
 ∀(d:List Bool) (u:List Value) (w:World),d.length=c.length->u.length=c.length->d[j]? =some false->((f.getD j []).all fun l=>d.getD l false)=true->Inv d u w->∀i s,c[j]? =some i->e[j]? =some s->
  wpOp P ops Q i (fun g w'=>∃v,g=(Bo a e u).put s v/\Inv (d.set j true) (u.set j v) w') (Bo a e u) w
def qE (P:Program)(ops:Array Oper)(S:World->Prop)(Inv:List Bool->List Value->World->Prop)(a:Act)(c:List Nat)(f:List (Option Nat))(e:List (List Nat))(j:Nat):Prop:=
 ∀(d:List Bool) (u:List Value) (w:World),d.length=c.length->u.length=c.length->d[j]? =some false->((e.getD j []).all fun l=>d.getD l false)=true->Inv d u w->∀i s,c[j]? =some i->f[j]? =some s->
  ∃o v,ops[i]? =some o/\o.dst=s/\YieldsIf P ops S o v (Bo a f u)/\Inv (d.set j true) (u.set j v) w
theorem Yh {c:List (List Nat)}{f:List Bool}{n:Nat}{d:List Bool}{j:Nat}(h:Zy c f n d=some j):j<n/\f.getD j false=true/\d.getD j true=false/\((c.getD j []).all fun l=>d.getD l false)=true:=by
 have e:=List.find?_some h;have g:=List.mem_of_find?_eq_some h;simp only[Bool.and_eq_true,Bool.not_eq_true'] at e;exact⟨List.mem_range.1 g,e.1.1,e.1.2,e.2⟩
theorem Tt:∀(d:List Bool) (j:Nat),d[j]? =some false->(d.set j true).count false+1=d.count false:=by
 intro d
 induction d with
 |nil=>intro j h;simp at h
 |cons b d ih=>
  intro j h;cases j with
  |zero=>simp at h;subst h;simp
  |succ j=>
   have:=ih j sD
   rw[Ae,List.count_cons,List.count_cons];omega
theorem Rl {d:List Bool}{j:Nat}(c:j<d.length)(hd:d.getD j true=false):d[j]? =some false:=by
 rw[List.getD_eq_getElem?_getD,Ag c] at hd;rw[Ag c];simpa using hd
theorem Nm {Inv:List Bool->List Value->World->Prop}{L:Array Bool}{a:Act}(f:List Nat)(h:List (Option Nat))(k:List (List Nat))(M:List Bool){m:Nat}(E:Yw md ops L f k M=true)(X:f.Nodup)(A:Nq h=true)(N:h.length=f.length)
 (hQ:∀s v c a w,Q (.panic c) (a.put s v) w->Q (.panic c) a w)
 (Y:∀d u w,Inv d u w->S w) (C:∀j,j<f.length->if M.getD j false=true then qE P ops S Inv a f h k j else U6 P ops Q Inv a f h k j)
 (n:∀(u:List Value) (w:World),u.length=f.length->Inv (f.map fun _=>true) u w->wpAnyH P md ops Q S m (Er L f (f.map fun _=>true)) (Bo a h u) w):
 ∀(c:Nat) (d:List Bool) (u:List Value) (w:World),d.length=f.length->u.length=f.length->d.count false=c->Inv d u w->wpAnyH P md ops Q S (m+c) (Er L f d) (Bo a h u) w
 |0,d,u,w,h1,h2,hc,hF=>by
  have:d=f.map fun _=>true:=by
   refine List.ext_getElem (by simp [h1]) fun i q1 q2=>?_
   simp only[List.getElem_map];cases e:d[i] with
   |true=>rfl
   |false=>
    have:=List.count_pos_iff.2 (e▸List.getElem_mem q1)
    omega
  subst this;exact n u w h2 hF
 |c+1,d,u,w,h1,h2,hc,hF=>by
  have g:=E;unfold Yw at g;rw[Bool.and_eq_true] at g;obtain⟨O,g⟩:=g;have F:=List.all_eq_true.1 g d (by rw[←h1];exact X9)
  have G:d.all id=false:=by
   cases e:d.all id with
   |false=>rfl
   |true=>
    exfalso
    have:false∈d:=List.count_pos_iff.1 rF
    have:=List.all_eq_true.1 e _ this
    cases this
  rw[G,Bool.false_or] at F;cases D:Zy k M f.length d with
  |some j=>
   rw[D] at F;simp only[Bool.and_eq_true] at F;obtain⟨R,T⟩:=F;obtain⟨Z,I,q,r⟩:=Yh D;have U:f[j]? =some f[j]:=Ag _;have y:h[j]? =some (h[j]' rF):=Ag _;have e:f.getD j 0=f[j]:=by simp [List.getD_eq_getElem?_getD,Z]
   rw[e] at R T;have V:=C j Z;rw[Ap I] at V;obtain⟨o,v,ho,a8,hy,hI⟩:=V d u w h1 h2 (Rl rF q) r hF _ _ U y;refine wpAnyH_take (fuel:=m+c) ho O R T (hQ _ _) hy (Y _ _ _ hF) ?_;rw[a8,Nk f L d j _ X U h1,Nv h a u j _ v A y rF];exact Nm f h k M E X A N hQ Y C n c (d.set j true) (u.set j v) w sU uD (by have:=Tt d j (Rl rF q);omega) hI
  |none=>
   rw[D] at F;simp only[Bool.and_eq_true] at F;obtain⟨b7,W⟩:=F;rw[show m+(c+1)=(m+c)+1 by omega];refine⟨fun h0=>by rw[h0] at W;simp at W,fun i hi=>?_⟩;have b8:=List.all_eq_true.1 b7 i hi;obtain⟨p,D,V⟩:=List.any_eq_true.1 b8;obtain⟨x,j⟩:=p;rw[List.mem_zipIdx_iff_getElem?] at D;simp only[Bool.and_eq_true,beq_iff_eq,Bool.not_eq_true'] at V;obtain⟨⟨⟨rfl,hd⟩,I⟩,r⟩:=V;simp only at D;have Z:j<f.length:=(List.getElem?_eq_some_iff.1 D).1;have y:h[j]? =some (h[j]' rF):=Ag _;have q:d[j]? =some false:=Rl rF hd;have ho:=C j Z;rw[Ao (by rw[I];simp)] at ho;refine wpOp_mono ?_ (ho d u w h1 h2 q r hF x _ D y);rintro a' w' ⟨v,rfl,hv⟩;refine⟨Y _ _ _ hv,?_⟩;rw[Nk f L d j x X D h1,Nv h a u j _ v A y rF];exact Nm f h k M E X A N hQ Y C n c (d.set j true) (u.set j v) w' sU uD (by have:=Tt d j q;omega) hv
theorem Em {Inv:List Bool->List Value->World->Prop}{e:Array Bool}{a:Act}{w:World}(k:Nat)(f:List Nat)(h:List (Option Nat))(g:List (List Nat))(r:List Bool){m:Nat}(o:Yw md ops e f g r=true)
 (F:∀s v c a w,Q (.panic c) (a.put s v) w->Q (.panic c) a w) (p:(decide (f.Nodup) && Nq h && decide (h.length=f.length) && decide (f.length=k) && f.all fun i=>!(e.getD i true))=true)
 (G:∀d u w,Inv d u w->S w) (A:Inv (f.map fun _=>false) (O3 a h) w) (q:∀j,j<f.length->if r.getD j false=true then qE P ops S Inv a f h g j else U6 P ops Q Inv a f h g j)
 (n:∀(u:List Value) (w:World),u.length=f.length->Inv (f.map fun _=>true) u w->wpAnyH P md ops Q S m (Er e f (f.map fun _=>true)) (Bo a h u) w):wpAnyH P md ops Q S (m+k) e a w:=by
 simp only[Bool.and_eq_true,decide_eq_true_eq] at p;obtain⟨⟨⟨⟨C,I⟩,y⟩,D⟩,E⟩:=p
 have M:(f.map fun _=>false).count false=k:=by
  rw[←D];clear A q n o C y D E
  induction f with
  |nil=>rfl
  |cons x f ih=>simp only[List.map_cons,List.count_cons_self,Aa,ih]
 have:=Nm (L:=e) (a:=a) f h g r o C I y F G q n k (f.map fun _=>false) (O3 a h) w rI (by simp [O3,y]) M A
 rwa [Qi f e E,Kx] at this
theorem U6.mk {Inv:List Bool->List Value->World->Prop}{a:Act}{k:List Nat}{f:List (Option Nat)}{g:List (List Nat)}{j:Nat}{i:Nat}{o:Oper}(m:k[j]? =some i)(n:ops[i]? =some o)(p:f[j]? =some o.dst)
 (h:∀(d:List Bool) (u:List Value) (w:World),d.length=k.length->u.length=k.length->d[j]? =some false->((g.getD j []).all fun l=>d.getD l false)=true->Inv d u w->∀K:Act->World->Prop,Shut (∀v w',Inv (d.set j true) (u.set j v) w'->K ((Bo a f u).put o.dst v) w')->
  if Region.wanted o (yielded ops (Bo a f u).tmps)=true then Oper.wp P o (Bo a f u) w K Q else K ((Bo a f u).put o.dst undef) w):U6 P ops Q Inv a k f g j:=by
 intro d u w q r x y A E s c e;rw[m] at c;rw[p] at e;injection c with c;injection e with e;subst c e;refine wpOp_step n fun K C=>h d u w q r x y A K fun v w' D=>?_
 exact C _ _ ⟨v,rfl,D⟩
end
def Mf:List (Value->World->Prop)->List Bool->List Value->World->Prop
 |F::Fs,b::d,v::u,w=>(b=true->F v w)/\Mf Fs d u w
 |[],[],[],_=>True
 |_,_,_,_=>False
theorem Mf.mono {w w':World}(e:Below w.heap.size w w'):∀{c:List (Value->World->Prop)} {d:List Bool} {u:List Value},(∀F∈c,∀v w w',F v w->Below w.heap.size w w'->F v w')->Mf c d u w->Mf c d u w'
 |_::_,_::_,_::_,hm,h=>⟨fun f=>hm _ Ai _ _ _ (h.1 f) e,Mf.mono e (fun F g=>hm F (Aj _ g)) h.2⟩
 |[],[],[],_,_=>trivial
theorem Mf.set {w:World}:∀{c:List (Value->World->Prop)} {d:List Bool} {u:List Value} {j:Nat} {F:Value->World->Prop} {v:Value},Mf c d u w->c[j]? =some F->F v w->Mf c (d.set j true) (u.set j v) w
 |_::_,_::_,_::_,0,F,v,h,hF,hv=>by
  simp at hF;subst hF;exact⟨fun _=>hv,h.2⟩
 |_::_,_::_,_::_,j+1,F,v,h,hF,hv=>⟨h.1,Mf.set h.2 (by simpa using hF) hv⟩
 |[],[],[],j,F,v,h,hF,_=>by simp at hF
theorem Mf.none:∀(c:List (Value->World->Prop)) (u:List Value) (w:World),u.length=c.length->Mf c (c.map fun _=>false) u w
 |[],[],_,_=>trivial
 |_::c,_::u,w,h=>⟨fun e=>(by cases e),Mf.none c u w sD⟩
 |[],_::_,_,h=>by simp at h
 |_::_,[],_,h=>by simp at h
def Bx (B:Nat)(T:TypeId)(cs:Array Value)(x:Value)(w:World):Prop:=∃b,x= .pointer (some ⟨b,0,none⟩)/\B<=b/\w.heap[b]? =some (.cells cs T (0,0))
theorem Bp {w:World}{b:Nat}{o:Obj}(h:w.heap[b]? =some o):b<w.heap.size:=by
 obtain⟨h,_⟩:=Array.getElem?_eq_some_iff.1 h;exact h
theorem Bx.below {B:Nat}{T:TypeId}{cs:Array Value}{x:Value}{w w':World}(h:Bx B T cs x w)(d:Below w.heap.size w w'):Bx B T cs x w':=by
 obtain⟨b,e,f,c⟩:=h;exact⟨b,e,f,(d.block b (Bp c)).trans c⟩
def Dst (c:List Nat)(d:List Bool)(u:List Value)(w:World):Prop:=
 (∀i∈c,d.getD i false=true->∃b,u.getD i undef= .pointer (some ⟨b,0,none⟩)/\b<w.heap.size)/\∀i∈c,∀j∈c,i≠j->d.getD i false=true->d.getD j false=true->u.getD i undef≠u.getD j undef
def Mc (B:Nat)(c:World)(e:List (Value->World->Prop))(f:List Nat)(d:List Bool)(u:List Value)(w:World):Prop:=Below B c w/\c.heap.size<=w.heap.size/\Mf e d u w/\Dst f d u w
section
variable {P:Program} {ops:Array Oper} {Q:Exit->Act->World->Prop} {md:Region.Mode} {S:World->Prop}
theorem Jz {α:Type}(l:List α)(j:Nat)(x z:α)(h:j<l.length):(l.set j x).getD j z=x:=by simp [List.getD_eq_getElem?_getD,h]
theorem D5 {α:Type}(l:List α)(i j:Nat)(x z:α)(h:i≠j):(l.set j x).getD i z=l.getD i z:=by simp [List.getD_eq_getElem?_getD,Ne.symm h]
theorem OneB.mk {B:Nat}{E:World}{G:List (Value->World->Prop)}{U:List Nat}{a:Act}{I:List Nat}{n:List (Option Nat)}{r:List (List Nat)}{j:Nat}(i:Nat)(o:Oper)(F:Value->World->Prop)(M:I[j]? =some i)(Y:ops[i]? =some o)(Z:n[j]? =some o.dst)(hF:G[j]? =some F)
 (k:∀F∈G,∀v w w',F v w->Below w.heap.size w w'->F v w') (hB:B<=E.heap.size)
 (h:∀(d:List Bool) (u:List Value) (w:World),d.length=I.length->u.length=I.length->((r.getD j []).all fun l=>d.getD l false)=true->Mf G d u w->Below B E w->E.heap.size<=w.heap.size->
  ∀K:Act->World->Prop,Shut (∀v w',Below w.heap.size w w'->F v w'->(j∈U->v= .pointer (some ⟨w.heap.size,0,none⟩)/\w.heap.size<w'.heap.size)->K ((Bo a n u).put o.dst v) w')->
  if Region.wanted o (yielded ops (Bo a n u).tmps)=true then Oper.wp P o (Bo a n u) w K Q else K ((Bo a n u).put o.dst undef) w):U6 P ops Q (Mc B E G U) a I n r j:=by
 refine U6.mk M Y Z fun d u w h1 N h3 h4 h5 K hK=>?_
 obtain⟨V,W,X,O,g5⟩:=h5;refine h d u w h1 N h4 X V W K fun v w' L hv m=>hK v w' ⟨V.trans (L.mono rF),Al W L.size,(X.mono L k).set hF hv,?_,?_⟩
 ·intro x p hd;by_cases e:x=j
  ·subst e;obtain⟨A,e2⟩:=m p;have c:x<u.length:=by rw[N];exact(List.getElem?_eq_some_iff.1 M).1
   rw[Jz _ _ _ _ c];exact⟨_,A,e2⟩
  rw[D5 _ _ _ _ _ e] at hd ⊢;obtain⟨b,C,R⟩:=O x p hd;exact⟨b,C,Nat.lt_of_lt_of_le R L.size⟩
 intro x p y T D f g;have c:j<u.length:=by rw[N];exact(List.getElem?_eq_some_iff.1 M).1
 by_cases e:x=j
 ·subst e;rw[D5 _ _ _ _ _ (Ne.symm D)] at g ⊢;rw[Jz _ _ _ _ c];obtain⟨A,_⟩:=m p;obtain⟨b,C,R⟩:=O y T g;rw[A,C];intro q;injection q with q;injection q with q;injection q with q;omega
 by_cases e':y=j
 ·subst e';rw[D5 _ _ _ _ _ e] at f ⊢;rw[Jz _ _ _ _ c];obtain⟨A,_⟩:=m T;obtain⟨b,C,R⟩:=O x p f;rw[A,C];intro q;injection q with q;injection q with q;injection q with q;omega
 rw[D5 _ _ _ _ _ e] at f ⊢;rw[D5 _ _ _ _ _ e'] at g ⊢;exact g5 x p y T D f g
theorem OneBP.mk {B:Nat}{C:World}{D:List (Value->World->Prop)}{E:List Nat}{a:Act}{r:List Nat}{G:List (Option Nat)}{m:List (List Nat)}{j:Nat}(i:Nat)(o:Oper)(F:Value->World->Prop)(O:r[j]? =some i)(R:ops[i]? =some o)(T:G[j]? =some o.dst)(U:D[j]? =some F)(n:E.contains j=false)
 (h:∀(d:List Bool) (u:List Value) (w:World),d.length=r.length->u.length=r.length->((m.getD j []).all fun l=>d.getD l false)=true->Mf D d u w->Below B C w->C.heap.size<=w.heap.size->
  ∃v,YieldsIf P ops S o v (Bo a G u)/\F v w):qE P ops S (Mc B C D E) a r G m j:=by
 intro d u w V W h3 X Y i' s c f;rw[O] at c;rw[T] at f;injection c with c;injection f with f;subst c f;obtain⟨L,M,N,Z,g5⟩:=Y;obtain⟨v,A,hv⟩:=h d u w V W X N L M
 have g:∀x∈E,x≠j:=fun x k e=>by
  subst e;rw[List.contains_iff_mem.2 k] at n;cases n
 refine⟨o,v,R,rfl,A,L,M,N.set U hv,fun x k hd=>?_,fun x k y A I p q=>?_⟩
 ·rw[D5 _ _ _ _ _ (g x k)] at hd ⊢;exact Z x k hd
 rw[D5 _ _ _ _ _ (g x k)] at p ⊢;rw[D5 _ _ _ _ _ (g y A)] at q ⊢;exact g5 x k y A I p q
theorem Mc.start {B:Nat}{d:World}{c:List (Value->World->Prop)}{f:List Nat}{ms:List Nat}{u:List Value}(h1:ms.length=c.length)(g:u.length=c.length):Mc B d c f (ms.map fun _=>false) u d:=by
 have e:(ms.map fun _=>false)=c.map fun _=>false:=by
  refine List.ext_getElem sU fun i j k=>by simp
 refine⟨Aq _ _,Ak _,by rw[e];exact Mf.none c u d g,?_,?_⟩
 all_goals
  intro x m
 ·intro hd;exact zxj
 intro y n h hd;exact zxj
end
theorem Ka {α:Type}{u:List α}(h:u.length=2):∃c d,u=[c,d]:=by
 match u,h with
 |[c,d],_=>exact⟨c,d,rfl⟩
theorem Z7 {α:Type}{u:List α}(h:u.length=3):∃c d e,u=[c,d,e]:=by
 match u,h with
 |[c,d,e],_=>exact⟨c,d,e,rfl⟩
theorem F2 {α:Type}{u:List α}(h:u.length=7):∃c d e f g i j,u=[c,d,e,f,g,i,j]:=by
 match u,h with
 |[c,d,e,f,g,i,j],_=>exact⟨c,d,e,f,g,i,j,rfl⟩
theorem lt2 {p:Nat->Prop}(c:p 0)(d:p 1):∀j,j<2->p j:=fun j h=>by
 match j,h with
 |0,_=>exact c
 |1,_=>exact d
theorem lt3 {p:Nat->Prop}(c:p 0)(d:p 1)(e:p 2):∀j,j<3->p j:=fun j h=>by
 match j,h with
 |0,_=>exact c
 |1,_=>exact d
 |2,_=>exact e
theorem lt7 {p:Nat->Prop}(c:p 0)(d:p 1)(e:p 2)(f:p 3)(g:p 4)(i:p 5)(k:p 6):∀j,j<7->p j:=fun j h=>by
 match j,h with
 |0,_=>exact c
 |1,_=>exact d
 |2,_=>exact e
 |3,_=>exact f
 |4,_=>exact g
 |5,_=>exact i
 |6,_=>exact k
open Go Go.RowKit Go.Lib
theorem J8:∀F∈([]:List (Value->World->Prop)),∀v w w',F v w->Below w.heap.size w w'->F v w':=fun _ h=>by cases h
theorem Ca {F:Value->World->Prop}{d:List (Value->World->Prop)}(h:∀v w w',F v w->Below w.heap.size w w'->F v w')(e:∀F∈d,∀v w w',F v w->Below w.heap.size w w'->F v w'):∀G∈F::d,∀v w w',G v w->Below w.heap.size w w'->G v w':=fun G c=>by
 rcases List.mem_cons.1 c with rfl|c
 ·exact h
 exact e G c
def Two (n m:Nat)(v:Value)(V:World):Prop:=∃v1 v2,v= .tuple #[v1,v2]/\Bm V v1 ((n:Nat):Int)/\Bm V v2 ((m:Nat):Int)
theorem Two.below {n m:Nat}{v:Value}{w w':World}(h:Two n m v w)(c:Below w.heap.size w w'):Two n m v w':=by
 obtain⟨v1,v2,d,e,f⟩:=h;exact⟨v1,v2,d,e.below c,f.below c⟩
def Jb (n:Nat)(v:Value)(V:World):Prop:=Bm V v (n:Int)
theorem Jb.below {n:Nat}{v:Value}{w w':World}(h:Jb n v w)(c:Below w.heap.size w w'):Jb n v w':=Bm.below h c
theorem lD {d:Nat}(h:0<d)(c:d<10000):dg d=[d]:=by
 rw[J0 rF,Nat.mod_eq_of_lt c,show d/10000=0 by omega,D1]
theorem St {w:World}{a:Option Addr}{n c m:Nat}(h:Ck w (.slice a n c) (dg m)):Bm w (.agg #[.bool false,.slice a n c]) (m:Int):=⟨_,by rw[An rF],by rw[Int.natAbs_natCast];exact h⟩
theorem Uk {w:World}{a:Option Addr}{n c d:Nat}(h:Ck w (.slice a n c) (dg d))(hd:d<10):(d=0/\n=0)\/(0<d/\n=1/\∃b o,a=some ⟨b,o,none⟩/\w.cell? ⟨b,o,none⟩=some (.int .i64 (d:Int))):=by
 obtain⟨_,_,e,_⟩:=h.slice;injection e with _ e _;by_cases h0:d=0
 ·subst h0;exact .inl ⟨rfl,by rw[e,D1];rfl⟩
 rw[lD rF rF] at e h;obtain⟨b,o,f,g⟩:=h.at (i:=0) rI;exact .inr ⟨by omega,e,b,o,f,by simpa using g⟩
theorem Kw (F:World)(d:Nat)(x:Int)(f:x=48+(d:Int))(h:d<10):(convert 40 9 (.slice (some ⟨F.heap.size,0,none⟩) 1 1)).run Tryz.prog (F.alloc (.cells #[.int .u8 x] 5))= .ok (.string ⟨#[UInt8.ofNat (48+d)]⟩) (F.alloc (.cells #[.int .u8 x] 5)):=by
 have:=run_convert_bytes_back (P:=Tryz.prog) (F.alloc (.cells #[.int .u8 x] 5)) 40 9 5 ⟨F.heap.size,0,none⟩ 1 [UInt8.ofNat (48+d)] Tryz.underlying40 Tryz.underlying5 Tryz.underlying9 (fun j e=>by
  have c:j=0:=by simp at e;exact e
  subst c;simp only[List.getElem_cons_zero,Uu d h]
  show(F.alloc (.cells #[.int .u8 x] 5)).cell? ⟨F.heap.size,0,none⟩=_
  simp only[World.cell?,Az,f]
  rfl)
 exact this
theorem bY:∀(m n:Nat),n<10^(m+1)->(decDigits n).length<=m+1
 |0,n,h=>by rw[Dr rF];simp
 |m+1,n,h=>by
  by_cases h10:n<10
  ·rw[Dr h10];simp
  have:=bY m (n/10) (by rw[Nat.pow_succ] at h;omega)
  rw[G0 h10,Ab];simp;omega
theorem Mq {n k:Nat}(c:Br n<=5)(d:k<=5):(F7 n k).length<=30:=by
 have e:=Oc n;have f:10000^Br n<=10000^5:=Nat.pow_le_pow_right rH c;have g:=bY 19 n rF
 have:=iY n k
 omega
theorem Ry {V F:World}{p q:Nat}{f g k m:Value}(C:V.heap[p]? =some (.cells #[.bool false,.slice none 0 0] 79 (0,0)))(D:V.heap[q]? =some (.cells #[.bool false,.slice none 0 0] 79 (0,0)))(o:p≠q)
 (G:(((V.setCell ⟨p,0,none⟩ f).setCell ⟨p,1,none⟩ g).setCell ⟨q,0,none⟩ k).setCell ⟨q,1,none⟩ m=F):
 F.heap[p]? =some (.cells #[f,g] 79 (0,0))/\F.heap[q]? =some (.cells #[k,m] 79 (0,0))/\Bb [p,q] V F/\∀v z,Bm V v z->Bm F v z:=by
 subst G;have y:=A2 (i:=1) (u:=g) (A2 (i:=0) (u:=f) C);have A:Bb [p] V ((V.setCell ⟨p,0,none⟩ f).setCell ⟨p,1,none⟩ g):=((Bb.refl [p] V).setCell (.inl rI) _).setCell (.inl rI) _;obtain⟨j,d⟩:∃j,(V.setCell ⟨p,0,none⟩ f).setCell ⟨p,1,none⟩ g=j:=⟨_,rfl⟩;rw[d] at y A ⊢;have x:j.heap[q]? =_:=(A.block q (Bp D) (by simp;exact fun e=>o e.symm)).trans D;have I:=A2 (i:=1) (u:=m) (A2 (i:=0) (u:=k) x);have E:Bb [q] j ((j.setCell ⟨q,0,none⟩ k).setCell ⟨q,1,none⟩ m):=((Bb.refl [q] j).setCell (.inl rI) _).setCell (.inl rI) _;refine⟨(E.block p (Bp y) (by simp;exact o)).trans y,I,(A.mono (T:=[p,q]) rI).step E rI,fun v z h=>?_⟩
 have:=(h.store C f g).store (r:=q) (t:=79) (p:=false) (a:=none) (n:=0) (c:=0) (by rw[d];exact x) k m
 rwa [d] at this
structure kP (w wr:World)(b:Bool)(s:Value)(l:Value):Prop where
 x:wr.heap[w.heap.size]? =some (.cells #[.bool b,s] 79 (0,0))
 l:wr.heap[w.heap.size+1]? =some (.cells #[.bool false,l] 79 (0,0))
 bel:Below w.heap.size w wr
theorem kP.box {w c F:World}{b:Bool}{s l:Value}(d:kP w c b s l)(e:Below c.heap.size c F)(O:Obj):(F.alloc O).heap[w.heap.size+1]? =some (.cells #[.bool false,l] 79 (0,0)):=
 ((e.alloc (e.size) O).block _ (Bp d.l)).trans d.l
theorem Ra {w k F:World}{b:Bool}{s:Value}{q d:Option Addr}{r v c f m:Nat}(h:kP w k b s (.slice q r v))(n:Below k.heap.size k F)(y:Bm F (.agg #[.bool false,.slice d c f]) (m:Int))(O:Obj):
 kP w (((F.alloc O).setCell ⟨w.heap.size+1,0,none⟩ (.bool false)).setCell ⟨w.heap.size+1,1,none⟩ (.slice d c f)) b s (.slice d c f)/\Ck (((F.alloc O).setCell ⟨w.heap.size+1,0,none⟩ (.bool false)).setCell ⟨w.heap.size+1,1,none⟩ (.slice d c f)) (.slice d c f) (dg m)/\c=Br m:=by
 have j:=h.box n O;have A:=A2 (i:=1) (u:= .slice d c f) (A2 (i:=0) (u:= .bool false) j);have C:Bb [w.heap.size+1] (F.alloc O) (((F.alloc O).setCell ⟨w.heap.size+1,0,none⟩ (.bool false)).setCell ⟨w.heap.size+1,1,none⟩ (.slice d c f)):=((Bb.refl _ _).setCell (.inl rI) _).setCell (.inl rI) _;have g:=n.alloc (n.size) O;have o:=((Bm.below y ((Aq F.heap.size F).alloc (Ak _) O)).store j (.bool false) (.slice d c f)).nat;obtain⟨_,_,_,e,hd⟩:=o;injection e with e;have p:=Ar (fun x:Array Value=>x[1]?) e;simp at p;obtain⟨rfl,rfl,rfl⟩:=p;refine⟨⟨?_,A,?_⟩,hd,?_⟩
 ·refine(C.block _ ?_ rI).trans ((g.block _ (Bp h.x)).trans h.x);exact Nat.lt_of_lt_of_le (Bp h.x) g.size
 ·exact((h.bel.trans (g.mono h.bel.size)).setCell rI _).setCell rI _
 obtain⟨_,_,e,_⟩:=hd.slice;injection e
theorem Ws {N k n f:Nat}{c cs:ByteArray}(g:F7 N k=F7 n (k - c.size)++dl c)(h:0<n\/c.size<k)(e:n % 10=f)(d:cs=⟨#[UInt8.ofNat (48+f)]⟩)(i:Br N<=5)(j:k<=5):(cs++c).size<=30/\F7 N k=F7 (n/10) (k - (cs++c).size)++dl (cs++c)/\30 - (cs++c).size<30 - c.size:=by
 obtain⟨m,o⟩:=dH g rF;have r:=Mq i j;have p:(cs++c).size=1+c.size:=by rw[ByteArray.size_append,d];rfl
 have q:dl (cs++c)=UInt8.ofNat (48+n % 10)::dl c:=by rw[Dz,d,e];rfl
 rw[A5] at o;refine⟨by omega,?_,by omega⟩;rw[p,q,m,show k - c.size - 1=k - (1+c.size) by omega]
theorem P3 {w:World}{sx:Value}{N:Nat}(U:Bool)(I:Ck w sx (dg N))(hN:Br N<=5)(k:Nat)(hk:k<=5):Calls Tryz.prog 48 #[.agg #[.bool U,sx],.int .i64 (k:Int)] w fun e w'=>e= .returned (.string ⟨(F7 N k).toArray⟩)/\Below w.heap.size w w':=by
 obtain⟨L,M,rfl,_⟩:=I.slice;obtain⟨O,p⟩:∃n,(dg N).length=n:=⟨_,rfl⟩;rw[p] at I ⊢;have HX:=Ax I;have Z:=Ax p;have HN:=Ax hN;have HK:=Ax hk;clear I p hN hk;go_enter Tryz.func48,Tryz.ntmps48;go_wp2_with fail
 go_loopw [5] (fun v5 wr=>∃(n:Nat) (sl:ByteArray) (r:Option Addr) (c x:Nat),v5= .string sl/\sl.size<=30/\Hid (kP w wr U (.slice L O M) (.slice r c x)/\Ck wr (.slice r c x) (dg n)/\c=Br n/\Br n<=5/\F7 N k=F7 n (k - sl.size)++dl sl)) (fun v5 _=>30 - (rD v5).size)
 case atStart=>
  refine⟨N,⟨#[]⟩,L,O,M,rfl,by decide,Ax ⟨⟨?_,?_,?_⟩,?_,Z.out.symm,HN.out,by simp [dl];rfl⟩⟩
  ·rw[RowKit.Below.heap_alloc _ _ _ rI];exact(MapKept.heap_alloc w _).1
  ·have:=(MapKept.heap_alloc (w.alloc (.cells #[.bool U,.slice L O M] 79)) (.cells #[.bool false,.slice L O M] 79)).1
   simpa using this
  ·exact((Aq _ _).alloc (Ak _) _).alloc rI _
  exact HX.out.below (((Aq _ _).alloc (Ak _) _).alloc rI _)
 obtain⟨A,rfl⟩:∃A:World,A=wr:=⟨_,rfl⟩;obtain⟨n,sl,r,c,x,rfl,d8,hq⟩:=hrel;obtain⟨hA,hD,g,C,hP⟩:=hq.out;obtain⟨m0,m1,_⟩:=A1 hA.l;obtain⟨wd,hwd⟩:∃wd,A.drew=wd:=⟨_,rfl⟩;have f:Below A.heap.size A wd:=by rw[←hwd];exact(Aq _ _).drew
 have HA:=Ax (And.intro hA f);have HPP:=Ax (And.intro hP C)
 have D:0<n↔0<c:=by
  rw[g];constructor
  ·intro h
   have:=Oc n
   rcases Nat.eq_zero_or_pos (Br n) with q|q
   ·rw[q] at this;omega
   exact q
  intro h;rcases Nat.eq_zero_or_pos n with q|q
  ·subst q;simp [Br,D1] at h
  exact q
 have E:∀V,Below wd.heap.size wd V->Bm V (.agg #[.bool false,.slice r c x]) (n:Int):=fun V R=>⟨_,by rw[An rF],by simpa[g] using(hD.below f).below R⟩
 have HLN:=Ax E
 have j:∀V,Below wd.heap.size wd V->V.cell? ⟨w.heap.size+1,0,none⟩=some (.bool false)/\V.cell? ⟨w.heap.size+1,1,none⟩=some (.slice r c x):=fun V R=>by
  exact⟨A4 R (A4 f m0),A4 R (A4 f m1)⟩
 have HSL:=Ax j;have f7:=Ax g;have G:=Ax D;clear hq hA hD hP C f D E j g;by_cases hgo:0<n\/sl.size<k
 ·have HGO:=Ax hgo;obtain⟨T,i⟩:∃T,decide ((0:Int)<(c:Int))=T:=⟨_,rfl⟩
  have y:T=false->decide (sl.size<k)=true:=fun e=>Am (by
   subst e
   have:=of_decide_eq_false i
   have:=G.out
   omega)
  clear hgo;cases T with
  |false=>
   have a8:=y rfl;obtain rfl:c=0:=by have:=of_decide_eq_false i;omega
   have m0d:=(HSL.out wd (Aq _ _)).1;have b7:=(HSL.out wd (Aq _ _)).2;clear y i;go_wp2_with fail;refine wp_region_noPanic ?_;refine wp_region_held_drew (S:=fun V=>V.cell? ⟨w.heap.size+1,0,none⟩=some (.bool false)/\V.cell? ⟨w.heap.size+1,1,none⟩=some (.slice r 0 x)) rG ?_ (fun hHeld=>?_)
   ·(try dsimp only);go_keep
   exact zz9
  |true=>
   have f8:(0:Int)<(c:Int):=of_decide_eq_true i;have m0d:=(HSL.out wd (Aq _ _)).1;have b7:=(HSL.out wd (Aq _ _)).2;clear y;go_wp2_with fail;refine wp_region_noPanic ?_;refine wp_region_held_drew (S:=fun V=>V.cell? ⟨w.heap.size+1,0,none⟩=some (.bool false)/\V.cell? ⟨w.heap.size+1,1,none⟩=some (.slice r c x)) rG ?_ (fun hHeld=>?_)
   ·(try dsimp only);go_keep
   exact zz9
 obtain rfl:n=0:=by omega
 obtain rfl:c=0:=by
  have:=G.out
  omega
 have m:dl ⟨(F7 N k).toArray⟩=dl sl:=by
  have:=HPP.out.1
  rw[show k - sl.size=0 by omega,dE] at this;rw[Da,this];rfl
 have b8:=Ax (Ee m);have a8:decide (sl.size<k)=false:=An rF;clear m hgo;go_wp2_with fail;go_ret;exact⟨b8.out.symm,HA.out.1.bel⟩
end Go.Proofs.YtgfakdobajgnfaaGreatDoor
