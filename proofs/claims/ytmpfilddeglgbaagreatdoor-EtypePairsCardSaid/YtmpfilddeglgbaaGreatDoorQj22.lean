import Derived.Below
import Derived.Test.YtmpfilddeglgbaaGreatDoorQj21
set_option maxRecDepth 100000
set_option maxHeartbeats 16000000
namespace Go.Proofs.YtmpfilddeglgbaaGreatDoor
open Go Go.RowKit
def Ff:Array Bool->List Nat->List Bool->Array Bool
 |L,i::ms,b::d=>Ff (L.setIfInBounds i b) ms d
 |L,_,_=>L
def Bt:Act->List (Option Nat)->List Value->Act
 |a,s::ss,v::u=>Bt (a.put s v) ss u
 |a,_,_=>a
def rP:Nat->List (List Bool)
 |0=>[[]]
 |k+1=>(rP k).flatMap fun d=>[false::d,true::d]
theorem Zt:∀{d:List Bool},d∈rP d.length
 |[]=>List.mem_singleton.2 rfl
 |b::d=>by
  refine List.mem_flatMap.2 ⟨d,Zt,?_⟩;cases b<;>simp
def aO (dep:List (List Nat))(pu:List Bool)(n:Nat)(d:List Bool):Option Nat:=
 (List.range n).find? fun j=>pu.getD j false && !(d.getD j true) && (dep.getD j []).all fun l=>d.getD l false
def bR (md:Region.Mode)(ops:Array Oper)(L:Array Bool)(ms:List Nat)(dep:List (List Nat))(pu:List Bool):Bool:=
 Region.noSelect ops && (rP ms.length).all fun d=>d.all id||match aO dep pu ms.length d with
  |some j=>Region.free md ops (Ff L ms d) (ms.getD j 0) && (Region.ready md ops (Ff L ms d)).contains (ms.getD j 0)
  |none=>((Region.ready md ops (Ff L ms d)).all fun i=>ms.zipIdx.any fun p=>p.1==i && !(d.getD p.2 true) && !(pu.getD p.2 false) && (dep.getD p.2 []).all fun l=>d.getD l false) && !(Region.ready md ops (Ff L ms d)).isEmpty
theorem Op:∀(ms:List Nat) (L:Array Bool) (d:List Bool) (j i:Nat),ms.Nodup->ms[j]? =some i->d.length=ms.length->(Ff L ms d).setIfInBounds i true=Ff L ms (d.set j true)
 |[],_,_,_,_,_,h,_=>by simp at h
 |m::ms,L,[],_,_,_,_,h=>by simp at h
 |m::ms,L,b::d,0,i,hn,h,hl=>by
  simp at h;subst h;rw[Ad]
  show(Ff (L.setIfInBounds m b) ms d).setIfInBounds m true=Ff (L.setIfInBounds m true) ms d
  have key:∀(ms:List Nat) (L:Array Bool) (d:List Bool),m∉ms->(Ff L ms d).setIfInBounds m true=Ff (L.setIfInBounds m true) ms d:=by
   intro ms
   induction ms with
   |nil=>intro L d _;cases d<;>rfl
   |cons k ms ih=>
    intro L d hk;cases d with
    |nil=>rfl
    |cons c d=>
     show(Ff (L.setIfInBounds k c) ms d).setIfInBounds m true=Ff ((L.setIfInBounds m true).setIfInBounds k c) ms d
     rw[ih _ _ (fun q=>hk (Aj _ q)),Array.setIfInBounds_comm _ _ (fun q=>hk (by rw[q];exact Ai))]
  rw[key ms _ d (List.nodup_cons.1 hn).1];congr 1;exact Array.setIfInBounds_setIfInBounds _
 |m::ms,L,b::d,j+1,i,hn,h,hl=>by
  rw[Ae];exact Op ms _ d j i (List.nodup_cons.1 hn).2 uB (by simpa using hl)
theorem mM (a:Act)(s:Option Nat)(v u:Value):(a.put s v).put s u=a.put s u:=by
 cases s with
 |none=>rfl
 |some s=>
  unfold Act.put;simp only;rw[Array.setIfInBounds_setIfInBounds]
def Oq:List (Option Nat)->Bool
 |[]=>true
 |none::ss=>Oq ss
 |some s::ss=>!(ss.contains (some s)) && Oq ss
theorem qH (s:Option Nat)(v:Value):∀(ss:List (Option Nat)) (a:Act) (u:List Value),(∀m,s=some m->some m∉ss)->(Bt a ss u).put s v=Bt (a.put s v) ss u:=by
 intro ss
 induction ss with
 |nil=>intro a u _;cases u<;>rfl
 |cons k ss ih=>
  intro a u hk;cases u with
  |nil=>rfl
  |cons c u=>
   show(Bt (a.put k c) ss u).put s v=Bt ((a.put s v).put k c) ss u
   rw[ih _ _ (fun m e q=>hk m e (Aj _ q)),Act.put_comm a c v (fun d e q=>hk d q (by rw[←e];exact Ai))]
theorem Oj:∀(ss:List (Option Nat)) (a:Act) (u:List Value) (j:Nat) (s:Option Nat) (v:Value),Oq ss=true->ss[j]? =some s->u.length=ss.length->(Bt a ss u).put s v=Bt a ss (u.set j v)
 |[],_,_,_,_,_,_,h,_=>by simp at h
 |m::ss,a,[],_,_,_,_,_,h=>by simp at h
 |m::ss,a,x::u,0,s,v,hn,h,hl=>by
  simp at h;subst h;rw[Ad]
  show(Bt (a.put m x) ss u).put m v=Bt (a.put m v) ss u
  rw[qH m v ss _ u ?_,mM];rintro k rfl q;simp [Oq,q] at hn
 |m::ss,a,x::u,j+1,s,v,hn,h,hl=>by
  rw[Ae];refine Oj ss _ u j s v ?_ uB (by simpa using hl);cases m with
  |none=>exact hn
  |some m=>simp only[Oq,Bool.and_eq_true] at hn;exact hn.2
theorem Rt:∀(ms:List Nat) (L:Array Bool),(ms.all fun i=>!(L.getD i true))=true->Ff L ms (ms.map fun _=>false)=L
 |[],_,_=>rfl
 |m::ms,L,h=>by
  rw[List.all_cons,Bool.and_eq_true] at h
  have e:L.setIfInBounds m false=L:=by
   have h1:=h.1;by_cases hm:m<L.size
   ·simp [hm] at h1;refine Array.ext tH fun i q1 q2=>?_
    rw[Array.getElem_setIfInBounds (by simpa using q1)]
    split
    ·next e=>subst e;exact h1.symm
    rfl
   simp [hm] at h1
  show Ff (L.setIfInBounds m false) ms (ms.map fun _=>false)=L;rw[e];exact Rt ms L h.2
def Ps (a:Act)(ss:List (Option Nat)):List Value:=ss.map fun s=>match s with
 |some s=>a.tmps.getD s undef
 |none=>undef
theorem jW (a:Act)(s:Nat):a.put (some s) (a.tmps.getD s undef)=a:=by
 unfold Act.put;simp only
 have:a.tmps.setIfInBounds s (a.tmps.getD s undef)=a.tmps:=by
  by_cases hm:s<a.tmps.size
  ·refine Array.ext tH fun i q1 q2=>?_
   rw[Array.getElem_setIfInBounds (by simpa using q1)]
   split
   ·next e=>subst e;simp
   rfl
  rw[Array.setIfInBounds_eq_of_size_le tE]
 rw[this]
theorem L2:∀(ss:List (Option Nat)) (a:Act),Bt a ss (Ps a ss)=a
 |[],_=>rfl
 |none::ss,a=>L2 ss a
 |some s::ss,a=>by
  show Bt (a.put (some s) (a.tmps.getD s undef)) ss (Ps a ss)=a;rw[jW];exact L2 ss a
section
variable {P:Program} {ops:Array Oper} {Q:Exit->Act->World->Prop} {md:Region.Mode} {S:World->Prop}
def Wz (P:Program)(ops:Array Oper)(Q:Exit->Act->World->Prop)(Inv:List Bool->List Value->World->Prop)(a:Act)(ms:List Nat)(ss:List (Option Nat))(dep:List (List Nat))(j:Nat):Prop:=
 ∀(d:List Bool) (u:List Value) (w:World),d.length=ms.length->u.length=ms.length->d[j]? =some false->((dep.getD j []).all fun l=>d.getD l false)=true->Inv d u w->∀i s,ms[j]? =some i->ss[j]? =some s->
  wpOp P ops Q i (fun a' w'=>∃v,a'=(Bt a ss u).put s v/\Inv (d.set j true) (u.set j v) w') (Bt a ss u) w
def sF (P:Program)(ops:Array Oper)(S:World->Prop)(Inv:List Bool->List Value->World->Prop)(a:Act)(ms:List Nat)(ss:List (Option Nat))(dep:List (List Nat))(j:Nat):Prop:=
 ∀(d:List Bool) (u:List Value) (w:World),d.length=ms.length->u.length=ms.length->d[j]? =some false->((dep.getD j []).all fun l=>d.getD l false)=true->Inv d u w->∀i s,ms[j]? =some i->ss[j]? =some s->
  ∃o v,ops[i]? =some o/\o.dst=s/\YieldsIf P ops S o v (Bt a ss u)/\Inv (d.set j true) (u.set j v) w
theorem Yd {dep:List (List Nat)}{pu:List Bool}{n:Nat}{d:List Bool}{j:Nat}(h:aO dep pu n d=some j):j<n/\pu.getD j false=true/\d.getD j true=false/\((dep.getD j []).all fun l=>d.getD l false)=true:=by
 have h1:=List.find?_some h;have h2:=List.mem_of_find?_eq_some h;simp only[Bool.and_eq_true,Bool.not_eq_true'] at h1;exact⟨List.mem_range.1 h2,h1.1.1,h1.1.2,h1.2⟩
theorem Vp:∀(d:List Bool) (j:Nat),d[j]? =some false->(d.set j true).count false+1=d.count false:=by
 intro d
 induction d with
 |nil=>intro j h;simp at h
 |cons b d ih=>
  intro j h;cases j with
  |zero=>simp at h;subst h;simp
  |succ j=>
   have:=ih j uB
   rw[Ae,List.count_cons,List.count_cons];omega
theorem Uf {d:List Bool}{j:Nat}(hlt:j<d.length)(hd:d.getD j true=false):d[j]? =some false:=by
 rw[List.getD_eq_getElem?_getD,Ag hlt] at hd;rw[Ag hlt];simpa using hd
theorem Oc {Inv:List Bool->List Value->World->Prop}{L:Array Bool}{a:Act}(ms:List Nat)(ss:List (Option Nat))(dep:List (List Nat))(pu:List Bool){m:Nat}(hok:bR md ops L ms dep pu=true)(hn:ms.Nodup)(hns:Oq ss=true)(hls:ss.length=ms.length)
 (hQ:∀s v c a w,Q (.panic c) (a.put s v) w->Q (.panic c) a w)
 (hS:∀d u w,Inv d u w->S w) (hop:∀j,j<ms.length->if pu.getD j false=true then sF P ops S Inv a ms ss dep j else Wz P ops Q Inv a ms ss dep j)
 (hend:∀(u:List Value) (w:World),u.length=ms.length->Inv (ms.map fun _=>true) u w->wpAnyH P md ops Q S m (Ff L ms (ms.map fun _=>true)) (Bt a ss u) w):
 ∀(c:Nat) (d:List Bool) (u:List Value) (w:World),d.length=ms.length->u.length=ms.length->d.count false=c->Inv d u w->wpAnyH P md ops Q S (m+c) (Ff L ms d) (Bt a ss u) w
 |0,d,u,w,h1,h2,hc,hF=>by
  have:d=ms.map fun _=>true:=by
   refine List.ext_getElem (by simp [h1]) fun i q1 q2=>?_
   simp only[List.getElem_map];cases e:d[i] with
   |true=>rfl
   |false=>
    have:=List.count_pos_iff.2 (e▸List.getElem_mem q1)
    omega
  subst this;exact hend u w h2 hF
 |c+1,d,u,w,h1,h2,hc,hF=>by
  have hok':=hok;unfold bR at hok';rw[Bool.and_eq_true] at hok';obtain⟨hsel,hok'⟩:=hok';have hk:=List.all_eq_true.1 hok' d (by rw[←h1];exact Zt)
  have hnall:d.all id=false:=by
   cases e:d.all id with
   |false=>rfl
   |true=>
    exfalso
    have:false∈d:=List.count_pos_iff.1 tE
    have:=List.all_eq_true.1 e _ this
    cases this
  rw[hnall,Bool.false_or] at hk;cases hp:aO dep pu ms.length d with
  |some j=>
   rw[hp] at hk;simp only[Bool.and_eq_true] at hk;obtain⟨hfr,hrd⟩:=hk;obtain⟨hj,hpu,hdj,hdep⟩:=Yd hp;have hjm:ms[j]? =some ms[j]:=Ag _;have hjs:ss[j]? =some (ss[j]' tE):=Ag _;have e:ms.getD j 0=ms[j]:=by simp [List.getD_eq_getElem?_getD,hj]
   rw[e] at hfr hrd;have hq:=hop j hj;rw[Ap hpu] at hq;obtain⟨o,v,ho,hds,hy,hI⟩:=hq d u w h1 h2 (Uf tE hdj) hdep hF _ _ hjm hjs;refine wpAnyH_take (fuel:=m+c) ho hsel hfr hrd (hQ _ _) hy (hS _ _ _ hF) ?_;rw[hds,Op ms L d j _ hn hjm h1,Oj ss a u j _ v hns hjs tE];exact Oc ms ss dep pu hok hn hns hls hQ hS hop hend c (d.set j true) (u.set j v) w vY (by simpa using h2) (by have:=Vp d j (Uf tE hdj);omega) hI
  |none=>
   rw[hp] at hk;simp only[Bool.and_eq_true] at hk;obtain⟨hk1,hk2⟩:=hk;rw[show m+(c+1)=(m+c)+1 by omega];refine⟨fun h0=>by rw[h0] at hk2;simp at hk2,fun i hi=>?_⟩;have hi':=List.all_eq_true.1 hk1 i hi;obtain⟨p,hp,hq⟩:=List.any_eq_true.1 hi';obtain⟨x,j⟩:=p;rw[List.mem_zipIdx_iff_getElem?] at hp;simp only[Bool.and_eq_true,beq_iff_eq,Bool.not_eq_true'] at hq;obtain⟨⟨⟨rfl,hd⟩,hpu⟩,hdep⟩:=hq;simp only at hp;have hj:j<ms.length:=(List.getElem?_eq_some_iff.1 hp).1;have hjs:ss[j]? =some (ss[j]' tE):=Ag _;have hdj:d[j]? =some false:=Uf tE hd;have ho:=hop j hj;rw[Ao (by rw[hpu];simp)] at ho;refine wpOp_mono ?_ (ho d u w h1 h2 hdj hdep hF x _ hp hjs);rintro a' w' ⟨v,rfl,hv⟩;refine⟨hS _ _ _ hv,?_⟩;rw[Op ms L d j x hn hp h1,Oj ss a u j _ v hns hjs tE];exact Oc ms ss dep pu hok hn hns hls hQ hS hop hend c (d.set j true) (u.set j v) w' vY (by simpa using h2) (by have:=Vp d j hdj;omega) hv
theorem E4 {Inv:List Bool->List Value->World->Prop}{listed:Array Bool}{a:Act}{w:World}(k:Nat)(ms:List Nat)(ss:List (Option Nat))(dep:List (List Nat))(pu:List Bool){m:Nat}(hok:bR md ops listed ms dep pu=true)
 (hQ:∀s v c a w,Q (.panic c) (a.put s v) w->Q (.panic c) a w) (hsm:(decide (ms.Nodup) && Oq ss && decide (ss.length=ms.length) && decide (ms.length=k) && ms.all fun i=>!(listed.getD i true))=true)
 (hS:∀d u w,Inv d u w->S w) (h0:Inv (ms.map fun _=>false) (Ps a ss) w) (hop:∀j,j<ms.length->if pu.getD j false=true then sF P ops S Inv a ms ss dep j else Wz P ops Q Inv a ms ss dep j)
 (hend:∀(u:List Value) (w:World),u.length=ms.length->Inv (ms.map fun _=>true) u w->wpAnyH P md ops Q S m (Ff listed ms (ms.map fun _=>true)) (Bt a ss u) w):wpAnyH P md ops Q S (m+k) listed a w:=by
 simp only[Bool.and_eq_true,decide_eq_true_eq] at hsm;obtain⟨⟨⟨⟨h1,h2⟩,h3⟩,h4⟩,h5⟩:=hsm
 have hc:(ms.map fun _=>false).count false=k:=by
  rw[←h4];clear h0 hop hend hok h1 h3 h4 h5
  induction ms with
  |nil=>rfl
  |cons x ms ih=>simp only[List.map_cons,List.count_cons_self,Aa,ih]
 have:=Oc (L:=listed) (a:=a) ms ss dep pu hok h1 h2 h3 hQ hS hop hend k (ms.map fun _=>false) (Ps a ss) w tH (by simp [Ps,h3]) hc h0
 rwa [Rt ms listed h5,L2] at this
theorem Wz.mk {Inv:List Bool->List Value->World->Prop}{a:Act}{ms:List Nat}{ss:List (Option Nat)}{dep:List (List Nat)}{j:Nat}{i:Nat}{o:Oper}(hi:ms[j]? =some i)(ho:ops[i]? =some o)(hs:ss[j]? =some o.dst)
 (h:∀(d:List Bool) (u:List Value) (w:World),d.length=ms.length->u.length=ms.length->d[j]? =some false->((dep.getD j []).all fun l=>d.getD l false)=true->Inv d u w->∀K:Act->World->Prop,Shut (∀v w',Inv (d.set j true) (u.set j v) w'->K ((Bt a ss u).put o.dst v) w')->
  if Region.wanted o (yielded ops (Bt a ss u).tmps)=true then Oper.wp P o (Bt a ss u) w K Q else K ((Bt a ss u).put o.dst undef) w):Wz P ops Q Inv a ms ss dep j:=by
 intro d u w h1 h2 h3 h4 h5 i' s hi' hs';rw[hi] at hi';rw[hs] at hs';injection hi' with hi';injection hs' with hs';subst hi' hs';refine wpOp_step ho fun K hK=>h d u w h1 h2 h3 h4 h5 K fun v w' hv=>?_
 exact hK _ _ ⟨v,rfl,hv⟩
end
def N2:List (Value->World->Prop)->List Bool->List Value->World->Prop
 |F::Fs,b::d,v::u,w=>(b=true->F v w)/\N2 Fs d u w
 |[],[],[],_=>True
 |_,_,_,_=>False
theorem N2.mono {w w':World}(hR:Below w.heap.size w w'):∀{Fs:List (Value->World->Prop)} {d:List Bool} {u:List Value},(∀F∈Fs,∀v w w',F v w->Below w.heap.size w w'->F v w')->N2 Fs d u w->N2 Fs d u w'
 |_::_,_::_,_::_,hm,h=>⟨fun hb=>hm _ Ai _ _ _ (h.1 hb) hR,N2.mono hR (fun F hF=>hm F (Aj _ hF)) h.2⟩
 |[],[],[],_,_=>trivial
theorem N2.set {w:World}:∀{Fs:List (Value->World->Prop)} {d:List Bool} {u:List Value} {j:Nat} {F:Value->World->Prop} {v:Value},N2 Fs d u w->Fs[j]? =some F->F v w->N2 Fs (d.set j true) (u.set j v) w
 |_::_,_::_,_::_,0,F,v,h,hF,hv=>by
  simp at hF;subst hF;exact⟨fun _=>hv,h.2⟩
 |_::_,_::_,_::_,j+1,F,v,h,hF,hv=>⟨h.1,N2.set h.2 (by simpa using hF) hv⟩
 |[],[],[],j,F,v,h,hF,_=>by simp at hF
theorem N2.none:∀(Fs:List (Value->World->Prop)) (u:List Value) (w:World),u.length=Fs.length->N2 Fs (Fs.map fun _=>false) u w
 |[],[],_,_=>trivial
 |_::Fs,_::u,w,h=>⟨fun e=>(by cases e),N2.none Fs u w uB⟩
 |[],_::_,_,h=>by simp at h
 |_::_,[],_,h=>by simp at h
def Bx (B:Nat)(T:TypeId)(cs:Array Value)(x:Value)(w:World):Prop:=∃b,x= .pointer (some ⟨b,0,none⟩)/\B<=b/\w.heap[b]? =some (.cells cs T (0,0))
theorem Bu {w:World}{b:Nat}{o:Obj}(h:w.heap[b]? =some o):b<w.heap.size:=by
 obtain⟨h,_⟩:=Array.getElem?_eq_some_iff.1 h;exact h
theorem Bx.below {B:Nat}{T:TypeId}{cs:Array Value}{x:Value}{w w':World}(h:Bx B T cs x w)(hb:Below w.heap.size w w'):Bx B T cs x w':=by
 obtain⟨b,h1,h2,h3⟩:=h;exact⟨b,h1,h2,(hb.block b (Bu h3)).trans h3⟩
def Dst (bx:List Nat)(d:List Bool)(u:List Value)(w:World):Prop:=
 (∀i∈bx,d.getD i false=true->∃b,u.getD i undef= .pointer (some ⟨b,0,none⟩)/\b<w.heap.size)/\∀i∈bx,∀j∈bx,i≠j->d.getD i false=true->d.getD j false=true->u.getD i undef≠u.getD j undef
def N0 (B:Nat)(w0:World)(Fs:List (Value->World->Prop))(bx:List Nat)(d:List Bool)(u:List Value)(w:World):Prop:=Below B w0 w/\w0.heap.size<=w.heap.size/\N2 Fs d u w/\Dst bx d u w
section
variable {P:Program} {ops:Array Oper} {Q:Exit->Act->World->Prop} {md:Region.Mode} {S:World->Prop}
theorem Kz {α:Type}(l:List α)(j:Nat)(x z:α)(h:j<l.length):(l.set j x).getD j z=x:=by simp [List.getD_eq_getElem?_getD,h]
theorem Em {α:Type}(l:List α)(i j:Nat)(x z:α)(h:i≠j):(l.set j x).getD i z=l.getD i z:=by simp [List.getD_eq_getElem?_getD,Ne.symm h]
theorem OneB.mk {B:Nat}{w0:World}{Fs:List (Value->World->Prop)}{bx:List Nat}{a:Act}{ms:List Nat}{ss:List (Option Nat)}{dep:List (List Nat)}{j:Nat}(i:Nat)(o:Oper)(F:Value->World->Prop)(hi:ms[j]? =some i)(ho:ops[i]? =some o)(hs:ss[j]? =some o.dst)(hF:Fs[j]? =some F)
 (hmono:∀F∈Fs,∀v w w',F v w->Below w.heap.size w w'->F v w') (hB:B<=w0.heap.size)
 (h:∀(d:List Bool) (u:List Value) (w:World),d.length=ms.length->u.length=ms.length->((dep.getD j []).all fun l=>d.getD l false)=true->N2 Fs d u w->Below B w0 w->w0.heap.size<=w.heap.size->
  ∀K:Act->World->Prop,Shut (∀v w',Below w.heap.size w w'->F v w'->(j∈bx->v= .pointer (some ⟨w.heap.size,0,none⟩)/\w.heap.size<w'.heap.size)->K ((Bt a ss u).put o.dst v) w')->
  if Region.wanted o (yielded ops (Bt a ss u).tmps)=true then Oper.wp P o (Bt a ss u) w K Q else K ((Bt a ss u).put o.dst undef) w):Wz P ops Q (N0 B w0 Fs bx) a ms ss dep j:=by
 refine Wz.mk hi ho hs fun d u w h1 h2 h3 h4 h5 K hK=>?_
 obtain⟨g1,g2,g3,g4,g5⟩:=h5;refine h d u w h1 h2 h4 g3 g1 g2 K fun v w' hb hv hbx=>hK v w' ⟨g1.trans (hb.mono tE),Al g2 hb.size,(g3.mono hb hmono).set hF hv,?_,?_⟩
 ·intro x hx hd;by_cases e:x=j
  ·subst e;obtain⟨e1,e2⟩:=hbx hx;have hlt:x<u.length:=by rw[h2];exact(List.getElem?_eq_some_iff.1 hi).1
   rw[Kz _ _ _ _ hlt];exact⟨_,e1,e2⟩
  rw[Em _ _ _ _ _ e] at hd ⊢;obtain⟨b,q1,q2⟩:=g4 x hx hd;exact⟨b,q1,Nat.lt_of_lt_of_le q2 hb.size⟩
 intro x hx y hy hne hdx hdy;have hlt:j<u.length:=by rw[h2];exact(List.getElem?_eq_some_iff.1 hi).1
 by_cases e:x=j
 ·subst e;rw[Em _ _ _ _ _ (Ne.symm hne)] at hdy ⊢;rw[Kz _ _ _ _ hlt];obtain⟨e1,_⟩:=hbx hx;obtain⟨b,q1,q2⟩:=g4 y hy hdy;rw[e1,q1];intro q;injection q with q;injection q with q;injection q with q;omega
 by_cases e':y=j
 ·subst e';rw[Em _ _ _ _ _ e] at hdx ⊢;rw[Kz _ _ _ _ hlt];obtain⟨e1,_⟩:=hbx hy;obtain⟨b,q1,q2⟩:=g4 x hx hdx;rw[e1,q1];intro q;injection q with q;injection q with q;injection q with q;omega
 rw[Em _ _ _ _ _ e] at hdx ⊢;rw[Em _ _ _ _ _ e'] at hdy ⊢;exact g5 x hx y hy hne hdx hdy
theorem OneBP.mk {B:Nat}{w0:World}{Fs:List (Value->World->Prop)}{bx:List Nat}{a:Act}{ms:List Nat}{ss:List (Option Nat)}{dep:List (List Nat)}{j:Nat}(i:Nat)(o:Oper)(F:Value->World->Prop)(hi:ms[j]? =some i)(ho:ops[i]? =some o)(hs:ss[j]? =some o.dst)(hF:Fs[j]? =some F)(hbx:bx.contains j=false)
 (h:∀(d:List Bool) (u:List Value) (w:World),d.length=ms.length->u.length=ms.length->((dep.getD j []).all fun l=>d.getD l false)=true->N2 Fs d u w->Below B w0 w->w0.heap.size<=w.heap.size->
  ∃v,YieldsIf P ops S o v (Bt a ss u)/\F v w):sF P ops S (N0 B w0 Fs bx) a ms ss dep j:=by
 intro d u w h1 h2 h3 h4 h5 i' s hi' hs';rw[hi] at hi';rw[hs] at hs';injection hi' with hi';injection hs' with hs';subst hi' hs';obtain⟨g1,g2,g3,g4,g5⟩:=h5;obtain⟨v,hy,hv⟩:=h d u w h1 h2 h4 g3 g1 g2
 have hne:∀x∈bx,x≠j:=fun x hx e=>by
  subst e;rw[List.contains_iff_mem.2 hx] at hbx;cases hbx
 refine⟨o,v,ho,rfl,hy,g1,g2,g3.set hF hv,fun x hx hd=>?_,fun x hx y hy hxy hdx hdy=>?_⟩
 ·rw[Em _ _ _ _ _ (hne x hx)] at hd ⊢;exact g4 x hx hd
 rw[Em _ _ _ _ _ (hne x hx)] at hdx ⊢;rw[Em _ _ _ _ _ (hne y hy)] at hdy ⊢;exact g5 x hx y hy hxy hdx hdy
theorem N0.start {B:Nat}{w0:World}{Fs:List (Value->World->Prop)}{bx:List Nat}{ms:List Nat}{u:List Value}(h1:ms.length=Fs.length)(h2:u.length=Fs.length):N0 B w0 Fs bx (ms.map fun _=>false) u w0:=by
 have e:(ms.map fun _=>false)=Fs.map fun _=>false:=by
  refine List.ext_getElem vY fun i q1 q2=>by simp
 refine⟨Aq _ _,Ak _,by rw[e];exact N2.none Fs u w0 h2,?_,?_⟩
 all_goals
  intro x hx
 ·intro hd;exact zx0
 intro y hy hne hd;exact zx0
end
theorem Lh {α:Type}{u:List α}(h:u.length=2):∃x0 x1,u=[x0,x1]:=by
 match u,h with
 |[x0,x1],_=>exact⟨x0,x1,rfl⟩
theorem bG {α:Type}{u:List α}(h:u.length=3):∃x0 x1 x2,u=[x0,x1,x2]:=by
 match u,h with
 |[x0,x1,x2],_=>exact⟨x0,x1,x2,rfl⟩
theorem Gp {α:Type}{u:List α}(h:u.length=7):∃x0 x1 x2 x3 x4 x5 x6,u=[x0,x1,x2,x3,x4,x5,x6]:=by
 match u,h with
 |[x0,x1,x2,x3,x4,x5,x6],_=>exact⟨x0,x1,x2,x3,x4,x5,x6,rfl⟩
theorem lt2 {p:Nat->Prop}(h0:p 0)(h1:p 1):∀j,j<2->p j:=fun j h=>by
 match j,h with
 |0,_=>exact h0
 |1,_=>exact h1
theorem lt3 {p:Nat->Prop}(h0:p 0)(h1:p 1)(h2:p 2):∀j,j<3->p j:=fun j h=>by
 match j,h with
 |0,_=>exact h0
 |1,_=>exact h1
 |2,_=>exact h2
theorem lt7 {p:Nat->Prop}(h0:p 0)(h1:p 1)(h2:p 2)(h3:p 3)(h4:p 4)(h5:p 5)(h6:p 6):∀j,j<7->p j:=fun j h=>by
 match j,h with
 |0,_=>exact h0
 |1,_=>exact h1
 |2,_=>exact h2
 |3,_=>exact h3
 |4,_=>exact h4
 |5,_=>exact h5
 |6,_=>exact h6
open Go Go.RowKit Go.Lib
theorem La:∀F∈([]:List (Value->World->Prop)),∀v w w',F v w->Below w.heap.size w w'->F v w':=fun _ h=>by cases h
theorem Ce {F:Value->World->Prop}{Fs:List (Value->World->Prop)}(h:∀v w w',F v w->Below w.heap.size w w'->F v w')(hs:∀F∈Fs,∀v w w',F v w->Below w.heap.size w w'->F v w'):∀G∈F::Fs,∀v w w',G v w->Below w.heap.size w w'->G v w':=fun G hG=>by
 rcases List.mem_cons.1 hG with rfl|hG
 ·exact h
 exact hs G hG
def Two (n m:Nat)(v:Value)(V:World):Prop:=∃v1 v2,v= .tuple #[v1,v2]/\Bn V v1 ((n:Nat):Int)/\Bn V v2 ((m:Nat):Int)
theorem Two.below {n m:Nat}{v:Value}{w w':World}(h:Two n m v w)(hb:Below w.heap.size w w'):Two n m v w':=by
 obtain⟨v1,v2,h1,h2,h3⟩:=h;exact⟨v1,v2,h1,h2.below hb,h3.below hb⟩
def J4 (n:Nat)(v:Value)(V:World):Prop:=Bn V v (n:Int)
theorem J4.below {n:Nat}{v:Value}{w w':World}(h:J4 n v w)(hb:Below w.heap.size w w'):J4 n v w':=Bn.below h hb
theorem nO {d:Nat}(h:0<d)(h':d<10000):dg d=[d]:=by
 rw[Kx tE,Nat.mod_eq_of_lt h',show d/10000=0 by omega,Ed]
theorem T7 {w:World}{a:Option Addr}{n c m:Nat}(h:Cp w (.slice a n c) (dg m)):Bn w (.agg #[.bool false,.slice a n c]) (m:Int):=⟨_,by rw[An tE],by rw[Int.natAbs_natCast];exact h⟩
theorem Wl {w:World}{a:Option Addr}{n c d:Nat}(h:Cp w (.slice a n c) (dg d))(hd:d<10):(d=0/\n=0)\/(0<d/\n=1/\∃b o,a=some ⟨b,o,none⟩/\w.cell? ⟨b,o,none⟩=some (.int .i64 (d:Int))):=by
 obtain⟨_,_,e,_⟩:=h.slice;injection e with _ e _;by_cases h0:d=0
 ·subst h0;exact .inl ⟨rfl,by rw[e,Ed];rfl⟩
 rw[nO tE tE] at e h;obtain⟨b,o,h1,h2⟩:=h.at (i:=0) tH;exact .inr ⟨by omega,e,b,o,h1,by simpa using h2⟩
theorem Ll (F:World)(d:Nat)(x:Int)(hx:x=48+(d:Int))(h:d<10):(convert 106 9 (.slice (some ⟨F.heap.size,0,none⟩) 1 1)).run Tryz.prog (F.alloc (.cells #[.int .u8 x] 5))= .ok (.string ⟨#[UInt8.ofNat (48+d)]⟩) (F.alloc (.cells #[.int .u8 x] 5)):=by
 have:=run_convert_bytes_back (P:=Tryz.prog) (F.alloc (.cells #[.int .u8 x] 5)) 106 9 5 ⟨F.heap.size,0,none⟩ 1 [UInt8.ofNat (48+d)] Tryz.underlying106 Tryz.underlying5 Tryz.underlying9 (fun j hj=>by
  have hj0:j=0:=by simp at hj;exact hj
  subst hj0;simp only[List.getElem_cons_zero,Vm d h]
  show(F.alloc (.cells #[.int .u8 x] 5)).cell? ⟨F.heap.size,0,none⟩=_
  simp only[World.cell?,A1,hx]
  rfl)
 exact this
theorem eM:∀(m n:Nat),n<10^(m+1)->(decDigits n).length<=m+1
 |0,n,h=>by rw[Dv tE];simp
 |m+1,n,h=>by
  by_cases h10:n<10
  ·rw[Dv h10];simp
  have:=eM m (n/10) (by rw[Nat.pow_succ] at h;omega)
  rw[Ig h10,Ab];simp;omega
theorem Om {n k:Nat}(hn:Bw n<=5)(hk:k<=5):(Gz n k).length<=30:=by
 have h1:=Pg n;have h2:10000^Bw n<=10000^5:=Nat.pow_le_pow_right tG hn;have h3:=eM 19 n tE
 have:=lM n k
 omega
theorem T8 {V F:World}{p q:Nat}{x1 x2 y1 y2:Value}(hp:V.heap[p]? =some (.cells #[.bool false,.slice none 0 0] 208 (0,0)))(hq:V.heap[q]? =some (.cells #[.bool false,.slice none 0 0] 208 (0,0)))(hne:p≠q)
 (hF:(((V.setCell ⟨p,0,none⟩ x1).setCell ⟨p,1,none⟩ x2).setCell ⟨q,0,none⟩ y1).setCell ⟨q,1,none⟩ y2=F):
 F.heap[p]? =some (.cells #[x1,x2] 208 (0,0))/\F.heap[q]? =some (.cells #[y1,y2] 208 (0,0))/\Bc [p,q] V F/\∀v z,Bn V v z->Bn F v z:=by
 subst hF;have h1:=A2 (i:=1) (u:=x2) (A2 (i:=0) (u:=x1) hp);have o1:Bc [p] V ((V.setCell ⟨p,0,none⟩ x1).setCell ⟨p,1,none⟩ x2):=((Bc.refl [p] V).setCell (.inl tH) _).setCell (.inl tH) _;obtain⟨V1,hV1⟩:∃V1,(V.setCell ⟨p,0,none⟩ x1).setCell ⟨p,1,none⟩ x2=V1:=⟨_,rfl⟩;rw[hV1] at h1 o1 ⊢;have hq1:V1.heap[q]? =_:=(o1.block q (Bu hq) (by simp;exact fun e=>hne e.symm)).trans hq;have h2:=A2 (i:=1) (u:=y2) (A2 (i:=0) (u:=y1) hq1);have o2:Bc [q] V1 ((V1.setCell ⟨q,0,none⟩ y1).setCell ⟨q,1,none⟩ y2):=((Bc.refl [q] V1).setCell (.inl tH) _).setCell (.inl tH) _;refine⟨(o2.block p (Bu h1) (by simp;exact hne)).trans h1,h2,(o1.mono (T:=[p,q]) tH).step o2 tH,fun v z h=>?_⟩
 have:=(h.store hp x1 x2).store (r:=q) (t:=208) (p:=false) (a:=none) (n:=0) (c:=0) (by rw[hV1];exact hq1) y1 y2
 rwa [hV1] at this
structure kA (w wr:World)(b:Bool)(s:Value)(l:Value):Prop where
 x:wr.heap[w.heap.size]? =some (.cells #[.bool b,s] 208 (0,0))
 l:wr.heap[w.heap.size+1]? =some (.cells #[.bool false,l] 208 (0,0))
 bel:Below w.heap.size w wr
theorem kA.box {w wo F:World}{b:Bool}{s l:Value}(hA:kA w wo b s l)(hF:Below wo.heap.size wo F)(O:Obj):(F.alloc O).heap[w.heap.size+1]? =some (.cells #[.bool false,l] 208 (0,0)):=
 ((hF.alloc (hF.size) O).block _ (Bu hA.l)).trans hA.l
theorem Sm {w wo F:World}{b:Bool}{s:Value}{la a5:Option Addr}{ln lc n5 c5 m:Nat}(hA:kA w wo b s (.slice la ln lc))(hF:Below wo.heap.size wo F)(h5:Bn F (.agg #[.bool false,.slice a5 n5 c5]) (m:Int))(O:Obj):
 kA w (((F.alloc O).setCell ⟨w.heap.size+1,0,none⟩ (.bool false)).setCell ⟨w.heap.size+1,1,none⟩ (.slice a5 n5 c5)) b s (.slice a5 n5 c5)/\Cp (((F.alloc O).setCell ⟨w.heap.size+1,0,none⟩ (.bool false)).setCell ⟨w.heap.size+1,1,none⟩ (.slice a5 n5 c5)) (.slice a5 n5 c5) (dg m)/\n5=Bw m:=by
 have hbx:=hA.box hF O;have h1:=A2 (i:=1) (u:= .slice a5 n5 c5) (A2 (i:=0) (u:= .bool false) hbx);have o1:Bc [w.heap.size+1] (F.alloc O) (((F.alloc O).setCell ⟨w.heap.size+1,0,none⟩ (.bool false)).setCell ⟨w.heap.size+1,1,none⟩ (.slice a5 n5 c5)):=((Bc.refl _ _).setCell (.inl tH) _).setCell (.inl tH) _;have hbF:=hF.alloc (hF.size) O;have h5':=((Bn.below h5 ((Aq F.heap.size F).alloc (Ak _) O)).store hbx (.bool false) (.slice a5 n5 c5)).nat;obtain⟨_,_,_,e,hd⟩:=h5';injection e with e;have e2:=Ar (fun x:Array Value=>x[1]?) e;simp at e2;obtain⟨rfl,rfl,rfl⟩:=e2;refine⟨⟨?_,h1,?_⟩,hd,?_⟩
 ·refine(o1.block _ ?_ tH).trans ((hbF.block _ (Bu hA.x)).trans hA.x);exact Nat.lt_of_lt_of_le (Bu hA.x) hbF.size
 ·exact((hA.bel.trans (hbF.mono hA.bel.size)).setCell tH _).setCell tH _
 obtain⟨_,_,e,_⟩:=hd.slice;injection e
theorem aB {N k n dd:Nat}{sl cs:ByteArray}(hP:Gz N k=Gz n (k - sl.size)++dl sl)(hgo:0<n\/sl.size<k)(hdd:n % 10=dd)(hcs:cs=⟨#[UInt8.ofNat (48+dd)]⟩)(hN:Bw N<=5)(hk:k<=5):(cs++sl).size<=30/\Gz N k=Gz (n/10) (k - (cs++sl).size)++dl (cs++sl)/\30 - (cs++sl).size<30 - sl.size:=by
 obtain⟨h1,h2⟩:=iW hP tE;have h3:=Om hN hk;have e1:(cs++sl).size=1+sl.size:=by rw[ByteArray.size_append,hcs];rfl
 have e2:dl (cs++sl)=UInt8.ofNat (48+n % 10)::dl sl:=by rw[Ef,hcs,hdd];rfl
 rw[A4] at h2;refine⟨by omega,?_,by omega⟩;rw[e1,e2,h1,show k - sl.size - 1=k - (1+sl.size) by omega]
theorem Rq {w:World}{sx:Value}{N:Nat}(bx:Bool)(hx:Cp w sx (dg N))(hN:Bw N<=5)(k:Nat)(hk:k<=5):Calls Tryz.prog 135 #[.agg #[.bool bx,sx],.int .i64 (k:Int)] w fun e w'=>e= .returned (.string ⟨(Gz N k).toArray⟩)/\Below w.heap.size w w':=by
 obtain⟨ax,cx,rfl,_⟩:=hx.slice;obtain⟨nx,hnx⟩:∃n,(dg N).length=n:=⟨_,rfl⟩;rw[hnx] at hx ⊢;have HX:=Ax hx;have HNX:=Ax hnx;have HN:=Ax hN;have HK:=Ax hk;clear hx hnx hN hk;go_enter Tryz.func135,Tryz.ntmps135;go_wp2_with fail
 go_loopw [5] (fun v5 wr=>∃(n:Nat) (sl:ByteArray) (la:Option Addr) (ln lc:Nat),v5= .string sl/\sl.size<=30/\Hid (kA w wr bx (.slice ax nx cx) (.slice la ln lc)/\Cp wr (.slice la ln lc) (dg n)/\ln=Bw n/\Bw n<=5/\Gz N k=Gz n (k - sl.size)++dl sl)) (fun v5 _=>30 - (tD v5).size)
 case atStart=>
  refine⟨N,⟨#[]⟩,ax,nx,cx,rfl,by decide,Ax ⟨⟨?_,?_,?_⟩,?_,HNX.out.symm,HN.out,by simp [dl];rfl⟩⟩
  ·rw[RowKit.Below.heap_alloc _ _ _ tH];exact(MapKept.heap_alloc w _).1
  ·have:=(MapKept.heap_alloc (w.alloc (.cells #[.bool bx,.slice ax nx cx] 208)) (.cells #[.bool false,.slice ax nx cx] 208)).1
   simpa using this
  ·exact((Aq _ _).alloc (Ak _) _).alloc tH _
  exact HX.out.below (((Aq _ _).alloc (Ak _) _).alloc tH _)
 obtain⟨wo,rfl⟩:∃wo:World,wo=wr:=⟨_,rfl⟩;obtain⟨n,sl,la,ln,lc,rfl,hsl,hq⟩:=hrel;obtain⟨hA,hD,hln,hL5,hP⟩:=hq.out;obtain⟨m0,m1,_⟩:=A0 hA.l;obtain⟨wd,hwd⟩:∃wd,wo.drew=wd:=⟨_,rfl⟩;have hbd:Below wo.heap.size wo wd:=by rw[←hwd];exact(Aq _ _).drew
 have HA:=Ax (And.intro hA hbd);have HPP:=Ax (And.intro hP hL5)
 have hlp:0<n↔0<ln:=by
  rw[hln];constructor
  ·intro h
   have:=Pg n
   rcases Nat.eq_zero_or_pos (Bw n) with q|q
   ·rw[q] at this;omega
   exact q
  intro h;rcases Nat.eq_zero_or_pos n with q|q
  ·subst q;simp [Bw,Ed] at h
  exact q
 have hbb:∀V,Below wd.heap.size wd V->Bn V (.agg #[.bool false,.slice la ln lc]) (n:Int):=fun V hV=>⟨_,by rw[An tE],by simpa[hln] using(hD.below hbd).below hV⟩
 have HLN:=Ax hbb
 have hsl2:∀V,Below wd.heap.size wd V->V.cell? ⟨w.heap.size+1,0,none⟩=some (.bool false)/\V.cell? ⟨w.heap.size+1,1,none⟩=some (.slice la ln lc):=fun V hV=>by
  exact⟨Ba hV (Ba hbd m0),Ba hV (Ba hbd m1)⟩
 have HSL:=Ax hsl2;have HLD:=Ax hln;have HLP:=Ax hlp;clear hq hA hD hP hL5 hbd hlp hbb hsl2 hln;by_cases hgo:0<n\/sl.size<k
 ·have HGO:=Ax hgo;obtain⟨gb,hgb⟩:∃gb,decide ((0:Int)<(ln:Int))=gb:=⟨_,rfl⟩
  have hgt:gb=false->decide (sl.size<k)=true:=fun e=>Am (by
   subst e
   have:=of_decide_eq_false hgb
   have:=HLP.out
   omega)
  clear hgo;cases gb with
  |false=>
   have hgk:=hgt rfl;obtain rfl:ln=0:=by have:=of_decide_eq_false hgb;omega
   have m0d:=(HSL.out wd (Aq _ _)).1;have m1d:=(HSL.out wd (Aq _ _)).2;clear hgt hgb;go_wp2_with fail;refine wp_region_noPanic ?_;refine wp_region_held_drew (S:=fun V=>V.cell? ⟨w.heap.size+1,0,none⟩=some (.bool false)/\V.cell? ⟨w.heap.size+1,1,none⟩=some (.slice la 0 lc)) tF ?_ (fun hHeld=>?_)
   ·(try dsimp only);go_keep
   exact zz9
  |true=>
   have hgp:(0:Int)<(ln:Int):=of_decide_eq_true hgb;have m0d:=(HSL.out wd (Aq _ _)).1;have m1d:=(HSL.out wd (Aq _ _)).2;clear hgt;go_wp2_with fail;refine wp_region_noPanic ?_;refine wp_region_held_drew (S:=fun V=>V.cell? ⟨w.heap.size+1,0,none⟩=some (.bool false)/\V.cell? ⟨w.heap.size+1,1,none⟩=some (.slice la ln lc)) tF ?_ (fun hHeld=>?_)
   ·(try dsimp only);go_keep
   exact zz9
 obtain rfl:n=0:=by omega
 obtain rfl:ln=0:=by
  have:=HLP.out
  omega
 have hfin:dl ⟨(Gz N k).toArray⟩=dl sl:=by
  have:=HPP.out.1
  rw[show k - sl.size=0 by omega,iB] at this;rw[Dj,this];rfl
 have HFN:=Ax (Ep hfin);have hgk:decide (sl.size<k)=false:=An tE;clear hfin hgo;go_wp2_with fail;go_ret;exact⟨HFN.out.symm,HA.out.1.bel⟩
end Go.Proofs.YtmpfilddeglgbaaGreatDoor
