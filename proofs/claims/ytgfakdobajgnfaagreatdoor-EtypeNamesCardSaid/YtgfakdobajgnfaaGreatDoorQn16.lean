import Derived.Below
import Derived.BigQuiet
import Derived.Test.YtgfakdobajgnfaaGreatDoorQn3
set_option maxRecDepth 100000
set_option maxHeartbeats 16000000
namespace Go.Proofs.YtgfakdobajgnfaaGreatDoor
open Go Go.RowKit
def Eg:Array Bool->List Nat->List Bool->Array Bool
 |L,i::ms,b::d=>Eg (L.setIfInBounds i b) ms d
 |L,_,_=>L
def Bl:Act->List (Option Nat)->List Value->Act
 |a,s::ss,v::u=>Bl (a.put s v) ss u
 |a,_,_=>a
def mH:Nat->List (List Bool)
 |0=>[[]]
 |k+1=>(mH k).flatMap fun d=>[false::d,true::d]
theorem Xe:∀{d:List Bool},d∈mH d.length
 |[]=>List.mem_singleton.2 rfl
 |b::d=>by
  refine List.mem_flatMap.2 ⟨d,Xe,?_⟩;cases b<;>simp
def Xm (dep:List (List Nat))(pu:List Bool)(n:Nat)(d:List Bool):Option Nat:=
 (List.range n).find? fun j=>pu.getD j false && !(d.getD j true) && (dep.getD j []).all fun l=>d.getD l false
def Xj (md:Region.Mode)(ops:Array Oper)(L:Array Bool)(ms:List Nat)(dep:List (List Nat))(pu:List Bool):Bool:=
 Region.noSelect ops && (mH ms.length).all fun d=>d.all id||match Xm dep pu ms.length d with
  |some j=>Region.free md ops (Eg L ms d) (ms.getD j 0) && (Region.ready md ops (Eg L ms d)).contains (ms.getD j 0)
  |none=>((Region.ready md ops (Eg L ms d)).all fun i=>ms.zipIdx.any fun p=>p.1==i && !(d.getD p.2 true) && !(pu.getD p.2 false) && (dep.getD p.2 []).all fun l=>d.getD l false) && !(Region.ready md ops (Eg L ms d)).isEmpty
theorem Mq:∀(ms:List Nat) (L:Array Bool) (d:List Bool) (j i:Nat),ms.Nodup->ms[j]? =some i->d.length=ms.length->(Eg L ms d).setIfInBounds i true=Eg L ms (d.set j true)
 |[],_,_,_,_,_,h,_=>by simp at h
 |m::ms,L,[],_,_,_,_,h=>by simp at h
 |m::ms,L,b::d,0,i,hn,h,hl=>by
  simp at h;subst h;rw[Ad]
  show(Eg (L.setIfInBounds m b) ms d).setIfInBounds m true=Eg (L.setIfInBounds m true) ms d
  have key:∀(ms:List Nat) (L:Array Bool) (d:List Bool),m∉ms->(Eg L ms d).setIfInBounds m true=Eg (L.setIfInBounds m true) ms d:=by
   intro ms
   induction ms with
   |nil=>intro L d _;cases d<;>rfl
   |cons k ms ih=>
    intro L d hk;cases d with
    |nil=>rfl
    |cons c d=>
     show(Eg (L.setIfInBounds k c) ms d).setIfInBounds m true=Eg ((L.setIfInBounds m true).setIfInBounds k c) ms d
     rw[ih _ _ (fun q=>hk (Aj _ q)),Array.setIfInBounds_comm _ _ (fun q=>hk (by rw[q];exact Ai))]
  rw[key ms _ d (List.nodup_cons.1 hn).1];congr 1;exact Array.setIfInBounds_setIfInBounds _
 |m::ms,L,b::d,j+1,i,hn,h,hl=>by
  rw[Ae];exact Mq ms _ d j i (List.nodup_cons.1 hn).2 oQ (by simpa using hl)
theorem gS (a:Act)(s:Option Nat)(v u:Value):(a.put s v).put s u=a.put s u:=by
 cases s with
 |none=>rfl
 |some s=>
  unfold Act.put;simp only;rw[Array.setIfInBounds_setIfInBounds]
def Mi:List (Option Nat)->Bool
 |[]=>true
 |none::ss=>Mi ss
 |some s::ss=>!(ss.contains (some s)) && Mi ss
theorem lS (s:Option Nat)(v:Value):∀(ss:List (Option Nat)) (a:Act) (u:List Value),(∀m,s=some m->some m∉ss)->(Bl a ss u).put s v=Bl (a.put s v) ss u:=by
 intro ss
 induction ss with
 |nil=>intro a u _;cases u<;>rfl
 |cons k ss ih=>
  intro a u hk;cases u with
  |nil=>rfl
  |cons c u=>
   show(Bl (a.put k c) ss u).put s v=Bl ((a.put s v).put k c) ss u
   rw[ih _ _ (fun m e q=>hk m e (Aj _ q)),Act.put_comm a c v (fun d e q=>hk d q (by rw[←e];exact Ai))]
theorem L7:∀(ss:List (Option Nat)) (a:Act) (u:List Value) (j:Nat) (s:Option Nat) (v:Value),Mi ss=true->ss[j]? =some s->u.length=ss.length->(Bl a ss u).put s v=Bl a ss (u.set j v)
 |[],_,_,_,_,_,_,h,_=>by simp at h
 |m::ss,a,[],_,_,_,_,_,h=>by simp at h
 |m::ss,a,x::u,0,s,v,hn,h,hl=>by
  simp at h;subst h;rw[Ad]
  show(Bl (a.put m x) ss u).put m v=Bl (a.put m v) ss u
  rw[lS m v ss _ u ?_,gS];rintro k rfl q;simp [Mi,q] at hn
 |m::ss,a,x::u,j+1,s,v,hn,h,hl=>by
  rw[Ae];refine L7 ss _ u j s v ?_ oQ (by simpa using hl);cases m with
  |none=>exact hn
  |some m=>simp only[Mi,Bool.and_eq_true] at hn;exact hn.2
theorem Po:∀(ms:List Nat) (L:Array Bool),(ms.all fun i=>!(L.getD i true))=true->Eg L ms (ms.map fun _=>false)=L
 |[],_,_=>rfl
 |m::ms,L,h=>by
  rw[List.all_cons,Bool.and_eq_true] at h
  have e:L.setIfInBounds m false=L:=by
   have h1:=h.1;by_cases hm:m<L.size
   ·simp [hm] at h1;refine Array.ext nW fun i q1 q2=>?_
    rw[Array.getElem_setIfInBounds (by simpa using q1)]
    split
    ·next e=>subst e;exact h1.symm
    rfl
   simp [hm] at h1
  show Eg (L.setIfInBounds m false) ms (ms.map fun _=>false)=L;rw[e];exact Po ms L h.2
def N7 (a:Act)(ss:List (Option Nat)):List Value:=ss.map fun s=>match s with
 |some s=>a.tmps.getD s undef
 |none=>undef
theorem iE (a:Act)(s:Nat):a.put (some s) (a.tmps.getD s undef)=a:=by
 unfold Act.put;simp only
 have:a.tmps.setIfInBounds s (a.tmps.getD s undef)=a.tmps:=by
  by_cases hm:s<a.tmps.size
  ·refine Array.ext nW fun i q1 q2=>?_
   rw[Array.getElem_setIfInBounds (by simpa using q1)]
   split
   ·next e=>subst e;simp
   rfl
  rw[Array.setIfInBounds_eq_of_size_le nU]
 rw[this]
theorem Jv:∀(ss:List (Option Nat)) (a:Act),Bl a ss (N7 a ss)=a
 |[],_=>rfl
 |none::ss,a=>Jv ss a
 |some s::ss,a=>by
  show Bl (a.put (some s) (a.tmps.getD s undef)) ss (N7 a ss)=a;rw[iE];exact Jv ss a
section
variable {P:Program} {ops:Array Oper} {Q:Exit->Act->World->Prop} {md:Region.Mode} {S:World->Prop}
def N3 (P:Program)(ops:Array Oper)(Q:Exit->Act->World->Prop)(Inv:List Bool->List Value->World->Prop)(a:Act)(ms:List Nat)(ss:List (Option Nat))(dep:List (List Nat))(j:Nat):Prop:=
 ∀(d:List Bool) (u:List Value) (w:World),d.length=ms.length->u.length=ms.length->d[j]? =some false->((dep.getD j []).all fun l=>d.getD l false)=true->Inv d u w->∀i s,ms[j]? =some i->ss[j]? =some s->
  wpOp P ops Q i (fun a' w'=>∃v,a'=(Bl a ss u).put s v/\Inv (d.set j true) (u.set j v) w') (Bl a ss u) w
def dO (P:Program)(ops:Array Oper)(S:World->Prop)(Inv:List Bool->List Value->World->Prop)(a:Act)(ms:List Nat)(ss:List (Option Nat))(dep:List (List Nat))(j:Nat):Prop:=
 ∀(d:List Bool) (u:List Value) (w:World),d.length=ms.length->u.length=ms.length->d[j]? =some false->((dep.getD j []).all fun l=>d.getD l false)=true->Inv d u w->∀i s,ms[j]? =some i->ss[j]? =some s->
  ∃o v,ops[i]? =some o/\o.dst=s/\YieldsIf P ops S o v (Bl a ss u)/\Inv (d.set j true) (u.set j v) w
theorem Xb {dep:List (List Nat)}{pu:List Bool}{n:Nat}{d:List Bool}{j:Nat}(h:Xm dep pu n d=some j):j<n/\pu.getD j false=true/\d.getD j true=false/\((dep.getD j []).all fun l=>d.getD l false)=true:=by
 have h1:=List.find?_some h;have h2:=List.mem_of_find?_eq_some h;simp only[Bool.and_eq_true,Bool.not_eq_true'] at h1;exact⟨List.mem_range.1 h2,h1.1.1,h1.1.2,h1.2⟩
theorem S3:∀(d:List Bool) (j:Nat),d[j]? =some false->(d.set j true).count false+1=d.count false:=by
 intro d
 induction d with
 |nil=>intro j h;simp at h
 |cons b d ih=>
  intro j h;cases j with
  |zero=>simp at h;subst h;simp
  |succ j=>
   have:=ih j oQ
   rw[Ae,List.count_cons,List.count_cons];omega
theorem Rh {d:List Bool}{j:Nat}(hlt:j<d.length)(hd:d.getD j true=false):d[j]? =some false:=by
 rw[List.getD_eq_getElem?_getD,Ag hlt] at hd;rw[Ag hlt];simpa using hd
theorem Mv {Inv:List Bool->List Value->World->Prop}{L:Array Bool}{a:Act}(ms:List Nat)(ss:List (Option Nat))(dep:List (List Nat))(pu:List Bool){m:Nat}(hok:Xj md ops L ms dep pu=true)(hn:ms.Nodup)(hns:Mi ss=true)(hls:ss.length=ms.length)
 (hQ:∀s v c a w,Q (.panic c) (a.put s v) w->Q (.panic c) a w)
 (hS:∀d u w,Inv d u w->S w) (hop:∀j,j<ms.length->if pu.getD j false=true then dO P ops S Inv a ms ss dep j else N3 P ops Q Inv a ms ss dep j)
 (hend:∀(u:List Value) (w:World),u.length=ms.length->Inv (ms.map fun _=>true) u w->wpAnyH P md ops Q S m (Eg L ms (ms.map fun _=>true)) (Bl a ss u) w):
 ∀(c:Nat) (d:List Bool) (u:List Value) (w:World),d.length=ms.length->u.length=ms.length->d.count false=c->Inv d u w->wpAnyH P md ops Q S (m+c) (Eg L ms d) (Bl a ss u) w
 |0,d,u,w,h1,h2,hc,hF=>by
  have:d=ms.map fun _=>true:=by
   refine List.ext_getElem (by simp [h1]) fun i q1 q2=>?_
   simp only[List.getElem_map];cases e:d[i] with
   |true=>rfl
   |false=>
    have:=List.count_pos_iff.2 (e▸List.getElem_mem q1)
    omega
  subst this;exact hend u w h2 hF
 |c+1,d,u,w,h1,h2,hc,hF=>by
  have hok':=hok;unfold Xj at hok';rw[Bool.and_eq_true] at hok';obtain⟨hsel,hok'⟩:=hok';have hk:=List.all_eq_true.1 hok' d (by rw[←h1];exact Xe)
  have hnall:d.all id=false:=by
   cases e:d.all id with
   |false=>rfl
   |true=>
    exfalso
    have:false∈d:=List.count_pos_iff.1 nU
    have:=List.all_eq_true.1 e _ this
    cases this
  rw[hnall,Bool.false_or] at hk;cases hp:Xm dep pu ms.length d with
  |some j=>
   rw[hp] at hk;simp only[Bool.and_eq_true] at hk;obtain⟨hfr,hrd⟩:=hk;obtain⟨hj,hpu,hdj,hdep⟩:=Xb hp;have hjm:ms[j]? =some ms[j]:=Ag _;have hjs:ss[j]? =some (ss[j]' nU):=Ag _;have e:ms.getD j 0=ms[j]:=by simp [List.getD_eq_getElem?_getD,hj]
   rw[e] at hfr hrd;have hq:=hop j hj;rw[Ap hpu] at hq;obtain⟨o,v,ho,hds,hy,hI⟩:=hq d u w h1 h2 (Rh nU hdj) hdep hF _ _ hjm hjs;refine wpAnyH_take (fuel:=m+c) ho hsel hfr hrd (hQ _ _) hy (hS _ _ _ hF) ?_;rw[hds,Mq ms L d j _ hn hjm h1,L7 ss a u j _ v hns hjs nU];exact Mv ms ss dep pu hok hn hns hls hQ hS hop hend c (d.set j true) (u.set j v) w qO (by simpa using h2) (by have:=S3 d j (Rh nU hdj);omega) hI
  |none=>
   rw[hp] at hk;simp only[Bool.and_eq_true] at hk;obtain⟨hk1,hk2⟩:=hk;rw[show m+(c+1)=(m+c)+1 by omega];refine⟨fun h0=>by rw[h0] at hk2;simp at hk2,fun i hi=>?_⟩;have hi':=List.all_eq_true.1 hk1 i hi;obtain⟨p,hp,hq⟩:=List.any_eq_true.1 hi';obtain⟨x,j⟩:=p;rw[List.mem_zipIdx_iff_getElem?] at hp;simp only[Bool.and_eq_true,beq_iff_eq,Bool.not_eq_true'] at hq;obtain⟨⟨⟨rfl,hd⟩,hpu⟩,hdep⟩:=hq;simp only at hp;have hj:j<ms.length:=(List.getElem?_eq_some_iff.1 hp).1;have hjs:ss[j]? =some (ss[j]' nU):=Ag _;have hdj:d[j]? =some false:=Rh nU hd;have ho:=hop j hj;rw[Ao (by rw[hpu];simp)] at ho;refine wpOp_mono ?_ (ho d u w h1 h2 hdj hdep hF x _ hp hjs);rintro a' w' ⟨v,rfl,hv⟩;refine⟨hS _ _ _ hv,?_⟩;rw[Mq ms L d j x hn hp h1,L7 ss a u j _ v hns hjs nU];exact Mv ms ss dep pu hok hn hns hls hQ hS hop hend c (d.set j true) (u.set j v) w' qO (by simpa using h2) (by have:=S3 d j hdj;omega) hv
theorem Dy {Inv:List Bool->List Value->World->Prop}{listed:Array Bool}{a:Act}{w:World}(k:Nat)(ms:List Nat)(ss:List (Option Nat))(dep:List (List Nat))(pu:List Bool){m:Nat}(hok:Xj md ops listed ms dep pu=true)
 (hQ:∀s v c a w,Q (.panic c) (a.put s v) w->Q (.panic c) a w) (hsm:(decide (ms.Nodup) && Mi ss && decide (ss.length=ms.length) && decide (ms.length=k) && ms.all fun i=>!(listed.getD i true))=true)
 (hS:∀d u w,Inv d u w->S w) (h0:Inv (ms.map fun _=>false) (N7 a ss) w) (hop:∀j,j<ms.length->if pu.getD j false=true then dO P ops S Inv a ms ss dep j else N3 P ops Q Inv a ms ss dep j)
 (hend:∀(u:List Value) (w:World),u.length=ms.length->Inv (ms.map fun _=>true) u w->wpAnyH P md ops Q S m (Eg listed ms (ms.map fun _=>true)) (Bl a ss u) w):wpAnyH P md ops Q S (m+k) listed a w:=by
 simp only[Bool.and_eq_true,decide_eq_true_eq] at hsm;obtain⟨⟨⟨⟨h1,h2⟩,h3⟩,h4⟩,h5⟩:=hsm
 have hc:(ms.map fun _=>false).count false=k:=by
  rw[←h4];clear h0 hop hend hok h1 h3 h4 h5
  induction ms with
  |nil=>rfl
  |cons x ms ih=>simp only[List.map_cons,List.count_cons_self,Aa,ih]
 have:=Mv (L:=listed) (a:=a) ms ss dep pu hok h1 h2 h3 hQ hS hop hend k (ms.map fun _=>false) (N7 a ss) w nW (by simp [N7,h3]) hc h0
 rwa [Po ms listed h5,Jv] at this
theorem N3.mk {Inv:List Bool->List Value->World->Prop}{a:Act}{ms:List Nat}{ss:List (Option Nat)}{dep:List (List Nat)}{j:Nat}{i:Nat}{o:Oper}(hi:ms[j]? =some i)(ho:ops[i]? =some o)(hs:ss[j]? =some o.dst)
 (h:∀(d:List Bool) (u:List Value) (w:World),d.length=ms.length->u.length=ms.length->d[j]? =some false->((dep.getD j []).all fun l=>d.getD l false)=true->Inv d u w->∀K:Act->World->Prop,Shut (∀v w',Inv (d.set j true) (u.set j v) w'->K ((Bl a ss u).put o.dst v) w')->
  if Region.wanted o (yielded ops (Bl a ss u).tmps)=true then Oper.wp P o (Bl a ss u) w K Q else K ((Bl a ss u).put o.dst undef) w):N3 P ops Q Inv a ms ss dep j:=by
 intro d u w h1 h2 h3 h4 h5 i' s hi' hs';rw[hi] at hi';rw[hs] at hs';injection hi' with hi';injection hs' with hs';subst hi' hs';refine wpOp_step ho fun K hK=>h d u w h1 h2 h3 h4 h5 K fun v w' hv=>?_
 exact hK _ _ ⟨v,rfl,hv⟩
end
def Lo:List (Value->World->Prop)->List Bool->List Value->World->Prop
 |F::Fs,b::d,v::u,w=>(b=true->F v w)/\Lo Fs d u w
 |[],[],[],_=>True
 |_,_,_,_=>False
theorem Lo.mono {w w':World}(hR:Below w.heap.size w w'):∀{Fs:List (Value->World->Prop)} {d:List Bool} {u:List Value},(∀F∈Fs,∀v w w',F v w->Below w.heap.size w w'->F v w')->Lo Fs d u w->Lo Fs d u w'
 |_::_,_::_,_::_,hm,h=>⟨fun hb=>hm _ Ai _ _ _ (h.1 hb) hR,Lo.mono hR (fun F hF=>hm F (Aj _ hF)) h.2⟩
 |[],[],[],_,_=>trivial
theorem Lo.set {w:World}:∀{Fs:List (Value->World->Prop)} {d:List Bool} {u:List Value} {j:Nat} {F:Value->World->Prop} {v:Value},Lo Fs d u w->Fs[j]? =some F->F v w->Lo Fs (d.set j true) (u.set j v) w
 |_::_,_::_,_::_,0,F,v,h,hF,hv=>by
  simp at hF;subst hF;exact⟨fun _=>hv,h.2⟩
 |_::_,_::_,_::_,j+1,F,v,h,hF,hv=>⟨h.1,Lo.set h.2 (by simpa using hF) hv⟩
 |[],[],[],j,F,v,h,hF,_=>by simp at hF
theorem Lo.none:∀(Fs:List (Value->World->Prop)) (u:List Value) (w:World),u.length=Fs.length->Lo Fs (Fs.map fun _=>false) u w
 |[],[],_,_=>trivial
 |_::Fs,_::u,w,h=>⟨fun e=>(by cases e),Lo.none Fs u w oQ⟩
 |[],_::_,_,h=>by simp at h
 |_::_,[],_,h=>by simp at h
def Bx (B:Nat)(T:TypeId)(cs:Array Value)(x:Value)(w:World):Prop:=∃b,x= .pointer (some ⟨b,0,none⟩)/\B<=b/\w.heap[b]? =some (.cells cs T (0,0))
theorem Bm {w:World}{b:Nat}{o:Obj}(h:w.heap[b]? =some o):b<w.heap.size:=by
 obtain⟨h,_⟩:=Array.getElem?_eq_some_iff.1 h;exact h
theorem Bx.below {B:Nat}{T:TypeId}{cs:Array Value}{x:Value}{w w':World}(h:Bx B T cs x w)(hb:Below w.heap.size w w'):Bx B T cs x w':=by
 obtain⟨b,h1,h2,h3⟩:=h;exact⟨b,h1,h2,(hb.block b (Bm h3)).trans h3⟩
def Dst (bx:List Nat)(d:List Bool)(u:List Value)(w:World):Prop:=
 (∀i∈bx,d.getD i false=true->∃b,u.getD i undef= .pointer (some ⟨b,0,none⟩)/\b<w.heap.size)/\∀i∈bx,∀j∈bx,i≠j->d.getD i false=true->d.getD j false=true->u.getD i undef≠u.getD j undef
def Lm (B:Nat)(w0:World)(Fs:List (Value->World->Prop))(bx:List Nat)(d:List Bool)(u:List Value)(w:World):Prop:=Below B w0 w/\w0.heap.size<=w.heap.size/\Lo Fs d u w/\Dst bx d u w
section
variable {P:Program} {ops:Array Oper} {Q:Exit->Act->World->Prop} {md:Region.Mode} {S:World->Prop}
theorem Je {α:Type}(l:List α)(j:Nat)(x z:α)(h:j<l.length):(l.set j x).getD j z=x:=by simp [List.getD_eq_getElem?_getD,h]
theorem D3 {α:Type}(l:List α)(i j:Nat)(x z:α)(h:i≠j):(l.set j x).getD i z=l.getD i z:=by simp [List.getD_eq_getElem?_getD,Ne.symm h]
theorem OneB.mk {B:Nat}{w0:World}{Fs:List (Value->World->Prop)}{bx:List Nat}{a:Act}{ms:List Nat}{ss:List (Option Nat)}{dep:List (List Nat)}{j:Nat}(i:Nat)(o:Oper)(F:Value->World->Prop)(hi:ms[j]? =some i)(ho:ops[i]? =some o)(hs:ss[j]? =some o.dst)(hF:Fs[j]? =some F)
 (hmono:∀F∈Fs,∀v w w',F v w->Below w.heap.size w w'->F v w') (hB:B<=w0.heap.size)
 (h:∀(d:List Bool) (u:List Value) (w:World),d.length=ms.length->u.length=ms.length->((dep.getD j []).all fun l=>d.getD l false)=true->Lo Fs d u w->Below B w0 w->w0.heap.size<=w.heap.size->
  ∀K:Act->World->Prop,Shut (∀v w',Below w.heap.size w w'->F v w'->(j∈bx->v= .pointer (some ⟨w.heap.size,0,none⟩)/\w.heap.size<w'.heap.size)->K ((Bl a ss u).put o.dst v) w')->
  if Region.wanted o (yielded ops (Bl a ss u).tmps)=true then Oper.wp P o (Bl a ss u) w K Q else K ((Bl a ss u).put o.dst undef) w):N3 P ops Q (Lm B w0 Fs bx) a ms ss dep j:=by
 refine N3.mk hi ho hs fun d u w h1 h2 h3 h4 h5 K hK=>?_
 obtain⟨g1,g2,g3,g4,g5⟩:=h5;refine h d u w h1 h2 h4 g3 g1 g2 K fun v w' hb hv hbx=>hK v w' ⟨g1.trans (hb.mono nU),Al g2 hb.size,(g3.mono hb hmono).set hF hv,?_,?_⟩
 ·intro x hx hd;by_cases e:x=j
  ·subst e;obtain⟨e1,e2⟩:=hbx hx;have hlt:x<u.length:=by rw[h2];exact(List.getElem?_eq_some_iff.1 hi).1
   rw[Je _ _ _ _ hlt];exact⟨_,e1,e2⟩
  rw[D3 _ _ _ _ _ e] at hd ⊢;obtain⟨b,q1,q2⟩:=g4 x hx hd;exact⟨b,q1,Nat.lt_of_lt_of_le q2 hb.size⟩
 intro x hx y hy hne hdx hdy;have hlt:j<u.length:=by rw[h2];exact(List.getElem?_eq_some_iff.1 hi).1
 by_cases e:x=j
 ·subst e;rw[D3 _ _ _ _ _ (Ne.symm hne)] at hdy ⊢;rw[Je _ _ _ _ hlt];obtain⟨e1,_⟩:=hbx hx;obtain⟨b,q1,q2⟩:=g4 y hy hdy;rw[e1,q1];intro q;injection q with q;injection q with q;injection q with q;omega
 by_cases e':y=j
 ·subst e';rw[D3 _ _ _ _ _ e] at hdx ⊢;rw[Je _ _ _ _ hlt];obtain⟨e1,_⟩:=hbx hy;obtain⟨b,q1,q2⟩:=g4 x hx hdx;rw[e1,q1];intro q;injection q with q;injection q with q;injection q with q;omega
 rw[D3 _ _ _ _ _ e] at hdx ⊢;rw[D3 _ _ _ _ _ e'] at hdy ⊢;exact g5 x hx y hy hne hdx hdy
theorem OneBP.mk {B:Nat}{w0:World}{Fs:List (Value->World->Prop)}{bx:List Nat}{a:Act}{ms:List Nat}{ss:List (Option Nat)}{dep:List (List Nat)}{j:Nat}(i:Nat)(o:Oper)(F:Value->World->Prop)(hi:ms[j]? =some i)(ho:ops[i]? =some o)(hs:ss[j]? =some o.dst)(hF:Fs[j]? =some F)(hbx:bx.contains j=false)
 (h:∀(d:List Bool) (u:List Value) (w:World),d.length=ms.length->u.length=ms.length->((dep.getD j []).all fun l=>d.getD l false)=true->Lo Fs d u w->Below B w0 w->w0.heap.size<=w.heap.size->
  ∃v,YieldsIf P ops S o v (Bl a ss u)/\F v w):dO P ops S (Lm B w0 Fs bx) a ms ss dep j:=by
 intro d u w h1 h2 h3 h4 h5 i' s hi' hs';rw[hi] at hi';rw[hs] at hs';injection hi' with hi';injection hs' with hs';subst hi' hs';obtain⟨g1,g2,g3,g4,g5⟩:=h5;obtain⟨v,hy,hv⟩:=h d u w h1 h2 h4 g3 g1 g2
 have hne:∀x∈bx,x≠j:=fun x hx e=>by
  subst e;rw[List.contains_iff_mem.2 hx] at hbx;cases hbx
 refine⟨o,v,ho,rfl,hy,g1,g2,g3.set hF hv,fun x hx hd=>?_,fun x hx y hy hxy hdx hdy=>?_⟩
 ·rw[D3 _ _ _ _ _ (hne x hx)] at hd ⊢;exact g4 x hx hd
 rw[D3 _ _ _ _ _ (hne x hx)] at hdx ⊢;rw[D3 _ _ _ _ _ (hne y hy)] at hdy ⊢;exact g5 x hx y hy hxy hdx hdy
theorem Lm.start {B:Nat}{w0:World}{Fs:List (Value->World->Prop)}{bx:List Nat}{ms:List Nat}{u:List Value}(h1:ms.length=Fs.length)(h2:u.length=Fs.length):Lm B w0 Fs bx (ms.map fun _=>false) u w0:=by
 have e:(ms.map fun _=>false)=Fs.map fun _=>false:=by
  refine List.ext_getElem qO fun i q1 q2=>by simp
 refine⟨Aq _ _,Ak _,by rw[e];exact Lo.none Fs u w0 h2,?_,?_⟩
 all_goals
  intro x hx
 ·intro hd;exact zx1
 intro y hy hne hd;exact zx1
end
theorem Jj {α:Type}{u:List α}(h:u.length=2):∃x0 x1,u=[x0,x1]:=by
 match u,h with
 |[x0,x1],_=>exact⟨x0,x1,rfl⟩
theorem Xx {α:Type}{u:List α}(h:u.length=3):∃x0 x1 x2,u=[x0,x1,x2]:=by
 match u,h with
 |[x0,x1,x2],_=>exact⟨x0,x1,x2,rfl⟩
theorem Nm {α:Type}{u:List α}(h:u.length=6):∃x0 x1 x2 x3 x4 x5,u=[x0,x1,x2,x3,x4,x5]:=by
 match u,h with
 |[x0,x1,x2,x3,x4,x5],_=>exact⟨x0,x1,x2,x3,x4,x5,rfl⟩
theorem Fm {α:Type}{u:List α}(h:u.length=7):∃x0 x1 x2 x3 x4 x5 x6,u=[x0,x1,x2,x3,x4,x5,x6]:=by
 match u,h with
 |[x0,x1,x2,x3,x4,x5,x6],_=>exact⟨x0,x1,x2,x3,x4,x5,x6,rfl⟩
theorem lt2 {p:Nat->Prop}(h0:p 0)(h1:p 1):∀j,j<2->p j:=fun j h=>by
 match j,h with
 |0,_=>exact h0
 |1,_=>exact h1
theorem lt3 {p:Nat->Prop}(h0:p 0)(h1:p 1)(h2:p 2):∀j,j<3->p j:=fun j h=>by
 match j,h with
 |0,_=>exact h0
 |1,_=>exact h1
 |2,_=>exact h2
theorem lt6 {p:Nat->Prop}(h0:p 0)(h1:p 1)(h2:p 2)(h3:p 3)(h4:p 4)(h5:p 5):∀j,j<6->p j:=fun j h=>by
 match j,h with
 |0,_=>exact h0
 |1,_=>exact h1
 |2,_=>exact h2
 |3,_=>exact h3
 |4,_=>exact h4
 |5,_=>exact h5
theorem lt7 {p:Nat->Prop}(h0:p 0)(h1:p 1)(h2:p 2)(h3:p 3)(h4:p 4)(h5:p 5)(h6:p 6):∀j,j<7->p j:=fun j h=>by
 match j,h with
 |0,_=>exact h0
 |1,_=>exact h1
 |2,_=>exact h2
 |3,_=>exact h3
 |4,_=>exact h4
 |5,_=>exact h5
 |6,_=>exact h6
def nv:List Nat->Nat
 |[]=>0
 |d::l=>d+10000*nv l
def okD (l:List Nat):Prop:=∀d∈l,d<10000
def dg (n:Nat):List Nat:=if h:n=0 then[] else n % 10000::dg (n/10000)
termination_by n
decreasing_by omega
theorem Dr:dg 0=[]:=by rw[dg,dif_pos rfl]
theorem Jf {n:Nat}(h:n≠0):dg n=n % 10000::dg (n/10000):=by rw[dg,dif_neg h]
theorem Es:∀n,nv (dg n)=n:=fun n=>by
 induction n using Nat.strongRecOn with
 |_ n ih=>
  by_cases h:n=0
  ·subst h;rw[Dr];rfl
  rw[Jf h,nv,ih (n/10000) nU];omega
theorem Fy:∀n,okD (dg n):=fun n=>by
 induction n using Nat.strongRecOn with
 |_ n ih=>
  by_cases h:n=0
  ·subst h;rw[Dr];intro d hd;cases hd
  rw[Jf h];intro d hd;rcases List.mem_cons.1 hd with rfl|hd
  ·omega
  exact ih (n/10000) nU d hd
theorem Zl (l m:List Nat):nv (l++m)=nv l+10000^l.length*nv m:=by
 induction l with
 |nil=>simp [nv]
 |cons d l ih=>
  rw[List.cons_append,nv,nv,ih,Aa,Nat.pow_succ,Nat.mul_add];rw[show 10000^l.length*10000*nv m=10000*(10000^l.length*nv m) by rw[Nat.mul_comm (10000^l.length) 10000,Nat.mul_assoc]];omega
theorem Fx (l:List Nat)(d:Nat):nv (l++[d])=nv l+10000^l.length*d:=by
 rw[Zl];simp [nv]
theorem Fw (l:List Nat)(k:Nat)(h:k<l.length):nv (l.take (k+1))=nv (l.take k)+10000^k*l[k]:=by
 rw[List.take_succ_eq_append_getElem h,Fx,List.length_take,Nat.min_eq_left nU]
theorem Vf:∀(l:List Nat),okD l->nv l<10000^l.length
 |[],_=>by simp [nv]
 |d::l,h=>by
  have h1:=Vf l fun x hx=>h x (Aj _ hx)
  have h2:=h d Ai;rw[nv,Aa,Nat.pow_succ];omega
theorem Uf {l:List Nat}(h:okD l)(k:Nat):okD (l.take k):=fun d hd=>h d (List.mem_of_mem_take hd)
theorem E0 {l:List Nat}{d:Nat}(h:okD l)(hd:d<10000):okD (l++[d]):=fun x hx=>by
 rcases List.mem_append.1 hx with hx|hx
 ·exact h x hx
 rw[List.mem_singleton.1 hx];exact hd
theorem jL:∀(l:List Nat),okD l->(∀h:l≠[],l.getLast h≠0)->dg (nv l)=l
 |[],_,_=>Dr
 |d::l,ho,hl=>by
  have hd:=ho d Ai;have ho':okD l:=fun x hx=>ho x (Aj _ hx)
  have hl':∀h:l≠[],l.getLast h≠0:=fun h=>by
   have:=hl nW
   rwa [List.getLast_cons h] at this
  have hne:nv (d::l)≠0:=by
   rw[nv];intro h0;cases l with
   |nil=>have:=hl nW;simp at this;omega
   |cons e m=>
    have h1:nv (e::m)=0:=by omega
    have h2:=jL (e::m) ho' hl';rw[h1,Dr] at h2;cases h2
  rw[Jf hne,nv,show(d+10000*nv l) % 10000=d by omega,show(d+10000*nv l)/10000=nv l by omega,jL l ho' hl']
def Bo (n:Nat):Nat:=(dg n).length
theorem G2 {n k:Nat}(h:n<10000^k):Bo n<=k:=by
 unfold Bo
 induction k generalizing n with
 |zero=>
  have:n=0:=by simpa using h
  subst this;rw[Dr];simp
 |succ k ih=>
  by_cases h0:n=0
  ·subst h0;rw[Dr];simp
  rw[Jf h0,Aa]
  have:n/10000<10000^k:=by rw[Nat.pow_succ] at h;omega
  have:=ih this
  omega
theorem Nw (n:Nat):n<10000^Bo n:=by
 have:=Vf (dg n) (Fy n)
 rwa [Es] at this
theorem Ez {n m:Nat}(h:n<=m):Bo n<=Bo m:=G2 (Nat.lt_of_le_of_lt h (Nw m))
theorem Qw {l:List Nat}(h:okD l):Bo (nv l)<=l.length:=G2 (Vf l h)
theorem Kr (n m:Nat):Bo (n*m)<=Bo n+Bo m:=by
 refine G2 ?_;have h1:=Nw n;have h2:=Nw m;rw[Nat.pow_add];by_cases h0:m=0
 ·subst h0;rw[Nat.mul_zero];exact Nat.mul_pos (Nat.pow_pos nV) (Nat.pow_pos nV)
 calc n*m<10000^Bo n*m:=Nat.mul_lt_mul_of_pos_right h1 nU
  _<=10000^Bo n*10000^Bo m:=Nat.mul_le_mul_left _ nU
theorem Dn {n:Nat}(h:n<10000):Bo n<=1:=G2 oQ
theorem Tr {n m:Nat}(h:Bo n<Bo m):n<m:=by
 refine Nat.lt_of_not_le fun hh=>?_
 have:=Ez hh
 omega
theorem Qf (l:List Nat)(k:Nat):nv l=nv (l.take k)+10000^(l.take k).length*nv (l.drop k):=by
 have:=Zl (l.take k) (l.drop k)
 rwa [List.take_append_drop] at this
theorem C8 {l:List Nat}{k:Nat}(h:k<l.length):nv (l.drop k)=l[k]+10000*nv (l.drop (k+1)):=by
 rw[List.drop_eq_getElem_cons h,nv]
theorem fR {l m:List Nat}(hl:okD l)(hn:l.length=m.length){k:Nat}(hk:k<l.length)(hk2:k<m.length)(hd:l.drop (k+1)=m.drop (k+1))(h:l[k]<m[k]):nv l<nv m:=by
 have h1:=Qf l k;have h2:=Qf m k;rw[List.length_take,Nat.min_eq_left nU] at h1 h2;rw[C8 hk] at h1;rw[C8 hk2,←hd] at h2;have h3:=Vf (l.take k) (Uf hl k);rw[List.length_take,Nat.min_eq_left nU] at h3;obtain⟨x,hx⟩:∃x,nv (l.drop (k+1))=x:=⟨_,rfl⟩;obtain⟨p,hp⟩:∃p,10000^k=p:=⟨_,rfl⟩;rw[hx,hp] at h1 h2;rw[hp] at h3
 have h4:p*(l[k]+10000*x)+p<=p*(m[k]+10000*x):=by
  rw[←Nat.mul_succ];exact Nat.mul_le_mul_left _ nU
 omega
open Go Go.RowKit Go.Lib
def Ch (w:World)(v:Value)(l:List Nat):Prop:=l.length<=1000000/\∃a c,v= .slice a l.length c/\l.length<=c/\∀i (h:i<l.length),∃b off,a=some ⟨b,off,none⟩/\w.cell? ⟨b,off+i,none⟩=some (.int .i64 (l[i]:Int))
theorem Ch.below {w w':World}{v:Value}{l:List Nat}(h:Ch w v l)(hb:Below w.heap.size w w'):Ch w' v l:=by
 obtain⟨h1,a,c,h2,h3,h4⟩:=h;refine⟨h1,a,c,h2,h3,fun i hi=>?_⟩;obtain⟨b,off,e,hc⟩:=h4 i hi;exact⟨b,off,e,A6 hb hc⟩
theorem Ch.slice {w:World}{v:Value}{l:List Nat}(h:Ch w v l):∃a c,v= .slice a l.length c/\l.length<=c:=by
 obtain⟨_,a,c,h2,h3,_⟩:=h;exact⟨a,c,h2,h3⟩
theorem Ch.at {w:World}{a:Option Addr}{n c:Nat}{l:List Nat}(h:Ch w (.slice a n c) l){i:Nat}(hi:i<l.length):∃b off,a=some ⟨b,off,none⟩/\w.cell? ⟨b,off+i,none⟩=some (.int .i64 (l[i]:Int)):=by
 obtain⟨_,a',c',h2,_,h4⟩:=h;injection h2 with h2;subst h2;exact h4 i hi
theorem Ch.nil (w:World):Ch w (.slice none 0 0) []:=⟨by simp,none,0,rfl,Ak _,fun i hi=>absurd hi nW⟩
theorem Ch.take {w:World}{a:Option Addr}{n c:Nat}{l:List Nat}(h:Ch w (.slice a n c) l){k:Nat}(hk:k<=l.length):Ch w (.slice a k c) (l.take k):=by
 obtain⟨h1,a',c',h2,h3,h4⟩:=h;injection h2 with e1 e2 e3;subst e1 e3;have hl:(l.take k).length=k:=by rw[List.length_take];omega
 refine⟨by omega,a,c,by rw[hl],by omega,fun i hi=>?_⟩;obtain⟨b,off,e,hc⟩:=h4 i nU;refine⟨b,off,e,?_⟩;rw[hc];simp
def C3 (l:List Nat):List Value:=l.map fun(k:Nat)=>Value.int .i64 (k:Int)
theorem C6 (l:List Nat)(x:Nat):C3 (l++[x])=C3 l++[.int .i64 (x:Int)]:=by simp [C3]
theorem Ch.of_row {w:World}{B n:Nat}{v:Value}{l:List Nat}(hl:l.length<=1000000)(hn:n=l.length)(h:w.ownsRow B 3 1 v n (C3 l)):Ch w v l:=by
 subst hn;rcases h.2 with ⟨e,h0⟩|⟨g,cap,cur,rfl,_,hg,hc,_⟩
 ·have:l=[]:=List.eq_nil_of_length_eq_zero h0
  subst this;rw[e];exact Ch.nil w
 refine⟨hl,some ⟨g,0,none⟩,cap,rfl,hc,fun i hi=>⟨g,0,rfl,?_⟩⟩
 have:=h.cells (g:=g) rfl i (.int .i64 (l[i]:Int)) (by simp [C3,hi])
 rw[Addr.add_lit,Nat.zero_add] at this;rw[Nat.zero_add];exact this
theorem Ck {B:Nat}{a b c:World}{v:Value}(h:Below B a b)(hg:b.grownBy c v.ownBlock)(hv:∀g,v.ownBlock=some g->B<=g)(hB:B<=b.heap.size):Below B a c:=
 Bn h (A8.of_grown hg v.ownBlock.toList fun k hk=>by simp [hk]) (fun i hi=>hv i pJ) hB
theorem nN:(Tryz.prog.info? 3).map (fun i=>(i.zero,i.size,i.bytes))=some (some (.int .i64 0),1,8):=by kernel_rfl
theorem Cg:∃i,Tryz.prog.info? 3=some i/\i.zero=some (.int .i64 0)/\i.size=1/\i.bytes=8:=by
 have h:=nN;cases hi:Tryz.prog.info? 3 with
 |none=>simp [hi] at h
 |some i=>
  exact zyc
def Bj (w:World)(v:Value)(z:Int):Prop:=∃s,v= .agg #[.bool (decide (z<0)),s]/\Ch w s (dg z.natAbs)
theorem Bj.below {w w':World}{v:Value}{z:Int}(h:Bj w v z)(hb:Below w.heap.size w w'):Bj w' v z:=by
 obtain⟨s,h1,h2⟩:=h;exact⟨s,h1,h2.below hb⟩
def sgn (neg:Bool)(n:Nat):Int:=if neg then -(n:Int) else n
theorem aA (b:Bool)(n:Nat):(sgn b n).natAbs=n:=by unfold sgn;split<;>simp
theorem aO (b:Bool)(n:Nat):decide (sgn b n<0)=(b && decide (0<n)):=by
 unfold sgn;cases b<;>simp<;>omega
theorem dB {l:List Nat}{k:Nat}(hk:k<l.length)(h0:l[k]≠0):∀h:l.take (k+1)≠[],(l.take (k+1)).getLast h≠0:=fun h=>by
 have:∀m,m=l.take k++[l[k]]->∀h:m≠[],m.getLast h≠0:=by
  rintro m rfl h;rw[List.getLast_concat];exact h0
 exact this _ (List.take_succ_eq_append_getElem hk) h
theorem A1 {w:World}{b:Nat}{x y:Value}{t:TypeId}(h:w.heap[b]? =some (.cells #[x,y] t (0,0))):w.cell? ⟨b,0,none⟩=some x/\w.cell? ⟨b,1,none⟩=some y/\∀i,w.frozen? ⟨b,i,none⟩=false:=
 ⟨by simp only[World.cell?,h];rfl,by simp only[World.cell?,h];rfl,fun i=>by simp only[World.frozen?,h];simp⟩
def Iu (a:Option Addr)(c:Nat)(z:Int)(e:Ending)(w':World):Prop:=∃(k:Nat) (b:Bool),e= .returned (.agg #[.bool b,.slice a k c])/\Bj w' (.agg #[.bool b,.slice a k c]) z
theorem Iu.mk {a:Option Addr}{k c:Nat}{b:Bool}{z:Int}{w':World}(h:Bj w' (.agg #[.bool b,.slice a k c]) z):Iu a c z (.returned (.agg #[.bool b,.slice a k c])) w':=⟨k,b,rfl,h⟩
theorem Mc {w:World}{a:Option Addr}{n c:Nat}{l:List Nat}(neg:Bool)(hs:Ch w (.slice a n c) l)(ho:okD l):
 Calls Tryz.prog 125 #[.bool neg,.slice a n c] w fun e w'=>Iu a c (sgn neg (nv l)) e w'/\Below w.heap.size w w':=by
 have hlm:=hs.1;obtain⟨a',c',he,hc⟩:=hs.slice;injection he with e1 e2 e3;subst e1;subst e2;subst e3;obtain⟨W1,hW1⟩:∃W1,w.alloc (.cells #[.bool false,.slice none 0 0] 79)=W1:=⟨_,rfl⟩;have hp1:=A0 w (.cells #[.bool false,.slice none 0 0] 79);have hb1:Below w.heap.size w W1:=by rw[←hW1];exact(Aq _ w).alloc (Ak _) _
 rw[hW1] at hp1;have hs1:=hs.below hb1;have HS:=Ax hs1;have HW:=Ax hs;have HO:=Ax ho;have HB:=Ax hb1;have HP:=Ax hp1;have HR:Hid (nv (l.take l.length)=nv l):=Ax (by rw[List.take_length]);clear hs ho hb1 hp1 hs1;go_enter Tryz.func125,Tryz.ntmps125;go_wp2_with fail
 go_loop [1] (fun v1=>∃k:Nat,k<=l.length/\v1= .slice a k c/\Hid (nv (l.take k)=nv l)) (fun v1=>match v1 with| .slice _ k _=>k|_=>0)
 case atStart=>exact⟨l.length,Ak _,rfl,HR⟩
 obtain⟨k,hk,rfl,hq⟩:=hrel;obtain⟨x0,x1,xf⟩:=A1 HP.out;have xf0:=xf 0;have xf1:=xf 1;by_cases h0:k=0
 ·subst h0;have hz:nv l=0:=by have:=hq.out;rw[List.take_zero] at this;exact this.symm
  have HN:Hid (Bj w (.agg #[.bool false,.slice a 0 c]) (sgn neg (nv l))):=Ax ⟨.slice a 0 c,by rw[aO,hz];simp,by
   rw[aA,hz,Dr]
   have:=HW.out.take (k:=0) (Nat.zero_le _)
   rw[List.take_zero] at this
   exact this⟩
  clear hq hz xf HR;cases neg with
  |true=>
   exact zxp
  |false=>
   exact zxp
 obtain⟨m,rfl⟩:∃m,k=m+1:=⟨k - 1,by omega⟩;have hml:m<l.length:=by omega
 obtain⟨b,off,rfl,hcell⟩:=HS.out.at hml;have j1:decide ((0:Int)<((m+1:Nat):Int))=true:=Am nU;have j2:decide ((0:Int)<(m:Int)+1)=true:=Am nU;have j3:((m+1:Nat):Int) - 1=(m:Int):=by omega
 obtain⟨d,hd⟩:∃d,l[m]=d:=⟨_,rfl⟩;rw[hd] at hcell;have j4:(0:Int)<=(m:Int):=by omega
 have j5:m+1<=c:=by omega
 by_cases hd0:d=0
 ·subst hd0;have HQ:Hid (nv (l.take m)=nv l):=Ax (by rw[←hq.out,Fw l m hml,hd];simp);have j6:(m:Int)<((m+1:Nat):Int):=by omega
  have j7:m<=c:=by omega
  clear hq hd xf;go_wp2_with fail
  go_round
  case rel=>exact⟨m,by omega,rfl,HQ⟩
  case measure=>simp
 have hnz:=dB hml (by rw[hd];exact hd0);have hdg:dg (nv l)=l.take (m+1):=by rw[←hq.out];exact jL _ (Uf HO.out _) hnz
 have hpos:0<nv l:=by
  refine Nat.pos_of_ne_zero fun h=>?_
  rw[h,Dr] at hdg
  have:=Ar List.length hdg
  rw[List.length_take] at this;simp at this;omega
 have HN:Hid (Bj w (.agg #[.bool neg,.slice (some ⟨b,off,none⟩) (m+1) c]) (sgn neg (nv l))):=Ax ⟨.slice (some ⟨b,off,none⟩) (m+1) c,by rw[aO];simp [hpos],by
  rw[aA,hdg]
  exact HW.out.take nU⟩
 have j6:((d:Int)==0)=false:=by simp;omega
 clear hq hd xf hnz hdg hpos hd0;cases neg with
 |true=>
  go_wp2_with fail;refine Au (v:= .agg #[.bool true,.slice (some ⟨b,off,none⟩) (m+1) c]) pL rfl ⟨Iu.mk ?_,(HB.out.setCell (Ak _) _).setCell (Ak _) _⟩;exact HN.out.below ((HB.out.setCell (Ak _) _).setCell (Ak _) _)
 |false=>
  go_wp2_with fail;refine Au (v:= .agg #[.bool false,.slice (some ⟨b,off,none⟩) (m+1) c]) pL rfl ⟨Iu.mk ?_,(HB.out.setCell (Ak _) _).setCell (Ak _) _⟩;exact HN.out.below ((HB.out.setCell (Ak _) _).setCell (Ak _) _)
theorem gZ {w:World}{sl:Value}{l:List Nat}(neg:Bool)(hs:Ch w sl l)(ho:okD l):
 Calls Tryz.prog 125 #[.bool neg,sl] w fun e w'=>(∃v,e= .returned v/\Bj w' v (sgn neg (nv l)))/\Below w.heap.size w w':=by
 obtain⟨a,c,rfl,_⟩:=hs.slice;refine(Mc neg hs ho).mono ?_;rintro e w' ⟨⟨k,b,rfl,h⟩,hb⟩;exact⟨⟨_,rfl,h⟩,hb⟩
open Go Go.RowKit Go.Lib
structure dD (w wr:World)(la lb:List Nat)(i more:Nat)(v:Value)(o:List Nat):Prop where
 row:wr.ownsRow w.heap.size 3 1 v i (C3 o)
 len:o.length=i
 ok:okD o
 val:nv o+10000^i*(more+nv (la.drop i)+nv (lb.drop i))=nv la+nv lb
 bel:Below w.heap.size w wr
theorem Qa {O p t s A B:Nat}(h:t+10000*A+10000*B=s):O+p*(t % 10000)+p*10000*(t/10000+A+B)=O+p*s:=by
 rw[←h,Nat.add_assoc,Nat.mul_assoc,←Nat.mul_add];congr 2;omega
theorem fZ {w:World}{sa sb:Value}{la lb:List Nat}(ha:Ch w sa la)(hb:Ch w sb lb)(hoa:okD la)(hob:okD lb)(hla:la.length<=100000)(hlb:lb.length<=100000):
 Calls Tryz.prog 190 #[sa,sb] w fun e w'=>(∃v o,e= .returned v/\Ch w' v o/\okD o/\nv o=nv la+nv lb/\o.length<=max la.length lb.length+1)/\Below w.heap.size w w':=by
 obtain⟨aa,ca,rfl,_⟩:=ha.slice;obtain⟨ab,cb,rfl,_⟩:=hb.slice;have HA:=Ax ha;have HBb:=Ax hb;have HOA:=Ax hoa;have HOB:=Ax hob;have HU0:Hid (dD w w la lb 0 0 (.slice none 0 0) []):=Ax ⟨World.ownsRow_nil _ _ _ _,rfl,fun _ h=>by(cases h),by simp [nv],Aq _ _⟩;clear ha hb hoa hob;go_enter Tryz.func190,Tryz.ntmps190;go_wp2_with fail
 go_loopw [5,6,7] (fun v5 v6 v7 wr=>∃(i more:Nat) (o:List Nat) (oa:Option Addr) (oc:Nat),more<=1/\(i<=max la.length lb.length\/i=max la.length lb.length+1/\more=0)/\v7= .int .i64 i/\v5= .slice oa i oc/\v6= .int .i64 more/\Hid (dD w wr la lb i more (.slice oa i oc) o)) (fun _ _ v7 _=>max la.length lb.length+2 - (intOf v7).toNat)
 case atStart=>exact⟨0,0,[],none,0,by omega,.inl nU,rfl,rfl,rfl,HU0⟩
 obtain⟨i,more,o,oa,oc,hm,hi,rfl,rfl,rfl,hq⟩:=hrel;have hU:=hq.out;by_cases hia:i<la.length
 ·by_cases hib:i<lb.length
  ·skip
   obtain⟨ba,fa,rfl,ha⟩:=HA.out.at hia;have ha:=A6 hU.bel ha;have hxl:=HOA.out _ (List.getElem_mem hia);have hda:=C8 hia;obtain⟨x,hx⟩:∃x,la[i]=x:=⟨_,rfl⟩;rw[hx] at ha hda hxl;have p1:decide ((i:Int)<(la.length:Int))=true:=Am nU;have p1':(i:Int)<(la.length:Int):=by omega
   have q1:(0:Int)<=(x:Int):=by omega
   have q2:(x:Int)<=9999:=by omega
   obtain⟨bb,fb,rfl,hb⟩:=HBb.out.at hib;have hb:=A6 hU.bel hb;have hyl:=HOB.out _ (List.getElem_mem hib);have hdb:=C8 hib;obtain⟨y,hy⟩:∃y,lb[i]=y:=⟨_,rfl⟩;rw[hy] at hb hdb hyl;have p2:decide ((i:Int)<(lb.length:Int))=true:=Am nU;have p2':(i:Int)<(lb.length:Int):=by omega
   have q3:(0:Int)<=(y:Int):=by omega
   have q4:(y:Int)<=9999:=by omega
   have q0:(0:Int)<=(i:Int):=by omega
   have q5:(0:Int)<=(more:Int):=by omega
   have q6:(more:Int)<=1:=by omega
   have hz:(((more:Int)+(x:Int)+(y:Int)) % 10000:Int)=(((more+x+y) % 10000:Nat):Int):=by omega
   have hd:(((more:Int)+(x:Int)+(y:Int))/10000:Int)=(((more+x+y)/10000:Nat):Int):=by omega
   have hm1:(more+x+y)/10000<=1:=by omega
   have hbd:i+1<=max la.length lb.length\/i+1=max la.length lb.length+1/\(more+x+y)/10000=0:=by omega
   have HVL:=Ax (Qa (O:=nv o) (p:=10000^i) (show(more+x+y)+10000*nv (la.drop (i+1))+10000*nv (lb.drop (i+1))=more+nv (la.drop i)+nv (lb.drop i) by omega));have Hrow1:=Ax (hU.row.alloc (.cells #[.int .i64 (((more:Int)+(x:Int)+(y:Int)) % 10000)] 3));have HN1:=Ax (A0 wr (.cells #[.int .i64 (((more:Int)+(x:Int)+(y:Int)) % 10000)] 3));have HZ:Hid ((wr.alloc (.cells #[.int .i64 (((more:Int)+(x:Int)+(y:Int)) % 10000)] 3)).heap.size=wr.heap.size+1):=Ax nW;have hsr:=hU.bel.size;have Hown:=Ax (Cf hU.row);have HU:=Ax hU;have Hzz:=Ax hz;have Hdd:=Ax hd;obtain⟨i0,hi0,hz0,hz1,hz2⟩:=Cg;have Hi0:=Ax hi0;have Hy0:=Ax hz0;have Hy1:=Ax hz1;have Hy2:=Ax hz2;have Hbd:=Ax hbd;clear hq hU hz hd hi0 hz0 hz1 hz2 hda hdb hbd hx hy;go_wp2_with ((refine wpList_append_lies _ rfl (.tmp 44) (.tmp 47) _ rfl w.heap.size 3 i0 (.int .i64 0) 1 8 Tryz.underlying41 Hi0.out Hy0.out Hy1.out Hy2.out rfl nV (.slice oa i oc) i (C3 o) rfl Hrow1.out ⟨wr.heap.size,0,none⟩ 1 1 [.int .i64 (((more:Int)+(x:Int)+(y:Int)) % 10000)] rfl rfl (World.news_of_block (cs:= #[.int .i64 (((more:Int)+(x:Int)+(y:Int)) % 10000)]) HN1.out) oH nV oF nU oL (wr.heap.size+1) HZ.out ?_;intro g6 cap w6 hown6 hgrow6 hat6 hlt6));have hB6:=Ck (v:= .slice oa i oc) (HU.out.bel.alloc HU.out.bel.size (.cells #[.int .i64 (((more:Int)+(x:Int)+(y:Int)) % 10000)] 3)) hgrow6 Hown.out oL;rw[Hzz.out,←C6] at hown6
   have HR6:Hid (dD w w6 la lb (i+1) ((more+x+y)/10000) (.slice (some ⟨g6,0,none⟩) (i+1) cap) (o++[(more+x+y) % 10000])):=Ax ⟨hown6,by rw[Ab,HU.out.len];rfl,E0 HU.out.ok (Nat.mod_lt _ nV),by
    rw[Fx,HU.out.len,Nat.pow_succ,HVL.out]
    exact HU.out.val,hB6⟩
   clear hown6 hgrow6 hat6 hlt6 hB6 Hrow1 HN1 HZ hsr Hown HU HVL;go_wp2_with fail;go_roundw
   case rel=>exact⟨i+1,(more+x+y)/10000,o++[(more+x+y) % 10000],some ⟨g6,0,none⟩,cap,hm1,Hbd.out,by go_num,rfl,by rw[Hdd.out],HR6⟩
   case measure=>simp [intOf];omega
  skip
  obtain⟨ba,fa,rfl,ha⟩:=HA.out.at hia;have ha:=A6 hU.bel ha;have hxl:=HOA.out _ (List.getElem_mem hia);have hda:=C8 hia;obtain⟨x,hx⟩:∃x,la[i]=x:=⟨_,rfl⟩;rw[hx] at ha hda hxl;have p1:decide ((i:Int)<(la.length:Int))=true:=Am nU;have p1':(i:Int)<(la.length:Int):=by omega
  have q1:(0:Int)<=(x:Int):=by omega
  have q2:(x:Int)<=9999:=by omega
  have hdb:nv (lb.drop i)=0:=by rw[List.drop_eq_nil_of_le nU];rfl
  have hdb':nv (lb.drop (i+1))=0:=by rw[List.drop_eq_nil_of_le nU];rfl
  have p2:decide ((i:Int)<(lb.length:Int))=false:=An nU;have q0:(0:Int)<=(i:Int):=by omega
  have q5:(0:Int)<=(more:Int):=by omega
  have q6:(more:Int)<=1:=by omega
  have hz:(((more:Int)+(x:Int)) % 10000:Int)=(((more+x) % 10000:Nat):Int):=by omega
  have hd:(((more:Int)+(x:Int))/10000:Int)=(((more+x)/10000:Nat):Int):=by omega
  have hm1:(more+x)/10000<=1:=by omega
  have hbd:i+1<=max la.length lb.length\/i+1=max la.length lb.length+1/\(more+x)/10000=0:=by omega
  have HVL:=Ax (Qa (O:=nv o) (p:=10000^i) (show(more+x)+10000*nv (la.drop (i+1))+10000*nv (lb.drop (i+1))=more+nv (la.drop i)+nv (lb.drop i) by omega));have Hrow1:=Ax (hU.row.alloc (.cells #[.int .i64 (((more:Int)+(x:Int)) % 10000)] 3));have HN1:=Ax (A0 wr (.cells #[.int .i64 (((more:Int)+(x:Int)) % 10000)] 3));have HZ:Hid ((wr.alloc (.cells #[.int .i64 (((more:Int)+(x:Int)) % 10000)] 3)).heap.size=wr.heap.size+1):=Ax nW;have hsr:=hU.bel.size;have Hown:=Ax (Cf hU.row);have HU:=Ax hU;have Hzz:=Ax hz;have Hdd:=Ax hd;obtain⟨i0,hi0,hz0,hz1,hz2⟩:=Cg;have Hi0:=Ax hi0;have Hy0:=Ax hz0;have Hy1:=Ax hz1;have Hy2:=Ax hz2;have Hbd:=Ax hbd;clear hq hU hz hd hi0 hz0 hz1 hz2 hda hdb hbd hx hdb';go_wp2_with ((refine wpList_append_lies _ rfl (.tmp 44) (.tmp 47) _ rfl w.heap.size 3 i0 (.int .i64 0) 1 8 Tryz.underlying41 Hi0.out Hy0.out Hy1.out Hy2.out rfl nV (.slice oa i oc) i (C3 o) rfl Hrow1.out ⟨wr.heap.size,0,none⟩ 1 1 [.int .i64 (((more:Int)+(x:Int)) % 10000)] rfl rfl (World.news_of_block (cs:= #[.int .i64 (((more:Int)+(x:Int)) % 10000)]) HN1.out) oH nV oF nU oL (wr.heap.size+1) HZ.out ?_;intro g6 cap w6 hown6 hgrow6 hat6 hlt6));have hB6:=Ck (v:= .slice oa i oc) (HU.out.bel.alloc HU.out.bel.size (.cells #[.int .i64 (((more:Int)+(x:Int)) % 10000)] 3)) hgrow6 Hown.out oL;rw[Hzz.out,←C6] at hown6
  have HR6:Hid (dD w w6 la lb (i+1) ((more+x)/10000) (.slice (some ⟨g6,0,none⟩) (i+1) cap) (o++[(more+x) % 10000])):=Ax ⟨hown6,by rw[Ab,HU.out.len];rfl,E0 HU.out.ok (Nat.mod_lt _ nV),by
   rw[Fx,HU.out.len,Nat.pow_succ,HVL.out]
   exact HU.out.val,hB6⟩
  clear hown6 hgrow6 hat6 hlt6 hB6 Hrow1 HN1 HZ hsr Hown HU HVL;go_wp2_with fail;go_roundw
  case rel=>exact⟨i+1,(more+x)/10000,o++[(more+x) % 10000],some ⟨g6,0,none⟩,cap,hm1,Hbd.out,by go_num,rfl,by rw[Hdd.out],HR6⟩
  case measure=>simp [intOf];omega
 by_cases hib:i<lb.length
 ·skip
  have hda:nv (la.drop i)=0:=by rw[List.drop_eq_nil_of_le nU];rfl
  have hda':nv (la.drop (i+1))=0:=by rw[List.drop_eq_nil_of_le nU];rfl
  have p1:decide ((i:Int)<(la.length:Int))=false:=An nU;obtain⟨bb,fb,rfl,hb⟩:=HBb.out.at hib;have hb:=A6 hU.bel hb;have hyl:=HOB.out _ (List.getElem_mem hib);have hdb:=C8 hib;obtain⟨y,hy⟩:∃y,lb[i]=y:=⟨_,rfl⟩;rw[hy] at hb hdb hyl;have p2:decide ((i:Int)<(lb.length:Int))=true:=Am nU;have p2':(i:Int)<(lb.length:Int):=by omega
  have q3:(0:Int)<=(y:Int):=by omega
  have q4:(y:Int)<=9999:=by omega
  have q0:(0:Int)<=(i:Int):=by omega
  have q5:(0:Int)<=(more:Int):=by omega
  have q6:(more:Int)<=1:=by omega
  have hz:(((more:Int)+(y:Int)) % 10000:Int)=(((more+y) % 10000:Nat):Int):=by omega
  have hd:(((more:Int)+(y:Int))/10000:Int)=(((more+y)/10000:Nat):Int):=by omega
  have hm1:(more+y)/10000<=1:=by omega
  have hbd:i+1<=max la.length lb.length\/i+1=max la.length lb.length+1/\(more+y)/10000=0:=by omega
  have HVL:=Ax (Qa (O:=nv o) (p:=10000^i) (show(more+y)+10000*nv (la.drop (i+1))+10000*nv (lb.drop (i+1))=more+nv (la.drop i)+nv (lb.drop i) by omega));have Hrow1:=Ax (hU.row.alloc (.cells #[.int .i64 (((more:Int)+(y:Int)) % 10000)] 3));have HN1:=Ax (A0 wr (.cells #[.int .i64 (((more:Int)+(y:Int)) % 10000)] 3));have HZ:Hid ((wr.alloc (.cells #[.int .i64 (((more:Int)+(y:Int)) % 10000)] 3)).heap.size=wr.heap.size+1):=Ax nW;have hsr:=hU.bel.size;have Hown:=Ax (Cf hU.row);have HU:=Ax hU;have Hzz:=Ax hz;have Hdd:=Ax hd;obtain⟨i0,hi0,hz0,hz1,hz2⟩:=Cg;have Hi0:=Ax hi0;have Hy0:=Ax hz0;have Hy1:=Ax hz1;have Hy2:=Ax hz2;have Hbd:=Ax hbd;clear hq hU hz hd hi0 hz0 hz1 hz2 hda hdb hbd hda' hy;go_wp2_with ((refine wpList_append_lies _ rfl (.tmp 44) (.tmp 47) _ rfl w.heap.size 3 i0 (.int .i64 0) 1 8 Tryz.underlying41 Hi0.out Hy0.out Hy1.out Hy2.out rfl nV (.slice oa i oc) i (C3 o) rfl Hrow1.out ⟨wr.heap.size,0,none⟩ 1 1 [.int .i64 (((more:Int)+(y:Int)) % 10000)] rfl rfl (World.news_of_block (cs:= #[.int .i64 (((more:Int)+(y:Int)) % 10000)]) HN1.out) oH nV oF nU oL (wr.heap.size+1) HZ.out ?_;intro g6 cap w6 hown6 hgrow6 hat6 hlt6));have hB6:=Ck (v:= .slice oa i oc) (HU.out.bel.alloc HU.out.bel.size (.cells #[.int .i64 (((more:Int)+(y:Int)) % 10000)] 3)) hgrow6 Hown.out oL;rw[Hzz.out,←C6] at hown6
  have HR6:Hid (dD w w6 la lb (i+1) ((more+y)/10000) (.slice (some ⟨g6,0,none⟩) (i+1) cap) (o++[(more+y) % 10000])):=Ax ⟨hown6,by rw[Ab,HU.out.len];rfl,E0 HU.out.ok (Nat.mod_lt _ nV),by
   rw[Fx,HU.out.len,Nat.pow_succ,HVL.out]
   exact HU.out.val,hB6⟩
  clear hown6 hgrow6 hat6 hlt6 hB6 Hrow1 HN1 HZ hsr Hown HU HVL;go_wp2_with fail;go_roundw
  case rel=>exact⟨i+1,(more+y)/10000,o++[(more+y) % 10000],some ⟨g6,0,none⟩,cap,hm1,Hbd.out,by go_num,rfl,by rw[Hdd.out],HR6⟩
  case measure=>simp [intOf];omega
 by_cases hm0:more=0
 ·subst hm0;have p1:decide ((i:Int)<(la.length:Int))=false:=An nU;have p2:decide ((i:Int)<(lb.length:Int))=false:=An nU;have hil:i<=200000:=by omega
  have hres:Ch wr (.slice oa i oc) o:=Ch.of_row (by rw[hU.len];omega) hU.len.symm hU.row
  have hval:nv o=nv la+nv lb:=by
   have:=hU.val
   rw[List.drop_eq_nil_of_le nU,List.drop_eq_nil_of_le nU] at this;simpa[nv] using this
  have HR:Hid (∃v o',Ending.returned (.slice oa i oc)= .returned v/\Ch wr v o'/\okD o'/\nv o'=nv la+nv lb/\o'.length<=max la.length lb.length+1):=Ax ⟨_,o,rfl,hres,hU.ok,hval,by rw[hU.len];omega⟩;have HB:=Ax hU.bel;clear hq hU hres hval hi hil hm;exact zzj
 obtain rfl:more=1:=by omega
 have hda:nv (la.drop i)=0:=by rw[List.drop_eq_nil_of_le nU];rfl
 have hda':nv (la.drop (i+1))=0:=by rw[List.drop_eq_nil_of_le nU];rfl
 have p1:decide ((i:Int)<(la.length:Int))=false:=An nU;have hdb:nv (lb.drop i)=0:=by rw[List.drop_eq_nil_of_le nU];rfl
 have hdb':nv (lb.drop (i+1))=0:=by rw[List.drop_eq_nil_of_le nU];rfl
 have p2:decide ((i:Int)<(lb.length:Int))=false:=An nU;have q0:(0:Int)<=(i:Int):=by omega
 have hz:(1:Int)=(((1) % 10000:Nat):Int):=by omega
 have hd:(0:Int)=(((1)/10000:Nat):Int):=by omega
 have hm1:(1)/10000<=1:=by omega
 have hbd:i+1<=max la.length lb.length\/i+1=max la.length lb.length+1/\(1)/10000=0:=by right;omega
 have HVL:=Ax (Qa (O:=nv o) (p:=10000^i) (show(1)+10000*nv (la.drop (i+1))+10000*nv (lb.drop (i+1))=1+nv (la.drop i)+nv (lb.drop i) by omega));have Hrow1:=Ax (hU.row.alloc (.cells #[.int .i64 (1)] 3));have HN1:=Ax (A0 wr (.cells #[.int .i64 (1)] 3));have HZ:Hid ((wr.alloc (.cells #[.int .i64 (1)] 3)).heap.size=wr.heap.size+1):=Ax nW;have hsr:=hU.bel.size;have Hown:=Ax (Cf hU.row);have HU:=Ax hU;have Hzz:=Ax hz;have Hdd:=Ax hd;obtain⟨i0,hi0,hz0,hz1,hz2⟩:=Cg;have Hi0:=Ax hi0;have Hy0:=Ax hz0;have Hy1:=Ax hz1;have Hy2:=Ax hz2;have Hbd:=Ax hbd;clear hq hU hz hd hi0 hz0 hz1 hz2 hda hdb hbd hda' hdb';go_wp2_with ((refine wpList_append_lies _ rfl (.tmp 44) (.tmp 47) _ rfl w.heap.size 3 i0 (.int .i64 0) 1 8 Tryz.underlying41 Hi0.out Hy0.out Hy1.out Hy2.out rfl nV (.slice oa i oc) i (C3 o) rfl Hrow1.out ⟨wr.heap.size,0,none⟩ 1 1 [.int .i64 (1)] rfl rfl (World.news_of_block (cs:= #[.int .i64 (1)]) HN1.out) oH nV oF nU oL (wr.heap.size+1) HZ.out ?_;intro g6 cap w6 hown6 hgrow6 hat6 hlt6));have hB6:=Ck (v:= .slice oa i oc) (HU.out.bel.alloc HU.out.bel.size (.cells #[.int .i64 (1)] 3)) hgrow6 Hown.out oL;rw[Hzz.out,←C6] at hown6
 have HR6:Hid (dD w w6 la lb (i+1) ((1)/10000) (.slice (some ⟨g6,0,none⟩) (i+1) cap) (o++[(1) % 10000])):=Ax ⟨hown6,by rw[Ab,HU.out.len];rfl,E0 HU.out.ok (Nat.mod_lt _ nV),by
  rw[Fx,HU.out.len,Nat.pow_succ,HVL.out]
  exact HU.out.val,hB6⟩
 clear hown6 hgrow6 hat6 hlt6 hB6 Hrow1 HN1 HZ hsr Hown HU HVL;go_wp2_with fail;go_roundw
 case rel=>exact⟨i+1,(1)/10000,o++[(1) % 10000],some ⟨g6,0,none⟩,cap,hm1,Hbd.out,by go_num,rfl,by rw[Hdd.out],HR6⟩
 case measure=>simp [intOf];omega
end Go.Proofs.YtgfakdobajgnfaaGreatDoor
