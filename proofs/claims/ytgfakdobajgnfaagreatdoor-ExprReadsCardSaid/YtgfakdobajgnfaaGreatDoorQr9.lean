import Derived.Deep.RegionHeld3
import Derived.Below
import Derived.Test.YtgfakdobajgnfaaGreatDoorQr8
import Derived.Test.YtgfakdobajgnfaaGreatDoorQr5
namespace Go.Proofs.YtgfakdobajgnfaaGreatDoor
open Go Go.RowKit
def setAll:Array Bool→List Nat→List Bool→Array Bool
 |L,i::ms,b::d=>setAll (L.setIfInBounds i b) ms d
 |L,_,_=>L
def putAll:Act→List (Option Nat)→List Value→Act
 |a,s::ss,v::u=>putAll (a.put s v) ss u
 |a,_,_=>a
def allB:Nat→List (List Bool)
 |0=>[[]]
 |k+1=>(allB k).flatMap fun d=>[false::d,true::d]
theorem mem_allB:∀{d:List Bool},d∈allB d.length
 |[]=>List.mem_singleton.2 rfl
 |b::d=>by
  refine List.mem_flatMap.2 ⟨d,mem_allB,?_⟩
  cases b<;>simp
def pureAt (dep:List (List Nat))(pu:List Bool)(n:Nat)(d:List Bool):Option Nat:=
 (List.range n).find? fun j=>pu.getD j false && !(d.getD j true) && (dep.getD j []).all fun l=>d.getD l false
def factOk (md:Region.Mode)(ops:Array Oper)(L:Array Bool)(ms:List Nat)(dep:List (List Nat))(pu:List Bool):Bool:=
 Region.noSelect ops && (allB ms.length).all fun d=>d.all id||match pureAt dep pu ms.length d with
  |some j=>Region.free md ops (setAll L ms d) (ms.getD j 0) && (Region.ready md ops (setAll L ms d)).contains (ms.getD j 0)
  |none=>((Region.ready md ops (setAll L ms d)).all fun i=>ms.zipIdx.any fun p=>p.1==i && !(d.getD p.2 true) && !(pu.getD p.2 false) && (dep.getD p.2 []).all fun l=>d.getD l false) && !(Region.ready md ops (setAll L ms d)).isEmpty
theorem setAll_set:∀(ms:List Nat) (L:Array Bool) (d:List Bool) (j i:Nat),ms.Nodup→ms[j]? =some i→d.length=ms.length→(setAll L ms d).setIfInBounds i true=setAll L ms (d.set j true)
 |[],_,_,_,_,_,h,_=>by simp at h
 |m::ms,L,[],_,_,_,_,h=>by simp at h
 |m::ms,L,b::d,0,i,hn,h,hl=>by
  simp at h
  subst h
  rw[List.set_cons_zero]
  show(setAll (L.setIfInBounds m b) ms d).setIfInBounds m true=setAll (L.setIfInBounds m true) ms d
  have key:∀(ms:List Nat) (L:Array Bool) (d:List Bool),m∉ms→(setAll L ms d).setIfInBounds m true=setAll (L.setIfInBounds m true) ms d:=by
   intro ms
   induction ms with
   |nil=>intro L d _;cases d<;>rfl
   |cons k ms ih=>
    intro L d hk
    cases d with
    |nil=>rfl
    |cons c d=>
     show(setAll (L.setIfInBounds k c) ms d).setIfInBounds m true=setAll ((L.setIfInBounds m true).setIfInBounds k c) ms d
     rw[ih _ _ (fun q=>hk (List.mem_cons_of_mem _ q)),Array.setIfInBounds_comm _ _ (fun q=>hk (by rw[q];exact List.mem_cons_self))]
  rw[key ms _ d (List.nodup_cons.1 hn).1]
  congr 1
  exact Array.setIfInBounds_setIfInBounds _
 |m::ms,L,b::d,j+1,i,hn,h,hl=>by
  rw[List.set_cons_succ]
  exact setAll_set ms _ d j i (List.nodup_cons.1 hn).2 (by simpa using h) (by simpa using hl)
theorem put_same (a:Act)(s:Option Nat)(v u:Value):(a.put s v).put s u=a.put s u:=by
 cases s with
 |none=>rfl
 |some s=>
  unfold Act.put
  simp only
  rw[Array.setIfInBounds_setIfInBounds]
def apartS:List (Option Nat)→Bool
 |[]=>true
 |none::ss=>apartS ss
 |some s::ss=>!(ss.contains (some s)) && apartS ss
theorem put_key (s:Option Nat)(v:Value):∀(ss:List (Option Nat)) (a:Act) (u:List Value),(∀m,s=some m→some m∉ss)→(putAll a ss u).put s v=putAll (a.put s v) ss u:=by
 intro ss
 induction ss with
 |nil=>intro a u _;cases u<;>rfl
 |cons k ss ih=>
  intro a u hk
  cases u with
  |nil=>rfl
  |cons c u=>
   show(putAll (a.put k c) ss u).put s v=putAll ((a.put s v).put k c) ss u
   rw[ih _ _ (fun m e q=>hk m e (List.mem_cons_of_mem _ q)),Act.put_comm a c v (fun d e q=>hk d q (by rw[←e];exact List.mem_cons_self))]
theorem putAll_set:∀(ss:List (Option Nat)) (a:Act) (u:List Value) (j:Nat) (s:Option Nat) (v:Value),apartS ss=true→ss[j]? =some s→u.length=ss.length→(putAll a ss u).put s v=putAll a ss (u.set j v)
 |[],_,_,_,_,_,_,h,_=>by simp at h
 |m::ss,a,[],_,_,_,_,_,h=>by simp at h
 |m::ss,a,x::u,0,s,v,hn,h,hl=>by
  simp at h
  subst h
  rw[List.set_cons_zero]
  show(putAll (a.put m x) ss u).put m v=putAll (a.put m v) ss u
  rw[put_key m v ss _ u ?_,put_same]
  rintro k rfl q
  simp [apartS,q] at hn
 |m::ss,a,x::u,j+1,s,v,hn,h,hl=>by
  rw[List.set_cons_succ]
  refine putAll_set ss _ u j s v ?_ (by simpa using h) (by simpa using hl)
  cases m with
  |none=>exact hn
  |some m=>simp only[apartS,Bool.and_eq_true] at hn;exact hn.2
theorem setAll_none:∀(ms:List Nat) (L:Array Bool),(ms.all fun i=>!(L.getD i true))=true→setAll L ms (ms.map fun _=>false)=L
 |[],_,_=>rfl
 |m::ms,L,h=>by
  rw[List.all_cons,Bool.and_eq_true] at h
  have e:L.setIfInBounds m false=L:=by
   have h1:=h.1
   by_cases hm:m<L.size
   ·simp [hm] at h1
    refine Array.ext (by simp) fun i q1 q2=>?_
    rw[Array.getElem_setIfInBounds (by simpa using q1)]
    split
    ·next e=>subst e;exact h1.symm
    ·rfl
   ·simp [hm] at h1
  show setAll (L.setIfInBounds m false) ms (ms.map fun _=>false)=L
  rw[e]
  exact setAll_none ms L h.2
def slotsOf (a:Act)(ss:List (Option Nat)):List Value:=ss.map fun s=>match s with
 |some s=>a.tmps.getD s undef
 |none=>undef
theorem put_getD (a:Act)(s:Nat):a.put (some s) (a.tmps.getD s undef)=a:=by
 unfold Act.put
 simp only
 have:a.tmps.setIfInBounds s (a.tmps.getD s undef)=a.tmps:=by
  by_cases hm:s<a.tmps.size
  ·refine Array.ext (by simp) fun i q1 q2=>?_
   rw[Array.getElem_setIfInBounds (by simpa using q1)]
   split
   ·next e=>subst e;simp
   ·rfl
  ·rw[Array.setIfInBounds_eq_of_size_le (by omega)]
 rw[this]
theorem putAll_slots:∀(ss:List (Option Nat)) (a:Act),putAll a ss (slotsOf a ss)=a
 |[],_=>rfl
 |none::ss,a=>putAll_slots ss a
 |some s::ss,a=>by
  show putAll (a.put (some s) (a.tmps.getD s undef)) ss (slotsOf a ss)=a
  rw[put_getD]
  exact putAll_slots ss a
section
variable {P:Program} {ops:Array Oper} {Q:Exit→Act→World→Prop} {md:Region.Mode} {S:World→Prop}
def OneI (P:Program)(ops:Array Oper)(Q:Exit→Act→World→Prop)(Inv:List Bool→List Value→World→Prop)(a:Act)(ms:List Nat)(ss:List (Option Nat))(dep:List (List Nat))(j:Nat):Prop:=
 ∀(d:List Bool) (u:List Value) (w:World),d.length=ms.length→u.length=ms.length→d[j]? =some false→((dep.getD j []).all fun l=>d.getD l false)=true→Inv d u w→∀i s,ms[j]? =some i→ss[j]? =some s→
  wpOp P ops Q i (fun a' w'=>∃v,a'=(putAll a ss u).put s v∧Inv (d.set j true) (u.set j v) w') (putAll a ss u) w
def OneP (P:Program)(ops:Array Oper)(S:World→Prop)(Inv:List Bool→List Value→World→Prop)(a:Act)(ms:List Nat)(ss:List (Option Nat))(dep:List (List Nat))(j:Nat):Prop:=
 ∀(d:List Bool) (u:List Value) (w:World),d.length=ms.length→u.length=ms.length→d[j]? =some false→((dep.getD j []).all fun l=>d.getD l false)=true→Inv d u w→∀i s,ms[j]? =some i→ss[j]? =some s→
  ∃o v,ops[i]? =some o∧o.dst=s∧YieldsIf P ops S o v (putAll a ss u)∧Inv (d.set j true) (u.set j v) w
theorem pureAt_some {dep:List (List Nat)}{pu:List Bool}{n:Nat}{d:List Bool}{j:Nat}(h:pureAt dep pu n d=some j):j<n∧pu.getD j false=true∧d.getD j true=false∧((dep.getD j []).all fun l=>d.getD l false)=true:=by
 have h1:=List.find?_some h
 have h2:=List.mem_of_find?_eq_some h
 simp only[Bool.and_eq_true,Bool.not_eq_true'] at h1
 exact⟨List.mem_range.1 h2,h1.1.1,h1.1.2,h1.2⟩
theorem count_set:∀(d:List Bool) (j:Nat),d[j]? =some false→(d.set j true).count false+1=d.count false:=by
 intro d
 induction d with
 |nil=>intro j h;simp at h
 |cons b d ih=>
  intro j h
  cases j with
  |zero=>simp at h;subst h;simp
  |succ j=>
   have:=ih j (by simpa using h)
   rw[List.set_cons_succ,List.count_cons,List.count_cons]
   omega
theorem at_false {d:List Bool}{j:Nat}(hlt:j<d.length)(hd:d.getD j true=false):d[j]? =some false:=by
 rw[List.getD_eq_getElem?_getD,List.getElem?_eq_getElem hlt] at hd
 rw[List.getElem?_eq_getElem hlt]
 simpa using hd
theorem wpAnyH_inv {Inv:List Bool→List Value→World→Prop}{L:Array Bool}{a:Act}(ms:List Nat)(ss:List (Option Nat))(dep:List (List Nat))(pu:List Bool){m:Nat}(hok:factOk md ops L ms dep pu=true)(hn:ms.Nodup)(hns:apartS ss=true)(hls:ss.length=ms.length)
 (hQ:∀s v c a w,Q (.panic c) (a.put s v) w→Q (.panic c) a w)
 (hS:∀d u w,Inv d u w→S w) (hop:∀j,j<ms.length→if pu.getD j false=true then OneP P ops S Inv a ms ss dep j else OneI P ops Q Inv a ms ss dep j)
 (hend:∀(u:List Value) (w:World),u.length=ms.length→Inv (ms.map fun _=>true) u w→wpAnyH P md ops Q S m (setAll L ms (ms.map fun _=>true)) (putAll a ss u) w):
 ∀(c:Nat) (d:List Bool) (u:List Value) (w:World),d.length=ms.length→u.length=ms.length→d.count false=c→Inv d u w→wpAnyH P md ops Q S (m+c) (setAll L ms d) (putAll a ss u) w
 |0,d,u,w,h1,h2,hc,hF=>by
  have:d=ms.map fun _=>true:=by
   refine List.ext_getElem (by simp [h1]) fun i q1 q2=>?_
   simp only[List.getElem_map]
   cases e:d[i] with
   |true=>rfl
   |false=>
    have:=List.count_pos_iff.2 (e▸List.getElem_mem q1)
    omega
  subst this
  exact hend u w h2 hF
 |c+1,d,u,w,h1,h2,hc,hF=>by
  have hok':=hok
  unfold factOk at hok'
  rw[Bool.and_eq_true] at hok'
  obtain⟨hsel,hok'⟩:=hok'
  have hk:=List.all_eq_true.1 hok' d (by rw[←h1];exact mem_allB)
  have hnall:d.all id=false:=by
   cases e:d.all id with
   |false=>rfl
   |true=>
    exfalso
    have:false∈d:=List.count_pos_iff.1 (by omega)
    have:=List.all_eq_true.1 e _ this
    cases this
  rw[hnall,Bool.false_or] at hk
  cases hp:pureAt dep pu ms.length d with
  |some j=>
   rw[hp] at hk
   simp only[Bool.and_eq_true] at hk
   obtain⟨hfr,hrd⟩:=hk
   obtain⟨hj,hpu,hdj,hdep⟩:=pureAt_some hp
   have hjm:ms[j]? =some ms[j]:=List.getElem?_eq_getElem _
   have hjs:ss[j]? =some (ss[j]'(by omega)):=List.getElem?_eq_getElem _
   have e:ms.getD j 0=ms[j]:=by simp [List.getD_eq_getElem?_getD,hj]
   rw[e] at hfr hrd
   have hq:=hop j hj
   rw[if_pos hpu] at hq
   obtain⟨o,v,ho,hds,hy,hI⟩:=hq d u w h1 h2 (at_false (by omega) hdj) hdep hF _ _ hjm hjs
   refine wpAnyH_take (fuel:=m+c) ho hsel hfr hrd (hQ _ _) hy (hS _ _ _ hF) ?_
   rw[hds,setAll_set ms L d j _ hn hjm h1,putAll_set ss a u j _ v hns hjs (by omega)]
   exact wpAnyH_inv ms ss dep pu hok hn hns hls hQ hS hop hend c (d.set j true) (u.set j v) w (by simpa using h1) (by simpa using h2) (by have:=count_set d j (at_false (by omega) hdj);omega) hI
  |none=>
   rw[hp] at hk
   simp only[Bool.and_eq_true] at hk
   obtain⟨hk1,hk2⟩:=hk
   rw[show m+(c+1)=(m+c)+1 by omega]
   refine⟨fun h0=>by rw[h0] at hk2;simp at hk2,fun i hi=>?_⟩
   have hi':=List.all_eq_true.1 hk1 i hi
   obtain⟨p,hp,hq⟩:=List.any_eq_true.1 hi'
   obtain⟨x,j⟩:=p
   rw[List.mem_zipIdx_iff_getElem?] at hp
   simp only[Bool.and_eq_true,beq_iff_eq,Bool.not_eq_true'] at hq
   obtain⟨⟨⟨rfl,hd⟩,hpu⟩,hdep⟩:=hq
   simp only at hp
   have hj:j<ms.length:=(List.getElem?_eq_some_iff.1 hp).1
   have hjs:ss[j]? =some (ss[j]'(by omega)):=List.getElem?_eq_getElem _
   have hdj:d[j]? =some false:=at_false (by omega) hd
   have ho:=hop j hj
   rw[if_neg (by rw[hpu];simp)] at ho
   refine wpOp_mono ?_ (ho d u w h1 h2 hdj hdep hF x _ hp hjs)
   rintro a' w' ⟨v,rfl,hv⟩
   refine⟨hS _ _ _ hv,?_⟩
   rw[setAll_set ms L d j x hn hp h1,putAll_set ss a u j _ v hns hjs (by omega)]
   exact wpAnyH_inv ms ss dep pu hok hn hns hls hQ hS hop hend c (d.set j true) (u.set j v) w' (by simpa using h1) (by simpa using h2) (by have:=count_set d j hdj;omega) hv
theorem wpAnyH_facts {Inv:List Bool→List Value→World→Prop}{listed:Array Bool}{a:Act}{w:World}(k:Nat)(ms:List Nat)(ss:List (Option Nat))(dep:List (List Nat))(pu:List Bool){m:Nat}(hok:factOk md ops listed ms dep pu=true)
 (hQ:∀s v c a w,Q (.panic c) (a.put s v) w→Q (.panic c) a w) (hsm:(decide (ms.Nodup) && apartS ss && decide (ss.length=ms.length) && decide (ms.length=k) && ms.all fun i=>!(listed.getD i true))=true)
 (hS:∀d u w,Inv d u w→S w) (h0:Inv (ms.map fun _=>false) (slotsOf a ss) w) (hop:∀j,j<ms.length→if pu.getD j false=true then OneP P ops S Inv a ms ss dep j else OneI P ops Q Inv a ms ss dep j)
 (hend:∀(u:List Value) (w:World),u.length=ms.length→Inv (ms.map fun _=>true) u w→wpAnyH P md ops Q S m (setAll listed ms (ms.map fun _=>true)) (putAll a ss u) w):wpAnyH P md ops Q S (m+k) listed a w:=by
 simp only[Bool.and_eq_true,decide_eq_true_eq] at hsm
 obtain⟨⟨⟨⟨h1,h2⟩,h3⟩,h4⟩,h5⟩:=hsm
 have hc:(ms.map fun _=>false).count false=k:=by
  rw[←h4]
  clear h0 hop hend hok h1 h3 h4 h5
  induction ms with
  |nil=>rfl
  |cons x ms ih=>simp only[List.map_cons,List.count_cons_self,List.length_cons,ih]
 have:=wpAnyH_inv (L:=listed) (a:=a) ms ss dep pu hok h1 h2 h3 hQ hS hop hend k (ms.map fun _=>false) (slotsOf a ss) w (by simp) (by simp [slotsOf,h3]) hc h0
 rwa [setAll_none ms listed h5,putAll_slots] at this
theorem OneI.mk {Inv:List Bool→List Value→World→Prop}{a:Act}{ms:List Nat}{ss:List (Option Nat)}{dep:List (List Nat)}{j:Nat}{i:Nat}{o:Oper}(hi:ms[j]? =some i)(ho:ops[i]? =some o)(hs:ss[j]? =some o.dst)
 (h:∀(d:List Bool) (u:List Value) (w:World),d.length=ms.length→u.length=ms.length→d[j]? =some false→((dep.getD j []).all fun l=>d.getD l false)=true→Inv d u w→∀K:Act→World→Prop,Shut (∀v w',Inv (d.set j true) (u.set j v) w'→K ((putAll a ss u).put o.dst v) w')→
  if Region.wanted o (yielded ops (putAll a ss u).tmps)=true then Oper.wp P o (putAll a ss u) w K Q else K ((putAll a ss u).put o.dst undef) w):OneI P ops Q Inv a ms ss dep j:=by
 intro d u w h1 h2 h3 h4 h5 i' s hi' hs'
 rw[hi] at hi'
 rw[hs] at hs'
 injection hi' with hi'
 injection hs' with hs'
 subst hi' hs'
 refine wpOp_step ho fun K hK=>h d u w h1 h2 h3 h4 h5 K fun v w' hv=>?_
 exact hK _ _ ⟨v,rfl,hv⟩
end
def AllF:List (Value→World→Prop)→List Bool→List Value→World→Prop
 |F::Fs,b::d,v::u,w=>(b=true→F v w)∧AllF Fs d u w
 |[],[],[],_=>True
 |_,_,_,_=>False
theorem AllF.mono {w w':World}(hR:Below w.heap.size w w'):∀{Fs:List (Value→World→Prop)} {d:List Bool} {u:List Value},(∀F∈Fs,∀v w w',F v w→Below w.heap.size w w'→F v w')→AllF Fs d u w→AllF Fs d u w'
 |_::_,_::_,_::_,hm,h=>⟨fun hb=>hm _ List.mem_cons_self _ _ _ (h.1 hb) hR,AllF.mono hR (fun F hF=>hm F (List.mem_cons_of_mem _ hF)) h.2⟩
 |[],[],[],_,_=>trivial
theorem AllF.set {w:World}:∀{Fs:List (Value→World→Prop)} {d:List Bool} {u:List Value} {j:Nat} {F:Value→World→Prop} {v:Value},AllF Fs d u w→Fs[j]? =some F→F v w→AllF Fs (d.set j true) (u.set j v) w
 |_::_,_::_,_::_,0,F,v,h,hF,hv=>by
  simp at hF
  subst hF
  exact⟨fun _=>hv,h.2⟩
 |_::_,_::_,_::_,j+1,F,v,h,hF,hv=>⟨h.1,AllF.set h.2 (by simpa using hF) hv⟩
 |[],[],[],j,F,v,h,hF,_=>by simp at hF
theorem AllF.none:∀(Fs:List (Value→World→Prop)) (u:List Value) (w:World),u.length=Fs.length→AllF Fs (Fs.map fun _=>false) u w
 |[],[],_,_=>trivial
 |_::Fs,_::u,w,h=>⟨fun e=>(by cases e),AllF.none Fs u w (by simpa using h)⟩
 |[],_::_,_,h=>by simp at h
 |_::_,[],_,h=>by simp at h
def Bx (B:Nat)(T:TypeId)(cs:Array Value)(x:Value)(w:World):Prop:=∃b,x= .pointer (some ⟨b,0,none⟩)∧B≤b∧w.heap[b]? =some (.cells cs T (0,0))
theorem lt_some {w:World}{b:Nat}{o:Obj}(h:w.heap[b]? =some o):b<w.heap.size:=by
 obtain⟨h,_⟩:=Array.getElem?_eq_some_iff.1 h
 exact h
theorem Bx.below {B:Nat}{T:TypeId}{cs:Array Value}{x:Value}{w w':World}(h:Bx B T cs x w)(hb:Below w.heap.size w w'):Bx B T cs x w':=by
 obtain⟨b,h1,h2,h3⟩:=h
 exact⟨b,h1,h2,(hb.block b (lt_some h3)).trans h3⟩
def Dst (bx:List Nat)(d:List Bool)(u:List Value)(w:World):Prop:=
 (∀i∈bx,d.getD i false=true→∃b,u.getD i undef= .pointer (some ⟨b,0,none⟩)∧b<w.heap.size)∧∀i∈bx,∀j∈bx,i≠j→d.getD i false=true→d.getD j false=true→u.getD i undef≠u.getD j undef
def InvB (B:Nat)(w0:World)(Fs:List (Value→World→Prop))(bx:List Nat)(d:List Bool)(u:List Value)(w:World):Prop:=Below B w0 w∧w0.heap.size≤w.heap.size∧AllF Fs d u w∧Dst bx d u w
section
variable {P:Program} {ops:Array Oper} {Q:Exit→Act→World→Prop} {md:Region.Mode} {S:World→Prop}
theorem getD_set_same {α:Type}(l:List α)(j:Nat)(x z:α)(h:j<l.length):(l.set j x).getD j z=x:=by simp [List.getD_eq_getElem?_getD,h]
theorem getD_set_far {α:Type}(l:List α)(i j:Nat)(x z:α)(h:i≠j):(l.set j x).getD i z=l.getD i z:=by simp [List.getD_eq_getElem?_getD,Ne.symm h]
theorem OneB.mk {B:Nat}{w0:World}{Fs:List (Value→World→Prop)}{bx:List Nat}{a:Act}{ms:List Nat}{ss:List (Option Nat)}{dep:List (List Nat)}{j:Nat}(i:Nat)(o:Oper)(F:Value→World→Prop)(hi:ms[j]? =some i)(ho:ops[i]? =some o)(hs:ss[j]? =some o.dst)(hF:Fs[j]? =some F)
 (hmono:∀F∈Fs,∀v w w',F v w→Below w.heap.size w w'→F v w') (hB:B≤w0.heap.size)
 (h:∀(d:List Bool) (u:List Value) (w:World),d.length=ms.length→u.length=ms.length→((dep.getD j []).all fun l=>d.getD l false)=true→AllF Fs d u w→Below B w0 w→w0.heap.size≤w.heap.size→
  ∀K:Act→World→Prop,Shut (∀v w',Below w.heap.size w w'→F v w'→(j∈bx→v= .pointer (some ⟨w.heap.size,0,none⟩)∧w.heap.size<w'.heap.size)→K ((putAll a ss u).put o.dst v) w')→
  if Region.wanted o (yielded ops (putAll a ss u).tmps)=true then Oper.wp P o (putAll a ss u) w K Q else K ((putAll a ss u).put o.dst undef) w):OneI P ops Q (InvB B w0 Fs bx) a ms ss dep j:=by
 refine OneI.mk hi ho hs fun d u w h1 h2 h3 h4 h5 K hK=>?_
 obtain⟨g1,g2,g3,g4,g5⟩:=h5
 refine h d u w h1 h2 h4 g3 g1 g2 K fun v w' hb hv hbx=>hK v w' ⟨g1.trans (hb.mono (by omega)),Nat.le_trans g2 hb.size,(g3.mono hb hmono).set hF hv,?_,?_⟩
 ·intro x hx hd
  by_cases e:x=j
  ·subst e
   obtain⟨e1,e2⟩:=hbx hx
   have hlt:x<u.length:=by rw[h2];exact(List.getElem?_eq_some_iff.1 hi).1
   rw[getD_set_same _ _ _ _ hlt]
   exact⟨_,e1,e2⟩
  ·rw[getD_set_far _ _ _ _ _ e] at hd ⊢
   obtain⟨b,q1,q2⟩:=g4 x hx hd
   exact⟨b,q1,Nat.lt_of_lt_of_le q2 hb.size⟩
 ·intro x hx y hy hne hdx hdy
  have hlt:j<u.length:=by rw[h2];exact(List.getElem?_eq_some_iff.1 hi).1
  by_cases e:x=j
  ·subst e
   rw[getD_set_far _ _ _ _ _ (Ne.symm hne)] at hdy ⊢
   rw[getD_set_same _ _ _ _ hlt]
   obtain⟨e1,_⟩:=hbx hx
   obtain⟨b,q1,q2⟩:=g4 y hy hdy
   rw[e1,q1]
   intro q
   injection q with q
   injection q with q
   injection q with q
   omega
  ·by_cases e':y=j
   ·subst e'
    rw[getD_set_far _ _ _ _ _ e] at hdx ⊢
    rw[getD_set_same _ _ _ _ hlt]
    obtain⟨e1,_⟩:=hbx hy
    obtain⟨b,q1,q2⟩:=g4 x hx hdx
    rw[e1,q1]
    intro q
    injection q with q
    injection q with q
    injection q with q
    omega
   ·rw[getD_set_far _ _ _ _ _ e] at hdx ⊢
    rw[getD_set_far _ _ _ _ _ e'] at hdy ⊢
    exact g5 x hx y hy hne hdx hdy
theorem OneBP.mk {B:Nat}{w0:World}{Fs:List (Value→World→Prop)}{bx:List Nat}{a:Act}{ms:List Nat}{ss:List (Option Nat)}{dep:List (List Nat)}{j:Nat}(i:Nat)(o:Oper)(F:Value→World→Prop)(hi:ms[j]? =some i)(ho:ops[i]? =some o)(hs:ss[j]? =some o.dst)(hF:Fs[j]? =some F)(hbx:bx.contains j=false)
 (h:∀(d:List Bool) (u:List Value) (w:World),d.length=ms.length→u.length=ms.length→((dep.getD j []).all fun l=>d.getD l false)=true→AllF Fs d u w→Below B w0 w→w0.heap.size≤w.heap.size→
  ∃v,YieldsIf P ops S o v (putAll a ss u)∧F v w):OneP P ops S (InvB B w0 Fs bx) a ms ss dep j:=by
 intro d u w h1 h2 h3 h4 h5 i' s hi' hs'
 rw[hi] at hi'
 rw[hs] at hs'
 injection hi' with hi'
 injection hs' with hs'
 subst hi' hs'
 obtain⟨g1,g2,g3,g4,g5⟩:=h5
 obtain⟨v,hy,hv⟩:=h d u w h1 h2 h4 g3 g1 g2
 have hne:∀x∈bx,x≠j:=fun x hx e=>by
  subst e
  rw[List.contains_iff_mem.2 hx] at hbx
  cases hbx
 refine⟨o,v,ho,rfl,hy,g1,g2,g3.set hF hv,fun x hx hd=>?_,fun x hx y hy hxy hdx hdy=>?_⟩
 ·rw[getD_set_far _ _ _ _ _ (hne x hx)] at hd ⊢
  exact g4 x hx hd
 ·rw[getD_set_far _ _ _ _ _ (hne x hx)] at hdx ⊢
  rw[getD_set_far _ _ _ _ _ (hne y hy)] at hdy ⊢
  exact g5 x hx y hy hxy hdx hdy
theorem InvB.start {B:Nat}{w0:World}{Fs:List (Value→World→Prop)}{bx:List Nat}{ms:List Nat}{u:List Value}(h1:ms.length=Fs.length)(h2:u.length=Fs.length):InvB B w0 Fs bx (ms.map fun _=>false) u w0:=by
 have e:(ms.map fun _=>false)=Fs.map fun _=>false:=by
  refine List.ext_getElem (by simpa using h1) fun i q1 q2=>by simp
 refine⟨Below.refl _ _,Nat.le_refl _,by rw[e];exact AllF.none Fs u w0 h2,?_,?_⟩
 all_goals
  intro x hx
 ·intro hd
  have:(ms.map fun _=>false).getD x false=false:=by
   rw[List.getD_eq_getElem?_getD]
   cases q:(ms.map fun _=>false)[x]? with
   |none=>rfl
   |some b=>have:=List.mem_of_getElem? q;simp at this;simp [this.2]
  rw[this] at hd
  cases hd
 ·intro y hy hne hd
  have:(ms.map fun _=>false).getD x false=false:=by
   rw[List.getD_eq_getElem?_getD]
   cases q:(ms.map fun _=>false)[x]? with
   |none=>rfl
   |some b=>have:=List.mem_of_getElem? q;simp at this;simp [this.2]
  rw[this] at hd
  cases hd
end
theorem len2 {α:Type}{u:List α}(h:u.length=2):∃x0 x1,u=[x0,x1]:=by
 match u,h with
 |[x0,x1],_=>exact⟨x0,x1,rfl⟩
theorem len3 {α:Type}{u:List α}(h:u.length=3):∃x0 x1 x2,u=[x0,x1,x2]:=by
 match u,h with
 |[x0,x1,x2],_=>exact⟨x0,x1,x2,rfl⟩
theorem len7 {α:Type}{u:List α}(h:u.length=7):∃x0 x1 x2 x3 x4 x5 x6,u=[x0,x1,x2,x3,x4,x5,x6]:=by
 match u,h with
 |[x0,x1,x2,x3,x4,x5,x6],_=>exact⟨x0,x1,x2,x3,x4,x5,x6,rfl⟩
theorem lt2 {p:Nat→Prop}(h0:p 0)(h1:p 1):∀j,j<2→p j:=fun j h=>by
 match j,h with
 |0,_=>exact h0
 |1,_=>exact h1
theorem lt3 {p:Nat→Prop}(h0:p 0)(h1:p 1)(h2:p 2):∀j,j<3→p j:=fun j h=>by
 match j,h with
 |0,_=>exact h0
 |1,_=>exact h1
 |2,_=>exact h2
theorem lt7 {p:Nat→Prop}(h0:p 0)(h1:p 1)(h2:p 2)(h3:p 3)(h4:p 4)(h5:p 5)(h6:p 6):∀j,j<7→p j:=fun j h=>by
 match j,h with
 |0,_=>exact h0
 |1,_=>exact h1
 |2,_=>exact h2
 |3,_=>exact h3
 |4,_=>exact h4
 |5,_=>exact h5
 |6,_=>exact h6
open Go Go.RowKit Go.Lib
theorem mono_nil:∀F∈([]:List (Value→World→Prop)),∀v w w',F v w→Below w.heap.size w w'→F v w':=fun _ h=>by cases h
theorem mono_cons {F:Value→World→Prop}{Fs:List (Value→World→Prop)}(h:∀v w w',F v w→Below w.heap.size w w'→F v w')(hs:∀F∈Fs,∀v w w',F v w→Below w.heap.size w w'→F v w'):∀G∈F::Fs,∀v w w',G v w→Below w.heap.size w w'→G v w':=fun G hG=>by
 rcases List.mem_cons.1 hG with rfl|hG
 ·exact h
 ·exact hs G hG
def Two (n m:Nat)(v:Value)(V:World):Prop:=∃v1 v2,v= .tuple #[v1,v2]∧NumIs V v1 ((n:Nat):Int)∧NumIs V v2 ((m:Nat):Int)
theorem Two.below {n m:Nat}{v:Value}{w w':World}(h:Two n m v w)(hb:Below w.heap.size w w'):Two n m v w':=by
 obtain⟨v1,v2,h1,h2,h3⟩:=h
 exact⟨v1,v2,h1,h2.below hb,h3.below hb⟩
def NumD (n:Nat)(v:Value)(V:World):Prop:=NumIs V v (n:Int)
theorem NumD.below {n:Nat}{v:Value}{w w':World}(h:NumD n v w)(hb:Below w.heap.size w w'):NumD n v w':=NumIs.below h hb
theorem dg_digit {d:Nat}(h:0<d)(h':d<10000):dg d=[d]:=by
 rw[dg_pos (by omega),Nat.mod_eq_of_lt h',show d/10000=0 by omega,dg_zero]
theorem natIs {w:World}{a:Option Addr}{n c m:Nat}(h:DgRd w (.slice a n c) (dg m)):NumIs w (.agg #[.bool false,.slice a n c]) (m:Int):=⟨_,by rw[decide_eq_false (by omega)],by rw[Int.natAbs_natCast];exact h⟩
theorem digit_row {w:World}{a:Option Addr}{n c d:Nat}(h:DgRd w (.slice a n c) (dg d))(hd:d<10):(d=0∧n=0)∨(0<d∧n=1∧∃b o,a=some ⟨b,o,none⟩∧w.cell? ⟨b,o,none⟩=some (.int .i64 (d:Int))):=by
 obtain⟨_,_,e,_⟩:=h.slice
 injection e with _ e _
 by_cases h0:d=0
 ·subst h0
  exact .inl ⟨rfl,by rw[e,dg_zero];rfl⟩
 ·rw[dg_digit (by omega) (by omega)] at e h
  obtain⟨b,o,h1,h2⟩:=h.at (i:=0) (by simp)
  exact .inr ⟨by omega,e,b,o,h1,by simpa using h2⟩
theorem conv_digit (F:World)(d:Nat)(x:Int)(hx:x=48+(d:Int))(h:d<10):(convert 40 9 (.slice (some ⟨F.heap.size,0,none⟩) 1 1)).run Tryz.prog (F.alloc (.cells #[.int .u8 x] 5))= .ok (.string ⟨#[UInt8.ofNat (48+d)]⟩) (F.alloc (.cells #[.int .u8 x] 5)):=by
 have:=run_convert_bytes_back (P:=Tryz.prog) (F.alloc (.cells #[.int .u8 x] 5)) 40 9 5 ⟨F.heap.size,0,none⟩ 1 [UInt8.ofNat (48+d)] Tryz.underlying40 Tryz.underlying5 Tryz.underlying9 (fun j hj=>by
  have hj0:j=0:=by simp at hj;exact hj
  subst hj0
  simp only[List.getElem_cons_zero,toNat_dig d h]
  show(F.alloc (.cells #[.int .u8 x] 5)).cell? ⟨F.heap.size,0,none⟩=_
  simp only[World.cell?,heap_alloc0,hx]
  rfl)
 exact this
theorem decD_le:∀(m n:Nat),n<10^(m+1)→(decDigits n).length≤m+1
 |0,n,h=>by rw[decDigits_small (by omega)];simp
 |m+1,n,h=>by
  by_cases h10:n<10
  ·rw[decDigits_small h10];simp
  ·have:=decD_le m (n/10) (by rw[Nat.pow_succ] at h;omega)
   rw[decDigits_big h10,List.length_append]
   simp
   omega
theorem padD_short {n k:Nat}(hn:lenD n≤5)(hk:k≤5):(padD n k).length≤30:=by
 have h1:=lt_lenD n
 have h2:10000^lenD n≤10000^5:=Nat.pow_le_pow_right (by decide) hn
 have h3:=decD_le 19 n (by omega)
 have:=padD_len n k
 omega
theorem two_stores {V F:World}{p q:Nat}{x1 x2 y1 y2:Value}(hp:V.heap[p]? =some (.cells #[.bool false,.slice none 0 0] 79 (0,0)))(hq:V.heap[q]? =some (.cells #[.bool false,.slice none 0 0] 79 (0,0)))(hne:p≠q)
 (hF:(((V.setCell ⟨p,0,none⟩ x1).setCell ⟨p,1,none⟩ x2).setCell ⟨q,0,none⟩ y1).setCell ⟨q,1,none⟩ y2=F):
 F.heap[p]? =some (.cells #[x1,x2] 79 (0,0))∧F.heap[q]? =some (.cells #[y1,y2] 79 (0,0))∧Only [p,q] V F∧∀v z,NumIs V v z→NumIs F v z:=by
 subst hF
 have h1:=setCell_heap (i:=1) (u:=x2) (setCell_heap (i:=0) (u:=x1) hp)
 have o1:Only [p] V ((V.setCell ⟨p,0,none⟩ x1).setCell ⟨p,1,none⟩ x2):=((Only.refl [p] V).setCell (.inl (by simp)) _).setCell (.inl (by simp)) _
 obtain⟨V1,hV1⟩:∃V1,(V.setCell ⟨p,0,none⟩ x1).setCell ⟨p,1,none⟩ x2=V1:=⟨_,rfl⟩
 rw[hV1] at h1 o1 ⊢
 have hq1:V1.heap[q]? =_:=(o1.block q (lt_some hq) (by simp;exact fun e=>hne e.symm)).trans hq
 have h2:=setCell_heap (i:=1) (u:=y2) (setCell_heap (i:=0) (u:=y1) hq1)
 have o2:Only [q] V1 ((V1.setCell ⟨q,0,none⟩ y1).setCell ⟨q,1,none⟩ y2):=((Only.refl [q] V1).setCell (.inl (by simp)) _).setCell (.inl (by simp)) _
 refine⟨(o2.block p (lt_some h1) (by simp;exact hne)).trans h1,h2,(o1.mono (T:=[p,q]) (by simp)).step o2 (by simp),fun v z h=>?_⟩
 ·have:=(h.store hp x1 x2).store (r:=q) (t:=79) (p:=false) (a:=none) (n:=0) (c:=0) (by rw[hV1];exact hq1) y1 y2
  rwa [hV1] at this
structure DtAt (w wr:World)(b:Bool)(s:Value)(l:Value):Prop where
 x:wr.heap[w.heap.size]? =some (.cells #[.bool b,s] 79 (0,0))
 l:wr.heap[w.heap.size+1]? =some (.cells #[.bool false,l] 79 (0,0))
 bel:Below w.heap.size w wr
theorem DtAt.box {w wo F:World}{b:Bool}{s l:Value}(hA:DtAt w wo b s l)(hF:Below wo.heap.size wo F)(O:Obj):(F.alloc O).heap[w.heap.size+1]? =some (.cells #[.bool false,l] 79 (0,0)):=
 ((hF.alloc (hF.size) O).block _ (lt_some hA.l)).trans hA.l
theorem dt_next {w wo F:World}{b:Bool}{s:Value}{la a5:Option Addr}{ln lc n5 c5 m:Nat}(hA:DtAt w wo b s (.slice la ln lc))(hF:Below wo.heap.size wo F)(h5:NumIs F (.agg #[.bool false,.slice a5 n5 c5]) (m:Int))(O:Obj):
 DtAt w (((F.alloc O).setCell ⟨w.heap.size+1,0,none⟩ (.bool false)).setCell ⟨w.heap.size+1,1,none⟩ (.slice a5 n5 c5)) b s (.slice a5 n5 c5)∧DgRd (((F.alloc O).setCell ⟨w.heap.size+1,0,none⟩ (.bool false)).setCell ⟨w.heap.size+1,1,none⟩ (.slice a5 n5 c5)) (.slice a5 n5 c5) (dg m)∧n5=lenD m:=by
 have hbx:=hA.box hF O
 have h1:=setCell_heap (i:=1) (u:= .slice a5 n5 c5) (setCell_heap (i:=0) (u:= .bool false) hbx)
 have o1:Only [w.heap.size+1] (F.alloc O) (((F.alloc O).setCell ⟨w.heap.size+1,0,none⟩ (.bool false)).setCell ⟨w.heap.size+1,1,none⟩ (.slice a5 n5 c5)):=((Only.refl _ _).setCell (.inl (by simp)) _).setCell (.inl (by simp)) _
 have hbF:=hF.alloc (hF.size) O
 have h5':=((NumIs.below h5 ((Below.refl F.heap.size F).alloc (Nat.le_refl _) O)).store hbx (.bool false) (.slice a5 n5 c5)).nat
 obtain⟨_,_,_,e,hd⟩:=h5'
 injection e with e
 have e2:=congrArg (fun x:Array Value=>x[1]?) e
 simp at e2
 obtain⟨rfl,rfl,rfl⟩:=e2
 refine⟨⟨?_,h1,?_⟩,hd,?_⟩
 ·refine(o1.block _ ?_ (by simp)).trans ((hbF.block _ (lt_some hA.x)).trans hA.x)
  exact Nat.lt_of_lt_of_le (lt_some hA.x) hbF.size
 ·exact((hA.bel.trans (hbF.mono hA.bel.size)).setCell (by simp) _).setCell (by simp) _
 ·obtain⟨_,_,e,_⟩:=hd.slice
  injection e
theorem pad_next {N k n dd:Nat}{sl cs:ByteArray}(hP:padD N k=padD n (k - sl.size)++dl sl)(hgo:0<n∨sl.size<k)(hdd:n % 10=dd)(hcs:cs=⟨#[UInt8.ofNat (48+dd)]⟩)(hN:lenD N≤5)(hk:k≤5):(cs++sl).size≤30∧padD N k=padD (n/10) (k - (cs++sl).size)++dl (cs++sl)∧30 - (cs++sl).size<30 - sl.size:=by
 obtain⟨h1,h2⟩:=padD_more hP (by omega)
 have h3:=padD_short hN hk
 have e1:(cs++sl).size=1+sl.size:=by rw[ByteArray.size_append,hcs];rfl
 have e2:dl (cs++sl)=UInt8.ofNat (48+n % 10)::dl sl:=by rw[dl_app,hcs,hdd];rfl
 rw[dl_size] at h2
 refine⟨by omega,?_,by omega⟩
 rw[e1,e2,h1,show k - sl.size - 1=k - (1+sl.size) by omega]
theorem Qw4{P:Prop}(h:P:=by
 try simp only[Act.put,List.setIfInBounds_toArray,List.set_cons_zero,List.set_cons_succ]
 have HMONO:=hide (show ∀F∈[NumD 10,Two (n/10) (n % 10),Bx wd.heap.size 79 #[.bool false,.slice none 0 0],Bx wd.heap.size 79 #[.bool false,.slice none 0 0],Two (n/10) (n % 10),NumD (n/10),NumD (n % 10)],∀v w w',F v w→Below w.heap.size w w'→F v w' from mono_cons (fun _ _ _ h hb=>h.below hb)<|mono_cons (fun _ _ _ h hb=>h.below hb)<|mono_cons (fun _ _ _ h hb=>h.below hb)<|mono_cons (fun _ _ _ h hb=>h.below hb)<|mono_cons (fun _ _ _ h hb=>h.below hb)<|mono_cons (fun _ _ _ h hb=>h.below hb)<|mono_cons (fun _ _ _ h hb=>h.below hb)<|mono_nil)
 refine wpAnyH_facts (Inv:=InvB wd.heap.size wd [NumD 10,Two (n/10) (n % 10),Bx wd.heap.size 79 #[.bool false,.slice none 0 0],Bx wd.heap.size 79 #[.bool false,.slice none 0 0],Two (n/10) (n % 10),NumD (n/10),NumD (n % 10)] [2,3]) 7 [1,2,6,7,3,4,5] [some 25,some 26,some 7,some 8,some 23,some 27,some 28] [[],[0],[],[],[1],[4],[4]] [false,false,false,false,true,true,true] (by kernel_rfl) (fun _ _ _ _ _ h=>h) (by kernel_rfl) ?_ (InvB.start rfl rfl) ?_ ?_
 ·intro d u V hI
  exact HSL.out V hI.1
 ·refine lt7 ?_ ?_ ?_ ?_ ?_ ?_ ?_
  ·rw[if_neg (by decide)]
   refine OneB.mk 1 ⟨some 25,_,_,_,_,_⟩ _ rfl rfl rfl rfl HMONO.out (Nat.le_refl _) ?_
   intro d u V hd hu hdep hF hbV hzV K hK
   obtain⟨x0,x1,x2,x3,x4,x5,x6,rfl⟩:=len7 hu
   obtain⟨b0,b1,b2,b3,b4,b5,b6,rfl⟩:=len7 hd
   obtain⟨f0,f1,f2,f3,f4,f5,f6,_⟩:=hF
   clear hd hu hdep f0 f1 f2 f3 f4 f5 f6 HMONO
   have HBV:=hide hbV
   have HZV:=hide hzV
   clear hbV hzV
   simp only[putAll,Act.put,List.setIfInBounds_toArray,List.set_cons_zero,List.set_cons_succ] at hK ⊢
   go_simp
   go_at_call 47
   (with_reducible refine Calls.mono (of_num 10 (by decide) (by decide)) ?_)
   rintro e V1 ⟨⟨v1,rfl,hv1⟩,hb1⟩
   (try go_wp2_with fail)
   refine hK.out _ _ hb1 hv1 (fun h=>absurd h (by decide))
  ·rw[if_neg (by decide)]
   refine OneB.mk 2 ⟨some 26,_,_,_,_,_⟩ _ rfl rfl rfl rfl HMONO.out (Nat.le_refl _) ?_
   intro d u V hd hu hdep hF hbV hzV K hK
   obtain⟨x0,x1,x2,x3,x4,x5,x6,rfl⟩:=len7 hu
   obtain⟨b0,b1,b2,b3,b4,b5,b6,rfl⟩:=len7 hd
   obtain⟨f0,f1,f2,f3,f4,f5,f6,_⟩:=hF
   have g0:=f0 (List.all_eq_true.1 hdep 0 (by decide))
   clear hd hu hdep f0 f1 f2 f3 f4 f5 f6 HMONO
   (try dsimp only at g0)
   have HBV:=hide hbV
   have HZV:=hide hzV
   clear hbV hzV
   simp only[putAll,Act.put,List.setIfInBounds_toArray,List.set_cons_zero,List.set_cons_succ] at hK ⊢
   have HQ:=hide (quo_nat (X:=n) (Y:=10) (HLN.out V HBV.out) g0 (by decide) (by have:=HPP.out.2;omega) (Nat.le_trans (lenD_small (by decide)) (by decide)))
   clear g0
   go_simp
   go_at_call 77
   (with_reducible refine HQ.out.mono ?_)
   rintro e V1 ⟨⟨v1,v2,rfl,hv1,hv2⟩,hb1⟩
   (try go_wp2_with fail)
   refine hK.out _ _ hb1 ⟨v1,v2,rfl,hv1,hv2⟩ (fun h=>absurd h (by decide))
  ·rw[if_neg (by decide)]
   refine OneB.mk 6 ⟨some 7,_,_,_,_,_⟩ _ rfl rfl rfl rfl HMONO.out (Nat.le_refl _) ?_
   intro d u V hd hu hdep hF hbV hzV K hK
   obtain⟨x0,x1,x2,x3,x4,x5,x6,rfl⟩:=len7 hu
   obtain⟨b0,b1,b2,b3,b4,b5,b6,rfl⟩:=len7 hd
   obtain⟨f0,f1,f2,f3,f4,f5,f6,_⟩:=hF
   clear hd hu hdep f0 f1 f2 f3 f4 f5 f6 HMONO
   have HBV:=hide hbV
   have HZV:=hide hzV
   clear hbV hzV
   simp only[putAll,Act.put,List.setIfInBounds_toArray,List.set_cons_zero,List.set_cons_succ] at hK ⊢
   go_simp
   (try go_wp2_with fail)
   refine hK.out _ _ ((Below.refl _ _).alloc (Nat.le_refl _) _) ⟨_,rfl,HZV.out,(MapKept.heap_alloc V _).1⟩ (fun _=>⟨rfl,by simp⟩)
  ·rw[if_neg (by decide)]
   refine OneB.mk 7 ⟨some 8,_,_,_,_,_⟩ _ rfl rfl rfl rfl HMONO.out (Nat.le_refl _) ?_
   intro d u V hd hu hdep hF hbV hzV K hK
   obtain⟨x0,x1,x2,x3,x4,x5,x6,rfl⟩:=len7 hu
   obtain⟨b0,b1,b2,b3,b4,b5,b6,rfl⟩:=len7 hd
   obtain⟨f0,f1,f2,f3,f4,f5,f6,_⟩:=hF
   clear hd hu hdep f0 f1 f2 f3 f4 f5 f6 HMONO
   have HBV:=hide hbV
   have HZV:=hide hzV
   clear hbV hzV
   simp only[putAll,Act.put,List.setIfInBounds_toArray,List.set_cons_zero,List.set_cons_succ] at hK ⊢
   go_simp
   (try go_wp2_with fail)
   refine hK.out _ _ ((Below.refl _ _).alloc (Nat.le_refl _) _) ⟨_,rfl,HZV.out,(MapKept.heap_alloc V _).1⟩ (fun _=>⟨rfl,by simp⟩)
  ·rw[if_pos (by decide)]
   refine OneBP.mk 3 ⟨some 23,_,_,_,_,_⟩ _ rfl rfl rfl rfl (by decide) ?_
   intro d u V hd hu hdep hF hbV hzV
   obtain⟨x0,x1,x2,x3,x4,x5,x6,rfl⟩:=len7 hu
   obtain⟨b0,b1,b2,b3,b4,b5,b6,rfl⟩:=len7 hd
   obtain⟨f0,f1,f2,f3,f4,f5,f6,_⟩:=hF
   have g1:=f1 (List.all_eq_true.1 hdep 1 (by decide))
   clear hd hu hdep f0 f1 f2 f3 f4 f5 f6 HMONO
   (try dsimp only at g1)
   have HBV:=hide hbV
   have HZV:=hide hzV
   clear hbV hzV
   refine⟨x1,Or.inl ⟨by rfl,fun W hSW=>?_⟩,g1⟩
   simp only[putAll,Act.put,List.setIfInBounds_toArray,List.set_cons_zero,List.set_cons_succ]
   clear HBV HZV
   (try dsimp only at hSW)
   (first|(go_simp;done)|(go_simp;with_reducible rfl))
  ·rw[if_pos (by decide)]
   refine OneBP.mk 4 ⟨some 27,_,_,_,_,_⟩ _ rfl rfl rfl rfl (by decide) ?_
   intro d u V hd hu hdep hF hbV hzV
   obtain⟨x0,x1,x2,x3,x4,x5,x6,rfl⟩:=len7 hu
   obtain⟨b0,b1,b2,b3,b4,b5,b6,rfl⟩:=len7 hd
   obtain⟨f0,f1,f2,f3,f4,f5,f6,_⟩:=hF
   have g4:=f4 (List.all_eq_true.1 hdep 4 (by decide))
   clear hd hu hdep f0 f1 f2 f3 f4 f5 f6 HMONO
   (try dsimp only at g4)
   have HBV:=hide hbV
   have HZV:=hide hzV
   clear hbV hzV
   obtain⟨v1,v2,rfl,hv1,hv2⟩:=g4
   refine⟨v1,Or.inl ⟨by rfl,fun W hSW=>?_⟩,hv1⟩
   simp only[putAll,Act.put,List.setIfInBounds_toArray,List.set_cons_zero,List.set_cons_succ]
   clear HBV HZV
   (try dsimp only at hSW)
   (first|(go_simp;done)|(go_simp;with_reducible rfl))
  ·rw[if_pos (by decide)]
   refine OneBP.mk 5 ⟨some 28,_,_,_,_,_⟩ _ rfl rfl rfl rfl (by decide) ?_
   intro d u V hd hu hdep hF hbV hzV
   obtain⟨x0,x1,x2,x3,x4,x5,x6,rfl⟩:=len7 hu
   obtain⟨b0,b1,b2,b3,b4,b5,b6,rfl⟩:=len7 hd
   obtain⟨f0,f1,f2,f3,f4,f5,f6,_⟩:=hF
   have g4:=f4 (List.all_eq_true.1 hdep 4 (by decide))
   clear hd hu hdep f0 f1 f2 f3 f4 f5 f6 HMONO
   (try dsimp only at g4)
   have HBV:=hide hbV
   have HZV:=hide hzV
   clear hbV hzV
   obtain⟨v1,v2,rfl,hv1,hv2⟩:=g4
   refine⟨v2,Or.inl ⟨by rfl,fun W hSW=>?_⟩,hv2⟩
   simp only[putAll,Act.put,List.setIfInBounds_toArray,List.set_cons_zero,List.set_cons_succ]
   clear HBV HZV
   (try dsimp only at hSW)
   (first|(go_simp;done)|(go_simp;with_reducible rfl))
 ·intro u V hu hI
  obtain⟨x0,x1,x2,x3,x4,x5,x6,rfl⟩:=len7 hu
  obtain⟨hbV,hzV,⟨f0,f1,f2,f3,f4,f5,f6,_⟩,hDst⟩:=hI
  have f0:=f0 rfl
  have f1:=f1 rfl
  have f2:=f2 rfl
  have f3:=f3 rfl
  have f4:=f4 rfl
  have f5:=f5 rfl
  have f6:=f6 rfl
  clear hu HMONO
  simp only[putAll,Act.put,List.setIfInBounds_toArray,List.set_cons_zero,List.set_cons_succ]
  have hHeld:=HSL.out V hbV
  obtain⟨p2,rfl,hp2,hb2⟩:=f2
  obtain⟨p3,rfl,hp3,hb3⟩:=f3
  have hne:p2≠p3:=fun e=>hDst.2 2 (by decide) 3 (by decide) (by decide) rfl rfl (by rw[e];rfl)
  obtain⟨a5,n5,c5,rfl,hd5⟩:=NumIs.nat f5
  obtain⟨a6,n6,c6,rfl,hd6⟩:=NumIs.nat f6
  have hlt:=lt_of_cell hHeld.1
  have hlw:=lt_of_cell m0d
  have n1:¬p2=w.heap.size+1:=by intro e;simp at hlw;omega
  have n2:¬p3=w.heap.size+1:=by intro e;simp at hlw;omega
  have n3:¬w.heap.size+1=p2:=fun e=>n1 e.symm
  have n4:¬w.heap.size+1=p3:=fun e=>n2 e.symm
  have n5':¬p3=p2:=fun e=>hne e.symm
  obtain⟨c20,c21,cf2⟩:=two_cells' hb2
  obtain⟨c30,c31,cf3⟩:=two_cells' hb3
  have cf20:=cf2 0
  have cf21:=cf2 1
  have cf30:=cf3 0
  have cf31:=cf3 1
  obtain⟨hh0,hh1⟩:=hHeld
  have hHeld:=HSL.out V hbV
  have H5:=hide hd5
  have H6:=hide hd6
  have HB2:=hide (And.intro hb2 hb3)
  have HP:=hide (And.intro hp2 hp3)
  have HBV:=hide (And.intro hbV hzV)
  clear f0 f1 f4 f5 f6 hDst hd5 hd6 hb2 hb3 hp2 hp3 hlt hlw cf2 cf3 hbV hzV
  refine wpAnyH_ready (rs:=[8]) (by kernel_rfl) (by simp) ?_
  refine AllReadyH.cons (o:=⟨none,_,_,_,_,_⟩) (rs:=[]) rfl (fun K hK=>?_) AllReadyH.nil
  go_simp
  try go_wp2_with fail
  clear hHeld
  refine hK.out _ _ ?_ (fun hHeld=>?_)
  ·(try dsimp only);go_keep
  clear hK K
  try simp only[Act.put,List.setIfInBounds_toArray,List.set_cons_zero,List.set_cons_succ]
  refine wpAnyH_ready (rs:=[9]) (by kernel_rfl) (by simp) ?_
  refine AllReadyH.cons (o:=⟨none,_,_,_,_,_⟩) (rs:=[]) rfl (fun K hK=>?_) AllReadyH.nil
  go_simp
  try go_wp2_with fail
  clear hHeld
  refine hK.out _ _ ?_ (fun hHeld=>?_)
  ·(try dsimp only);go_keep
  clear hK K
  try simp only[Act.put,List.setIfInBounds_toArray,List.set_cons_zero,List.set_cons_succ]
  refine wpAnyH_done (by kernel_rfl) ?_ _
  refine NoPanic.normal ?_
  obtain⟨F,hF⟩:∃F,(((V.setCell ⟨p2,0,none⟩ (.bool false)).setCell ⟨p2,1,none⟩ (.slice a5 n5 c5)).setCell ⟨p3,0,none⟩ (.bool false)).setCell ⟨p3,1,none⟩ (.slice a6 n6 c6)=F:=⟨_,rfl⟩
  rw[hF]
  obtain⟨hF2,hF3,hFo,hFn⟩:=two_stores HB2.out.1 HB2.out.2 hne hF
  have hFb:Below wd.heap.size wd F:=below_only HBV.out.1 hFo (by simp;exact⟨HP.out.1,HP.out.2⟩) HBV.out.2
  have H5F:=hide (hFn _ _ (natIs H5.out))
  have h6F:=NumIs.natk (hFn _ _ (natIs H6.out))
  have hdig:=digit_row h6F.2 (Nat.mod_lt _ (by decide))
  have hd10:n % 10<10:=Nat.mod_lt _ (by decide)
  obtain⟨dd,hdd⟩:∃dd,n % 10=dd:=⟨_,rfl⟩
  rw[hdd] at hdig hd10
  have HDD:=hide hdd
  clear h6F hdd hHeld c20 c21 c30 c31 cf20 cf21 cf30 cf31 hh0 hh1 hF hFn hFo HB2 H5 H6
  obtain⟨c20,c21,cf2⟩:=two_cells' hF2
  obtain⟨c30,c31,cf3⟩:=two_cells' hF3
  have HFF:=hide (And.intro hF2 (And.intro hF3 hFb))
  clear hF2 hF3 hFb
  obtain⟨cs,hcs⟩:∃cs:ByteArray,cs=⟨#[UInt8.ofNat (48+dd)]⟩:=⟨_,rfl⟩
  have HPN:=hide (pad_next HPP.out.1 HGO.out HDD.out hcs HN.out HK.out)
  have HCS:=hide hcs
  clear hcs
  have hcsz:cs.size=1:=by rw[HCS.out];rfl
  have hcsl:cs.size≤1:=by omega
  clear hcsz
  rcases hdig with ⟨rfl,rfl⟩|⟨hd1,rfl,b6,o6,rfl,hc6⟩
  ·have hbF:=HA.out.2.trans (HFF.out.2.2.mono HA.out.2.size)
   have hcv:=conv_digit F 0 (48) (by omega) (by omega)
   rw[←HCS.out] at hcv
   have HDN:=hide (dt_next HA.out.1 hbF H5F.out (.cells #[.int .u8 (48)] 5))
   obtain⟨e0,e1,ef⟩:=two_cells' (HA.out.1.box hbF (.cells #[.int .u8 (48)] 5))
   have ef0:=ef 0
   have ef1:=ef 1
   have hal:=(Below.refl F.heap.size F).alloc (Nat.le_refl _) (.cells #[.int .u8 (48)] 5)
   have c20:=bcell hal c20
   have c21:=bcell hal c21
   clear hbF ef cf2 cf3 hal
   go_wp2_with fail
   go_roundw
   case rel=>exact⟨n/10,cs++sl,a5,n5,c5,rfl,HPN.out.1,hide ⟨HDN.out.1,HDN.out.2.1,HDN.out.2.2,Nat.le_trans (lenD_mono (Nat.div_le_self _ _)) HPP.out.2,HPN.out.2.1⟩⟩
   case measure=>exact HPN.out.2.2
  ·have hbF:=HA.out.2.trans (HFF.out.2.2.mono HA.out.2.size)
   have hcv:=conv_digit F dd (48+(dd:Int)) (by omega) (by omega)
   rw[←HCS.out] at hcv
   have HDN:=hide (dt_next HA.out.1 hbF H5F.out (.cells #[.int .u8 (48+(dd:Int))] 5))
   obtain⟨e0,e1,ef⟩:=two_cells' (HA.out.1.box hbF (.cells #[.int .u8 (48+(dd:Int))] 5))
   have ef0:=ef 0
   have ef1:=ef 1
   have hal:=(Below.refl F.heap.size F).alloc (Nat.le_refl _) (.cells #[.int .u8 (48+(dd:Int))] 5)
   have c20:=bcell hal c20
   have c21:=bcell hal c21
   clear hbF ef cf2 cf3 hal
   go_wp2_with fail
   go_roundw
   case rel=>exact⟨n/10,cs++sl,a5,n5,c5,rfl,HPN.out.1,hide ⟨HDN.out.1,HDN.out.2.1,HDN.out.2.2,Nat.le_trans (lenD_mono (Nat.div_le_self _ _)) HPP.out.2,HPN.out.2.1⟩⟩
   case measure=>exact HPN.out.2.2):P:=h
set_option maxRecDepth 100000 in
set_option maxHeartbeats 16000000 in
theorem rdigits_any {w:World}{sx:Value}{N:Nat}(bx:Bool)(hx:DgRd w sx (dg N))(hN:lenD N≤5)(k:Nat)(hk:k≤5):Calls Tryz.prog 48 #[.agg #[.bool bx,sx],.int .i64 (k:Int)] w fun e w'=>e= .returned (.string ⟨(padD N k).toArray⟩)∧Below w.heap.size w w':=by
 obtain⟨ax,cx,rfl,_⟩:=hx.slice
 obtain⟨nx,hnx⟩:∃n,(dg N).length=n:=⟨_,rfl⟩
 rw[hnx] at hx ⊢
 have HX:=hide hx
 have HNX:=hide hnx
 have HN:=hide hN
 have HK:=hide hk
 clear hx hnx hN hk
 go_enter Tryz.func48,Tryz.ntmps48
 go_wp2_with fail
 go_loopw [5] (fun v5 wr=>∃(n:Nat) (sl:ByteArray) (la:Option Addr) (ln lc:Nat),v5= .string sl∧sl.size≤30∧Hid (DtAt w wr bx (.slice ax nx cx) (.slice la ln lc)∧DgRd wr (.slice la ln lc) (dg n)∧ln=lenD n∧lenD n≤5∧padD N k=padD n (k - sl.size)++dl sl)) (fun v5 _=>30 - (strV v5).size)
 case atStart=>
  refine⟨N,⟨#[]⟩,ax,nx,cx,rfl,by decide,hide ⟨⟨?_,?_,?_⟩,?_,HNX.out.symm,HN.out,by simp [dl];rfl⟩⟩
  ·rw[RowKit.Below.heap_alloc _ _ _ (by simp)];exact(MapKept.heap_alloc w _).1
  ·have:=(MapKept.heap_alloc (w.alloc (.cells #[.bool bx,.slice ax nx cx] 79)) (.cells #[.bool false,.slice ax nx cx] 79)).1
   simpa using this
  ·exact((Below.refl _ _).alloc (Nat.le_refl _) _).alloc (by simp) _
  ·exact HX.out.below (((Below.refl _ _).alloc (Nat.le_refl _) _).alloc (by simp) _)
 case round=>
  obtain⟨wo,rfl⟩:∃wo:World,wo=wr:=⟨_,rfl⟩
  obtain⟨n,sl,la,ln,lc,rfl,hsl,hq⟩:=hrel
  obtain⟨hA,hD,hln,hL5,hP⟩:=hq.out
  obtain⟨m0,m1,_⟩:=two_cells' hA.l
  obtain⟨wd,hwd⟩:∃wd,wo.drew=wd:=⟨_,rfl⟩
  have hbd:Below wo.heap.size wo wd:=by rw[←hwd];exact(Below.refl _ _).drew
  have HA:=hide (And.intro hA hbd)
  have HPP:=hide (And.intro hP hL5)
  have hlp:0<n↔0<ln:=by
   rw[hln]
   constructor
   ·intro h
    have:=lt_lenD n
    rcases Nat.eq_zero_or_pos (lenD n) with q|q
    ·rw[q] at this;omega
    ·exact q
   ·intro h
    rcases Nat.eq_zero_or_pos n with q|q
    ·subst q;simp [lenD,dg_zero] at h
    ·exact q
  have hbb:∀V,Below wd.heap.size wd V→NumIs V (.agg #[.bool false,.slice la ln lc]) (n:Int):=fun V hV=>⟨_,by rw[decide_eq_false (by omega)],by simpa[hln] using(hD.below hbd).below hV⟩
  have HLN:=hide hbb
  have hsl2:∀V,Below wd.heap.size wd V→V.cell? ⟨w.heap.size+1,0,none⟩=some (.bool false)∧V.cell? ⟨w.heap.size+1,1,none⟩=some (.slice la ln lc):=fun V hV=>by
   exact⟨bcell hV (bcell hbd m0),bcell hV (bcell hbd m1)⟩
  have HSL:=hide hsl2
  have HLD:=hide hln
  have HLP:=hide hlp
  clear hq hA hD hP hL5 hbd hlp hbb hsl2 hln
  by_cases hgo:0<n∨sl.size<k
  ·have HGO:=hide hgo
   obtain⟨gb,hgb⟩:∃gb,decide ((0:Int)<(ln:Int))=gb:=⟨_,rfl⟩
   have hgt:gb=false→decide (sl.size<k)=true:=fun e=>decide_eq_true (by
    subst e
    have:=of_decide_eq_false hgb
    have:=HLP.out
    omega)
   clear hgo
   cases gb with
   |false=>
    have hgk:=hgt rfl
    obtain rfl:ln=0:=by have:=of_decide_eq_false hgb;omega
    have m0d:=(HSL.out wd (Below.refl _ _)).1
    have m1d:=(HSL.out wd (Below.refl _ _)).2
    clear hgt hgb
    go_wp2_with fail
    refine wp_region_noPanic ?_
    refine wp_region_held_drew (S:=fun V=>V.cell? ⟨w.heap.size+1,0,none⟩=some (.bool false)∧V.cell? ⟨w.heap.size+1,1,none⟩=some (.slice la 0 lc)) (by kernel_rfl) ?_ (fun hHeld=>?_)
    ·(try dsimp only);go_keep
    rw[hwd] at hHeld ⊢
    refine wpAnyH_take (i:=0) (oi:=⟨some 24,_,_,_,_,_⟩) (v:=?_) rfl (by kernel_rfl) (by kernel_rfl) (by kernel_rfl) (fun _ _ _ h=>h) (Or.inl ⟨by rfl,?_⟩) (by assumption) ?_
    rotate_left
    ·(intro w hSw;(try dsimp only at hSw);(first|(go_simp;done)|(go_simp;with_reducible rfl)))
    exact Qw4
   |true=>
    have hgp:(0:Int)<(ln:Int):=of_decide_eq_true hgb
    have m0d:=(HSL.out wd (Below.refl _ _)).1
    have m1d:=(HSL.out wd (Below.refl _ _)).2
    clear hgt
    go_wp2_with fail
    refine wp_region_noPanic ?_
    refine wp_region_held_drew (S:=fun V=>V.cell? ⟨w.heap.size+1,0,none⟩=some (.bool false)∧V.cell? ⟨w.heap.size+1,1,none⟩=some (.slice la ln lc)) (by kernel_rfl) ?_ (fun hHeld=>?_)
    ·(try dsimp only);go_keep
    rw[hwd] at hHeld ⊢
    refine wpAnyH_take (i:=0) (oi:=⟨some 24,_,_,_,_,_⟩) (v:=?_) rfl (by kernel_rfl) (by kernel_rfl) (by kernel_rfl) (fun _ _ _ h=>h) (Or.inl ⟨by rfl,?_⟩) (by assumption) ?_
    rotate_left
    ·(intro w hSw;(try dsimp only at hSw);(first|(go_simp;done)|(go_simp;with_reducible rfl)))
    exact Qw4
  ·obtain rfl:n=0:=by omega
   obtain rfl:ln=0:=by
    have:=HLP.out
    omega
   have hfin:dl ⟨(padD N k).toArray⟩=dl sl:=by
    have:=HPP.out.1
    rw[show k - sl.size=0 by omega,padD_zero] at this
    rw[dl_mk,this]
    rfl
   have HFN:=hide (ret_str hfin)
   have hgk:decide (sl.size<k)=false:=decide_eq_false (by omega)
   clear hfin hgo
   go_wp2_with fail
   go_ret
   exact⟨HFN.out.symm,HA.out.1.bel⟩
end Go.Proofs.YtgfakdobajgnfaaGreatDoor
