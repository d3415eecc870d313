import Derived.WalkLawsBesides
import Derived.WalkSpells
import Derived.Deep.RegionHeld3
import Derived.Deep.AppendLies
import Derived.Shelf.Strings.OnBuilder
import Derived.Shelf.Strings.Trim
import Derived.Shelf.Small.Wraps
import Derived.Shelf.Strconv.Itoa4
import Derived.Shelf.Strconv.ErrVarParseInt
import Derived.Shelf.Strings.Shaped
import Derived.Shelf.GgClosure.StringsRunes
import Derived.Shelf.Strings.SplitShaped
import Derived.Shelf.Strings.Runes
import Derived.Shelf.Strings.AsciiSet
import Derived.Shelf.Strings.FuncGrows
import Derived.Shelf.Strings.BuilderCap
import Derived.Shelf.Slices.Equal
import Derived.Lib.SpaceUEq
import Derived.Lib.ItoaLen
import Derived.Lib.SmallJoins
import Derived.Laws.EntriesVeiled
import Derived.RangeFuncWrites
import Derived.RangeFuncCalls
import Derived.Shelf.RegionOpen
import Derived.OwnWalkIn
import Derived.LoopNIn
import Derived.Sort.CutIn
import Derived.Great.Walk
import Derived.Lay
import Derived.SevenTiedAt
import Derived.HandedShaped
import Derived.Test.YtmpfilddeglgbaaGreatDoorProg
set_option maxRecDepth 100000
set_option maxHeartbeats 16000000
namespace Go.Proofs
theorem Aa{α:Type}{a:α}{l:List α}:(a::l).length=l.length+1:=List.length_cons
theorem Ab{α:Type}{l m:List α}:(l++m).length=l.length+m.length:=List.length_append
theorem Ac{α:Type}(l:List α)(i:Nat)(a:α):l.toArray.setIfInBounds i a=(l.set i a).toArray:=List.setIfInBounds_toArray l i a
theorem Ad{α:Type}{a b:α}{l:List α}:(a::l).set 0 b=b::l:=rfl
theorem Ae{α:Type}{a b:α}{l:List α}{n:Nat}:(a::l).set (n+1) b=a::l.set n b:=rfl
theorem Af{α:Type}[BEq α][LawfulBEq α]{a b:α}:(a==b)=false↔a≠b:=beq_eq_false_iff_ne
theorem Ag{α:Type}{l:List α}{i:Nat}(h:i<l.length):l[i]?=some l[i]:=List.getElem?_eq_getElem h
theorem Ah{α:Type}{l:List α}{i:Nat}{a:α}:l[i]?=some a↔∃h:i<l.length,l[i]=a:=List.getElem?_eq_some_iff
theorem Ai{α:Type}{a:α}{l:List α}:a∈a::l:=List.mem_cons_self
theorem Aj{α:Type}(b:α){a:α}{l:List α}(h:a∈l):a∈b::l:=List.mem_cons_of_mem b h
theorem Ak(n:Nat):n≤n:=Nat.le_refl n
theorem Al{n m k:Nat}(h:n≤m)(h2:m≤k):n≤k:=Nat.le_trans h h2
theorem Am{p:Prop}[Decidable p](h:p):decide p=true:=decide_eq_true h
theorem An{p:Prop}[Decidable p](h:¬p):decide p=false:=decide_eq_false h
theorem Ao{c:Prop}{h:Decidable c}(n:¬c){α:Sort _}{t e:α}:ite c t e=e:=if_neg n
theorem Ap{c:Prop}{h:Decidable c}(n:c){α:Sort _}{t e:α}:ite c t e=t:=if_pos n
theorem Aq(B:Nat)(w:Go.World):Go.RowKit.Below B w w:=Go.RowKit.Below.refl B w
theorem Ar{α:Sort _}{β:Sort _}{a b:α}(f:α→β)(h:a=b):f a=f b:=congrArg f h
theorem Au:type_of% @Go.bodyPost_ret:=@Go.bodyPost_ret
theorem Av:type_of% @Go.AllReadyIn.cons:=@Go.AllReadyIn.cons
theorem Aw:type_of% @Go.wpAnyIn_take:=@Go.wpAnyIn_take
theorem tE{P:Prop}(h:P:=by omega):P:=h
theorem tF{P:Prop}(h:P:=by kernel_rfl):P:=h
theorem tG{P:Prop}(h:P:=by decide):P:=h
theorem tH{P:Prop}(h:P:=by simp):P:=h
theorem tI{P:Prop}(h:P:=by simp [results,Tryz.results147,go_sem, *]):P:=h
theorem tJ{P:Prop}(h:P:=by simp [results,Tryz.results93,go_sem, *]):P:=h
theorem tK{P:Prop}(h:P:=by simp;intro e;exact HAP.out (by rw[e];exact Ai)):P:=h
theorem tL{P:Prop}(h:P:=by simp;omega):P:=h
theorem tM{P:Prop}(h:P:=by simp [results,Tryz.results64,go_sem, *]):P:=h
theorem tN{P:Prop}(h:P:=by rw[←e1];exact HT.out):P:=h
theorem tO{P:Prop}(h:P:=by simp [results,Tryz.results51,go_sem, *]):P:=h
theorem tP{P:Prop}(h:P:=by simp only[B2];omega):P:=h
theorem tQ{P:Prop}(h:P:=by unfold maxLen;omega):P:=h
theorem tR{P:Prop}(h:P:=by rw[e];exact Ai):P:=h
theorem tS{P:Prop}(h:P:=by simp [Value.oneCell']):P:=h
theorem tT{P:Prop}(h:P:=by simp [results,Tryz.results190,go_sem, *]):P:=h
theorem tU{P:Prop}(h:P:=by rw[e];rfl):P:=h
theorem tV{P:Prop}(h:P:=by rw[HZ.out];omega):P:=h
theorem tW{P:Prop}(h:P:=by simp [results,Tryz.results132,go_sem]):P:=h
theorem tX{P:Prop}(h:P:=by rw[List.length_drop];omega):P:=h
theorem tY{P:Prop}(h:P:=by simp;try omega):P:=h
theorem tZ{P:Prop}(h:P:=by simp only[Aa];omega):P:=h
theorem uA{P:Prop}(h:P:=by simp [results,Tryz.results155,go_sem, *]):P:=h
theorem uB{P:Prop}(h:P:=by simpa using h):P:=h
theorem uC{P:Prop}(h:P:=by simp only;omega):P:=h
theorem uD{P:Prop}(h:P:=by simpa using hm):P:=h
theorem uE{P:Prop}(h:P:=by rw[Aa] at hk;omega):P:=h
theorem uF{P:Prop}(h:P:=by simp only[F7.ok];omega):P:=h
theorem uG{P:Prop}(h:P:=by simp [results,Tryz.results114,go_sem, *]):P:=h
theorem uH{P:Prop}(h:P:=by simp [results,Tryz.results34,go_sem, *]):P:=h
theorem uI{P:Prop}(h:P:=by simp [results,Tryz.results32,go_sem, *]):P:=h
theorem uJ{P:Prop}(h:P:=by rw[List.length_take];omega):P:=h
theorem uK{P:Prop}(h:P:=by rw[←e];unfold Da;rw[hmy];rfl):P:=h
theorem uL{P:Prop}(h:P:=by rw[hbj];exact hdg):P:=h
theorem uM{P:Prop}(h:P:=by rw[HBL.out];omega):P:=h
theorem uN{P:Prop}(h:P:=by simp only[B2,Aa] at hk ⊢;omega):P:=h
theorem uO{P:Prop}(h:P:=by simp [results,Tryz.results10,go_sem, *]):P:=h
theorem uP{P:Prop}(h:P:=by simp [results,Tryz.results9,go_sem, *]):P:=h
theorem uQ{P:Prop}(h:P:=by rw[List.length_drop,Aa];omega):P:=h
theorem uR{P:Prop}(h:P:=by rw[hbj];exact hbad):P:=h
theorem uS{P:Prop}(h:P:=by show b<_;rw[HS.out];omega):P:=h
theorem uT{P:Prop}(h:P:=by simp [results,Tryz.results212,go_sem, *]):P:=h
theorem uU{P:Prop}(h:P:=by simp [results,Tryz.results201,go_sem, *]):P:=h
theorem uV{P:Prop}(h:P:=by simp [results,Tryz.results113,go_sem, *]):P:=h
theorem uW{P:Prop}(h:P:=by rw[Hlt.out];exact hlong):P:=h
theorem uX{P:Prop}(h:P:=by simp only[B2] at hk ⊢;omega):P:=h
theorem uY{P:Prop}(h:P:=by simp [results,Tryz.results21,go_sem, *]):P:=h
theorem uZ{P:Prop}(h:P:=by simp at hm;rw[←hm];exact e):P:=h
theorem vA{P:Prop}(h:P:=by rcases h with rfl|rfl|rfl|rfl<;>decide):P:=h
theorem vB{P:Prop}(h:P:=by show 0<=7;omega):P:=h
theorem vC{P:Prop}(h:P:=by exact Al (D7 (by decide)) (by decide)):P:=h
theorem vD{P:Prop}(h:P:=by rw[Bs];rfl):P:=h
theorem vE{P:Prop}(h:P:=by simp;intro e;exact(Cv.apart (H.out.below HB1.out) HPB1.out (by decide) (by decide)) (by rw[e];exact Ai)):P:=h
theorem vF{P:Prop}(h:P:=by rfl):P:=h
theorem vG{P:Prop}(h:P:=by rw[HZ.out];have:=HU.out.on.size;simp at this;omega):P:=h
theorem vH{P:Prop}(h:P:=by rw[HZ1.out];have:=HSW.out;omega):P:=h
theorem vI{P:Prop}(h:P:=by rw[←hZ];exact(HO.out.below.trans (HbO.out.mono hwB)).setCell (by show w.heap.size<=g;omega) _):P:=h
theorem vJ{P:Prop}(h:P:=by simp only[B2,Aa];omega):P:=h
theorem vK{P:Prop}(h:P:=by rw[Hok.out];simp [Et,J9];omega):P:=h
theorem vL{P:Prop}(h:P:=by rw[Hz0.out];omega):P:=h
theorem vM{P:Prop}(h:P:=by show ¬12<(dl T).length;rw[HTL.out];exact h12):P:=h
theorem vN{P:Prop}(h:P:=by rw[List.length_drop,A4];omega):P:=h
theorem vO{P:Prop}(h:P:=by rw[Ex.flat_len];omega):P:=h
theorem vP{P:Prop}(h:P:=by rw[HXL.out,e]):P:=h
theorem vQ{P:Prop}(h:P:=by show((w.alloc _).alloc _).heap.size=_;simp):P:=h
theorem vR{P:Prop}(h:P:=by simp;intro e;exact(hm4.apart HPB4.out (by decide) (by decide)) (by rw[e];exact Ai)):P:=h
theorem vS{P:Prop}(h:P:=by simp;intro e;exact(hf4.apart HPB4.out (by decide) (by decide)) (by rw[e];exact Ai)):P:=h
theorem vT{P:Prop}(h:P:=by simp;intro e;exact(hd2.apart HPB2.out (by decide) (by decide)) (by rw[e];exact Ai)):P:=h
theorem vU{P:Prop}(h:P:=by simp [results,Tryz.results185,go_sem, *]):P:=h
theorem vV{P:Prop}(h:P:=by simp [results,Tryz.results115,go_sem, *]):P:=h
theorem vW{P:Prop}(h:P:=by simp [results,Tryz.results33,go_sem, *]):P:=h
theorem vX{P:Prop}(h:P:=by simpa using hi):P:=h
theorem vY{P:Prop}(h:P:=by simpa using h1):P:=h
theorem vZ{P:Prop}(h:P:=by simp [results,Tryz.results150,go_sem]):P:=h
theorem wA{P:Prop}(h:P:=by simp [results,Tryz.results109,go_sem]):P:=h
theorem wB{P:Prop}(h:P:=by have:=HU.out.on.size;simpa using this):P:=h
theorem wC{P:Prop}(h:P:=by simpa using e):P:=h
theorem wD{P:Prop}(h:P:=by rw[Int.natAbs_natCast];exact Al (D7 (by have:=HD9.out;omega)) (by decide)):P:=h
theorem wE{P:Prop}(h:P:=by rw[Dj,HF.out];simp [dl]):P:=h
theorem wF{P:Prop}(h:P:=by show 12<(r.take (G3 r)).length;rw[HMM.out,HTK.out,HTL.out];exact h12):P:=h
theorem wG{P:Prop}(h:P:=by rw[Jj];omega):P:=h
theorem wH{P:Prop}(h:P:=by rw[Array.length_toList,hcs];omega):P:=h
theorem wI{P:Prop}(h:P:=by simpa using hnb):P:=h
theorem wJ{P:Prop}(h:P:=by exact Lc _ (by simp)):P:=h
theorem wK{P:Prop}(h:P:=by simpa using hp):P:=h
theorem wL{P:Prop}(h:P:=by have:=HD9.out;omega):P:=h
theorem wM{P:Prop}(h:P:=by rw[jP,Int.natAbs_natCast];exact Al (eN HLX.out) (by decide)):P:=h
theorem zz9{P:Prop}(h:P:=by
 rw[hwd] at hHeld ⊢;refine QH 0 ⟨some 24,_,_,_,_,_⟩ (h:=?_)
 try simp only[Act.put,Ac,Ad,Ae]
 have HMONO:=Ax (show ∀F∈[J4 10,Two (n/10) (n % 10),Bx wd.heap.size 208 #[.bool false,.slice none 0 0],Bx wd.heap.size 208 #[.bool false,.slice none 0 0],Two (n/10) (n % 10),J4 (n/10),J4 (n % 10)],∀v w w',F v w->Below w.heap.size w w'->F v w' from Ce (fun _ _ _ h hb=>h.below hb)<|Ce (fun _ _ _ h hb=>h.below hb)<|Ce (fun _ _ _ h hb=>h.below hb)<|Ce (fun _ _ _ h hb=>h.below hb)<|Ce (fun _ _ _ h hb=>h.below hb)<|Ce (fun _ _ _ h hb=>h.below hb)<|Ce (fun _ _ _ h hb=>h.below hb)<|La);refine E4 (Inv:=N0 wd.heap.size wd [J4 10,Two (n/10) (n % 10),Bx wd.heap.size 208 #[.bool false,.slice none 0 0],Bx wd.heap.size 208 #[.bool false,.slice none 0 0],Two (n/10) (n % 10),J4 (n/10),J4 (n % 10)] [2,3]) 7 [1,2,6,7,3,4,5] [some 25,some 26,some 7,some 8,some 23,some 27,some 28] [[],[0],[],[],[1],[4],[4]] [false,false,false,false,true,true,true] tF (fun _ _ _ _ _ h=>h) tF ?_ (N0.start rfl rfl) ?_ ?_
 ·intro d u V hI;exact HSL.out V hI.1
 ·refine lt7 ?_ ?_ ?_ ?_ ?_ ?_ ?_
  ·rw[Ao tG];refine OneB.mk 1 ⟨some 25,_,_,_,_,_⟩ _ rfl rfl rfl rfl HMONO.out (Ak _) ?_;intro d u V hd hu hdep hF hbV hzV K hK;obtain⟨x0,x1,x2,x3,x4,x5,x6,rfl⟩:=Gp hu;obtain⟨b0,b1,b2,b3,b4,b5,b6,rfl⟩:=Gp hd;obtain⟨f0,f1,f2,f3,f4,f5,f6,_⟩:=hF;clear hd hu hdep f0 f1 f2 f3 f4 f5 f6 HMONO;have HBV:=Ax hbV;have HZV:=Ax hzV;clear hbV hzV;simp only[Bt,Act.put,Ac,Ad,Ae] at hK ⊢
   go_simp
   go_at_call 134
   refine Calls.mono (Kv 10 tG tG) ?_;rintro e V1 ⟨⟨v1,rfl,hv1⟩,hb1⟩
   (try go_wp2_with fail)
   refine hK.out _ _ hb1 hv1 (fun h=>absurd h tG)
  ·rw[Ao tG];refine OneB.mk 2 ⟨some 26,_,_,_,_,_⟩ _ rfl rfl rfl rfl HMONO.out (Ak _) ?_;intro d u V hd hu hdep hF hbV hzV K hK;obtain⟨x0,x1,x2,x3,x4,x5,x6,rfl⟩:=Gp hu;obtain⟨b0,b1,b2,b3,b4,b5,b6,rfl⟩:=Gp hd;obtain⟨f0,f1,f2,f3,f4,f5,f6,_⟩:=hF;have g0:=f0 (List.all_eq_true.1 hdep 0 tG);clear hd hu hdep f0 f1 f2 f3 f4 f5 f6 HMONO
   (try dsimp only at g0)
   have HBV:=Ax hbV;have HZV:=Ax hzV;clear hbV hzV;simp only[Bt,Act.put,Ac,Ad,Ae] at hK ⊢;have HQ:=Ax (dZ (X:=n) (Y:=10) (HLN.out V HBV.out) g0 tG (by have:=HPP.out.2;omega) (Al (D7 tG) tG));clear g0
   go_simp
   go_at_call 177
   refine HQ.out.mono ?_;rintro e V1 ⟨⟨v1,v2,rfl,hv1,hv2⟩,hb1⟩
   (try go_wp2_with fail)
   refine hK.out _ _ hb1 ⟨v1,v2,rfl,hv1,hv2⟩ (fun h=>absurd h tG)
  ·rw[Ao tG];refine OneB.mk 6 ⟨some 7,_,_,_,_,_⟩ _ rfl rfl rfl rfl HMONO.out (Ak _) ?_;intro d u V hd hu hdep hF hbV hzV K hK;obtain⟨x0,x1,x2,x3,x4,x5,x6,rfl⟩:=Gp hu;obtain⟨b0,b1,b2,b3,b4,b5,b6,rfl⟩:=Gp hd;obtain⟨f0,f1,f2,f3,f4,f5,f6,_⟩:=hF;clear hd hu hdep f0 f1 f2 f3 f4 f5 f6 HMONO;have HBV:=Ax hbV;have HZV:=Ax hzV;clear hbV hzV;simp only[Bt,Act.put,Ac,Ad,Ae] at hK ⊢
   go_simp
   (try go_wp2_with fail)
   refine hK.out _ _ ((Aq _ _).alloc (Ak _) _) ⟨_,rfl,HZV.out,(MapKept.heap_alloc V _).1⟩ (fun _=>⟨rfl,by simp⟩)
  ·rw[Ao tG];refine OneB.mk 7 ⟨some 8,_,_,_,_,_⟩ _ rfl rfl rfl rfl HMONO.out (Ak _) ?_;intro d u V hd hu hdep hF hbV hzV K hK;obtain⟨x0,x1,x2,x3,x4,x5,x6,rfl⟩:=Gp hu;obtain⟨b0,b1,b2,b3,b4,b5,b6,rfl⟩:=Gp hd;obtain⟨f0,f1,f2,f3,f4,f5,f6,_⟩:=hF;clear hd hu hdep f0 f1 f2 f3 f4 f5 f6 HMONO;have HBV:=Ax hbV;have HZV:=Ax hzV;clear hbV hzV;simp only[Bt,Act.put,Ac,Ad,Ae] at hK ⊢
   go_simp
   (try go_wp2_with fail)
   refine hK.out _ _ ((Aq _ _).alloc (Ak _) _) ⟨_,rfl,HZV.out,(MapKept.heap_alloc V _).1⟩ (fun _=>⟨rfl,by simp⟩)
  ·rw[Ap tG];refine OneBP.mk 3 ⟨some 23,_,_,_,_,_⟩ _ rfl rfl rfl rfl tG ?_;intro d u V hd hu hdep hF hbV hzV;obtain⟨x0,x1,x2,x3,x4,x5,x6,rfl⟩:=Gp hu;obtain⟨b0,b1,b2,b3,b4,b5,b6,rfl⟩:=Gp hd;obtain⟨f0,f1,f2,f3,f4,f5,f6,_⟩:=hF;have g1:=f1 (List.all_eq_true.1 hdep 1 tG);clear hd hu hdep f0 f1 f2 f3 f4 f5 f6 HMONO
   (try dsimp only at g1)
   have HBV:=Ax hbV;have HZV:=Ax hzV;clear hbV hzV;refine⟨x1,Or.inl ⟨by rfl,fun W hSW=>?_⟩,g1⟩;simp only[Bt,Act.put,Ac,Ad,Ae];clear HBV HZV
   (try dsimp only at hSW)
   (first|(go_simp;done)|(go_simp;with_reducible rfl))
  ·rw[Ap tG];refine OneBP.mk 4 ⟨some 27,_,_,_,_,_⟩ _ rfl rfl rfl rfl tG ?_;intro d u V hd hu hdep hF hbV hzV;obtain⟨x0,x1,x2,x3,x4,x5,x6,rfl⟩:=Gp hu;obtain⟨b0,b1,b2,b3,b4,b5,b6,rfl⟩:=Gp hd;obtain⟨f0,f1,f2,f3,f4,f5,f6,_⟩:=hF;have g4:=f4 (List.all_eq_true.1 hdep 4 tG);clear hd hu hdep f0 f1 f2 f3 f4 f5 f6 HMONO
   (try dsimp only at g4)
   have HBV:=Ax hbV;have HZV:=Ax hzV;clear hbV hzV;obtain⟨v1,v2,rfl,hv1,hv2⟩:=g4;refine⟨v1,Or.inl ⟨by rfl,fun W hSW=>?_⟩,hv1⟩;simp only[Bt,Act.put,Ac,Ad,Ae];clear HBV HZV
   (try dsimp only at hSW)
   (first|(go_simp;done)|(go_simp;with_reducible rfl))
  rw[Ap tG];refine OneBP.mk 5 ⟨some 28,_,_,_,_,_⟩ _ rfl rfl rfl rfl tG ?_;intro d u V hd hu hdep hF hbV hzV;obtain⟨x0,x1,x2,x3,x4,x5,x6,rfl⟩:=Gp hu;obtain⟨b0,b1,b2,b3,b4,b5,b6,rfl⟩:=Gp hd;obtain⟨f0,f1,f2,f3,f4,f5,f6,_⟩:=hF;have g4:=f4 (List.all_eq_true.1 hdep 4 tG);clear hd hu hdep f0 f1 f2 f3 f4 f5 f6 HMONO
  (try dsimp only at g4)
  have HBV:=Ax hbV;have HZV:=Ax hzV;clear hbV hzV;obtain⟨v1,v2,rfl,hv1,hv2⟩:=g4;refine⟨v2,Or.inl ⟨by rfl,fun W hSW=>?_⟩,hv2⟩;simp only[Bt,Act.put,Ac,Ad,Ae];clear HBV HZV
  (try dsimp only at hSW)
  (first|(go_simp;done)|(go_simp;with_reducible rfl))
 intro u V hu hI;obtain⟨x0,x1,x2,x3,x4,x5,x6,rfl⟩:=Gp hu;obtain⟨hbV,hzV,⟨f0,f1,f2,f3,f4,f5,f6,_⟩,hDst⟩:=hI;have f0:=f0 rfl;have f1:=f1 rfl;have f2:=f2 rfl;have f3:=f3 rfl;have f4:=f4 rfl;have f5:=f5 rfl;have f6:=f6 rfl;clear hu HMONO;simp only[Bt,Act.put,Ac,Ad,Ae];have hHeld:=HSL.out V hbV;obtain⟨p2,rfl,hp2,hb2⟩:=f2;obtain⟨p3,rfl,hp3,hb3⟩:=f3;have hne:p2≠p3:=fun e=>hDst.2 2 tG 3 tG tG rfl rfl tU
 obtain⟨a5,n5,c5,rfl,hd5⟩:=Bn.nat f5;obtain⟨a6,n6,c6,rfl,hd6⟩:=Bn.nat f6;have hlt:=Ca hHeld.1;have hlw:=Ca m0d;have n1:¬p2=w.heap.size+1:=by intro e;simp at hlw;omega
 have n2:¬p3=w.heap.size+1:=by intro e;simp at hlw;omega
 have n3:¬w.heap.size+1=p2:=fun e=>n1 e.symm
 have n4:¬w.heap.size+1=p3:=fun e=>n2 e.symm
 have n5':¬p3=p2:=fun e=>hne e.symm
 obtain⟨c20,c21,cf2⟩:=A0 hb2;obtain⟨c30,c31,cf3⟩:=A0 hb3;have cf20:=cf2 0;have cf21:=cf2 1;have cf30:=cf3 0;have cf31:=cf3 1;obtain⟨hh0,hh1⟩:=hHeld;have hHeld:=HSL.out V hbV;have H5:=Ax hd5;have H6:=Ax hd6;have HB2:=Ax (And.intro hb2 hb3);have HP:=Ax (And.intro hp2 hp3);have HBV:=Ax (And.intro hbV hzV);clear f0 f1 f4 f5 f6 hDst hd5 hd6 hb2 hb3 hp2 hp3 hlt hlw cf2 cf3 hbV hzV;refine wpAnyH_ready (rs:=[8]) tF tH ?_;refine AllReadyH.cons (o:=⟨none,_,_,_,_,_⟩) (rs:=[]) rfl (fun K hK=>?_) AllReadyH.nil
 go_simp
 try go_wp2_with fail
 clear hHeld;refine hK.out _ _ ?_ (fun hHeld=>?_)
 ·(try dsimp only);go_keep
 clear hK K
 try simp only[Act.put,Ac,Ad,Ae]
 refine wpAnyH_ready (rs:=[9]) tF tH ?_;refine AllReadyH.cons (o:=⟨none,_,_,_,_,_⟩) (rs:=[]) rfl (fun K hK=>?_) AllReadyH.nil
 go_simp
 try go_wp2_with fail
 clear hHeld;refine hK.out _ _ ?_ (fun hHeld=>?_)
 ·(try dsimp only);go_keep
 clear hK K
 try simp only[Act.put,Ac,Ad,Ae]
 refine wpAnyH_done tF ?_ _;refine NoPanic.normal ?_;obtain⟨F,hF⟩:∃F,(((V.setCell ⟨p2,0,none⟩ (.bool false)).setCell ⟨p2,1,none⟩ (.slice a5 n5 c5)).setCell ⟨p3,0,none⟩ (.bool false)).setCell ⟨p3,1,none⟩ (.slice a6 n6 c6)=F:=⟨_,rfl⟩;rw[hF];obtain⟨hF2,hF3,hFo,hFn⟩:=T8 HB2.out.1 HB2.out.2 hne hF;have hFb:Below wd.heap.size wd F:=Bv HBV.out.1 hFo (by simp;exact⟨HP.out.1,HP.out.2⟩) HBV.out.2;have H5F:=Ax (hFn _ _ (T7 H5.out));have h6F:=Bn.natk (hFn _ _ (T7 H6.out));have hdig:=Wl h6F.2 (Nat.mod_lt _ tG);have hd10:n % 10<10:=Nat.mod_lt _ tG;obtain⟨dd,hdd⟩:∃dd,n % 10=dd:=⟨_,rfl⟩;rw[hdd] at hdig hd10;have HDD:=Ax hdd;clear h6F hdd hHeld c20 c21 c30 c31 cf20 cf21 cf30 cf31 hh0 hh1 hF hFn hFo HB2 H5 H6;obtain⟨c20,c21,cf2⟩:=A0 hF2;obtain⟨c30,c31,cf3⟩:=A0 hF3;have HFF:=Ax (And.intro hF2 (And.intro hF3 hFb));clear hF2 hF3 hFb;obtain⟨cs,hcs⟩:∃cs:ByteArray,cs=⟨#[UInt8.ofNat (48+dd)]⟩:=⟨_,rfl⟩;have HPN:=Ax (aB HPP.out.1 HGO.out HDD.out hcs HN.out HK.out);have HCS:=Ax hcs;clear hcs;have hcsz:cs.size=1:=by rw[HCS.out];rfl
 have hcsl:cs.size<=1:=by omega
 clear hcsz;rcases hdig with ⟨rfl,rfl⟩|⟨hd1,rfl,b6,o6,rfl,hc6⟩
 ·have hbF:=HA.out.2.trans (HFF.out.2.2.mono HA.out.2.size);have hcv:=Ll F 0 (48) tE tE;rw[←HCS.out] at hcv;have HDN:=Ax (Sm HA.out.1 hbF H5F.out (.cells #[.int .u8 (48)] 5));obtain⟨e0,e1,ef⟩:=A0 (HA.out.1.box hbF (.cells #[.int .u8 (48)] 5));have ef0:=ef 0;have ef1:=ef 1;have hal:=(Aq F.heap.size F).alloc (Ak _) (.cells #[.int .u8 (48)] 5);have c20:=Ba hal c20;have c21:=Ba hal c21;clear hbF ef cf2 cf3 hal;go_wp2_with fail;go_roundw
  case rel=>exact⟨n/10,cs++sl,a5,n5,c5,rfl,HPN.out.1,Ax ⟨HDN.out.1,HDN.out.2.1,HDN.out.2.2,Al (Fw (Nat.div_le_self _ _)) HPP.out.2,HPN.out.2.1⟩⟩
  case measure=>exact HPN.out.2.2
 have hbF:=HA.out.2.trans (HFF.out.2.2.mono HA.out.2.size);have hcv:=Ll F dd (48+(dd:Int)) tE tE;rw[←HCS.out] at hcv;have HDN:=Ax (Sm HA.out.1 hbF H5F.out (.cells #[.int .u8 (48+(dd:Int))] 5));obtain⟨e0,e1,ef⟩:=A0 (HA.out.1.box hbF (.cells #[.int .u8 (48+(dd:Int))] 5));have ef0:=ef 0;have ef1:=ef 1;have hal:=(Aq F.heap.size F).alloc (Ak _) (.cells #[.int .u8 (48+(dd:Int))] 5);have c20:=Ba hal c20;have c21:=Ba hal c21;clear hbF ef cf2 cf3 hal;go_wp2_with fail;go_roundw
 case rel=>exact⟨n/10,cs++sl,a5,n5,c5,rfl,HPN.out.1,Ax ⟨HDN.out.1,HDN.out.2.1,HDN.out.2.2,Al (Fw (Nat.div_le_self _ _)) HPP.out.2,HPN.out.2.1⟩⟩
 case measure=>exact HPN.out.2.2):P:=h
theorem zz8{P:Prop}(h:P:=by
 rw[hW5] at HM5 ho5 hnb5;have HN5:=Ax hnb5;have HW5:=Ax hW5;have HR5:=Ax (HR.out.trans (Rch.of_only v7 ho5));clear hkb kf ho5 hnb5 hW5 hx5;go_upto_region 15 with fail
 rw[HW5.out];clear k0 k1 k2 k3 k4 k5 kf2 hx5';obtain⟨m0,m1,m2,m3,m4,m5,m6,m7,_⟩:=Dc HN5.out;have HP:=Ax (Ei HM5.out tE (Al hB HR5.out.only.size) ⟨c.op,v0,[],c.line,c.col⟩ ka7 (ks.length+1) kc7);have HP:Hid (Calls Tryz.prog 128 #[.pointer (some ⟨b,0,none⟩),.agg #[.int .u8 c.op,.int .u8 0,.int .i64 0,.string ⟨#[]⟩,.string ⟨#[]⟩,.slice ka7 (ks.length+1) kc7,.int .i64 c.line,.int .i64 c.col]] W5 _):=Ax HP.out;go_wp2_with fail;refine HP.out.mono ?_;rintro e V6 ⟨z6,v6,rfl,hx6,hr6⟩;have HF:=Ax (show B5 w B X b vl ts (t::t'::q') d vt nds xx (.returned (.int .i64 z6)) V6 from⟨z6,v6,rfl,HR5.out.trans hr6,by rw[HLE.out];exact hx6.mono tZ H.out.few⟩);clear hx6 hr6 HP m0 m1 m2 m3 m4 m5 m6 m7;go_wp2_with fail;go_ret
 exact HF.out):P:=h
theorem zz7{P:Prop}(h:P:=by
 refine wpAnyIn_ready (rs:=[5]) tF tH ?_;refine Av rfl (fun K hK=>?_) ?_
 ·go_simp
  refine⟨trivial,?_⟩;refine(Hcb.out).mono ?_;rintro e X ⟨hb,he⟩;simp only[Gb] at he;subst he;have hb3:=((Aq _ (V.alloc (.cells Dw 63))).drew).trans hb;have hT:=(Bl.new V).below hb3;have hb2:=((Aq V.heap.size V).alloc (Ak _) (.cells Dw 63)).trans (hb3.mono hzb);have h7:=hT.set7 k ⟨t.toArray⟩ vk vn ⟨vs.toArray⟩ 0 0;have h8:=A6 hb2 (Ak _) k ⟨t.toArray⟩ vk vn ⟨vs.toArray⟩ 0 0;unfold set7 at h7 h8;obtain⟨d0,d1,d2,d3,d4,d5,d6,fz⟩:=hT;have hXz:=hb2.size;have H7:=Ax h7;have H8:=Ax h8;clear hb hb2 hb3 h7 h8;clear Hca Hcb cs cl fl cx fx p0 p1
  go_simp
  refine hK _ _ ?_;clear hK K;refine QI 6 (h:=?_);refine QI 7 (h:=?_);refine QI 8 (h:=?_);refine QI 9 (h:=?_);refine wpAnyIn_ready (rs:=[11]) tF tH ?_;refine Av rfl (fun K hK=>?_) ?_
  ·go_simp
   refine hK _ _ ?_;clear hK K;refine QI 12 (h:=?_);refine QI 13 (h:=?_);refine wpAnyIn_done tF ?_ _
   gi_wp2
   gi_meet
   case rel=>exact⟨V.heap.size,rfl,rfl,rfl,Ak _,H7.out,H8.out⟩
  exact AllReadyIn.nil
 exact AllReadyIn.nil):P:=h
theorem zz6{P:Prop}(h:P:=by
 refine wpAnyIn_ready (rs:=[5]) tF tH ?_;refine Av rfl (fun K hK=>?_) ?_
 ·go_simp
  refine⟨trivial,?_⟩;refine(Hcb.out).mono ?_;rintro e X ⟨hb,⟨k,t,vk,vn,vs⟩,m,he⟩;simp only[Gb] at he;subst he;have hb3:=((Aq _ (V.alloc (.cells Dw 63))).drew).trans hb;have hT:=(Bl.new V).below hb3;have hb2:=((Aq V.heap.size V).alloc (Ak _) (.cells Dw 63)).trans (hb3.mono hzb);have h8:=A6 hb2 (Ak _) k ⟨t.toArray⟩ vk vn ⟨vs.toArray⟩ 0 0;unfold set7 at h8;obtain⟨d0,d1,d2,d3,d4,d5,d6,fz⟩:=hT;have hXz:=hb2.size;have H8:=Ax h8;clear hb hb2 hb3 h8;clear Hca Hcb cs cl fl cx fx p0 p1
  go_simp
  refine hK _ _ ?_;clear hK K;refine QI 6 (h:=?_);refine QI 7 (h:=?_);refine QI 8 (h:=?_);refine QI 9 (h:=?_);refine wpAnyIn_ready (rs:=[11]) tF tH ?_;refine Av rfl (fun K hK=>?_) ?_
  ·go_simp
   refine hK _ _ ?_;clear hK K;refine QI 12 (h:=?_);refine QI 13 (h:=?_);refine wpAnyIn_done tF ?_ _
   gi_wp2
   gi_meet
   case rel=>exact⟨_,m,rfl,rfl,rfl,H8.out⟩
  exact AllReadyIn.nil
 exact AllReadyIn.nil):P:=h
theorem zz5{P:Prop}(h:P:=by
 by_cases h40:s[p].toNat=40
 ·have d40:((s[p].toNat:Int)==40)=true:=beq_iff_eq.2 tE;have HR:=Ax (show C4 p ((dl s).drop p)=((p+1:Nat):Int) by rw[e1];exact B3 tN (by rw[Ci (n:=40) h40];decide));clear e1 h40;go_wp2_with fail;go_ret;exact⟨Cw HR.out,rfl⟩
 have d40:((s[p].toNat:Int)==40)=false:=Af.2 tE;by_cases h41:s[p].toNat=41
 ·have d41:((s[p].toNat:Int)==41)=true:=beq_iff_eq.2 tE;have HR:=Ax (show C4 p ((dl s).drop p)=((p+1:Nat):Int) by rw[e1];exact B3 tN (by rw[Ci (n:=41) h41];decide));clear e1 h41;go_wp2_with fail;go_ret;exact⟨Cw HR.out,rfl⟩
 have d41:((s[p].toNat:Int)==41)=false:=Af.2 tE;by_cases h91:s[p].toNat=91
 ·have d91:((s[p].toNat:Int)==91)=true:=beq_iff_eq.2 tE;have HR:=Ax (show C4 p ((dl s).drop p)=((p+1:Nat):Int) by rw[e1];exact B3 tN (by rw[Ci (n:=91) h91];decide));clear e1 h91;go_wp2_with fail;go_ret;exact⟨Cw HR.out,rfl⟩
 have d91:((s[p].toNat:Int)==91)=false:=Af.2 tE;by_cases h93:s[p].toNat=93
 ·have d93:((s[p].toNat:Int)==93)=true:=beq_iff_eq.2 tE;have HR:=Ax (show C4 p ((dl s).drop p)=((p+1:Nat):Int) by rw[e1];exact B3 tN (by rw[Ci (n:=93) h93];decide));clear e1 h93;go_wp2_with fail;go_ret;exact⟨Cw HR.out,rfl⟩
 have d93:((s[p].toNat:Int)==93)=false:=Af.2 tE;by_cases h44:s[p].toNat=44
 ·have d44:((s[p].toNat:Int)==44)=true:=beq_iff_eq.2 tE;have HR:=Ax (show C4 p ((dl s).drop p)=((p+1:Nat):Int) by rw[e1];exact B3 tN (by rw[Ci (n:=44) h44];decide));clear e1 h44;go_wp2_with fail;go_ret;exact⟨Cw HR.out,rfl⟩
 have d44:((s[p].toNat:Int)==44)=false:=Af.2 tE;by_cases h58:s[p].toNat=58
 ·have d58:((s[p].toNat:Int)==58)=true:=beq_iff_eq.2 tE;have HR:=Ax (show C4 p ((dl s).drop p)=((p+1:Nat):Int) by rw[e1];exact B3 tN (by rw[Ci (n:=58) h58];decide));clear e1 h58;go_wp2_with fail;go_ret;exact⟨Cw HR.out,rfl⟩
 have d58:((s[p].toNat:Int)==58)=false:=Af.2 tE;by_cases h61:s[p].toNat=61
 ·have d61:((s[p].toNat:Int)==61)=true:=beq_iff_eq.2 tE;have HR:=Ax (show C4 p ((dl s).drop p)=((p+1:Nat):Int) by rw[e1];exact B3 tN (by rw[Ci (n:=61) h61];decide));clear e1 h61;go_wp2_with fail;go_ret;exact⟨Cw HR.out,rfl⟩
 have d61:((s[p].toNat:Int)==61)=false:=Af.2 tE;by_cases h60:s[p].toNat=60
 ·have d60:((s[p].toNat:Int)==60)=true:=beq_iff_eq.2 tE;have HR:=Ax (show C4 p ((dl s).drop p)=((p+1:Nat):Int) by rw[e1];exact B3 tN (by rw[Ci (n:=60) h60];decide));clear e1 h60;go_wp2_with fail;go_ret;exact⟨Cw HR.out,rfl⟩
 have d60:((s[p].toNat:Int)==60)=false:=Af.2 tE;by_cases h62:s[p].toNat=62
 ·have d62:((s[p].toNat:Int)==62)=true:=beq_iff_eq.2 tE;have HR:=Ax (show C4 p ((dl s).drop p)=((p+1:Nat):Int) by rw[e1];exact B3 tN (by rw[Ci (n:=62) h62];decide));clear e1 h62;go_wp2_with fail;go_ret;exact⟨Cw HR.out,rfl⟩
 have d62:((s[p].toNat:Int)==62)=false:=Af.2 tE;by_cases h43:s[p].toNat=43
 ·have d43:((s[p].toNat:Int)==43)=true:=beq_iff_eq.2 tE;have HR:=Ax (show C4 p ((dl s).drop p)=((p+1:Nat):Int) by rw[e1];exact B3 tN (by rw[Ci (n:=43) h43];decide));clear e1 h43;go_wp2_with fail;go_ret;exact⟨Cw HR.out,rfl⟩
 have d43:((s[p].toNat:Int)==43)=false:=Af.2 tE;by_cases h45:s[p].toNat=45
 ·have d45:((s[p].toNat:Int)==45)=true:=beq_iff_eq.2 tE;have HR:=Ax (show C4 p ((dl s).drop p)=((p+1:Nat):Int) by rw[e1];exact B3 tN (by rw[Ci (n:=45) h45];decide));clear e1 h45;go_wp2_with fail;go_ret;exact⟨Cw HR.out,rfl⟩
 have d45:((s[p].toNat:Int)==45)=false:=Af.2 tE;by_cases h42:s[p].toNat=42
 ·have d42:((s[p].toNat:Int)==42)=true:=beq_iff_eq.2 tE;have HR:=Ax (show C4 p ((dl s).drop p)=((p+1:Nat):Int) by rw[e1];exact B3 tN (by rw[Ci (n:=42) h42];decide));clear e1 h42;go_wp2_with fail;go_ret;exact⟨Cw HR.out,rfl⟩
 have d42:((s[p].toNat:Int)==42)=false:=Af.2 tE;by_cases h47:s[p].toNat=47
 ·have d47:((s[p].toNat:Int)==47)=true:=beq_iff_eq.2 tE;have HR:=Ax (show C4 p ((dl s).drop p)=((p+1:Nat):Int) by rw[e1];exact B3 tN (by rw[Ci (n:=47) h47];decide));clear e1 h47;go_wp2_with fail;go_ret;exact⟨Cw HR.out,rfl⟩
 have d47:((s[p].toNat:Int)==47)=false:=Af.2 tE;have HR:=Ax (show C4 p ((dl s).drop p)= -1 by rw[e1];exact Yv tN (by unfold Ng;simp only[List.mem_cons,List.not_mem_nil,or_false,not_or];exact⟨fun e=>h40 tU,fun e=>h41 tU,fun e=>h91 tU,fun e=>h93 tU,fun e=>h44 tU,fun e=>h58 tU,fun e=>h61 tU,fun e=>h60 tU,fun e=>h62 tU,fun e=>h43 tU,fun e=>h45 tU,fun e=>h42 tU,fun e=>h47 tU⟩));clear e1;go_wp2_with fail;go_ret
 exact⟨Cw HR.out,rfl⟩):P:=h
theorem zz4{P:Prop}(h:P:=by
 have p1:decide ((m:Int)+(i:Int)<4)=true:=Am tE;obtain⟨wd,hwd⟩:∃wd,wp.drew=wd:=⟨_,rfl⟩;have hbd:Below wp.heap.size wp wd:=by rw[←hwd];exact(Aq _ _).drew
 have HBD:=Ax hbd;have HY2:Hid (∀V,Below wd.heap.size wd V->V.cell? ⟨w.heap.size+1,0,none⟩=some (.bool false)/\V.cell? ⟨w.heap.size+1,1,none⟩=some (.slice a n c)):=Ax fun V hV=>⟨Ba hV (Ba hbd y0),Ba hV (Ba hbd y1)⟩
 have HLT:=Ax hlt;clear hbd hlt;go_wp2_with fail;clear p1;refine wp_region_noPanic ?_;refine wp_region_held_drew (S:=fun _=>True) tF ?_ (fun hHeld=>?_)
 ·trivial
 rw[hwd];have HMONO:=Ax (show ∀F∈[(fun v _=>v= .agg #[.bool false,.slice a n c]),J4 10],∀v w w',F v w->Below w.heap.size w w'->F v w' from Ce (fun _ _ _ h _=>h)<|Ce (fun _ _ _ h hb=>h.below hb)<|La);refine E4 (Inv:=N0 wd.heap.size wd [(fun v _=>v= .agg #[.bool false,.slice a n c]),J4 10] []) 2 [0,1] [some 85,some 86] [[],[]] [false,false] tF (fun _ _ _ _ _ h=>h) tF ?_ (N0.start rfl rfl) ?_ ?_
 ·exact fun _ _ _ _=>trivial
 ·refine lt2 ?_ ?_
  ·rw[Ao tG];refine OneB.mk 0 ⟨some 85,_,_,_,_,_⟩ _ rfl rfl rfl rfl HMONO.out (Ak _) ?_;intro d u V hd hu hdep hF hbV hzV K hK;obtain⟨x0,x1,rfl⟩:=Lh hu;obtain⟨b0,b1,rfl⟩:=Lh hd;obtain⟨f0,f1,_⟩:=hF;clear hd hu hdep f0 f1 HMONO;have HBV:=Ax hbV;have HZV:=Ax hzV;clear hbV hzV;simp only[Bt,Act.put,Ac,Ad,Ae] at hK ⊢;obtain⟨u0,u1⟩:=HY2.out V HBV.out
   go_simp
   (try go_wp2_with fail)
   refine hK.out _ _ (Aq _ _) rfl (fun h=>absurd h tG)
  rw[Ao tG];refine OneB.mk 1 ⟨some 86,_,_,_,_,_⟩ _ rfl rfl rfl rfl HMONO.out (Ak _) ?_;intro d u V hd hu hdep hF hbV hzV K hK;obtain⟨x0,x1,rfl⟩:=Lh hu;obtain⟨b0,b1,rfl⟩:=Lh hd;obtain⟨f0,f1,_⟩:=hF;clear hd hu hdep f0 f1 HMONO;have HBV:=Ax hbV;have HZV:=Ax hzV;clear hbV hzV;simp only[Bt,Act.put,Ac,Ad,Ae] at hK ⊢
  go_simp
  go_at_call 134
  refine(HO.out V).mono ?_;rintro e V1 ⟨⟨v1,rfl,hv1⟩,hb1⟩
  (try go_wp2_with fail)
  refine hK.out _ _ hb1 hv1 (fun h=>absurd h tG)
 intro u V hu hI;obtain⟨x0,x1,rfl⟩:=Lh hu;obtain⟨hbV,hzV,⟨f0,f1,_⟩,hDst⟩:=hI;have f0:=f0 rfl;have f1:=f1 rfl;clear hu HMONO;simp only[Bt,Act.put,Ac,Ad,Ae]
 (try dsimp only at f0)
 subst f0;have HBV:=Ax hbV;have HM:=Ax (Ny (x:=((X*10^i:Nat):Int)) (y:=10) (HX.out.below (HBD.out.trans (hbV.mono HBD.out.size))) f1 (by have:=HLi.out;rw[Int.natAbs_natCast];omega) vC);clear f1 hDst hbV;have hHeld:True:=trivial;refine wpAnyH_ready (rs:=[2]) tF tH ?_;refine AllReadyH.cons (o:=⟨some 87,_,_,_,_,_⟩) (rs:=[]) rfl (fun K hK=>?_) AllReadyH.nil
 go_simp
 go_at_call 186
 refine HM.out.mono ?_;rintro e V4 ⟨⟨v4,rfl,hv4⟩,hb4⟩;rw[show((X*10^i:Nat):Int)*10=((X*10^(i+1):Nat):Int) by rw[Nat.pow_succ,←Nat.mul_assoc];omega] at hv4;obtain⟨a4,n4,c4,rfl,hd4⟩:=hv4.nat;have HM4:=Ax (And.intro hv4 hb4);clear hv4 hb4 hd4
 try go_wp2_with fail
 clear hHeld;refine hK.out _ _ ?_ (fun hHeld=>?_)
 ·trivial
 clear hK K
 try simp only[Act.put,Ac,Ad,Ae]
 have hb4:=HBD.out.trans ((HBV.out.trans (HM4.out.2.mono HBV.out.size)).mono HBD.out.size);have hA4:=HA.out.below hb4;obtain⟨g0,g1,gf⟩:=A0 hA4.x;have gf0:=gf 0;have gf1:=gf 1;have HNX:=Ax (Ko hA4 HM4.out.1);clear hb4 hA4 gf HM HM4;refine wpAnyH_ready (rs:=[3]) tF tH ?_;refine AllReadyH.cons (o:=⟨none,_,_,_,_,_⟩) (rs:=[]) rfl (fun K hK=>?_) AllReadyH.nil
 go_simp
 try go_wp2_with fail
 clear hHeld;refine hK.out _ _ ?_ (fun hHeld=>?_)
 ·trivial
 clear hK K
 try simp only[Act.put,Ac,Ad,Ae]
 refine wpAnyH_done tF ?_ _;refine NoPanic.normal ?_;go_wp2_with fail;go_roundw
 case rel=>exact⟨i+1,a4,n4,c4,by first|rfl|(congr 1;omega)|congr 1,by have:=HLT.out;omega,Ax ⟨HNX.out.1,HNX.out.2,by have:=eN HLi.out;rw[Nat.mul_assoc,←Nat.pow_succ] at this;omega⟩⟩
 case measure=>have:=HLT.out;simp [intOf]<;>omega):P:=h
theorem zz3{P:Prop}(h:P:=by
 obtain⟨⟨k,t,vk,vn,vs⟩,n,he⟩:=he;simp only[Gb] at he;subst he;have hT:=Bl.set7 (w:=V) (b:=w.heap.size) ⟨c0,c1,c2,c3,c4,c5,c6,fz⟩ k ⟨t.toArray⟩ vk vn ⟨vs.toArray⟩ 0 0;have hB2:=A6 HBV.out (Ak _) k ⟨t.toArray⟩ vk vn ⟨vs.toArray⟩ 0 0;obtain⟨Z,hZ⟩:∃Z,set7 V w.heap.size k ⟨t.toArray⟩ vk vn ⟨vs.toArray⟩ 0 0=Z:=⟨_,rfl⟩;rw[hZ] at hT hB2;unfold set7 at hZ;have HT:=Ax hT;have HB3:=Ax hB2;have HZ:=Ax hZ;clear hT hB2 hZ;go_wp2_with fail;rw[HZ.out];obtain⟨d0,d1,d2,d3,d4,d5,d6,_⟩:=HT.out;clear c0 c1 c2 c3 c4 c5 c6 fz;refine Au (v:= .tuple #[.agg #[.int .u8 k,.string ⟨t.toArray⟩,.int .u8 vk,.int .i64 vn,.string ⟨vs.toArray⟩,.int .i64 0,.int .i64 0],.int .i64 n,.int .i64 q]) tM rfl ?_;rw[HW.out]
 exact⟨HB3.out,⟨k,t,(vk,vn,vs)⟩,n,rfl⟩):P:=h
theorem zz2{P:Prop}(h:P:=by
 obtain⟨⟨k,t,vk,vn,vs⟩,n⟩:=p;simp only[Gb] at he;subst he;have hT:=Bl.set7 (w:=V) (b:=w.heap.size) ⟨c0,c1,c2,c3,c4,c5,c6,fz⟩ k ⟨t.toArray⟩ vk vn ⟨vs.toArray⟩ 0 0;have hB2:=A6 HBV.out (Ak _) k ⟨t.toArray⟩ vk vn ⟨vs.toArray⟩ 0 0;obtain⟨Z,hZ⟩:∃Z,set7 V w.heap.size k ⟨t.toArray⟩ vk vn ⟨vs.toArray⟩ 0 0=Z:=⟨_,rfl⟩;rw[hZ] at hT hB2;unfold set7 at hZ;have HT:=Ax hT;have HB3:=Ax hB2;have HZ:=Ax hZ;clear hT hB2 hZ;go_wp2_with fail;rw[HZ.out];obtain⟨d0,d1,d2,d3,d4,d5,d6,_⟩:=HT.out;clear c0 c1 c2 c3 c4 c5 c6 fz;refine Au (v:= .tuple #[.agg #[.int .u8 k,.string ⟨t.toArray⟩,.int .u8 vk,.int .i64 vn,.string ⟨vs.toArray⟩,.int .i64 0,.int .i64 0],.int .i64 (n:Nat),.int .i64 0]) tM rfl ?_;rw[HW.out]
 exact⟨HB3.out,rfl⟩):P:=h
theorem zz1{P:Prop}(h:P:=by
 clear hmy hXl hfit HTX;go_wp2_with fail;refine HMY.out.mono ?_;rintro e V6 ⟨rfl,hb6⟩;have HP6:=Ax (HP.out.below hb6);clear y0 y1 y2 z0 z1 z2 yf0 yf1 yf2 zf0 zf1 zf2;obtain⟨⟨y0,y1,y2,yf⟩,z0,z1,z2,zf⟩:=D5.cells HP6.out;have yf0:=yf 0;have yf1:=yf 1;have yf2:=yf 2;have zf0:=zf 0;have zf1:=zf 1;have zf2:=zf 2;clear yf zf;clear hb6;go_wp2_with fail
 exact Au (v:= .tuple #[.agg #[.int .u8 0,.int .i64 0,.string ⟨#[]⟩],.int .i64 4]) tJ rfl (B9.bad (HP6.out.ret _ _ _) H0.out H4.out HR.out HBD.out)):P:=h
theorem zz0{P:Prop}(h:P:=by
 clear hnb;go_wp2_with fail;refine HDG.out.mono ?_;rintro e W3 ⟨rfl,hb3⟩;have HB3:=Ax (HBA.out.trans (hb3.mono HBA.out.size));clear hb3;go_wp2_with fail
 go_loop [6] (fun v6=>∃m:Nat,v6= .int .i64 ((m:Int)+1)/\pd.size<=m+4/\m<pd.size/\Hid (∀i,m<i->i<pd.size->(dl pd)[i]? =some 48)) (fun v6=>(intOf v6).toNat)
 case atStart=>exact⟨pd.size - 1,by(congr 1;omega),by omega,by omega,Ax (fun i h1 h2=>by omega)⟩
 obtain⟨m,rfl,hm4,hmp,hz⟩:=hrel;have q0:(0:Int)<=(m:Int):=by omega
 have q1:(m:Int)<(pd.size:Int):=by omega
 have hg:(dl pd)[m]? =some pd[m]:=Gw hmp;by_cases hgo:pd.size<=m+3
 ·have p1:decide ((pd.size:Int) - 3<(m:Int)+1)=true:=Am tE;by_cases h48:pd[m].toNat=48
  ·have d1:((pd[m].toNat:Int)==48)=true:=beq_iff_eq.2 tE;have e48:pd[m]=48:=Ci h48
   have HZ:=Ax (show ∀i,m - 1<i->i<pd.size->(dl pd)[i]? =some 48 from fun i q1 q2=>by
    rcases Nat.lt_or_ge m i with q|q
    ·exact hz.out i q q2
    have:i=m:=by omega
    rw[this,hg,e48])
   clear hz hg e48;go_wp2_with fail
   go_round
   case rel=>exact⟨m - 1,by(congr 1;omega),by omega,by omega,HZ⟩
   case measure=>simp [intOf]<;>omega
  have d1:((pd[m].toNat:Int)==48)=false:=Af.2 tE;have HE:=Ax (HDC.out m hm4 hmp hz.out (.inr ⟨_,hg,fun e=>h48 tU⟩));clear hz hg;go_wp2_with fail;have w1:IntKind.i64.wrap ((pd.size:Int) - 4)=(pd.size:Int) - 4:=IntWalk.i64_in _ tE;have hs1:=Px pd ((pd.size:Int) - 4) tE tE;have hs2:=Dq pd ((pd.size:Int) - 4) ((m:Int)+1) tE tE tE;have t1:((pd.size:Int) - 4).toNat=pd.size - 4:=by omega
  have t2:((m:Int)+1).toNat=m+1:=by omega
  rw[t1] at hs1;rw[t1,t2] at hs2;obtain⟨A,hA⟩:∃A,pd.extract 0 (pd.size - 4)=A:=⟨_,rfl⟩;obtain⟨B,hB⟩:∃B,pd.extract (pd.size - 4) (m+1)=B:=⟨_,rfl⟩;have hAs:A.size<=30:=by rw[←hA,ByteArray.size_extract];omega
  have hBs:B.size<=30:=by rw[←hB,ByteArray.size_extract];omega
  rw[hA] at hs1 HE;rw[hB] at hs2 HE;clear t1 t2 hpl hA hB;go_quiet (fail);go_wp2_with fail;go_ret;exact⟨Ep HE.out,Bg HB3.out _⟩
 have p1:decide ((pd.size:Int) - 3<(m:Int)+1)=false:=An tE;have HE:=Ax (HDC.out m hm4 hmp hz.out (.inl tE));clear hz hg;go_wp2_with fail;have w1:IntKind.i64.wrap ((pd.size:Int) - 4)=(pd.size:Int) - 4:=IntWalk.i64_in _ tE;have hs1:=Px pd ((pd.size:Int) - 4) tE tE;have hs2:=Dq pd ((pd.size:Int) - 4) ((m:Int)+1) tE tE tE;have t1:((pd.size:Int) - 4).toNat=pd.size - 4:=by omega
 have t2:((m:Int)+1).toNat=m+1:=by omega
 rw[t1] at hs1;rw[t1,t2] at hs2;obtain⟨A,hA⟩:∃A,pd.extract 0 (pd.size - 4)=A:=⟨_,rfl⟩;obtain⟨B,hB⟩:∃B,pd.extract (pd.size - 4) (m+1)=B:=⟨_,rfl⟩;have hAs:A.size<=30:=by rw[←hA,ByteArray.size_extract];omega
 have hBs:B.size<=30:=by rw[←hB,ByteArray.size_extract];omega
 rw[hA] at hs1 HE;rw[hB] at hs2 HE;clear t1 t2 hpl hA hB;go_quiet (fail);go_wp2_with fail;go_ret
 exact⟨Ep HE.out,Bg HB3.out _⟩):P:=h
theorem zzz{P:Prop}(h:P:=by
 go_wp2_with fail;refine HP.out.mono ?_;rintro e V6 ⟨z6,v6,rfl,hx6,hr6⟩;have HF:=Ax (show B5 w B X b vl ts (t::t'::q') d vt nds xx (.returned (.int .i64 z6)) V6 from⟨z6,v6,rfl,HR5.out.trans hr6,by rw[HLE.out];exact hx6.mono tZ H.out.few⟩);clear hx6 hr6 HP m0 m1 m2 m3 m4 m5 m6 m7;go_wp2_with fail;go_ret
 exact HF.out):P:=h
theorem zzy{P:Prop}(h:P:=by
 have hT:=Bl.set7 HA.out.r 0 ⟨#[]⟩ 0 0 ⟨#[]⟩ 0 0;have hB:=A6 HA.out.bel (Ak _) 0 ⟨#[]⟩ 0 0 ⟨#[]⟩ 0 0;obtain⟨Z,hZ⟩:∃Z,set7 W1 w.heap.size 0 ⟨#[]⟩ 0 0 ⟨#[]⟩ 0 0=Z:=⟨_,rfl⟩;rw[hZ] at hT hB;unfold set7 at hZ;have HT:=Ax hT;have HB:=Ax hB;have HZ:=Ax hZ;clear hT hB hZ;go_wp2_with fail;rw[HZ.out];obtain⟨s0,s1,s2,s3,s4,s5,s6,_⟩:=HT.out
 exact Au (v:= .tuple #[.agg #[.int .u8 0,.string ⟨#[]⟩,.int .u8 0,.int .i64 0,.string ⟨#[]⟩,.int .i64 0,.int .i64 0],.int .i64 0,.int .i64 4]) tO rfl (Gx HB.out HE.out)):P:=h
theorem zzx{P:Prop}(h:P:=by
 go_wp2_with fail
 exact Au (v:= .tuple #[.agg #[.bool false,.slice a n c],.bool false,.bool false]) tI rfl (Cs.no HF.out.1 HNO.out)):P:=h
theorem zzw{P:Prop}(h:P:=by
 obtain⟨vk,vn,vs⟩:=p2;simp only at he HP;subst he
 have hfit:(⟨vk,vn,⟨vs.toArray⟩⟩:Vl).fit:=by
  obtain⟨h1,h2,h3⟩:=Hf1.out;refine⟨?_,h1,h2⟩;rw[←A4,Dj];rw[A4] at h3;exact Al h3 hs
 obtain⟨W3,hW3⟩:∃W3,V2.alloc (.cells #[.int .u8 vk,.int .i64 vn,.string ⟨vs.toArray⟩] 35)=W3:=⟨_,rfl⟩;have hb3:Below V2.heap.size V2 W3:=by rw[←hW3];exact(Aq V2.heap.size V2).alloc (Ak _) _
 have hx3:=(MapKept.heap_alloc V2 (.cells #[.int .u8 vk,.int .i64 vn,.string ⟨vs.toArray⟩] 35)).1;rw[hW3] at hx3;have h3:=h2.below hb3;have Ht:=Ax (Sq ⟨vk,vn,⟨vs.toArray⟩⟩ W3 hfit (hR2.below hb3));have HW3:=Ax hW3;have Hx3:=Ax hx3;have H3:=Ax h3;have hv0:W3.cell? ⟨V2.heap.size,0,none⟩=some (.int .u8 vk):=by simp [World.cell?,hx3]
 have hv1:W3.cell? ⟨V2.heap.size,1,none⟩=some (.int .i64 vn):=by simp [World.cell?,hx3]
 have hv2:W3.cell? ⟨V2.heap.size,2,none⟩=some (.string ⟨vs.toArray⟩):=by simp [World.cell?,hx3]
 clear hW3 hx3 h3 h2 hR2 hb3 b0 b1 b2 bf Hf1 Hr;go_upto_region 9 with fail
 rw[HW3.out];go_wp2_with fail;refine Ht.out.mono ?_;rintro e V4 ⟨rfl,hb4⟩;have h4:=H3.out.below hb4;obtain⟨b0,b1,b2,bf,_,_,hlt4,_⟩:=h4.cells;have hx4:=(hb4.block _ (lt_of_block Hx3.out)).trans Hx3.out;clear hv0 hv1 hv2;have hv0:V4.cell? ⟨V2.heap.size,0,none⟩=some (.int .u8 vk):=by simp [World.cell?,hx4]
 have hv1:V4.cell? ⟨V2.heap.size,1,none⟩=some (.int .i64 vn):=by simp [World.cell?,hx4]
 have hv2:V4.cell? ⟨V2.heap.size,2,none⟩=some (.string ⟨vs.toArray⟩):=by simp [World.cell?,hx4]
 have HB:=Ax h4.low;have htx:dl (O1 ⟨vk,vn,⟨vs.toArray⟩⟩)=Da vk vn vs:=rfl;obtain⟨X,hX⟩:∃X,O1 ⟨vk,vn,⟨vs.toArray⟩⟩=X:=⟨_,rfl⟩;rw[hX] at htx ⊢;rw[←htx] at HP;clear hX htx hb4 h4 hx4 Ht HW3 Hx3 H3;by_cases hXs:dl X=dl s
 ·have hXe:X=s:=Cn hXs;subst hXe;have HP:Hid (D2 (dl X)= .ok (vk,vn,vs)):=Ax (by rw[HP.out,Ap rfl])
  go_wp2
  refine Au (v:= .tuple #[.agg #[.int .u8 vk,.int .i64 vn,.string ⟨vs.toArray⟩],.int .i64 0]) uA rfl ?_;rw[HP.out];exact⟨((HB.out.setCell tH _).setCell tH _).setCell tH _,rfl⟩
 have HP:Hid (D2 (dl s)= .error 4):=Ax (by rw[HP.out,Ao hXs]);have t1:(X.toList==s.toList)=false:=by rw[Az,Az];simpa using hXs
 have t2:(X.toList !=s.toList)=true:=by rw[Az,Az];simpa using hXs
 clear hXs
 go_wp2
 refine Au (v:= .tuple #[.agg #[.int .u8 0,.int .i64 0,.string ⟨#[]⟩],.int .i64 4]) uA rfl ?_;rw[HP.out]
 exact⟨((HB.out.setCell tH _).setCell tH _).setCell tH _,rfl⟩):P:=h
theorem zzv{P:Prop}(h:P:=by
 rw[hZ] at hT hB;unfold set7 at hZ;have HT:=Ax hT;have HB:=Ax hB;have HZ:=Ax hZ;clear hT hB hZ;go_wp2_with fail;rw[HZ.out];obtain⟨s0,s1,s2,s3,s4,s5,s6,_⟩:=HT.out
 exact Au (v:= .tuple #[.agg #[.int .u8 0,.string ⟨#[]⟩,.int .u8 0,.int .i64 0,.string ⟨#[]⟩,.int .i64 0,.int .i64 0],.int .i64 0,.int .i64 4]) tO rfl (Gx HB.out HE.out)):P:=h
theorem zzu{P:Prop}(h:P:=by
 refine wpAnyIn_ready (rs:=[11]) tF tH ?_;refine Av rfl (fun K hK=>?_) ?_
 ·go_simp
  refine hK _ _ ?_;clear hK K;refine QI 12 (h:=?_);refine QI 13 (h:=?_);refine wpAnyIn_done tF ?_ _
  gi_wp2
  gi_meet
  case rel=>exact⟨_,m,rfl,rfl,rfl,H8.out⟩
 exact AllReadyIn.nil):P:=h
theorem zzt{P:Prop}(h:P:=by
 obtain⟨a,q⟩:=p;rw[hq] at hp;have HE:=Ax hp;obtain⟨rfl,_⟩:=hp;rw[←hq] at HE;clear hq;go_wp2_with fail;go_ret
 exact HE.out):P:=h
theorem zzs{P:Prop}(h:P:=by
 have hT:=(Bl.set7 (w:=X) ⟨c0,c1,c2,c3,c4,c5,c6,fz⟩ 0 ⟨#[]⟩ 0 0 ⟨#[]⟩ 0 0).below (((Aq _ _).alloc (Ak _) (.cells #[.int .u8 0,.int .i64 0,.string ⟨#[]⟩] 35)));have hB2:=(A6 HB2.out (Ak _) 0 ⟨#[]⟩ 0 0 ⟨#[]⟩ 0 0).trans ((((Aq _ _).alloc (Ak _) (.cells #[.int .u8 0,.int .i64 0,.string ⟨#[]⟩] 35))).mono wG);obtain⟨Z,hZ⟩:∃Z,(set7 X w.heap.size 0 ⟨#[]⟩ 0 0 ⟨#[]⟩ 0 0).alloc (.cells #[.int .u8 0,.int .i64 0,.string ⟨#[]⟩] 35)=Z:=⟨_,rfl⟩;rw[hZ] at hT hB2;unfold set7 at hZ;have HT:=Ax hT;have HB3:=Ax hB2;have HZ:=Ax hZ;clear hT hB2 hZ HB2;go_wp2_with fail;rw[HZ.out];obtain⟨d0,d1,d2,d3,d4,d5,d6,_⟩:=HT.out;clear c0 c1 c2 c3 c4 c5 c6 fz;refine Au (v:= .tuple #[.agg #[.int .u8 0,.string ⟨#[]⟩,.int .u8 0,.int .i64 0,.string ⟨#[]⟩,.int .i64 0,.int .i64 0],.int .i64 0,.int .i64 4]) uG rfl ?_
 exact⟨HB3.out,⟨0,[],(0,0,[])⟩,0,rfl⟩):P:=h
theorem zzr{P:Prop}(h:P:=by
 obtain⟨er,q⟩:=p;rw[hq] at hp;have HE:=Ax hp;obtain⟨rfl,_,_⟩:=hp;clear hq;go_wp2_with fail
 exact⟨rfl,HE.out⟩):P:=h
theorem zzq{P:Prop}(h:P:=by
 have e1:(X.toList==s.toList)=false:=by rw[Az,Az];exact Af.2 (fun e=>hXs (Cn e))
 clear hXs;go_wp2_with fail
 exact Au (v:= .tuple #[.agg #[.int .u8 0,.int .i64 0,.string ⟨#[]⟩],.int .i64 4]) tJ rfl (B9.bad (HP7.out.ret _ _ _) H0.out H4.out HR.out HBD.out)):P:=h
theorem zzp{P:Prop}(h:P:=by
 go_wp2_with fail;go_ret
 exact⟨Cw HR.out,rfl⟩):P:=h
theorem zzo{P:Prop}(h:P:=by
 go_wp2_with fail;go_ret
 exact HF.out):P:=h
theorem zzn{P:Prop}(h:P:=by
 have hO:Bc vk.ownBlock.toList w w2:=(Bc.of_below hb _).trans (Bc.of_grown hg _ fun k hk=>by simp [hk]);have hnb:vk.ownBlock≠some b:=Bi hk h.blk tG;refine⟨h.suf,h.toks.kept hO.size fun g hg' hlt=>hO.block g hlt fun hm=>?_,h.nam,h.tl,h.hB,fun x hx=>?_,h.hd,h.big,h.few,hO.cells_of h.blk wI,h.tree.imp (fun xs q=>Bm q hO fun g e hm=>?_) fun v n xs hn q=>⟨Bm q hO fun g e hm=>hn g e (List.mem_append.2 (.inl hm)),fun g e hm=>?_⟩⟩
 ·have h1:=h.tl g hg';have h2:=C9 hk g uD;omega
 ·rcases List.mem_append.1 hx with hx|hx
  ·rcases hv x (by simpa using hx) with e|e
   ·have:=h.xl x (List.mem_append.2 (.inl wC))
    have:=hO.size
    omega
   exact e.2
  have:=h.xl x (List.mem_append.2 (.inr hx))
  have:=hO.size
  omega
 ·have hm':vk.ownBlock=some g:=by simpa using hm
  rcases q.2 with ⟨rfl,_⟩|⟨g',cap,cur,rfl,_,hg',_⟩
  ·cases e
  simp only[Value.ownBlock,Option.some.injEq] at e;subst e;exact Bi hk hg' tG hm'
 rcases List.mem_append.1 hm with hm|hm
 ·rcases hv g uD with e2|e2
  ·exact hn g e (List.mem_append.2 (.inl (by simpa using e2)))
  have:g<w.heap.size:=by
   rcases q.2 with ⟨rfl,_⟩|⟨g',cap,cur,rfl,_,hg',_⟩
   ·cases e
   simp only[Value.ownBlock,Option.some.injEq] at e;subst e;exact Ay hg'
  omega
 exact hn g e (List.mem_append.2 (.inr hm))):P:=h
theorem zzm{P:Prop}(h:P:=by
 go_wp2_with fail;refine HK'.out.mono ?_;rintro e V9 ⟨rfl,hbk⟩;have HBk:=Ax (HBq.out.trans (hbk.mono HBq.out.size));clear hbk HK';go_wp2_with fail;go_ret
 exact⟨rfl,HBk.out⟩):P:=h
theorem zzl{P:Prop}(h:P:=by
 go_wp2_with fail;rw[HZ.out];obtain⟨d0,d1,d2,d3,d4,d5,d6,_⟩:=HT.out;clear c0 c1 c2 c3 c4 c5 c6 fz;refine Au (v:= .tuple #[.agg #[.int .u8 0,.string ⟨#[]⟩,.int .u8 0,.int .i64 0,.string ⟨#[]⟩,.int .i64 0,.int .i64 0],.int .i64 0,.int .i64 4]) uG rfl ?_
 exact⟨HB3.out,⟨0,[],(0,0,[])⟩,0,rfl⟩):P:=h
theorem zzk{P:Prop}(h:P:=by
 intro d u V hd hu hdep hF hbV hzV K hK;obtain⟨x0,x1,rfl⟩:=Lh hu;obtain⟨b0,b1,rfl⟩:=Lh hd;obtain⟨f0,f1,_⟩:=hF;clear hd hu hdep f0 f1 HMONO;have HBV:=Ax hbV;have HZV:=Ax hzV;clear hbV hzV;simp only[Bt,Act.put,Ac,Ad,Ae] at hK ⊢
 go_simp
 go_at_call 134
 refine(HO.out V).mono ?_;rintro e V1 ⟨⟨v1,rfl,hv1⟩,hb1⟩
 (try go_wp2_with fail)
 refine hK.out _ _ hb1 hv1 (fun h=>absurd h tG)):P:=h
theorem zzj{P:Prop}(h:P:=by
 go_wp2_with fail
 exact⟨rfl,HE.out⟩):P:=h
theorem zzi{P:Prop}(h:P:=by
 exact AllReadyIn.nil):P:=h
theorem zzh{P:Prop}(h:P:=by
 go_wp2
 go_ret
 exact⟨rfl,HB.out⟩):P:=h
theorem zzg{P:Prop}(h:P:=by
 rw[hK0] at hl0 ⊢;simp only[hK0] at HK0;rw[←cA];have HP1:=Ax hp1;have HB1:=Ax hb1;have Hlv:=Ax hlv;have Hwd:=Ax hwd;clear h hx hp1 hb1 hz hK hKL hlv hwd hK0 ho1 ho2 ho3;go_enter Tryz.func68,Tryz.ntmps68;go_wp2_with fail
 go_region_held3 (fun V=>V.cell? ⟨w.heap.size,0,none⟩=some (.int .u8 op)) (go_keep)
  (first
   |(go_at_call 41;(with_reducible refine(ho _).out.mono ?_);rintro e V2 ⟨rfl,hb2⟩;have hc2:=Ba hb2 n0;have hB2:=Ax hb2;clear hb2)
   |(go_at_call 41;(with_reducible refine(ho _).out.mono ?_);rintro e V3 ⟨rfl,hb3⟩;have hc3:=Ba hb3 hc2;have HB3:=Ax (hB2.out.trans (hb3.mono hB2.out.size));clear hb3))
 obtain⟨m0,m1,m2,m3,m4,m5,m6,m7,_⟩:=B1 ((HB3.out.block _ (Ay HP1.out)).trans HP1.out);have HBV0:=Ax (HB1.out.trans (HB3.out.mono HB1.out.size));clear HB1 hB2;go_wp2_with fail;refine(HK0 _ HBV0.out).out.mono ?_;rintro e V5 ⟨rfl,hbb0⟩;have HBV1:=Ax (HBV0.out.trans (hbb0.mono HBV0.out.size));clear hbb0;go_wp2_with fail;go_ret
 exact⟨rfl,HBV1.out⟩):P:=h
theorem zzf{P:Prop}(h:P:=by
 go_wp2_with fail;go_ret
 exact⟨HR.out,HB.out⟩):P:=h
theorem zze{P:Prop}(h:P:=by
 go_enter Tryz.func68,Tryz.ntmps68;go_wp2_with fail
 go_region_held3 (fun V=>V.cell? ⟨w.heap.size,0,none⟩=some (.int .u8 op)) (go_keep)
  (first
   |(go_at_call 41;(with_reducible refine(ho _).out.mono ?_);rintro e V2 ⟨rfl,hb2⟩;have hc2:=Ba hb2 n0;have hB2:=Ax hb2;clear hb2)
   |(go_at_call 41;(with_reducible refine(ho _).out.mono ?_);rintro e V3 ⟨rfl,hb3⟩;have hc3:=Ba hb3 hc2;have HB3:=Ax (hB2.out.trans (hb3.mono hB2.out.size));clear hb3))
 obtain⟨m0,m1,m2,m3,m4,m5,m6,m7,_⟩:=B1 ((HB3.out.block _ (Ay HP1.out)).trans HP1.out);have HBV0:=Ax (HB1.out.trans (HB3.out.mono HB1.out.size));clear HB1 hB2;go_wp2_with fail;refine(HK0 _ HBV0.out).out.mono ?_;rintro e V5 ⟨rfl,hbb0⟩;have HBV1:=Ax (HBV0.out.trans (hbb0.mono HBV0.out.size));clear hbb0;go_wp2_with fail;refine(HK1 _ HBV1.out).out.mono ?_;rintro e V6 ⟨rfl,hbb1⟩;have HBV2:=Ax (HBV1.out.trans (hbb1.mono HBV1.out.size));clear hbb1;go_wp2_with fail;go_ret
 exact⟨rfl,HBV2.out⟩):P:=h
theorem zzd{P:Prop}(h:P:=by
 rw[hr] at HN;clear hDd hr;cases r
 case ok n=>
  have Hp:=Ax hp;have HN:=Ax HN.out;clear hp;go_wp2_with fail;refine Hp.out.mono ?_;rintro e V2 ⟨rfl,hb⟩;have h1:=Hs1.out.below hb;obtain⟨a0,a1,a2,b0,b1,b2,f0,f1,hlt⟩:=h1.cells;have HB:=Ax h1.low;clear h1 hb Hp Hs1
  go_wp2
  refine Au (v:= .tuple #[.agg #[.int .u8 1,.int .i64 n,.string ⟨#[]⟩],.int .i64 0]) tT rfl ?_;rw[HN.out];exact⟨(((HB.out.setCell tH _).setCell tH _).setCell tH _).setCell tH _,rfl⟩
 all_goals
  have Hp:=Ax hp;have HN:=Ax HN.out;clear hp;go_wp2_with fail;refine Hp.out.mono ?_;rintro e V2 ⟨pz,pt,pN,rfl,hb⟩;have h1:=Hs1.out.below hb;obtain⟨a0,a1,a2,b0,b1,b2,f0,f1,hlt⟩:=h1.cells;have HB:=Ax h1.low;clear h1 hb Hp Hs1
  go_wp2
  refine Au (v:= .tuple #[.agg #[.int .u8 1,.int .i64 0,.string ⟨#[]⟩],.int .i64 9]) tT rfl ?_;rw[HN.out]
  exact⟨((HB.out.setCell tH _).setCell tH _).setCell tH _,_,_,_,rfl⟩):P:=h
theorem zzc{P:Prop}(h:P:=by
 rw[hr] at HN;clear hDd hr;cases r
 case ok n=>
  have Hp:=Ax hp;have HN:=Ax HN.out;clear hp;go_wp2_with fail;refine Hp.out.mono ?_;rintro e V2 ⟨rfl,hb⟩;have h1:=Hs1.out.below hb;obtain⟨a0,a1,a2,b0,b1,b2,f0,f1,hlt⟩:=h1.cells;have HB:=Ax h1.low;clear h1 hb Hp Hs1
  go_wp2
  refine Au (v:= .tuple #[.agg #[.int .u8 2,.int .i64 n,.string ⟨#[]⟩],.int .i64 0]) tT rfl ?_;rw[HN.out];exact⟨(((HB.out.setCell tH _).setCell tH _).setCell tH _).setCell tH _,rfl⟩
 all_goals
  have Hp:=Ax hp;have HN:=Ax HN.out;clear hp;go_wp2_with fail;refine Hp.out.mono ?_;rintro e V2 ⟨pz,pt,pN,rfl,hb⟩;have h1:=Hs1.out.below hb;obtain⟨a0,a1,a2,b0,b1,b2,f0,f1,hlt⟩:=h1.cells;have HB:=Ax h1.low;clear h1 hb Hp Hs1
  go_wp2
  refine Au (v:= .tuple #[.agg #[.int .u8 2,.int .i64 0,.string ⟨#[]⟩],.int .i64 9]) tT rfl ?_;rw[HN.out]
  exact⟨((HB.out.setCell tH _).setCell tH _).setCell tH _,_,_,_,rfl⟩):P:=h
theorem zzb{P:Prop}(h:P:=by
 go_wp2_with fail;go_ret
 exact HE.out):P:=h
theorem zza{P:Prop}(h:P:=by
 have hB6:=Cr (v:= .slice oa (i+k) oc) (HR.out.bel.alloc (by have:=HSW.out;omega) (.cells #[.int .i64 (d:Int)] 3)) hgrow6 Hown.out vH;rw[←Df,List.append_assoc] at hown6
 have HR6:Hid (bC wo.heap.size W0 w6 xs y i (k+1) c (.slice (some ⟨g6,0,none⟩) (i+(k+1)) cap) (o++[d])):=Ax ⟨hown6,by rw[Ab,HR.out.len];rfl,Fy HR.out.ok HDL.out,by
  rw[Gr,HR.out.len,Nat.pow_succ,HVL.out]
  exact HR.out.val,hB6⟩
 clear hown6 hgrow6 hat6 hlt6 hB6 Hrow1 HN1 HZ1 hsr HSW Hown HR HVL HDL;go_wp2_with fail;go_roundw
 case rel=>exact⟨k+1,c,o++[d],some ⟨g6,0,none⟩,cap,hm1,Hbd.out,by rw[Nat.add_assoc],by first|rfl|rw[hd],by go_num,HR6⟩
 case measure=>simp [intOf];omega):P:=h
theorem zy9{P:Prop}(h:P:=by
 have hc:=HA.out l[k] wo (List.getElem_mem hlk) hb.out;have Hc:=Ax hc;obtain⟨q,hp⟩:∃q,p l[k]=q:=⟨_,rfl⟩;rw[hp] at Hc;have Hp:=Ax hp;have j0:(0:Int)<=(k:Int):=by omega
 have j1:(k:Int)<(l.length:Int):=by omega
 clear hc hp;go_wp2_with fail;refine Hc.out.mono ?_;rintro r w2 ⟨rfl,hb2⟩;have HB2:=Ax (hb.out.trans (hb2.mono hb.out.size));clear hb2;cases q
 ·go_wp2
  go_roundw
  case rel=>exact⟨k+1,by omega,by go_num,fun j h hj=>by
   rcases Nat.lt_or_ge j k with q|q
   ·exact hq.out j h q
   obtain rfl:j=k:=by omega
   exact Hp.out,HB2.out⟩
  case measure=>simp [intOf];omega
 go_wp2
 go_ret
 exact⟨by rw[Wx hlk hq.out Hp.out];rfl,HB2.out⟩):P:=h
theorem zy8{P:Prop}(h:P:=by
 have HQ:Hid (∃j,dl (⟨#[48]⟩++T2)=List.replicate j 48++d/\(j=0\/(⟨#[48]⟩++T2:ByteArray).size<=5)):=Ax (by
  obtain⟨j,e,_⟩:=hq.out;refine⟨j+1,?_,.inr ?_⟩
  ·rw[Ef,e];rfl
  have hs1:(⟨#[48]⟩:ByteArray).size=1:=rfl;rw[ByteArray.size_append,hs1]
  omega)
 have i2:(T2.size:Int)<5:=by omega
 clear hq
 go_wp2
 go_round
 case rel=>
  have hs1:(⟨#[48]⟩:ByteArray).size=1:=rfl;exact⟨_,rfl,by rw[ByteArray.size_append,hs1];omega,by rw[ByteArray.size_append,hs1];omega,HQ.out⟩
 case measure=>
  have hs1:(⟨#[48]⟩:ByteArray).size=1:=rfl;simp only[ByteArray.size_append,hs1]
  omega):P:=h
theorem zy7{P:Prop}(h:P:=by
 rw[HN.out]
 exact⟨((HB.out.setCell tH _).setCell tH _).setCell tH _,_,_,_,rfl⟩):P:=h
theorem zy6{P:Prop}(h:P:=by
 have HNG:=Ax (P0 HX.out);go_wp2_with fail;refine HNG.out.mono ?_;rintro e V5 ⟨⟨v5,rfl,hv5⟩,hb5⟩;obtain⟨b5,a5,n5,c5,rfl⟩:=hv5.parts;have hA5:=HA.out.below hb5;have HN5:=Ax (Ko hA5 hv5);obtain⟨g0,g1,gf⟩:=A0 hA5.x;obtain⟨r0,r1,rf⟩:=A0 hA5.r;have gf0:=gf 0;have gf1:=gf 1;have rf0:=rf 0;have rf1:=rf 1;have HF:=Ax (C7 HN5.out.1 HN5.out.2);clear hv5 hb5 hA5 gf rf HNG y0 y1 z0 z1 zf0 zf1 yf0 yf1;go_wp2_with fail
 exact Au (v:= .tuple #[.agg #[.bool b5,.slice a5 n5 c5],.bool false,.bool true]) tI rfl (Cs.yes HF.out.1 HYY.out HF.out.2)):P:=h
theorem zy5{P:Prop}(h:P:=by
 have HNG:=Ax (P0 HX.out);go_wp2_with fail;refine HNG.out.mono ?_;rintro e V5 ⟨⟨v5,rfl,hv5⟩,hb5⟩;obtain⟨b5,a5,n5,c5,rfl⟩:=hv5.parts;have hA5:=HA.out.below hb5;have HN5:=Ax (Ko hA5 hv5);obtain⟨g0,g1,gf⟩:=A0 hA5.x;obtain⟨r0,r1,rf⟩:=A0 hA5.r;have gf0:=gf 0;have gf1:=gf 1;have rf0:=rf 0;have rf1:=rf 1;have HF:=Ax (C7 HN5.out.1 HN5.out.2);clear hv5 hb5 hA5 gf rf HNG y0 y1 z0 z1 zf0 zf1 yf0 yf1;go_wp2_with fail
 exact Au (v:= .tuple #[.agg #[.bool b5,.slice a5 n5 c5],.bool true,.bool true]) tI rfl (Cs.yes HF.out.1 HYY.out HF.out.2)):P:=h
theorem zy4{P:Prop}(h:P:=by
 have:=A1 (w.alloc (.cells #[.int .u8 op,.int .u8 vk,.int .i64 vn,.string ⟨vs.toArray⟩,.string ⟨nm.toArray⟩,.slice ka kids.length kc,.int .i64 ln,.int .i64 cl] 38)) (.cells #[.int .u8 op,.int .u8 vk,.int .i64 vn,.string ⟨vs.toArray⟩,.string ⟨nm.toArray⟩,.slice ka kids.length kc,.int .i64 ln,.int .i64 cl] 38)
 rw[show(w.alloc (.cells #[.int .u8 op,.int .u8 vk,.int .i64 vn,.string ⟨vs.toArray⟩,.string ⟨nm.toArray⟩,.slice ka kids.length kc,.int .i64 ln,.int .i64 cl] 38)).heap.size=w.heap.size+1 by simp] at this
 exact this):P:=h
theorem zy3{P:Prop}(h:P:=by
 refine⟨⟨h.suf,h.toks.kept hO.size fun g hg hlt=>hO.block g hlt fun hm=>?_,h.nam,h.tl,h.hB,fun x hx=>Nat.lt_of_lt_of_le (h.xl x hx) hO.size,h.hd,h.big,by simpa using hroom,hb2,kvs++[kv],?_,?_⟩,hO,fun g hg=>hv g hg⟩
 ·have h1:=h.tl g hg;rcases List.mem_cons.1 hm with rfl|hm
  ·have:=h.hB
   omega
  have:=h.tree.own g uD
  omega
 ·rw[Od hk2.len]
  have:=hset _ _ _ tG hown
  simpa using this
 exact C8.snoc (hk2.imp fun v k xs hn q=>⟨hset v k xs tG (hint v k xs q),hn⟩) ⟨hset _ _ _ tG (hint _ _ _ hkv),hkx⟩):P:=h
theorem zy2{P:Prop}(h:P:=by
 go_wp2
 go_meet
 case rel=>exact⟨rfl,rfl⟩):P:=h
theorem zy1{P:Prop}(h:P:=by
 clear hq c hZ;go_wp2_with fail
 go_round
 case rel=>exact⟨1,by first|rfl|go_num,by omega,HM⟩
 case measure=>simp [intOf]<;>omega):P:=h
theorem zy0{P:Prop}(h:P:=by
 exact⟨((HB.out.setCell tH _).setCell tH _).setCell tH _,rfl⟩):P:=h
theorem zyz{P:Prop}(h:P:=by
 obtain⟨nb,hnb⟩:∃nb,decide (x+y<0)=nb:=⟨_,rfl⟩;obtain⟨kk,hkk⟩:∃k,Bw (x+y).natAbs=k:=⟨_,rfl⟩;rw[hnb,hkk] at HB2 HV ⊢;clear hnb hkk;go_wp2_with fail
 refine Au (v:= .agg #[.bool nb,.slice a2 kk c2]) vU rfl ⟨⟨_,rfl,HV.out⟩,HB2.out⟩):P:=h
theorem zyy{P:Prop}(h:P:=by
 go_wp2_with fail;go_quiet (fail);go_wp2_with fail;go_ret
 exact⟨rfl,Bg (Aq _ w) _⟩):P:=h
theorem zyx{P:Prop}(h:P:=by
 obtain⟨b,off,e,hc⟩:=h4 i hi;refine⟨b,off,e,?_⟩
 have hne:b≠r:=by
  rintro rfl;simp only[World.cell?,hr] at hc;obtain h0|h0|h0:off+i=0\/off+i=1\/2<=off+i:=by omega
  ·rw[h0] at hc;simp at hc
  ·rw[h0] at hc;simp at hc
  rw[Array.getElem?_eq_none (by simpa using h0)] at hc;simp at hc
 rw[←hc];refine World.cell?_of_block ?_
 show((V.setCell ⟨r,0,none⟩ u).setCell ⟨r,1,none⟩ u').heap[b]? =V.heap[b]?
 rw[Below.heap_setCell _ _ _ _ (by exact hne),Below.heap_setCell _ _ _ _ (by exact hne)]):P:=h
theorem zyw{P:Prop}(h:P:=by
 go_enter Tryz.func32,Tryz.ntmps32;go_wp2_with fail;refine Au (v:= .agg #[.int .i64 tl,.int .i64 (tc+(tt.length:Int)+1)]) uI rfl ?_;refine⟨by simp [*],?_⟩
 exact(((HB3.out.setCell tH _).setCell tH _).setCell tH _).setCell tH _):P:=h
theorem zyv{P:Prop}(h:P:=by
 rw[Ao tG];refine OneB.mk 0 ⟨some 54,_,_,_,_,_⟩ _ rfl rfl rfl rfl HMONO.out (Ak _) ?_;intro d u V hd hu hdep hF hbV hzV K hK;obtain⟨x0,x1,rfl⟩:=Lh hu;obtain⟨b0,b1,rfl⟩:=Lh hd;obtain⟨f0,f1,_⟩:=hF;clear hd hu hdep f0 f1 HMONO;have HBV:=Ax hbV;have HZV:=Ax hzV;clear hbV hzV;simp only[Bt,Act.put,Ac,Ad,Ae] at hK ⊢;obtain⟨u0,u1⟩:=HY.out V HBV.out
 go_simp
 (try go_wp2_with fail)
 refine hK.out _ _ (Aq _ _) rfl (fun h=>absurd h tG)):P:=h
theorem zyu{P:Prop}(h:P:=by
 go_enter Tryz.func36,Tryz.ntmps36;go_wp2_with fail;go_ret
 exact⟨rfl,((Aq _ w).alloc (Ak _) _).alloc tH _⟩):P:=h
theorem zyt{P:Prop}(h:P:=by
 go_enter Tryz.func34,Tryz.ntmps34;go_wp2_with fail;refine Au (v:= .agg #[.int .i64 tl,.int .i64 (tc+((tt.length:Int)+1))]) uH rfl ?_;refine⟨by simp [*,Int.add_assoc],?_⟩
 exact(HB3.out.setCell tH _).setCell tH _):P:=h
theorem zys{P:Prop}(h:P:=by
 have hl:=hs.len;refine⟨hs.trans h.suf,h.toks.kept ho.size fun g hg hlt=>ho.block g hlt ?_,h.nam,h.tl,h.hB,fun x hx=>Nat.lt_of_lt_of_le (h.xl x hx) ho.size,hd,h.big,by have:=h.few;omega,hb,h.tree.imp (fun _ q=>Bm q ho fun k e hm=>?_) fun v n xs hn q=>⟨Bm q ho fun k e hm=>?_,hn⟩⟩
 ·have:=h.tl g hg
  have:=h.hB
  simp;omega
 ·simp at hm;subst hm;exact h.tree.not h.blk tG e
 simp at hm;subst hm
 exact Bi q h.blk tG e):P:=h
theorem zyr{P:Prop}(h:P:=by
 go_ret
 exact⟨rfl,rfl⟩):P:=h
theorem zyq{P:Prop}(h:P:=by
 go_enter Tryz.func43,Tryz.ntmps43;go_upto_region 1 with fail
 rw[HW1.out,HW2.out];clear HW1 HW2;go_wp2_with fail;go_ret2
 exact⟨rfl,HB.out⟩):P:=h
theorem zyp{P:Prop}(h:P:=by
 rw[HX.out];have hO:Bc [w.heap.size] V4 ((V4.setCell ⟨w.heap.size,0,none⟩ (.int .i64 0)).setCell ⟨w.heap.size,1,none⟩ (.int .i64 0)):=(A3 V4 _ _ _).setCell (.inl tH) _;refine⟨(HB4.out.setCell tH _).setCell tH _,_,rfl,HT.out.imp (fun _ r=>Bm r hO fun k e hm=>?_) fun v n xs hx r=>⟨Bm r hO fun k e hm=>?_,hx⟩⟩
 ·simp at hm;subst hm;exact Bi r HP5.out tG e
 simp at hm;subst hm
 exact Bi r HP5.out tG e):P:=h
theorem zyo{P:Prop}(h:P:=by
 have hl:=h.suf.len;simp only[Aa] at hl;have hlt:ts.length - (t::q).length<ts.length:=by simp only[Aa];omega
 have he:ts[ts.length - (t::q).length]=t:=by
  have h1:=h.suf.at_drop;have h2:=Ar (fun l=>l[0]?) h1;simp only[List.getElem?_cons_zero,List.getElem?_drop,Nat.add_zero] at h2;rw[Ag hlt] at h2;injection h2 with h2;exact h2.symm
 obtain⟨g,c,e,hg,h0⟩:=h.toks.at hlt;rw[he] at h0
 exact⟨g,c,e,hg,hlt,h0⟩):P:=h
theorem zyn{P:Prop}(h:P:=by
 have h1:=A1 (w.alloc (.cells #[.bool bx,.slice ax nx cx] 208)) (.cells #[.bool by',.slice ay ny cy] 208);rw[show(w.alloc (.cells #[.bool bx,.slice ax nx cx] 208)).heap.size=w.heap.size+1 by simp] at h1;have h2:=(Aq _ ((w.alloc (.cells #[.bool bx,.slice ax nx cx] 208)).alloc (.cells #[.bool by',.slice ay ny cy] 208))).alloc (Ak _) (.cells #[.bool false,.slice none 0 0] 208)
 exact(h2.block _ (Ay h1)).trans h1):P:=h
theorem zym{P:Prop}(h:P:=by
 go_wp2_with fail;go_ret
 exact⟨rfl,Aq _ _⟩):P:=h
theorem zyl{P:Prop}(h:P:=by
 simp only at he HP;obtain⟨ek,en,es,rfl⟩:=he
 have hq0:(q==0)=false:=by
  have:=Hf1.out
  unfold oZ at this;simp;omega
 have HB:=Ax h2.low;have HP:=Ax HP.out;clear h2 hR2 Hf1 Hr
 go_wp2
 refine Au (v:= .tuple #[.agg #[.int .u8 0,.int .i64 0,.string ⟨#[]⟩],.int .i64 q]) uA rfl ?_;rw[HP.out]
 exact⟨(((HB.out.setCell tH _).setCell tH _).setCell tH _).alloc (by simp [World.setCell];omega) _,rfl⟩):P:=h
theorem zyk{P:Prop}(h:P:=by
 go_wp2_with fail;go_region
 all_goals
  rw[HZ.out];obtain⟨d0,d1,d2,d3,d4,d5,d6,_⟩:=HT.out;clear c0 c1 c2 c3 c4 c5 c6 fz
  go_wp2
  refine Au (v:= .tuple #[.agg #[.int .u8 4,.string (s.extract 0 N),.int .u8 0,.int .i64 0,.string ⟨#[]⟩,.int .i64 0,.int .i64 0],.int .i64 N,.int .i64 4]) uV rfl ?_
  exact⟨HB2.out,⟨4,(dl s).take N,(0,0,[])⟩,_,by rw[←Hex.out];rfl⟩):P:=h
theorem zyj{P:Prop}(h:P:=by
 have ec:∀i,w'.cell? ⟨b,i,none⟩=w.cell? ⟨b,i,none⟩:=fun i=>World.cell?_of_block (w:=w) e
 have ef:∀i,w'.frozen? ⟨b,i,none⟩=w.frozen? ⟨b,i,none⟩:=fun i=>World.frozen?_of_block (w:=w) e
 constructor<;>first|(rw[ec];first|exact h.c0|exact h.c1|exact h.c2|exact h.c3|exact h.c4|exact h.c5|exact h.c6)|(intro i;rw[ef];exact h.fz i)):P:=h
theorem zyi{P:Prop}(h:P:=by
 clear hb3
 try go_wp2_with fail
 clear hHeld;refine hK.out _ _ ?_ (fun hHeld=>?_)
 ·exact HSV.out _ HB3.out
 clear hK K
 try simp only[Act.put,Ac,Ad,Ae]
 refine QH 17 ⟨some 4,_,_,_,_,_⟩ (h:=?_)
 try simp only[Act.put,Ac,Ad,Ae]
 refine wpAnyH_done tF ?_ _;refine NoPanic.normal ?_;go_wp2_with fail;go_ret
 exact⟨by rw[←HZ.out];rfl,HB3.out⟩):P:=h
theorem zyh{P:Prop}(h:P:=by
 refine⟨by rw[Hl.out];rfl,?_⟩
 exact(((HB3.out.setCell (Ak _) _).setCell (Ak _) _).setCell (Ak _) _).alloc tL _):P:=h
theorem zyg{P:Prop}(h:P:=by
 go_wp2_with fail;refine HEA.out.mono ?_;rintro e V3 ⟨rfl,hb3⟩;have HB3:=Ax (HA.out.trans (hb3.mono HA.out.size));clear hb3;go_wp2_with fail;refine(HS _ _).out.mono ?_;rintro e V4 ⟨rfl,hb4⟩;have HB4:=Ax (HB3.out.trans (hb4.mono HB3.out.size));clear hb4;go_wp2_with fail;go_ret
 exact⟨by rw[←HR.out];rfl,HB4.out⟩):P:=h
theorem zyf{P:Prop}(h:P:=by
 go_enter Tryz.func131,Tryz.ntmps131;go_wp2_with fail;go_quiet (fail);go_wp2_with fail;go_region_with ((go_at_call 41;(with_reducible refine(ho _).out.mono ?_);rintro e V ⟨rfl,hb⟩;have HB:=Ax ((HD nq).out.drew.trans (hb.mono (HD nq).out.size));clear hb))
 all_goals
  go_wp2_with fail;go_ret
  exact⟨rfl,HB.out⟩):P:=h
theorem zye{P:Prop}(h:P:=by
 have h1:=A1 ((w.alloc (.cells #[.bool bx,.slice ax nx cx] 208)).alloc (.cells #[.bool by',.slice ay ny cy] 208)) (.cells #[.bool false,.slice none 0 0] 208);rw[show((w.alloc (.cells #[.bool bx,.slice ax nx cx] 208)).alloc (.cells #[.bool by',.slice ay ny cy] 208)).heap.size=w.heap.size+2 by simp] at h1
 exact h1):P:=h
theorem zyd{P:Prop}(h:P:=by
 go_enter Tryz.func220,Tryz.ntmps220
 go_wp2
 go_ret
 exact⟨by simp [I9,Et,J9,show ¬(97<=x/\x<=122) by omega,show ¬(48<=x/\x<=57) by omega],rfl⟩):P:=h
theorem zyc{P:Prop}(h:P:=by
 rintro e w' ⟨rfl,rfl⟩;go_wp2_with fail
 go_round
 case rel=>exact⟨q+1,by go_num,by omega,by omega,HN⟩
 case measure=>simp [intOf]<;>omega):P:=h
theorem zyb{P:Prop}(h:P:=by
 clear hq;go_wp2_with fail
 go_round
 case rel=>exact⟨i+1,_,by omega,by go_num,rfl,HN.out.1,Ax HN.out.2⟩
 case measure=>simp [intOf];omega):P:=h
theorem zya{P:Prop}(h:P:=by
 have h1:=A1 w (.cells #[.bool bx,.slice ax nx cx] 208);have h2:=((Aq _ (w.alloc (.cells #[.bool bx,.slice ax nx cx] 208))).alloc (Ak _) (.cells #[.bool by',.slice ay ny cy] 208)).alloc tH (.cells #[.bool false,.slice none 0 0] 208)
 exact(h2.block _ (Ay h1)).trans h1):P:=h
theorem zx9{P:Prop}(h:P:=by
 split
 ·next hf=>
  obtain⟨_,hr⟩:=Ga (h2 hf).1;rw[List.all_append,had,Bool.true_and];refine List.all_eq_true.2 fun x hx=>?_
  rcases List.mem_append.1 (List.mem_of_mem_take hx) with q|q
  ·exact List.all_eq_true.1 hr x q
  simp at q;subst q;decide
 exact had):P:=h
theorem zx8{P:Prop}(h:P:=by
 clear hq c hZ;go_wp2_with fail
 go_round
 case rel=>exact⟨2,by first|rfl|go_num,by omega,HM⟩
 case measure=>simp [intOf]<;>omega):P:=h
theorem zx7{P:Prop}(h:P:=by
 rw[←hW3]
 show(World.setCell _ _ _).heap[_]? =_
 rw[A2 (A2 (A2 (A2 HN2.out)))]
 rfl):P:=h
theorem zx6{P:Prop}(h:P:=by
 obtain⟨h1,a,c,h2,h3⟩:=h;refine⟨h1,a,c,h2,fun i hi=>?_⟩;obtain⟨b,off,e,hc⟩:=h3 i hi
 exact⟨b,off,e,Ba hb hc⟩):P:=h
theorem zx5{P:Prop}(h:P:=by
 rw[Dl ⟨by decide,by decide,by decide⟩ h]
 rfl):P:=h
theorem zx4{P:Prop}(h:P:=by
 simp [hi] at h
 exact⟨i,rfl,h.1,h.2.1,h.2.2⟩):P:=h
theorem zx3{P:Prop}(h:P:=by
 go_wp2_with fail;go_roundw
 case rel=>exact⟨q,ln,bg,ts,va,vc,by rw[HTN.out],rfl,rfl,rfl,by omega,by omega,by omega,by rw[HTN.out];omega,Ax ⟨by rw[HTN.out];exact HA.out,HM.out⟩⟩
 case measure=>have:=HPQ.out;simp [intOf]<;>omega):P:=h
theorem zx2{P:Prop}(h:P:=by
 simp only[hz] at HT;clear ht ho hf hR hz;go_enter Tryz.func17,Tryz.ntmps17;go_wp2_with fail;refine HT.out.mono ?_;rintro e V1 ⟨rfl,hb1⟩;have HB1:=Ax hb1;clear hb1 HT;unfold kX;go_wp2_with fail;go_ret
 exact⟨rfl,HB1.out⟩):P:=h
theorem zx1{P:Prop}(h:P:=by
 unfold Mq;rw[←hRd];cases q
 ·have h0:R.size≠0:=of_decide_eq_false hq;rw[Ao (fun e=>h0 (by rw[←A4,e];rfl))];rfl
 have h0:R.size=0:=of_decide_eq_true hq;rw[Ap (List.eq_nil_of_length_eq_zero (by rw[A4];exact h0))]
 rfl):P:=h
theorem zx0{P:Prop}(h:P:=by
 have:(ms.map fun _=>false).getD x false=false:=by
  rw[List.getD_eq_getElem?_getD];cases q:(ms.map fun _=>false)[x]? with
  |none=>rfl
  |some b=>have:=List.mem_of_getElem? q;simp at this;simp [this.2]
 rw[this] at hd
 cases hd):P:=h
theorem zxz{P:Prop}(h:P:=by
 rw[bI ((Kc ea).trans ha) ((Kc eb).trans hb)];show Uh (if Fx 0 [x,y]=255 then(0,8) else(Fx 0 [x,y],0))=if n2B x y then .ok (if n2B x y then max x y else 0) else .error 8
 rw[eO hx.1 hy.1,Nr _ _ hmax]
 cases n2B x y<;>rfl):P:=h
theorem zxy{P:Prop}(h:P:=by
 go_enter Tryz.func196,Tryz.ntmps196
 go_wp2
 go_ret
 exact⟨rfl,Aq _ _⟩):P:=h
theorem zxx{P:Prop}(h:P:=by
 subst hn;go_enter Tryz.func171,Tryz.ntmps171;go_wp2_with fail;refine Hc.out.mono ?_;rintro e w1 ⟨rfl,hb1⟩;have HB1:=Ax (HB.out.trans (hb1.mono HB.out.size));clear hb1
 go_wp2
 go_ret
 exact⟨Ju tH,HB1.out⟩):P:=h
theorem zxw{P:Prop}(h:P:=by
 rw[←hW3]
 exact Bc.drew ((((A3 W2 _ _ _).setCell (.inl tH) _).setCell (.inl tH) _).setCell (.inl tH) _)):P:=h
theorem zxv{P:Prop}(h:P:=by
 rw[hhd h] at q2;exact h2 ⟨by rw[Option.some.inj q2];rfl,by omega⟩):P:=h
theorem zxu{P:Prop}(h:P:=by
 obtain⟨m0,m1,m2,m3,m4,m5,m6,m7,_⟩:=B1 ((HB3.out.block _ (Ay HP1.out)).trans HP1.out);have HBV:=Ax (HB1.out.trans (HB3.out.mono HB1.out.size));clear HB1 hB2;go_wp2_with fail;go_ret
 exact⟨rfl,HBV.out⟩):P:=h
theorem zxt{P:Prop}(h:P:=by
 rw[HX.out]
 exact⟨((HB4.out.setCell tH _).setCell tH _).drew,rfl⟩):P:=h
theorem zxs{P:Prop}(h:P:=by
 go_wp2
 go_round
 case rel=>exact⟨k+1,by omega,by go_num,Hyes.out⟩
 case measure=>simp [intOf];omega):P:=h
theorem zxr{P:Prop}(h:P:=by
 have hl:=h.suf.len;simp only[Aa] at hl;refine h.turn (A3 _ _ _ _) ⟨1,rfl⟩ h.hd ?_;rw[A2 h.blk]
 have:((ts.length - (q.length+1):Nat):Int)+1=((ts.length - q.length:Nat):Int):=by omega
 rw[this]
 rfl):P:=h
theorem zxq{P:Prop}(h:P:=by
 have hm':vt.ownBlock=some g:=by simpa using hm
 rcases q.2 with ⟨rfl,_⟩|⟨g',cap,cur,rfl,_,hg',_⟩
 ·cases e
 simp only[Value.ownBlock,Option.some.injEq] at e;subst e
 exact Bi hk1 hg' tG hm'):P:=h
theorem zxp{P:Prop}(h:P:=by
 go_wp2_with fail;refine Hc.out.mono ?_;rintro e w1 ⟨rfl,hb1⟩
 go_wp2
 go_ret
 exact⟨Ju tH,hb1⟩):P:=h
theorem zxo{P:Prop}(h:P:=by
 go_wp2_with fail;refine Au (v:= .agg #[.bool false,.slice a 0 c]) uU rfl ⟨Jw.mk ?_,(HB.out.setCell (Ak _) _).setCell (Ak _) _⟩
 exact HN.out.below ((HB.out.setCell (Ak _) _).setCell (Ak _) _)):P:=h
theorem zxn{P:Prop}(h:P:=by
 clear hnb;go_wp2_with fail;refine HDG.out.mono ?_;rintro e W3 ⟨rfl,hb3⟩;have HB3:=Ax (HBA.out.trans (hb3.mono HBA.out.size));clear hb3;go_wp2_with fail;go_ret
 exact⟨Ep HIT.out,HB3.out⟩):P:=h
theorem zxm{P:Prop}(h:P:=by
 go_wp2_with fail;go_ret
 exact⟨Tw HR.out,rfl⟩):P:=h
theorem zxl{P:Prop}(h:P:=by
 obtain rfl:nb=false:=by rw[←hnb];rfl
 clear hnb;go_wp2_with fail;go_ret
 exact⟨rfl,HBA.out⟩):P:=h
theorem zxk{P:Prop}(h:P:=by
 by_cases hk:p.1=k
 ·simp [hk,List.findIdx?_cons]
 have hb2:(p.1==k)=false:=by simpa using hk
 simp only[List.find?_cons,hb2,List.findIdx?_cons,ih]
 cases l.findIdx? (fun p=>p.1==k)<;>simp):P:=h
theorem zxj{P:Prop}(h:P:=by
 go_wp2
 go_ret
 exact⟨by rw[Hno.out];rfl,rfl⟩):P:=h
theorem zxi{P:Prop}(h:P:=by
 rcases h.row.2 with ⟨e2,_⟩|⟨g',cap,cur,e2,_,hg',_⟩
 ·rw[e2] at e;cases e
 rw[e2] at e;simp only[Value.ownBlock,Option.some.injEq] at e;subst e
 exact h.rd.apart hg' tG tG hm):P:=h
theorem zxh{P:Prop}(h:P:=by
 rw[HX.out]
 exact⟨rfl,v6,hr6,hch6⟩):P:=h
theorem zxg{P:Prop}(h:P:=by
 go_simp
 refine hK _ _ ?_;clear hK K;refine QI 12 (h:=?_);refine QI 13 (h:=?_);refine wpAnyIn_done tF ?_ _
 gi_wp2
 gi_meet
 case rel=>exact⟨X.heap.size,rfl,rfl,rfl,hXz,H7.out,H8.out⟩):P:=h
theorem zxf{P:Prop}(h:P:=by
 obtain⟨x,hx,hx2⟩:=hend.resolve_left tE;simp at hx;subst hx
 simp [Mq,trimRightB,hx2]):P:=h
theorem zxe{P:Prop}(h:P:=by
 rw[←hfl];refine hr.grow hrow4 hb hg fun g' e=>?_
 simp only[Value.ownBlock,Option.some.injEq] at e;subst e;rcases hat with e2|e2
 ·exact .inl e2
 exact .inr ⟨e2,hlt⟩):P:=h
theorem zxd{P:Prop}(h:P:=by
 have HF:=Ax (C7 HA.out HX.out);go_wp2_with fail
 exact Au (v:= .tuple #[.agg #[.bool false,.slice a n c],.bool false,.bool true]) tI rfl (Cs.yes HF.out.1 HYY.out HF.out.2)):P:=h
theorem zxc{P:Prop}(h:P:=by
 have HF:=Ax (C7 HA.out HX.out);go_wp2_with fail
 exact Au (v:= .tuple #[.agg #[.bool false,.slice a n c],.bool true,.bool true]) tI rfl (Cs.yes HF.out.1 HYY.out HF.out.2)):P:=h
theorem zxb{P:Prop}(h:P:=by
 exact⟨rfl,((Bg ((Aq _ w).alloc (Ak _) _) _).setCell (Ak _) _).setCell (Ak _) _⟩):P:=h
theorem zxa{P:Prop}(h:P:=by
 injection hp with hp;injection hp with _ hp
 exact hT hp):P:=h
theorem zw9{P:Prop}(h:P:=by
 refine⟨h1,fun ts h=>?_⟩;obtain⟨h3,h4⟩:=h2 ts h;refine⟨fun t ht=>?_,h4⟩;rcases h3 t ht with h5|⟨h5,h6⟩
 ·exact .inl h5
 exact .inr ⟨h5,by omega⟩):P:=h
theorem zw8{P:Prop}(h:P:=by
 rintro e w' ⟨hb,he⟩;rw[h] at he;obtain⟨v,h1,h2⟩:=he
 exact⟨v,h1,h2,hb⟩):P:=h
theorem zw7{P:Prop}(h:P:=by
 go_enter Tryz.func126,Tryz.ntmps126;go_wp2_with fail;go_quiet (fail);go_wp2_with fail;go_quiet (fail);go_wp2_with fail;go_ret
 exact⟨rfl,Bg (Bg (Aq _ w) _) _⟩):P:=h
theorem zw6{P:Prop}(h:P:=by
 go_wp2_with fail;go_ret
 exact⟨by rw[Hz.out];rfl,HB.out.alloc HB.out.size _⟩):P:=h
theorem zw5{P:Prop}(h:P:=by
 intro hm;rcases List.mem_cons.1 hm with rfl|hm
 ·rw[h.blk] at hp;injection hp with hp;injection hp with _ hp;exact h1 hp
 exact h.tree.not hp h2 uD):P:=h
theorem zw4{P:Prop}(h:P:=by
 rw[HW.out];unfold Cx;rw[Ao uW]
 exact⟨HB3.out,by rw[show(1:Int)+(own.size:Int)=((1+N:Nat):Int) by(have:=Hj.out;omega)];rw[←Lj own,Hod.out];rfl⟩):P:=h
theorem zw3{P:Prop}(h:P:=by
 rintro e w' ⟨rfl,rfl⟩;go_wp2_with fail;go_ret
 exact⟨Kn HR.out,rfl⟩):P:=h
theorem zw2{P:Prop}(h:P:=by
 have:=List.drop_eq_getElem_cons l1
 rw[List.drop_zero] at this
 exact this):P:=h
theorem zw1{P:Prop}(h:P:=by
 go_wp2_with fail
 exact Au (v:= .tuple #[.agg #[.int .u8 0,.int .i64 0,.string ⟨#[]⟩],.int .i64 4]) tJ rfl (B9.err (HP.out.ret _ _ _) HE.out)):P:=h
theorem zw0{P:Prop}(h:P:=by
 rw[Nat.add_comm,List.take_succ_cons];refine⟨rfl,fun d hd=>?_⟩;rw[List.mem_cons] at hd;rcases hd with rfl|hd
 ·decide
 exact Tz (Fd _ d hd)):P:=h
theorem zwz{P:Prop}(h:P:=by
 split at hr
 ·cases hr
 injection hr with hr;exact .inr (.inl hr.symm)):P:=h
theorem zwy{P:Prop}(h:P:=by
 rename_i e;injection e with e;exact absurd e ha):P:=h
theorem zwx{P:Prop}(h:P:=by
 rcases h with rfl|rfl|rfl|rfl|rfl|rfl|rfl|rfl|rfl|rfl|rfl|rfl<;>decide):P:=h
theorem zww{P:Prop}(h:P:=by
 simp only[Value.ownBlock,Option.some.injEq] at e;subst e;rcases hat with e2|e2
 ·exact h.new g e2
 exact Al (h.rch.trans hch).only.size e2):P:=h
theorem zwv{P:Prop}(h:P:=by
 split
 ·exact⟨by decide,by decide,Nat.zero_le _⟩
 exact .inl rfl):P:=h
theorem zwu{P:Prop}(h:P:=by
 simp only[List.findIdx?_cons,hb2];cases l.findIdx? (fun p=>p.1==k) with
 |none=>simp
 |some j=>simp [Nat.add_assoc,Nat.add_comm 1]):P:=h
theorem zwt{P:Prop}(h:P:=by
 split
 ·rename_i e
  simp only[List.cons.injEq] at e;obtain⟨e1,e2,_⟩:=e;subst e1 e2;rw[Ao (fun h=>ha ⟨rfl,h⟩)]
 rfl):P:=h
theorem zws{P:Prop}(h:P:=by
 by_cases h:c=45
 ·subst h;rfl
 have:(45==c)=false:=by simpa using fun e:(45:UInt8)=c=>h e.symm
 simp [List.isPrefixOf,this,h]):P:=h
theorem zwr{P:Prop}(h:P:=by
 obtain⟨kk,hk⟩:=Rz ((dl T2).drop (T2.size - 4))
 have:=Ar List.length hk
 rw[←hRd,Ab,List.length_drop,A4,A4] at this
 omega):P:=h
theorem zwq{P:Prop}(h:P:=by
 go_wp2_with fail;go_roundw
 case rel=>exact⟨k+1,_,by omega,by go_num,rfl,HF.out⟩
 case measure=>simp [intOf];omega):P:=h
end Go.Proofs
namespace Go.Proofs.YtmpfilddeglgbaaGreatDoor
open Go Go.RowKit
theorem Ax {p:Prop}(h:p):Hid p:=h
theorem Ca {w:World}{p:Addr}{v:Value}(h:w.cell? p=some v):p.block<w.heap.size:=by
 simp only[World.cell?] at h;cases hb:w.heap[p.block]? with
 |none=>simp [hb] at h
 |some o=>exact lt_of_block hb
theorem Ba {W w1:World}(hb:Below W.heap.size W w1){b o:Nat}{v:Value}(h:W.cell? ⟨b,o,none⟩=some v):w1.cell? ⟨b,o,none⟩=some v:=
 (hb.cell (p:=⟨b,o,none⟩) (Ca h)).trans h
structure Vl where
 k:Int
 n:Int
 s:ByteArray
 deriving DecidableEq
def Xa {α:Type}(k:Nat)(cells:α->List Value)(w:World)(a:Option Addr)(c:Nat)(l:List α):Prop:=
 l.length<=c/\c<=9223372036854775807/\((∃b off,a=some ⟨b,off,none⟩/\∀i (h:i<l.length) j v,(cells l[i])[j]? =some v->w.cell? ⟨b,off+i*k+j,none⟩=some v)\/l=[])
theorem Xa.below {α:Type}{k:Nat}{cells:α->List Value}{w w':World}{a:Option Addr}{c:Nat}{l:List α}(h:Xa k cells w a c l)(hb:Below w.heap.size w w'):Xa k cells w' a c l:=by
 obtain⟨h1,h2,⟨b,off,rfl,h3⟩|rfl⟩:=h
 ·exact⟨h1,h2,.inl ⟨b,off,rfl,fun i hi j v hv=>Ba hb (h3 i hi j v hv)⟩⟩
 exact⟨h1,h2,.inr rfl⟩
theorem Xa.len {α:Type}{k:Nat}{cells:α->List Value}{w:World}{a:Option Addr}{c:Nat}{l:List α}(h:Xa k cells w a c l):l.length<=9223372036854775807:=Al h.1 h.2.1
theorem Xa.nil {α:Type}{k:Nat}{cells:α->List Value}(w:World)(a:Option Addr){c:Nat}(hc:c<=9223372036854775807):Xa k cells w a c []:=⟨Nat.zero_le _,hc,.inr rfl⟩
theorem Xa.get {α:Type}{k:Nat}{cells:α->List Value}{w:World}{a:Option Addr}{c:Nat}{l:List α}(h:Xa k cells w a c l){i:Nat}(hi:i<l.length):
 ∃b off,a=some ⟨b,off,none⟩/\∀j v,(cells l[i])[j]? =some v->w.cell? ⟨b,off+i*k+j,none⟩=some v:=by
 obtain⟨_,_,⟨b,off,rfl,h3⟩|rfl⟩:=h
 ·exact⟨b,off,rfl,h3 i hi⟩
 simp at hi
def Vl.cells (v:Vl):List Value:=[.int .u8 v.k,.int .i64 v.n,.string v.s]
def Vl.val (v:Vl):Value:= .agg #[.int .u8 v.k,.int .i64 v.n,.string v.s]
def Vl.ok (v:Vl):Prop:=0<=v.k/\v.k<=255/\v.s.size<=9223372036854775807
open Go Go.RowKit Go.MapKept
structure Bc (S:List Nat)(w w':World):Prop where
 os:w'.os=w.os
 tape:w'.tape=w.tape
 output:w'.output=w.output
 size:w.heap.size<=w'.heap.size
 block:∀k,k<w.heap.size->k∉S->w'.heap[k]? =w.heap[k]?
theorem Bc.refl (S:List Nat)(w:World):Bc S w w:=⟨rfl,rfl,rfl,Ak _,fun _ _ _=>rfl⟩
theorem Bc.step {S T:List Nat}{a b c:World}(h:Bc S a b)(k:Bc T b c)(hT:∀i∈T,i∈S\/a.heap.size<=i):Bc S a c:=
 ⟨k.os.trans h.os,k.tape.trans h.tape,k.output.trans h.output,Al h.size k.size,fun i hi hn=>
   (k.block i (Nat.lt_of_lt_of_le hi h.size) (fun hm=>by rcases hT i hm with q|q;exact hn q;omega)).trans (h.block i hi hn)⟩
theorem Bc.trans {S:List Nat}{a b c:World}(h:Bc S a b)(k:Bc S b c):Bc S a c:=h.step k fun _ hi=> .inl hi
theorem Bc.mono {S T:List Nat}{a b:World}(h:Bc S a b)(hs:∀i∈S,i∈T):Bc T a b:=
 ⟨h.os,h.tape,h.output,h.size,fun i hi hn=>h.block i hi fun hm=>hn (hs i hm)⟩
theorem Bc.of_below {a b:World}(h:Below a.heap.size a b)(S:List Nat):Bc S a b:=⟨h.os,h.tape,h.output,h.size,fun i hi _=>h.block i hi⟩
theorem Bc.below {a b:World}(h:Bc [] a b):Below a.heap.size a b:=⟨h.os,h.tape,h.output,h.size,fun i hi=>h.block i hi tH⟩
theorem Bc.drew {S:List Nat}{a b:World}(h:Bc S a b):Bc S a b.drew:=⟨h.os,h.tape,h.output,h.size,h.block⟩
theorem Bc.drewN {S:List Nat}{a b:World}(h:Bc S a b)(n:Nat):Bc S a (b.drewN n):=⟨h.os,h.tape,h.output,h.size,h.block⟩
theorem Bc.alloc {S:List Nat}{a b:World}(h:Bc S a b)(o:Obj):Bc S a (b.alloc o):=
 h.step (T:=[]) ⟨rfl,rfl,rfl,by simp,fun k hk _=>Below.heap_alloc _ _ _ hk⟩ tH
theorem Bc.setCell {S:List Nat}{a b:World}(h:Bc S a b){p:Addr}(hp:p.block∈S\/a.heap.size<=p.block)(u:Value):Bc S a (b.setCell p u):=
 h.step (T:=[p.block]) ⟨rfl,rfl,rfl,by simp [World.setCell],fun k _ hn=>Below.heap_setCell _ _ _ _ (by simpa using hn)⟩ wK
theorem Bc.of_grown {a b:World}{row:Option Nat}(h:a.grownBy b row)(S:List Nat)(hr:∀k,row=some k->k∈S):Bc S a b:=
 ⟨h.os,h.tape,h.output,h.size,fun i hi hn=>h.block i hi fun e=>hn (hr i e.symm)⟩
theorem Bc.cell {S:List Nat}{a b:World}(h:Bc S a b){p:Addr}(hp:p.block<a.heap.size)(hn:p.block∉S):b.cell? p=a.cell? p:=World.cell?_of_block (w:=a) (h.block p.block hp hn)
theorem Bc.frozen {S:List Nat}{a b:World}(h:Bc S a b){p:Addr}(hp:p.block<a.heap.size)(hn:p.block∉S):b.frozen? p=a.frozen? p:=World.frozen?_of_block (w:=a) (h.block p.block hp hn)
theorem Bv {B:Nat}{a b c:World}{S:List Nat}(h:Below B a b)(k:Bc S b c)(hS:∀i∈S,B<=i)(hB:B<=b.heap.size):Below B a c:=
 h.trans ⟨k.os,k.tape,k.output,k.size,fun i hi=>k.block i tE fun hm=>by have:=hS i hm;omega⟩
theorem Bg {B:Nat}{a w:World}(h:Below B a w)(n:Nat):Below B a (w.drewN n):=⟨h.os,h.tape,h.output,h.size,h.block⟩
theorem Ay {w:World}{b:Nat}{o:Obj}(h:w.heap[b]? =some o):b<w.heap.size:=lt_of_block h
theorem A2 {w:World}{b i:Nat}{u:Value}{c:Array Value}{t:TypeId}{fz:Nat×Nat}(h:w.heap[b]? =some (.cells c t fz)):(w.setCell ⟨b,i,none⟩ u).heap[b]? =some (.cells (c.setIfInBounds i u) t fz):=by
 simp [World.setCell,Array.getElem?_modify,h]
section
variable {K:IntKind}
def Jn (K:IntKind)(w:World)(b:Nat)(l:List (Int×Value)):Prop:=
 ∃es clock,w.heap[b]? =some (.map es clock)/\Stamped es clock/\es.toList.map (fun e=>(e.key,e.val))=l.map (fun p=>(Value.int K p.1,p.2))
theorem Jn.of_block {w w':World}{b:Nat}{l:List (Int×Value)}(h:Jn K w b l)(he:w'.heap[b]? =w.heap[b]?):Jn K w' b l:=by
 obtain⟨es,c,h1,h2,h3⟩:=h;exact⟨es,c,he.trans h1,h2,h3⟩
theorem Jn.lt {w:World}{b:Nat}{l:List (Int×Value)}(h:Jn K w b l):b<w.heap.size:=by
 obtain⟨es,c,h1,_⟩:=h;exact Ay h1
theorem Jn.only {w w':World}{b:Nat}{l:List (Int×Value)}{S:List Nat}(h:Jn K w b l)(ho:Bc S w w')(hn:b∉S):Jn K w' b l:=h.of_block (ho.block b h.lt hn)
theorem Jn.new (w:World):Jn K (w.alloc (.map #[] 0)) w.heap.size []:=⟨#[],0,(MapKept.heap_alloc w _).1,stamped_empty 0,rfl⟩
def aE (l:List (Int×Value))(k:Int):Option Value:=(l.find? (fun p=>p.1==k)).map (·.2)
def G1 (z:Value):Option Value->Value
 |some v=> .tuple #[v,.bool true]
 |none=> .tuple #[z,.bool false]
def put:List (Int×Value)->Int->Value->List (Int×Value)
 |[],k,v=>[(k,v)]
 |p::r,k,v=>if p.1=k then(k,v)::r else p::put r k v
theorem Jn.size {l:List (Int×Value)}{es:Array MapEntry}(h:es.toList.map (fun e=>(e.key,e.val))=l.map (fun p=>(Value.int K p.1,p.2))):es.size=l.length:=by
 have:=Ar List.length h
 simpa using this
theorem Yj {l:List (Int×Value)}{es:Array MapEntry}(h:es.toList.map (fun e=>(e.key,e.val))=l.map (fun p=>(Value.int K p.1,p.2))){e:MapEntry}(he:e∈es.toList):∃p∈l,e.key= .int K p.1/\e.val=p.2:=by
 have:(e.key,e.val)∈es.toList.map (fun e=>(e.key,e.val)):=List.mem_map.2 ⟨e,he,rfl⟩
 rw[h] at this;obtain⟨p,hp,q⟩:=List.mem_map.1 this;simp only[Prod.mk.injEq] at q;exact⟨p,hp,q.1.symm,q.2.symm⟩
theorem My (k:Int):∀(es:List MapEntry) (l:List (Int×Value)) (i:Nat),es.map (fun e=>(e.key,e.val))=l.map (fun p=>(Value.int K p.1,p.2))->
 Instr.findNow (.int K) (.int K k) es i=some ((l.findIdx? (fun p=>p.1==k)).bind fun j=>(l[j]?).map fun p=>(i+j,p.2))
 |[],[],_,_=>rfl
 |[],_::_,_,h=>by simp at h
 |_::_,[],_,h=>by simp at h
 |e::es,p::l,i,h=>by
  simp only[List.map_cons,List.cons.injEq,Prod.mk.injEq] at h;obtain⟨⟨h1,h2⟩,h3⟩:=h;by_cases hk:p.1=k
  ·subst hk;simp [Instr.findNow,h1,Instr.sameNow,h2,List.findIdx?_cons]
  have hk':¬k=p.1:=fun q=>hk q.symm
  have hb:(k==p.1)=false:=by simpa using hk'
  have hb2:(p.1==k)=false:=by simpa using hk
  rw[show Instr.findNow (.int K) (.int K k) (e::es) i=Instr.findNow (.int K) (.int K k) es (i+1) from by simp [Instr.findNow,h1,Instr.sameNow,hb],My k es l (i+1) h3];exact zwu
theorem jJ (l:List (Int×Value))(k:Int):aE l k=(l.findIdx? (fun p=>p.1==k)).bind fun j=>(l[j]?).map (·.2):=by
 induction l with
 |nil=>rfl
 |cons p l ih=>
  unfold aE at ih ⊢;exact zxk
section
variable {P:Program} {w:World} {t kt et:TypeId} {b:Nat} {l:List (Int×Value)}
theorem Jn.keys {es:Array MapEntry}(h3:es.toList.map (fun e=>(e.key,e.val))=l.map (fun p=>(Value.int K p.1,p.2))):∀x∈es.toList,IsKey (.int K) x.key:=by
 intro x hx;obtain⟨p,_,hk,_⟩:=Yj h3 hx;rw[hk];rfl
theorem T4 (ht:P.underlying t=some (.map kt et))(hk:P.underlying kt=some (.int K))(h:Jn K w b l){z:Value}(hz:(zeroValue et).run P w= .ok z w)(k:Int):
 (Instr.lookup t (.map (some b)) (.int K k) true).run P w= .ok (G1 z (aE l k)) w:=by
 obtain⟨es,c,h1,h2,h3⟩:=h;have hf:=run_findKey (P:=P) (w:=w) hk (My k es.toList l 0 h3);rw[jJ];simp only[Instr.lookup,Sem.run_bind,run_underlying ht,MapKept.run_getObj_map h1,Result.andThen_ok,Sem.run_pure,run_checkKey (k:= .int K k) hk rfl,hf];cases hi:l.findIdx? (fun p=>p.1==k) with
 |none=>simp [hz,G1]
 |some j=>
  have hj:=(List.findIdx?_eq_some_iff_getElem.1 hi).1;simp [Ag hj,G1]
theorem sH (l:List (Int×Value))(k:Int)(v:Value):put l k v=match l.findIdx? (fun p=>p.1==k) with|some j=>l.set j (k,v)|none=>l++[(k,v)]:=by
 induction l with
 |nil=>rfl
 |cons p l ih=>
  unfold put;by_cases hk:p.1=k
  ·simp [hk,List.findIdx?_cons]
  have hb2:(p.1==k)=false:=by simpa using hk
  rw[Ao hk,ih];simp only[List.findIdx?_cons,hb2];cases l.findIdx? (fun p=>p.1==k)<;>simp
theorem Ck (ht:P.underlying t=some (.map kt et))(hk:P.underlying kt=some (.int K))(h:Jn K w b l)(k:Int)(v:Value):
 ∃w',(Instr.mapUpdate t (.map (some b)) (.int K k) v).run P w= .ok () w'/\Jn K w' b (put l k v)/\Bc [b] w w'/\w'.heap.size=w.heap.size:=by
 obtain⟨es,c,h1,h2,h3⟩:=h;have hfn:=My k es.toList l 0 h3;have hf:=run_findKey (P:=P) (w:=w) hk hfn;have hks:∀x∈es.toList,IsKey (.int K) x.key:=Jn.keys h3;have hlt:=Ay h1;rw[sH]
 have honly:∀o,Bc [b] w {w with heap:=w.heap.setIfInBounds b o}:=fun o=>⟨rfl,rfl,rfl,by simp,fun i _ hn=>by
  have:b≠i:=fun e=>hn (by simp [e])
  simp [this]⟩
 cases hi:l.findIdx? (fun p=>p.1==k) with
 |none=>
  rw[hi] at hf hfn;refine⟨{w with heap:=w.heap.setIfInBounds b (.map (es.push {key:= .int K k,val:=v,born:=c}) (c+1))},?_,?_,honly _,by simp⟩
  ·simp only[Instr.mapUpdate,Sem.run_bind,run_underlying ht,MapKept.run_getObj_map h1,Result.andThen_ok,run_checkKey (k:= .int K k) hk rfl,hf,Option.bind_none,MapKept.run_setObj_map _ h1]
  refine⟨_,_,(heap_set h1).1,stamped_push h2 ?_,?_⟩
  ·intro x hx hxk;obtain⟨p,hp,q,_⟩:=Yj h3 hx;rw[hxk] at q;cases q
   have:=List.findIdx?_eq_none_iff.1 hi p hp
   simp at this
  simp [h3]
 |some j=>
  have hjl:=(List.findIdx?_eq_some_iff_getElem.1 hi);obtain⟨hj,hjk,_⟩:=hjl;have hjk':(l[j]).1=k:=by simpa using hjk
  rw[hi] at hf hfn;simp only[Option.bind_some,Ag hj,Option.map_some,Nat.zero_add] at hf hfn;have hsz:es.size=l.length:=Jn.size h3;have hje:j<es.size:=by omega
  have hkey:es[j].key= .int K k/\es[j].val=l[j].2:=by
   have:=Ar (fun q=>q[j]?) h3
   simp only[List.getElem?_map,Array.getElem?_toList,Array.getElem?_eq_getElem hje,Ag hj,Option.map_some,Option.some.injEq,Prod.mk.injEq] at this;exact⟨this.1.trans (by rw[hjk']),this.2⟩
  refine⟨{w with heap:=w.heap.setIfInBounds b (.map (es.modify j fun e=>{e with key:= .int K k,val:=v}) c)},?_,?_,honly _,by simp⟩
  ·simp only[Instr.mapUpdate,Sem.run_bind,run_underlying ht,MapKept.run_getObj_map h1,Result.andThen_ok,run_checkKey (k:= .int K k) hk rfl,hf,Array.getElem?_eq_getElem hje,Option.map_some,Option.getD_some,hkey.1,run_keyThatStays (d:= .int K) (k:= .int K k) rfl,MapKept.run_setObj_map _ h1]
  refine⟨_,_,(heap_set h1).1,stamped_modify h2 _ _ (fun _ _=>rfl) (fun e' _ he'=>?_),?_⟩
  ·rw[Array.getElem?_eq_getElem hje] at he';cases he';exact hkey.1.symm
  apply List.ext_getElem?;intro i;simp only[List.getElem?_map,Array.getElem?_toList,Array.getElem?_modify,List.getElem?_set];have h3i:=Ar (fun q=>q[i]?) h3;simp only[List.getElem?_map,Array.getElem?_toList] at h3i;by_cases hij:j=i
  ·subst hij;simp [hj,Array.getElem?_eq_getElem hje]
  simp [hij,h3i]
end
end
open Go Go.RowKit Go.MapKept
theorem C9 {w:World}{B n sz:Nat}{e:TypeId}{v:Value}{xs:List Value}(h:w.ownsRow B e sz v n xs):∀k,v.ownBlock=some k->B<=k:=by
 intro k hk;rcases h.2 with ⟨rfl,_⟩|⟨g,cap,cur,rfl,hb,_⟩
 ·simp [Value.ownBlock] at hk
 simp only[Value.ownBlock,Option.some.injEq] at hk;omega
theorem Di {W w2:World}{base:Nat}{e:TypeId}{size:Nat}{v:Value}{n:Nat}{xs:List Value}(h:W.ownsRow base e size v n xs)(hb:Below W.heap.size W w2):w2.ownsRow base e size v n xs:=
 h.kept (row:=none) ⟨hb.os,hb.tape,hb.output,hb.size,fun i hi _=>hb.block i hi⟩ (by cases v.ownBlock<;>simp)
theorem Bm {W w2:World}{base:Nat}{e:TypeId}{size:Nat}{v:Value}{n:Nat}{xs:List Value}{S:List Nat}(h:W.ownsRow base e size v n xs)(hb:Bc S W w2)(hn:∀k,v.ownBlock=some k->k∉S):w2.ownsRow base e size v n xs:=by
 refine⟨h.1,?_⟩;rcases h.2 with q|⟨g,cap,cur,rfl,hb1,hg,r⟩
 ·exact .inl q
 exact .inr ⟨g,cap,cur,rfl,hb1,(hb.block g (Ay hg) (hn g rfl)).trans hg,r⟩
theorem Er {w:World}{B n sz:Nat}{e:TypeId}{v:Value}{xs:List Value}(h:w.ownsRow B e sz v n xs):∃a c,v= .slice a n c:=by
 rcases h.2 with ⟨rfl,q⟩|⟨g,cap,cur,rfl,_⟩
 ·exact⟨none,0,by rw[q]⟩
 exact⟨_,_,rfl⟩
theorem U7 {w:World}{B B' n sz:Nat}{e:TypeId}{v:Value}{xs:List Value}(h:w.ownsRow B e sz v n xs)(hB:B'<=B):w.ownsRow B' e sz v n xs:=by
 refine⟨h.1,?_⟩;rcases h.2 with q|⟨g,cap,cur,e,hb,r⟩
 ·exact .inl q
 exact .inr ⟨g,cap,cur,e,Al hB hb,r⟩
theorem A1 (w:World)(o:Obj):(w.alloc o).heap[w.heap.size]? =some o:=(MapKept.heap_alloc w o).1
theorem Bi {w:World}{B n s k:Nat}{t t':TypeId}{v:Value}{xs:List Value}{cs:Array Value}(h:w.ownsRow B t s v n xs)(hk:w.heap[k]? =some (.cells cs t' (0,0)))(ht:t≠t'):v.ownBlock≠some k:=by
 intro e;rcases h.2 with ⟨rfl,_⟩|⟨g,cap,cur,rfl,_,hg,_⟩
 ·cases e
 simp only[Value.ownBlock,Option.some.injEq] at e;subst e;rw[hg] at hk;injection hk with q;injection q with q1 q2;exact ht q2
open Go Go.RowKit
structure Wd where
 k:Int
 t:List UInt8
 v:Int×Int×List UInt8
structure Tkn where
 w:Wd
 line:Int
 col:Int
def v0:Int×Int×List UInt8:=(0,0,[])
def Ek:List Tkn->List Value
 |[]=>[]
 |t::l=> .int .u8 t.w.k:: .string ⟨t.w.t.toArray⟩:: .int .u8 t.w.v.1:: .int .i64 t.w.v.2.1:: .string ⟨t.w.v.2.2.toArray⟩:: .int .i64 t.line:: .int .i64 t.col::Ek l
theorem Py (l m:List Tkn):Ek (l++m)=Ek l++Ek m:=by
 induction l with
 |nil=>rfl
 |cons j l ih=>simp [Ek,ih]
theorem U2:∀(l:List Tkn) (i:Nat) (h:i<l.length),(Ek l)[i*7]? =some (.int .u8 l[i].w.k)/\(Ek l)[i*7+1]? =some (.string ⟨l[i].w.t.toArray⟩)/\(Ek l)[i*7+2]? =some (.int .u8 l[i].w.v.1)/\
 (Ek l)[i*7+3]? =some (.int .i64 l[i].w.v.2.1)/\(Ek l)[i*7+4]? =some (.string ⟨l[i].w.v.2.2.toArray⟩)/\(Ek l)[i*7+5]? =some (.int .i64 l[i].line)/\(Ek l)[i*7+6]? =some (.int .i64 l[i].col)
 |[],i,h=>by simp at h
 |t::l,0,_=>⟨rfl,rfl,rfl,rfl,rfl,rfl,rfl⟩
 |t::l,i+1,h=>by
  have:=U2 l i uB
  rw[show(i+1)*7=i*7+1+1+1+1+1+1+1 by omega];exact this
def I8 (w:World)(v:Value)(ts:List Tkn):Prop:=
 (v= .slice none 0 0/\ts=[])\/∃b c,v= .slice (some ⟨b,0,none⟩) ts.length c/\ts.length<=c/\b<w.heap.size/\∀j u,(Ek ts)[j]? =some u->w.cell? ⟨b,j,none⟩=some u
theorem I8.below {w w':World}{v:Value}{ts:List Tkn}(h:I8 w v ts)(hb:Below w.heap.size w w'):I8 w' v ts:=by
 rcases h with h|⟨b,c,h1,h4,h2,h3⟩
 ·exact .inl h
 exact .inr ⟨b,c,h1,h4,Nat.lt_of_lt_of_le h2 hb.size,fun j u hj=>(World.cell?_of_block (w:=w) (w':=w') (a:=⟨b,j,none⟩) (hb.block b h2)).trans (h3 j u hj)⟩
theorem I8.of_row {w:World}{B:Nat}{v:Value}{ts:List Tkn}(h:w.ownsRow B 63 7 v ts.length (Ek ts)):I8 w v ts:=by
 rcases h.2 with ⟨e,h0⟩|⟨g,cap,cur,rfl,_,hg,hc,_⟩
 ·exact .inl ⟨e,List.eq_nil_of_length_eq_zero h0⟩
 refine .inr ⟨g,cap,rfl,hc,Ay hg,fun j u hj=>?_⟩
 have:=h.cells (g:=g) rfl j u hj
 rwa [Addr.add_lit,Nat.zero_add] at this
theorem I8.form {w:World}{v:Value}{ts:List Tkn}(h:I8 w v ts):∃a c,v= .slice a ts.length c:=by
 rcases h with ⟨rfl,rfl⟩|⟨b,c,rfl,_⟩
 ·exact⟨none,0,rfl⟩
 exact⟨_,_,rfl⟩
theorem I8.at {w:World}{v:Value}{ts:List Tkn}(h:I8 w v ts){k:Nat}(hk:k<ts.length):∃b c,v= .slice (some ⟨b,0,none⟩) ts.length c/\b<w.heap.size/\
 w.cell? ⟨b,k*7,none⟩=some (.int .u8 ts[k].w.k)/\w.cell? ⟨b,k*7+1,none⟩=some (.string ⟨ts[k].w.t.toArray⟩)/\w.cell? ⟨b,k*7+2,none⟩=some (.int .u8 ts[k].w.v.1)/\w.cell? ⟨b,k*7+3,none⟩=some (.int .i64 ts[k].w.v.2.1)/\
 w.cell? ⟨b,k*7+4,none⟩=some (.string ⟨ts[k].w.v.2.2.toArray⟩)/\w.cell? ⟨b,k*7+5,none⟩=some (.int .i64 ts[k].line)/\w.cell? ⟨b,k*7+6,none⟩=some (.int .i64 ts[k].col):=by
 rcases h with ⟨_,rfl⟩|⟨b,c,rfl,_,h2,h3⟩
 ·simp at hk
 obtain⟨g0,g1,g2,g3,g4,g5,g6⟩:=U2 ts k hk;exact⟨b,c,rfl,h2,h3 _ _ g0,h3 _ _ g1,h3 _ _ g2,h3 _ _ g3,h3 _ _ g4,h3 _ _ g5,h3 _ _ g6⟩
theorem I8.kept {w w':World}{v:Value}{ts:List Tkn}(h:I8 w v ts)(hz:w.heap.size<=w'.heap.size)(he:∀g,v.ownBlock=some g->g<w.heap.size->w'.heap[g]? =w.heap[g]?):I8 w' v ts:=by
 rcases h with h|⟨b,c,rfl,h4,h2,h3⟩
 ·exact .inl h
 exact .inr ⟨b,c,rfl,h4,Nat.lt_of_lt_of_le h2 hz,fun j u hj=>(World.cell?_of_block (w:=w) (w':=w') (a:=⟨b,j,none⟩) (he b rfl h2)).trans (h3 j u hj)⟩
theorem I8.lt {w:World}{v:Value}{ts:List Tkn}(h:I8 w v ts):∀g,v.ownBlock=some g->g<w.heap.size:=fun g e=>by
 rcases h with ⟨rfl,_⟩|⟨b,c,rfl,h4,h2,h3⟩
 ·cases e
 injection e with e;subst e;exact h2
end Go.Proofs.YtmpfilddeglgbaaGreatDoor
