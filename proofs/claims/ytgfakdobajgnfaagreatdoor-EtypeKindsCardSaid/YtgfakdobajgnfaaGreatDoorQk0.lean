import Derived.Deep.RegionHeld3
import Derived.WalkLawsBesides
import Derived.WalkSpells
import Derived.Deep.AppendLies
import Derived.Shelf.Strings.OnBuilder
import Derived.Shelf.Strings.Trim
import Derived.Shelf.Small.Wraps
import Derived.Shelf.Strconv.Itoa4
import Derived.Shelf.Strconv.ErrVarParseInt
import Derived.Shelf.Strings.Shaped
import Derived.Shelf.GgClosure.StringsRunes
import Derived.Shelf.Strings.SplitShaped
import Derived.Shelf.Strings.Runes
import Derived.Shelf.Strings.AsciiSet
import Derived.Shelf.Strings.FuncGrows
import Derived.Shelf.Strings.BuilderCap
import Derived.Shelf.Slices.Equal
import Derived.Lib.SpaceUEq
import Derived.Lib.ItoaLen
import Derived.Lib.SmallJoins
import Derived.Laws.EntriesVeiled
import Derived.RangeFuncWrites
import Derived.RangeFuncCalls
import Derived.Shelf.RegionOpen
import Derived.OwnWalkIn
import Derived.LoopNIn
import Derived.Sort.CutIn
import Derived.Great.Walk
import Derived.Lay
import Derived.SevenTiedAt
import Derived.HandedShaped
import Derived.Laws.AppendOwnNone
import Derived.Test.YtgfakdobajgnfaaGreatDoorProg
set_option maxRecDepth 100000
set_option maxHeartbeats 16000000
namespace Go.Proofs
theorem Aa{α:Type}{a:α}{l:List α}:(a::l).length=l.length+1:=List.length_cons
theorem Ab{α:Type}{l m:List α}:(l++m).length=l.length+m.length:=List.length_append
theorem Ac{α:Type}(l:List α)(i:Nat)(a:α):l.toArray.setIfInBounds i a=(l.set i a).toArray:=List.setIfInBounds_toArray l i a
theorem Ad{α:Type}{a b:α}{l:List α}:(a::l).set 0 b=b::l:=rfl
theorem Ae{α:Type}{a b:α}{l:List α}{n:Nat}:(a::l).set (n+1) b=a::l.set n b:=rfl
theorem Af{α:Type}[BEq α][LawfulBEq α]{a b:α}:(a==b)=false↔a≠b:=beq_eq_false_iff_ne
theorem Ag{α:Type}{l:List α}{i:Nat}(h:i<l.length):l[i]?=some l[i]:=List.getElem?_eq_getElem h
theorem Ah{α:Type}{l:List α}{i:Nat}{a:α}:l[i]?=some a↔∃h:i<l.length,l[i]=a:=List.getElem?_eq_some_iff
theorem Ai{α:Type}{a:α}{l:List α}:a∈a::l:=List.mem_cons_self
theorem Aj{α:Type}(b:α){a:α}{l:List α}(h:a∈l):a∈b::l:=List.mem_cons_of_mem b h
theorem Ak(n:Nat):n≤n:=Nat.le_refl n
theorem Al{n m k:Nat}(h:n≤m)(c:m≤k):n≤k:=Nat.le_trans h c
theorem Am{p:Prop}[Decidable p](h:p):decide p=true:=decide_eq_true h
theorem An{p:Prop}[Decidable p](h:¬p):decide p=false:=decide_eq_false h
theorem Ao{c:Prop}{h:Decidable c}(n:¬c){α:Sort _}{t e:α}:ite c t e=e:=if_neg n
theorem Ap{c:Prop}{h:Decidable c}(n:c){α:Sort _}{t e:α}:ite c t e=t:=if_pos n
theorem Aq(B:Nat)(w:Go.World):Go.RowKit.Below B w w:=Go.RowKit.Below.refl B w
theorem Ar{α:Sort _}{β:Sort _}{a b:α}(f:α→β)(h:a=b):f a=f b:=congrArg f h
theorem Au:type_of% @Go.bodyPost_ret:=@Go.bodyPost_ret
theorem Av:type_of% @Go.AllReadyIn.cons:=@Go.AllReadyIn.cons
theorem Aw:type_of% @Go.wpAnyIn_take:=@Go.wpAnyIn_take
theorem rF{P:Prop}(h:P:=by omega):P:=h
theorem rG{P:Prop}(h:P:=by kernel_rfl):P:=h
theorem rH{P:Prop}(h:P:=by decide):P:=h
theorem rI{P:Prop}(h:P:=by simp):P:=h
theorem rJ{P:Prop}(h:P:=by simp [results,Tryz.results211,go_sem, *]):P:=h
theorem rK{P:Prop}(h:P:=by simp [results,Tryz.results159,go_sem, *]):P:=h
theorem rL{P:Prop}(h:P:=by simp;intro e;exact HAP.out (by rw[e];exact Ai)):P:=h
theorem rM{P:Prop}(h:P:=by simp;omega):P:=h
theorem rN{P:Prop}(h:P:=by simp [results,Tryz.results87,go_sem, *]):P:=h
theorem rO{P:Prop}(h:P:=by rw[←e1];exact HT.out):P:=h
theorem rP{P:Prop}(h:P:=by unfold maxLen;omega):P:=h
theorem rQ{P:Prop}(h:P:=by simp [results,Tryz.results90,go_sem, *]):P:=h
theorem rR{P:Prop}(h:P:=by simp only[Bu];omega):P:=h
theorem rS{P:Prop}(h:P:=by simp [Value.oneCell']):P:=h
theorem rT{P:Prop}(h:P:=by rw[e];exact Ai):P:=h
theorem rU{P:Prop}(h:P:=by rw[e];rfl):P:=h
theorem rV{P:Prop}(h:P:=by simp [results,Tryz.results51,go_sem, *]):P:=h
theorem rW{P:Prop}(h:P:=by rw[HZ.out];omega):P:=h
theorem rX{P:Prop}(h:P:=by simp [results,Tryz.results170,go_sem]):P:=h
theorem rY{P:Prop}(h:P:=by simp;try omega):P:=h
theorem rZ{P:Prop}(h:P:=by simp only[Aa];omega):P:=h
theorem sA{P:Prop}(h:P:=by simp only;omega):P:=h
theorem sB{P:Prop}(h:P:=by simp only[eqB,Dx];have:¬k1=k2:=(fun e=>by subst e;exact hvv (hkv.symm.trans hku));simp [this]):P:=h
theorem sC{P:Prop}(h:P:=by simp [results,Tryz.results18,go_sem, *]):P:=h
theorem sD{P:Prop}(h:P:=by simpa using h):P:=h
theorem sE{P:Prop}(h:P:=by simpa using hm):P:=h
theorem sF{P:Prop}(h:P:=by rw[List.length_drop];omega):P:=h
theorem sG{P:Prop}(h:P:=by simp only[Gh.ok];omega):P:=h
theorem sH{P:Prop}(h:P:=by simp [results,Tryz.results146,go_sem, *]):P:=h
theorem sI{P:Prop}(h:P:=by simp [results,Tryz.results57,go_sem, *]):P:=h
theorem sJ{P:Prop}(h:P:=by simp [results,Tryz.results54,go_sem, *]):P:=h
theorem sK{P:Prop}(h:P:=by rw[←e];unfold C3;rw[hmy];rfl):P:=h
theorem sL{P:Prop}(h:P:=by rw[hbj];exact hdg):P:=h
theorem sM{P:Prop}(h:P:=by rw[HBL.out];omega):P:=h
theorem sN{P:Prop}(h:P:=by simp only[Bu,Aa] at hk ⊢;omega):P:=h
theorem sO{P:Prop}(h:P:=by simp [results,Tryz.results21,go_sem, *]):P:=h
theorem sP{P:Prop}(h:P:=by simp [results,Tryz.results20,go_sem, *]):P:=h
theorem sQ{P:Prop}(h:P:=by rw[List.length_drop,Aa];omega):P:=h
theorem sR{P:Prop}(h:P:=by rw[hbj];exact hbad):P:=h
theorem sS{P:Prop}(h:P:=by rw[Aa] at hk;omega):P:=h
theorem sT{P:Prop}(h:P:=by show b<_;rw[HS.out];omega):P:=h
theorem sU{P:Prop}(h:P:=by simpa using h1):P:=h
theorem sV{P:Prop}(h:P:=by simp [results,Tryz.results145,go_sem, *]):P:=h
theorem sW{P:Prop}(h:P:=by simp [results,Tryz.results125,go_sem, *]):P:=h
theorem sX{P:Prop}(h:P:=by rw[Hlt.out];exact hlong):P:=h
theorem sY{P:Prop}(h:P:=by simp only[Bu] at hk ⊢;omega):P:=h
theorem sZ{P:Prop}(h:P:=by simp [results,Tryz.results80,go_sem, *]):P:=h
theorem tA{P:Prop}(h:P:=by simp [results,Tryz.results35,go_sem, *]):P:=h
theorem tB{P:Prop}(h:P:=by simp at hm;rw[←hm];exact e):P:=h
theorem tC{P:Prop}(h:P:=by exact Al (D0 (by decide)) (by decide)):P:=h
theorem tD{P:Prop}(h:P:=by unfold F1 at hC;omega):P:=h
theorem tE{P:Prop}(h:P:=by unfold Cp at hD;omega):P:=h
theorem tF{P:Prop}(h:P:=by rw[B3];rfl):P:=h
theorem tG{P:Prop}(h:P:=by simp;intro e;exact(Cs.apart (H.out.below HB1.out) HPB1.out (by decide) (by decide)) (by rw[e];exact Ai)):P:=h
theorem tH{P:Prop}(h:P:=by simp only[World.size_alloc];omega):P:=h
theorem tI{P:Prop}(h:P:=by rfl):P:=h
theorem tJ{P:Prop}(h:P:=by rw[HZ.out];have:=HU.out.on.size;simp at this;omega):P:=h
theorem tK{P:Prop}(h:P:=by rw[HZ1.out];have:=HSW.out;omega):P:=h
theorem tL{P:Prop}(h:P:=by rw[←hZ];exact(HO.out.below.trans (HbO.out.mono hwB)).setCell (by show w.heap.size<=g;omega) _):P:=h
theorem tM{P:Prop}(h:P:=by simpa using hi):P:=h
theorem tN{P:Prop}(h:P:=by simp only[Bu,Aa];omega):P:=h
theorem tO{P:Prop}(h:P:=by rw[Hok.out];simp [Ef,Jd];omega):P:=h
theorem tP{P:Prop}(h:P:=by rw[Hz0.out];omega):P:=h
theorem tQ{P:Prop}(h:P:=by show ¬12<(dl T).length;rw[HTL.out];exact h12):P:=h
theorem tR{P:Prop}(h:P:=by rw[List.length_drop,A5];omega):P:=h
theorem tS{P:Prop}(h:P:=by rw[HXL.out,e]):P:=h
theorem tT{P:Prop}(h:P:=by show((w.alloc _).alloc _).heap.size=_;simp):P:=h
theorem tU{P:Prop}(h:P:=by show 0<=7;omega):P:=h
theorem tV{P:Prop}(h:P:=by simp;intro e;exact(hm4.apart HPB4.out (by decide) (by decide)) (by rw[e];exact Ai)):P:=h
theorem tW{P:Prop}(h:P:=by simp;intro e;exact(hf4.apart HPB4.out (by decide) (by decide)) (by rw[e];exact Ai)):P:=h
theorem tX{P:Prop}(h:P:=by simp;intro e;exact(hd2.apart HPB2.out (by decide) (by decide)) (by rw[e];exact Ai)):P:=h
theorem tY{P:Prop}(h:P:=by simp only[eqB,Dx];simp [*]):P:=h
theorem tZ{P:Prop}(h:P:=by simp [results,Tryz.results191,go_sem, *]):P:=h
theorem uA{P:Prop}(h:P:=by simp [results,Tryz.results147,go_sem, *]):P:=h
theorem uB{P:Prop}(h:P:=by simp [results,Tryz.results56,go_sem, *]):P:=h
theorem uC{P:Prop}(h:P:=by simp [results,Tryz.results38,go_sem, *]):P:=h
theorem uD{P:Prop}(h:P:=by simpa using h2):P:=h
theorem uE{P:Prop}(h:P:=by simp [results,Tryz.results214,go_sem]):P:=h
theorem uF{P:Prop}(h:P:=by simp [results,Tryz.results141,go_sem]):P:=h
theorem uG{P:Prop}(h:P:=by have:=HU.out.on.size;simpa using this):P:=h
theorem uH{P:Prop}(h:P:=by rw[Int.natAbs_natCast];exact Al (D0 (by have:=HD9.out;omega)) (by decide)):P:=h
theorem uI{P:Prop}(h:P:=by rw[Da,HF.out];simp [dl]):P:=h
theorem uJ{P:Prop}(h:P:=by rw[hk12];simp [eqB,Dx]):P:=h
theorem uK{P:Prop}(h:P:=by assumption):P:=h
theorem uL{P:Prop}(h:P:=by show 12<(r.take (Gi r)).length;rw[HMM.out,HTK.out,HTL.out];exact h12):P:=h
theorem uM{P:Prop}(h:P:=by rw[Ir];omega):P:=h
theorem uN{P:Prop}(h:P:=by rw[Array.length_toList,hcs];omega):P:=h
theorem uO{P:Prop}(h:P:=by simpa using hnb):P:=h
theorem uP{P:Prop}(h:P:=by have:=HD9.out;omega):P:=h
theorem uQ{P:Prop}(h:P:=by rw[gU,Int.natAbs_natCast];exact Al (bP HLX.out) (by decide)):P:=h
theorem zz9{P:Prop}(h:P:=by
 rw[hwd] at hHeld ⊢;refine QH 0 ⟨some 24,_,_,_,_,_⟩ (h:=?_)
 try simp only[Act.put,Ac,Ad,Ae]
 have HMONO:=Ax (show ∀F∈[Jb 10,Two (n/10) (n % 10),Bx wd.heap.size 79 #[.bool false,.slice none 0 0],Bx wd.heap.size 79 #[.bool false,.slice none 0 0],Two (n/10) (n % 10),Jb (n/10),Jb (n % 10)],∀v w w',F v w->Below w.heap.size w w'->F v w' from Ca (fun _ _ _ h hb=>h.below hb)<|Ca (fun _ _ _ h hb=>h.below hb)<|Ca (fun _ _ _ h hb=>h.below hb)<|Ca (fun _ _ _ h hb=>h.below hb)<|Ca (fun _ _ _ h hb=>h.below hb)<|Ca (fun _ _ _ h hb=>h.below hb)<|Ca (fun _ _ _ h hb=>h.below hb)<|J8);refine Em (Inv:=Mc wd.heap.size wd [Jb 10,Two (n/10) (n % 10),Bx wd.heap.size 79 #[.bool false,.slice none 0 0],Bx wd.heap.size 79 #[.bool false,.slice none 0 0],Two (n/10) (n % 10),Jb (n/10),Jb (n % 10)] [2,3]) 7 [1,2,6,7,3,4,5] [some 25,some 26,some 7,some 8,some 23,some 27,some 28] [[],[0],[],[],[1],[4],[4]] [false,false,false,false,true,true,true] rG (fun _ _ _ _ _ h=>h) rG ?_ (Mc.start rfl rfl) ?_ ?_
 ·intro d u V hI;exact HSL.out V hI.1
 ·refine lt7 ?_ ?_ ?_ ?_ ?_ ?_ ?_
  ·rw[Ao rH];refine OneB.mk 1 ⟨some 25,_,_,_,_,_⟩ _ rfl rfl rfl rfl HMONO.out (Ak _) ?_;intro d u V hd hu hdep hF hbV hzV K hK;obtain⟨x0,x1,x2,x3,x4,x5,x6,rfl⟩:=F2 hu;obtain⟨b0,b1,b2,b3,b4,b5,b6,rfl⟩:=F2 hd;obtain⟨f0,f1,f2,f3,f4,f5,f6,_⟩:=hF;clear hd hu hdep f0 f1 f2 f3 f4 f5 f6 HMONO;have HBV:=Ax hbV;have HZV:=Ax hzV;clear hbV hzV;simp only[Bo,Act.put,Ac,Ad,Ae] at hK ⊢
   go_simp
   go_at_call 47
   refine Calls.mono (J5 10 rH rH) ?_;rintro e V1 ⟨⟨v1,rfl,hv1⟩,hb1⟩
   (try go_wp2_with fail)
   refine hK.out _ _ hb1 hv1 (fun h=>absurd h rH)
  ·rw[Ao rH];refine OneB.mk 2 ⟨some 26,_,_,_,_,_⟩ _ rfl rfl rfl rfl HMONO.out (Ak _) ?_;intro d u V hd hu hdep hF hbV hzV K hK;obtain⟨x0,x1,x2,x3,x4,x5,x6,rfl⟩:=F2 hu;obtain⟨b0,b1,b2,b3,b4,b5,b6,rfl⟩:=F2 hd;obtain⟨f0,f1,f2,f3,f4,f5,f6,_⟩:=hF;have g0:=f0 (List.all_eq_true.1 hdep 0 rH);clear hd hu hdep f0 f1 f2 f3 f4 f5 f6 HMONO
   (try dsimp only at g0)
   have HBV:=Ax hbV;have HZV:=Ax hzV;clear hbV hzV;simp only[Bo,Act.put,Ac,Ad,Ae] at hK ⊢;have HQ:=Ax (cE (X:=n) (Y:=10) (HLN.out V HBV.out) g0 rH (by have:=HPP.out.2;omega) (Al (D0 rH) rH));clear g0
   go_simp
   go_at_call 77
   refine HQ.out.mono ?_;rintro e V1 ⟨⟨v1,v2,rfl,hv1,hv2⟩,hb1⟩
   (try go_wp2_with fail)
   refine hK.out _ _ hb1 ⟨v1,v2,rfl,hv1,hv2⟩ (fun h=>absurd h rH)
  ·rw[Ao rH];refine OneB.mk 6 ⟨some 7,_,_,_,_,_⟩ _ rfl rfl rfl rfl HMONO.out (Ak _) ?_;intro d u V hd hu hdep hF hbV hzV K hK;obtain⟨x0,x1,x2,x3,x4,x5,x6,rfl⟩:=F2 hu;obtain⟨b0,b1,b2,b3,b4,b5,b6,rfl⟩:=F2 hd;obtain⟨f0,f1,f2,f3,f4,f5,f6,_⟩:=hF;clear hd hu hdep f0 f1 f2 f3 f4 f5 f6 HMONO;have HBV:=Ax hbV;have HZV:=Ax hzV;clear hbV hzV;simp only[Bo,Act.put,Ac,Ad,Ae] at hK ⊢
   go_simp
   (try go_wp2_with fail)
   refine hK.out _ _ ((Aq _ _).alloc (Ak _) _) ⟨_,rfl,HZV.out,(MapKept.heap_alloc V _).1⟩ (fun _=>⟨rfl,by simp⟩)
  ·rw[Ao rH];refine OneB.mk 7 ⟨some 8,_,_,_,_,_⟩ _ rfl rfl rfl rfl HMONO.out (Ak _) ?_;intro d u V hd hu hdep hF hbV hzV K hK;obtain⟨x0,x1,x2,x3,x4,x5,x6,rfl⟩:=F2 hu;obtain⟨b0,b1,b2,b3,b4,b5,b6,rfl⟩:=F2 hd;obtain⟨f0,f1,f2,f3,f4,f5,f6,_⟩:=hF;clear hd hu hdep f0 f1 f2 f3 f4 f5 f6 HMONO;have HBV:=Ax hbV;have HZV:=Ax hzV;clear hbV hzV;simp only[Bo,Act.put,Ac,Ad,Ae] at hK ⊢
   go_simp
   (try go_wp2_with fail)
   refine hK.out _ _ ((Aq _ _).alloc (Ak _) _) ⟨_,rfl,HZV.out,(MapKept.heap_alloc V _).1⟩ (fun _=>⟨rfl,by simp⟩)
  ·rw[Ap rH];refine OneBP.mk 3 ⟨some 23,_,_,_,_,_⟩ _ rfl rfl rfl rfl rH ?_;intro d u V hd hu hdep hF hbV hzV;obtain⟨x0,x1,x2,x3,x4,x5,x6,rfl⟩:=F2 hu;obtain⟨b0,b1,b2,b3,b4,b5,b6,rfl⟩:=F2 hd;obtain⟨f0,f1,f2,f3,f4,f5,f6,_⟩:=hF;have g1:=f1 (List.all_eq_true.1 hdep 1 rH);clear hd hu hdep f0 f1 f2 f3 f4 f5 f6 HMONO
   (try dsimp only at g1)
   have HBV:=Ax hbV;have HZV:=Ax hzV;clear hbV hzV;refine⟨x1,Or.inl ⟨by rfl,fun W hSW=>?_⟩,g1⟩;simp only[Bo,Act.put,Ac,Ad,Ae];clear HBV HZV
   (try dsimp only at hSW)
   (first|(go_simp;done)|(go_simp;with_reducible rfl))
  ·rw[Ap rH];refine OneBP.mk 4 ⟨some 27,_,_,_,_,_⟩ _ rfl rfl rfl rfl rH ?_;intro d u V hd hu hdep hF hbV hzV;obtain⟨x0,x1,x2,x3,x4,x5,x6,rfl⟩:=F2 hu;obtain⟨b0,b1,b2,b3,b4,b5,b6,rfl⟩:=F2 hd;obtain⟨f0,f1,f2,f3,f4,f5,f6,_⟩:=hF;have g4:=f4 (List.all_eq_true.1 hdep 4 rH);clear hd hu hdep f0 f1 f2 f3 f4 f5 f6 HMONO
   (try dsimp only at g4)
   have HBV:=Ax hbV;have HZV:=Ax hzV;clear hbV hzV;obtain⟨v1,v2,rfl,hv1,hv2⟩:=g4;refine⟨v1,Or.inl ⟨by rfl,fun W hSW=>?_⟩,hv1⟩;simp only[Bo,Act.put,Ac,Ad,Ae];clear HBV HZV
   (try dsimp only at hSW)
   (first|(go_simp;done)|(go_simp;with_reducible rfl))
  rw[Ap rH];refine OneBP.mk 5 ⟨some 28,_,_,_,_,_⟩ _ rfl rfl rfl rfl rH ?_;intro d u V hd hu hdep hF hbV hzV;obtain⟨x0,x1,x2,x3,x4,x5,x6,rfl⟩:=F2 hu;obtain⟨b0,b1,b2,b3,b4,b5,b6,rfl⟩:=F2 hd;obtain⟨f0,f1,f2,f3,f4,f5,f6,_⟩:=hF;have g4:=f4 (List.all_eq_true.1 hdep 4 rH);clear hd hu hdep f0 f1 f2 f3 f4 f5 f6 HMONO
  (try dsimp only at g4)
  have HBV:=Ax hbV;have HZV:=Ax hzV;clear hbV hzV;obtain⟨v1,v2,rfl,hv1,hv2⟩:=g4;refine⟨v2,Or.inl ⟨by rfl,fun W hSW=>?_⟩,hv2⟩;simp only[Bo,Act.put,Ac,Ad,Ae];clear HBV HZV
  (try dsimp only at hSW)
  (first|(go_simp;done)|(go_simp;with_reducible rfl))
 intro u V hu hI;obtain⟨x0,x1,x2,x3,x4,x5,x6,rfl⟩:=F2 hu;obtain⟨hbV,hzV,⟨f0,f1,f2,f3,f4,f5,f6,_⟩,hDst⟩:=hI;have f0:=f0 rfl;have f1:=f1 rfl;have f2:=f2 rfl;have f3:=f3 rfl;have f4:=f4 rfl;have f5:=f5 rfl;have f6:=f6 rfl;clear hu HMONO;simp only[Bo,Act.put,Ac,Ad,Ae];have hHeld:=HSL.out V hbV;obtain⟨p2,rfl,hp2,hb2⟩:=f2;obtain⟨p3,rfl,hp3,hb3⟩:=f3;have hne:p2≠p3:=fun e=>hDst.2 2 rH 3 rH rH rfl rfl rU
 obtain⟨a5,n5,c5,rfl,hd5⟩:=Bm.nat f5;obtain⟨a6,n6,c6,rfl,hd6⟩:=Bm.nat f6;have hlt:=Bn hHeld.1;have hlw:=Bn m0d;have n1:¬p2=w.heap.size+1:=by intro e;simp at hlw;omega
 have n2:¬p3=w.heap.size+1:=by intro e;simp at hlw;omega
 have n3:¬w.heap.size+1=p2:=fun e=>n1 e.symm
 have n4:¬w.heap.size+1=p3:=fun e=>n2 e.symm
 have n5':¬p3=p2:=fun e=>hne e.symm
 obtain⟨c20,c21,cf2⟩:=A1 hb2;obtain⟨c30,c31,cf3⟩:=A1 hb3;have cf20:=cf2 0;have cf21:=cf2 1;have cf30:=cf3 0;have cf31:=cf3 1;obtain⟨hh0,hh1⟩:=hHeld;have hHeld:=HSL.out V hbV;have H5:=Ax hd5;have H6:=Ax hd6;have HB2:=Ax (And.intro hb2 hb3);have HP:=Ax (And.intro hp2 hp3);have HBV:=Ax (And.intro hbV hzV);clear f0 f1 f4 f5 f6 hDst hd5 hd6 hb2 hb3 hp2 hp3 hlt hlw cf2 cf3 hbV hzV;refine wpAnyH_ready (rs:=[8]) rG rI ?_;refine AllReadyH.cons (o:=⟨none,_,_,_,_,_⟩) (rs:=[]) rfl (fun K hK=>?_) AllReadyH.nil
 go_simp
 try go_wp2_with fail
 clear hHeld;refine hK.out _ _ ?_ (fun hHeld=>?_)
 ·(try dsimp only);go_keep
 clear hK K
 try simp only[Act.put,Ac,Ad,Ae]
 refine wpAnyH_ready (rs:=[9]) rG rI ?_;refine AllReadyH.cons (o:=⟨none,_,_,_,_,_⟩) (rs:=[]) rfl (fun K hK=>?_) AllReadyH.nil
 go_simp
 try go_wp2_with fail
 clear hHeld;refine hK.out _ _ ?_ (fun hHeld=>?_)
 ·(try dsimp only);go_keep
 clear hK K
 try simp only[Act.put,Ac,Ad,Ae]
 refine wpAnyH_done rG ?_ _;refine NoPanic.normal ?_;obtain⟨F,hF⟩:∃F,(((V.setCell ⟨p2,0,none⟩ (.bool false)).setCell ⟨p2,1,none⟩ (.slice a5 n5 c5)).setCell ⟨p3,0,none⟩ (.bool false)).setCell ⟨p3,1,none⟩ (.slice a6 n6 c6)=F:=⟨_,rfl⟩;rw[hF];obtain⟨hF2,hF3,hFo,hFn⟩:=Ry HB2.out.1 HB2.out.2 hne hF;have hFb:Below wd.heap.size wd F:=Bq HBV.out.1 hFo (by simp;exact⟨HP.out.1,HP.out.2⟩) HBV.out.2;have H5F:=Ax (hFn _ _ (St H5.out));have h6F:=Bm.natk (hFn _ _ (St H6.out));have hdig:=Uk h6F.2 (Nat.mod_lt _ rH);have hd10:n % 10<10:=Nat.mod_lt _ rH;obtain⟨dd,hdd⟩:∃dd,n % 10=dd:=⟨_,rfl⟩;rw[hdd] at hdig hd10;have HDD:=Ax hdd;clear h6F hdd hHeld c20 c21 c30 c31 cf20 cf21 cf30 cf31 hh0 hh1 hF hFn hFo HB2 H5 H6;obtain⟨c20,c21,cf2⟩:=A1 hF2;obtain⟨c30,c31,cf3⟩:=A1 hF3;have HFF:=Ax (And.intro hF2 (And.intro hF3 hFb));clear hF2 hF3 hFb;obtain⟨cs,hcs⟩:∃cs:ByteArray,cs=⟨#[UInt8.ofNat (48+dd)]⟩:=⟨_,rfl⟩;have HPN:=Ax (Ws HPP.out.1 HGO.out HDD.out hcs HN.out HK.out);have HCS:=Ax hcs;clear hcs;have hcsz:cs.size=1:=by rw[HCS.out];rfl
 have hcsl:cs.size<=1:=by omega
 clear hcsz;rcases hdig with ⟨rfl,rfl⟩|⟨hd1,rfl,b6,o6,rfl,hc6⟩
 ·have hbF:=HA.out.2.trans (HFF.out.2.2.mono HA.out.2.size);have hcv:=Kw F 0 (48) rF rF;rw[←HCS.out] at hcv;have HDN:=Ax (Ra HA.out.1 hbF H5F.out (.cells #[.int .u8 (48)] 5));obtain⟨e0,e1,ef⟩:=A1 (HA.out.1.box hbF (.cells #[.int .u8 (48)] 5));have ef0:=ef 0;have ef1:=ef 1;have hal:=(Aq F.heap.size F).alloc (Ak _) (.cells #[.int .u8 (48)] 5);have c20:=A4 hal c20;have c21:=A4 hal c21;clear hbF ef cf2 cf3 hal;go_wp2_with fail;go_roundw
  case rel=>exact⟨n/10,cs++sl,a5,n5,c5,rfl,HPN.out.1,Ax ⟨HDN.out.1,HDN.out.2.1,HDN.out.2.2,Al (Fh (Nat.div_le_self _ _)) HPP.out.2,HPN.out.2.1⟩⟩
  case measure=>exact HPN.out.2.2
 have hbF:=HA.out.2.trans (HFF.out.2.2.mono HA.out.2.size);have hcv:=Kw F dd (48+(dd:Int)) rF rF;rw[←HCS.out] at hcv;have HDN:=Ax (Ra HA.out.1 hbF H5F.out (.cells #[.int .u8 (48+(dd:Int))] 5));obtain⟨e0,e1,ef⟩:=A1 (HA.out.1.box hbF (.cells #[.int .u8 (48+(dd:Int))] 5));have ef0:=ef 0;have ef1:=ef 1;have hal:=(Aq F.heap.size F).alloc (Ak _) (.cells #[.int .u8 (48+(dd:Int))] 5);have c20:=A4 hal c20;have c21:=A4 hal c21;clear hbF ef cf2 cf3 hal;go_wp2_with fail;go_roundw
 case rel=>exact⟨n/10,cs++sl,a5,n5,c5,rfl,HPN.out.1,Ax ⟨HDN.out.1,HDN.out.2.1,HDN.out.2.2,Al (Fh (Nat.div_le_self _ _)) HPP.out.2,HPN.out.2.1⟩⟩
 case measure=>exact HPN.out.2.2):P:=h
theorem zz8{P:Prop}(h:P:=by
 rw[hW5] at HM5 ho5 hnb5;have HN5:=Ax hnb5;have HW5:=Ax hW5;have HR5:=Ax (HR.out.trans (Rch.of_only v7 ho5));clear hkb kf ho5 hnb5 hW5 hx5;go_upto_region 15 with fail
 rw[HW5.out];clear k0 k1 k2 k3 k4 k5 kf2 hx5';obtain⟨m0,m1,m2,m3,m4,m5,m6,m7,_⟩:=Df HN5.out;have HP:=Ax (D3 HM5.out rF (Al hB HR5.out.only.size) ⟨c.op,v0,[],c.line,c.col⟩ ka7 (ks.length+1) kc7);have HP:Hid (Calls Tryz.prog 166 #[.pointer (some ⟨b,0,none⟩),.agg #[.int .u8 c.op,.int .u8 0,.int .i64 0,.string ⟨#[]⟩,.string ⟨#[]⟩,.slice ka7 (ks.length+1) kc7,.int .i64 c.line,.int .i64 c.col]] W5 _):=Ax HP.out;go_wp2_with fail;refine HP.out.mono ?_;rintro e V6 ⟨z6,v6,rfl,hx6,hr6⟩;have HF:=Ax (show Bw w B X b vl ts (t::t'::q') d vt nds xx (.returned (.int .i64 z6)) V6 from⟨z6,v6,rfl,HR5.out.trans hr6,by rw[HLE.out];exact hx6.mono rZ H.out.few⟩);clear hx6 hr6 HP m0 m1 m2 m3 m4 m5 m6 m7;go_wp2_with fail;go_ret
 exact HF.out):P:=h
theorem zz7{P:Prop}(h:P:=by
 refine wpAnyIn_ready (rs:=[5]) rG rI ?_;refine Av rfl (fun K hK=>?_) ?_
 ·go_simp
  refine⟨trivial,?_⟩;refine(Hcb.out).mono ?_;rintro e X ⟨hb,he⟩;simp only[Fu] at he;subst he;have hb3:=((Aq _ (V.alloc (.cells Dp 94))).drew).trans hb;have hT:=(Bi.new V).below hb3;have hb2:=((Aq V.heap.size V).alloc (Ak _) (.cells Dp 94)).trans (hb3.mono hzb);have h7:=hT.set7 k ⟨t.toArray⟩ vk vn ⟨vs.toArray⟩ 0 0;have h8:=A7 hb2 (Ak _) k ⟨t.toArray⟩ vk vn ⟨vs.toArray⟩ 0 0;unfold set7 at h7 h8;obtain⟨d0,d1,d2,d3,d4,d5,d6,fz⟩:=hT;have hXz:=hb2.size;have H7:=Ax h7;have H8:=Ax h8;clear hb hb2 hb3 h7 h8;clear Hca Hcb cs cl fl cx fx p0 p1
  go_simp
  refine hK _ _ ?_;clear hK K;refine QI 6 (h:=?_);refine QI 7 (h:=?_);refine QI 8 (h:=?_);refine QI 9 (h:=?_);refine wpAnyIn_ready (rs:=[11]) rG rI ?_;refine Av rfl (fun K hK=>?_) ?_
  ·go_simp
   refine hK _ _ ?_;clear hK K;refine QI 12 (h:=?_);refine QI 13 (h:=?_);refine wpAnyIn_done rG ?_ _
   gi_wp2
   gi_meet
   case rel=>exact⟨V.heap.size,rfl,rfl,rfl,Ak _,H7.out,H8.out⟩
  exact AllReadyIn.nil
 exact AllReadyIn.nil):P:=h
theorem zz6{P:Prop}(h:P:=by
 refine wpAnyIn_ready (rs:=[5]) rG rI ?_;refine Av rfl (fun K hK=>?_) ?_
 ·go_simp
  refine⟨trivial,?_⟩;refine(Hcb.out).mono ?_;rintro e X ⟨hb,⟨k,t,vk,vn,vs⟩,m,he⟩;simp only[Fu] at he;subst he;have hb3:=((Aq _ (V.alloc (.cells Dp 94))).drew).trans hb;have hT:=(Bi.new V).below hb3;have hb2:=((Aq V.heap.size V).alloc (Ak _) (.cells Dp 94)).trans (hb3.mono hzb);have h8:=A7 hb2 (Ak _) k ⟨t.toArray⟩ vk vn ⟨vs.toArray⟩ 0 0;unfold set7 at h8;obtain⟨d0,d1,d2,d3,d4,d5,d6,fz⟩:=hT;have hXz:=hb2.size;have H8:=Ax h8;clear hb hb2 hb3 h8;clear Hca Hcb cs cl fl cx fx p0 p1
  go_simp
  refine hK _ _ ?_;clear hK K;refine QI 6 (h:=?_);refine QI 7 (h:=?_);refine QI 8 (h:=?_);refine QI 9 (h:=?_);refine wpAnyIn_ready (rs:=[11]) rG rI ?_;refine Av rfl (fun K hK=>?_) ?_
  ·go_simp
   refine hK _ _ ?_;clear hK K;refine QI 12 (h:=?_);refine QI 13 (h:=?_);refine wpAnyIn_done rG ?_ _
   gi_wp2
   gi_meet
   case rel=>exact⟨_,m,rfl,rfl,rfl,H8.out⟩
  exact AllReadyIn.nil
 exact AllReadyIn.nil):P:=h
theorem zz5{P:Prop}(h:P:=by
 by_cases h40:s[p].toNat=40
 ·have d40:((s[p].toNat:Int)==40)=true:=beq_iff_eq.2 rF;have HR:=Ax (show C4 p ((dl s).drop p)=((p+1:Nat):Int) by rw[e1];exact Bv rO (by rw[Cd (n:=40) h40];decide));clear e1 h40;go_wp2_with fail;go_ret;exact⟨Cu HR.out,rfl⟩
 have d40:((s[p].toNat:Int)==40)=false:=Af.2 rF;by_cases h41:s[p].toNat=41
 ·have d41:((s[p].toNat:Int)==41)=true:=beq_iff_eq.2 rF;have HR:=Ax (show C4 p ((dl s).drop p)=((p+1:Nat):Int) by rw[e1];exact Bv rO (by rw[Cd (n:=41) h41];decide));clear e1 h41;go_wp2_with fail;go_ret;exact⟨Cu HR.out,rfl⟩
 have d41:((s[p].toNat:Int)==41)=false:=Af.2 rF;by_cases h91:s[p].toNat=91
 ·have d91:((s[p].toNat:Int)==91)=true:=beq_iff_eq.2 rF;have HR:=Ax (show C4 p ((dl s).drop p)=((p+1:Nat):Int) by rw[e1];exact Bv rO (by rw[Cd (n:=91) h91];decide));clear e1 h91;go_wp2_with fail;go_ret;exact⟨Cu HR.out,rfl⟩
 have d91:((s[p].toNat:Int)==91)=false:=Af.2 rF;by_cases h93:s[p].toNat=93
 ·have d93:((s[p].toNat:Int)==93)=true:=beq_iff_eq.2 rF;have HR:=Ax (show C4 p ((dl s).drop p)=((p+1:Nat):Int) by rw[e1];exact Bv rO (by rw[Cd (n:=93) h93];decide));clear e1 h93;go_wp2_with fail;go_ret;exact⟨Cu HR.out,rfl⟩
 have d93:((s[p].toNat:Int)==93)=false:=Af.2 rF;by_cases h44:s[p].toNat=44
 ·have d44:((s[p].toNat:Int)==44)=true:=beq_iff_eq.2 rF;have HR:=Ax (show C4 p ((dl s).drop p)=((p+1:Nat):Int) by rw[e1];exact Bv rO (by rw[Cd (n:=44) h44];decide));clear e1 h44;go_wp2_with fail;go_ret;exact⟨Cu HR.out,rfl⟩
 have d44:((s[p].toNat:Int)==44)=false:=Af.2 rF;by_cases h58:s[p].toNat=58
 ·have d58:((s[p].toNat:Int)==58)=true:=beq_iff_eq.2 rF;have HR:=Ax (show C4 p ((dl s).drop p)=((p+1:Nat):Int) by rw[e1];exact Bv rO (by rw[Cd (n:=58) h58];decide));clear e1 h58;go_wp2_with fail;go_ret;exact⟨Cu HR.out,rfl⟩
 have d58:((s[p].toNat:Int)==58)=false:=Af.2 rF;by_cases h61:s[p].toNat=61
 ·have d61:((s[p].toNat:Int)==61)=true:=beq_iff_eq.2 rF;have HR:=Ax (show C4 p ((dl s).drop p)=((p+1:Nat):Int) by rw[e1];exact Bv rO (by rw[Cd (n:=61) h61];decide));clear e1 h61;go_wp2_with fail;go_ret;exact⟨Cu HR.out,rfl⟩
 have d61:((s[p].toNat:Int)==61)=false:=Af.2 rF;by_cases h60:s[p].toNat=60
 ·have d60:((s[p].toNat:Int)==60)=true:=beq_iff_eq.2 rF;have HR:=Ax (show C4 p ((dl s).drop p)=((p+1:Nat):Int) by rw[e1];exact Bv rO (by rw[Cd (n:=60) h60];decide));clear e1 h60;go_wp2_with fail;go_ret;exact⟨Cu HR.out,rfl⟩
 have d60:((s[p].toNat:Int)==60)=false:=Af.2 rF;by_cases h62:s[p].toNat=62
 ·have d62:((s[p].toNat:Int)==62)=true:=beq_iff_eq.2 rF;have HR:=Ax (show C4 p ((dl s).drop p)=((p+1:Nat):Int) by rw[e1];exact Bv rO (by rw[Cd (n:=62) h62];decide));clear e1 h62;go_wp2_with fail;go_ret;exact⟨Cu HR.out,rfl⟩
 have d62:((s[p].toNat:Int)==62)=false:=Af.2 rF;by_cases h43:s[p].toNat=43
 ·have d43:((s[p].toNat:Int)==43)=true:=beq_iff_eq.2 rF;have HR:=Ax (show C4 p ((dl s).drop p)=((p+1:Nat):Int) by rw[e1];exact Bv rO (by rw[Cd (n:=43) h43];decide));clear e1 h43;go_wp2_with fail;go_ret;exact⟨Cu HR.out,rfl⟩
 have d43:((s[p].toNat:Int)==43)=false:=Af.2 rF;by_cases h45:s[p].toNat=45
 ·have d45:((s[p].toNat:Int)==45)=true:=beq_iff_eq.2 rF;have HR:=Ax (show C4 p ((dl s).drop p)=((p+1:Nat):Int) by rw[e1];exact Bv rO (by rw[Cd (n:=45) h45];decide));clear e1 h45;go_wp2_with fail;go_ret;exact⟨Cu HR.out,rfl⟩
 have d45:((s[p].toNat:Int)==45)=false:=Af.2 rF;by_cases h42:s[p].toNat=42
 ·have d42:((s[p].toNat:Int)==42)=true:=beq_iff_eq.2 rF;have HR:=Ax (show C4 p ((dl s).drop p)=((p+1:Nat):Int) by rw[e1];exact Bv rO (by rw[Cd (n:=42) h42];decide));clear e1 h42;go_wp2_with fail;go_ret;exact⟨Cu HR.out,rfl⟩
 have d42:((s[p].toNat:Int)==42)=false:=Af.2 rF;by_cases h47:s[p].toNat=47
 ·have d47:((s[p].toNat:Int)==47)=true:=beq_iff_eq.2 rF;have HR:=Ax (show C4 p ((dl s).drop p)=((p+1:Nat):Int) by rw[e1];exact Bv rO (by rw[Cd (n:=47) h47];decide));clear e1 h47;go_wp2_with fail;go_ret;exact⟨Cu HR.out,rfl⟩
 have d47:((s[p].toNat:Int)==47)=false:=Af.2 rF;have HR:=Ax (show C4 p ((dl s).drop p)= -1 by rw[e1];exact Wy rO (by unfold Lu;simp only[List.mem_cons,List.not_mem_nil,or_false,not_or];exact⟨fun e=>h40 rU,fun e=>h41 rU,fun e=>h91 rU,fun e=>h93 rU,fun e=>h44 rU,fun e=>h58 rU,fun e=>h61 rU,fun e=>h60 rU,fun e=>h62 rU,fun e=>h43 rU,fun e=>h45 rU,fun e=>h42 rU,fun e=>h47 rU⟩));clear e1;go_wp2_with fail;go_ret
 exact⟨Cu HR.out,rfl⟩):P:=h
theorem zz4{P:Prop}(h:P:=by
 have hkm:k<k2.length:=by have:=HL4.out;omega
 obtain⟨b1,o1,e1,c1⟩:=HKX.out k hkl;obtain⟨b2,o2,e2,c2⟩:=HKY.out k hkm;have c1:=A4 hbk.out (A4 HBW.out c1);have c2:=A4 hbk.out (A4 HBW.out c2);obtain⟨kv,hkv⟩:∃kv,k1[k]=kv:=⟨_,rfl⟩;obtain⟨ku,hku⟩:∃ku,k2[k]=ku:=⟨_,rfl⟩;rw[hkv] at c1;rw[hku] at c2;subst e1 e2;have l1:(0:Int)<=(k:Int):=by omega
 have l2:(k:Int)<(k1.length:Int):=by omega
 have l2':(k:Int)<(k2.length:Int):=by omega
 have l3:decide ((k:Int)<(k1.length:Int))=true:=Am l2;have HN2:=fun nq=>Ax (show Below W2.heap.size W2 (wr.drewN nq) from A8 hbk.out nq)
 have HKV:=Ax (And.intro hkv hku);by_cases hvv:kv=ku
 ·have l4:(kv !=ku)=false:=by simp [hvv]
  have HVV:=Ax hvv;clear hbk hkv hku hvv;go_wp2_with fail;go_quiet (fail);go_wp2_with fail;refine⟨⟨k+1,by omega,by go_num,HN2 _,fun i h h1 h2=>?_⟩,?_⟩
  ·rcases Nat.lt_succ_iff_lt_or_eq.1 h with h|rfl
   ·exact HKE.out i h h1 h2
   rw[HKV.out.1,HKV.out.2];exact HVV.out
  simp [intOf];omega
 have l4:(kv !=ku)=true:=by simp [hvv]
 have HF:=Ax (show rr=false by cases hr:rr with|false=>rfl|true=>exact absurd (HAT.out hr) sB);have HBL2:=fun nq=>Ax (HBL.out.trans ((HN2 nq).out.mono HBL.out.size))
 clear hbk hkv hku hvv;go_wp2_with fail;go_quiet (fail);go_wp2_with fail;go_ret
 exact⟨by rw[HF.out];rfl,(HBL2 _).out⟩):P:=h
theorem zz3{P:Prop}(h:P:=by
 have p1:decide ((m:Int)+(i:Int)<4)=true:=Am rF;obtain⟨wd,hwd⟩:∃wd,wp.drew=wd:=⟨_,rfl⟩;have hbd:Below wp.heap.size wp wd:=by rw[←hwd];exact(Aq _ _).drew
 have HBD:=Ax hbd;have HY2:Hid (∀V,Below wd.heap.size wd V->V.cell? ⟨w.heap.size+1,0,none⟩=some (.bool false)/\V.cell? ⟨w.heap.size+1,1,none⟩=some (.slice a n c)):=Ax fun V hV=>⟨A4 hV (A4 hbd y0),A4 hV (A4 hbd y1)⟩
 have HLT:=Ax hlt;clear hbd hlt;go_wp2_with fail;clear p1;refine wp_region_noPanic ?_;refine wp_region_held_drew (S:=fun _=>True) rG ?_ (fun hHeld=>?_)
 ·trivial
 rw[hwd];have HMONO:=Ax (show ∀F∈[(fun v _=>v= .agg #[.bool false,.slice a n c]),Jb 10],∀v w w',F v w->Below w.heap.size w w'->F v w' from Ca (fun _ _ _ h _=>h)<|Ca (fun _ _ _ h hb=>h.below hb)<|J8);refine Em (Inv:=Mc wd.heap.size wd [(fun v _=>v= .agg #[.bool false,.slice a n c]),Jb 10] []) 2 [0,1] [some 85,some 86] [[],[]] [false,false] rG (fun _ _ _ _ _ h=>h) rG ?_ (Mc.start rfl rfl) ?_ ?_
 ·exact fun _ _ _ _=>trivial
 ·refine lt2 ?_ ?_
  ·rw[Ao rH];refine OneB.mk 0 ⟨some 85,_,_,_,_,_⟩ _ rfl rfl rfl rfl HMONO.out (Ak _) ?_;intro d u V hd hu hdep hF hbV hzV K hK;obtain⟨x0,x1,rfl⟩:=Ka hu;obtain⟨b0,b1,rfl⟩:=Ka hd;obtain⟨f0,f1,_⟩:=hF;clear hd hu hdep f0 f1 HMONO;have HBV:=Ax hbV;have HZV:=Ax hzV;clear hbV hzV;simp only[Bo,Act.put,Ac,Ad,Ae] at hK ⊢;obtain⟨u0,u1⟩:=HY2.out V HBV.out
   go_simp
   (try go_wp2_with fail)
   refine hK.out _ _ (Aq _ _) rfl (fun h=>absurd h rH)
  rw[Ao rH];refine OneB.mk 1 ⟨some 86,_,_,_,_,_⟩ _ rfl rfl rfl rfl HMONO.out (Ak _) ?_;intro d u V hd hu hdep hF hbV hzV K hK;obtain⟨x0,x1,rfl⟩:=Ka hu;obtain⟨b0,b1,rfl⟩:=Ka hd;obtain⟨f0,f1,_⟩:=hF;clear hd hu hdep f0 f1 HMONO;have HBV:=Ax hbV;have HZV:=Ax hzV;clear hbV hzV;simp only[Bo,Act.put,Ac,Ad,Ae] at hK ⊢
  go_simp
  go_at_call 47
  refine(HO.out V).mono ?_;rintro e V1 ⟨⟨v1,rfl,hv1⟩,hb1⟩
  (try go_wp2_with fail)
  refine hK.out _ _ hb1 hv1 (fun h=>absurd h rH)
 intro u V hu hI;obtain⟨x0,x1,rfl⟩:=Ka hu;obtain⟨hbV,hzV,⟨f0,f1,_⟩,hDst⟩:=hI;have f0:=f0 rfl;have f1:=f1 rfl;clear hu HMONO;simp only[Bo,Act.put,Ac,Ad,Ae]
 (try dsimp only at f0)
 subst f0;have HBV:=Ax hbV;have HM:=Ax (L6 (x:=((X*10^i:Nat):Int)) (y:=10) (HX.out.below (HBD.out.trans (hbV.mono HBD.out.size))) f1 (by have:=HLi.out;rw[Int.natAbs_natCast];omega) tC);clear f1 hDst hbV;have hHeld:True:=trivial;refine wpAnyH_ready (rs:=[2]) rG rI ?_;refine AllReadyH.cons (o:=⟨some 87,_,_,_,_,_⟩) (rs:=[]) rfl (fun K hK=>?_) AllReadyH.nil
 go_simp
 go_at_call 127
 refine HM.out.mono ?_;rintro e V4 ⟨⟨v4,rfl,hv4⟩,hb4⟩;rw[show((X*10^i:Nat):Int)*10=((X*10^(i+1):Nat):Int) by rw[Nat.pow_succ,←Nat.mul_assoc];omega] at hv4;obtain⟨a4,n4,c4,rfl,hd4⟩:=hv4.nat;have HM4:=Ax (And.intro hv4 hb4);clear hv4 hb4 hd4
 try go_wp2_with fail
 clear hHeld;refine hK.out _ _ ?_ (fun hHeld=>?_)
 ·trivial
 clear hK K
 try simp only[Act.put,Ac,Ad,Ae]
 have hb4:=HBD.out.trans ((HBV.out.trans (HM4.out.2.mono HBV.out.size)).mono HBD.out.size);have hA4:=HA.out.below hb4;obtain⟨g0,g1,gf⟩:=A1 hA4.x;have gf0:=gf 0;have gf1:=gf 1;have HNX:=Ax (Jv hA4 HM4.out.1);clear hb4 hA4 gf HM HM4;refine wpAnyH_ready (rs:=[3]) rG rI ?_;refine AllReadyH.cons (o:=⟨none,_,_,_,_,_⟩) (rs:=[]) rfl (fun K hK=>?_) AllReadyH.nil
 go_simp
 try go_wp2_with fail
 clear hHeld;refine hK.out _ _ ?_ (fun hHeld=>?_)
 ·trivial
 clear hK K
 try simp only[Act.put,Ac,Ad,Ae]
 refine wpAnyH_done rG ?_ _;refine NoPanic.normal ?_;go_wp2_with fail;go_roundw
 case rel=>exact⟨i+1,a4,n4,c4,by first|rfl|(congr 1;omega)|congr 1,by have:=HLT.out;omega,Ax ⟨HNX.out.1,HNX.out.2,by have:=bP HLi.out;rw[Nat.mul_assoc,←Nat.pow_succ] at this;omega⟩⟩
 case measure=>have:=HLT.out;simp [intOf]<;>omega):P:=h
theorem zz2{P:Prop}(h:P:=by
 obtain⟨⟨k,t,vk,vn,vs⟩,n,he⟩:=he;simp only[Fu] at he;subst he;have hT:=Bi.set7 (w:=V) (b:=w.heap.size) ⟨c0,c1,c2,c3,c4,c5,c6,fz⟩ k ⟨t.toArray⟩ vk vn ⟨vs.toArray⟩ 0 0;have hB2:=A7 HBV.out (Ak _) k ⟨t.toArray⟩ vk vn ⟨vs.toArray⟩ 0 0;obtain⟨Z,hZ⟩:∃Z,set7 V w.heap.size k ⟨t.toArray⟩ vk vn ⟨vs.toArray⟩ 0 0=Z:=⟨_,rfl⟩;rw[hZ] at hT hB2;unfold set7 at hZ;have HT:=Ax hT;have HB3:=Ax hB2;have HZ:=Ax hZ;clear hT hB2 hZ;go_wp2_with fail;rw[HZ.out];obtain⟨d0,d1,d2,d3,d4,d5,d6,_⟩:=HT.out;clear c0 c1 c2 c3 c4 c5 c6 fz;refine Au (v:= .tuple #[.agg #[.int .u8 k,.string ⟨t.toArray⟩,.int .u8 vk,.int .i64 vn,.string ⟨vs.toArray⟩,.int .i64 0,.int .i64 0],.int .i64 n,.int .i64 q]) rN rfl ?_;rw[HW.out]
 exact⟨HB3.out,⟨k,t,(vk,vn,vs)⟩,n,rfl⟩):P:=h
theorem zz1{P:Prop}(h:P:=by
 obtain⟨⟨k,t,vk,vn,vs⟩,n⟩:=p;simp only[Fu] at he;subst he;have hT:=Bi.set7 (w:=V) (b:=w.heap.size) ⟨c0,c1,c2,c3,c4,c5,c6,fz⟩ k ⟨t.toArray⟩ vk vn ⟨vs.toArray⟩ 0 0;have hB2:=A7 HBV.out (Ak _) k ⟨t.toArray⟩ vk vn ⟨vs.toArray⟩ 0 0;obtain⟨Z,hZ⟩:∃Z,set7 V w.heap.size k ⟨t.toArray⟩ vk vn ⟨vs.toArray⟩ 0 0=Z:=⟨_,rfl⟩;rw[hZ] at hT hB2;unfold set7 at hZ;have HT:=Ax hT;have HB3:=Ax hB2;have HZ:=Ax hZ;clear hT hB2 hZ;go_wp2_with fail;rw[HZ.out];obtain⟨d0,d1,d2,d3,d4,d5,d6,_⟩:=HT.out;clear c0 c1 c2 c3 c4 c5 c6 fz;refine Au (v:= .tuple #[.agg #[.int .u8 k,.string ⟨t.toArray⟩,.int .u8 vk,.int .i64 vn,.string ⟨vs.toArray⟩,.int .i64 0,.int .i64 0],.int .i64 (n:Nat),.int .i64 0]) rN rfl ?_;rw[HW.out]
 exact⟨HB3.out,rfl⟩):P:=h
theorem zz0{P:Prop}(h:P:=by
 clear hmy hXl hfit HTX;go_wp2_with fail;refine HMY.out.mono ?_;rintro e V6 ⟨rfl,hb6⟩;have HP6:=Ax (HP.out.below hb6);clear y0 y1 y2 z0 z1 z2 yf0 yf1 yf2 zf0 zf1 zf2;obtain⟨⟨y0,y1,y2,yf⟩,z0,z1,z2,zf⟩:=Dw.cells HP6.out;have yf0:=yf 0;have yf1:=yf 1;have yf2:=yf 2;have zf0:=zf 0;have zf1:=zf 1;have zf2:=zf 2;clear yf zf;clear hb6;go_wp2_with fail
 exact Au (v:= .tuple #[.agg #[.int .u8 0,.int .i64 0,.string ⟨#[]⟩],.int .i64 4]) rK rfl (B7.bad (HP6.out.ret _ _ _) H0.out H4.out HR.out HBD.out)):P:=h
theorem zzz{P:Prop}(h:P:=by
 clear hnb;go_wp2_with fail;refine HDG.out.mono ?_;rintro e W3 ⟨rfl,hb3⟩;have HB3:=Ax (HBA.out.trans (hb3.mono HBA.out.size));clear hb3;go_wp2_with fail
 go_loop [6] (fun v6=>∃m:Nat,v6= .int .i64 ((m:Int)+1)/\pd.size<=m+4/\m<pd.size/\Hid (∀i,m<i->i<pd.size->(dl pd)[i]? =some 48)) (fun v6=>(intOf v6).toNat)
 case atStart=>exact⟨pd.size - 1,by(congr 1;omega),by omega,by omega,Ax (fun i h1 h2=>by omega)⟩
 obtain⟨m,rfl,hm4,hmp,hz⟩:=hrel;have q0:(0:Int)<=(m:Int):=by omega
 have q1:(m:Int)<(pd.size:Int):=by omega
 have hg:(dl pd)[m]? =some pd[m]:=Gc hmp;by_cases hgo:pd.size<=m+3
 ·have p1:decide ((pd.size:Int) - 3<(m:Int)+1)=true:=Am rF;by_cases h48:pd[m].toNat=48
  ·have d1:((pd[m].toNat:Int)==48)=true:=beq_iff_eq.2 rF;have e48:pd[m]=48:=Cd h48
   have HZ:=Ax (show ∀i,m - 1<i->i<pd.size->(dl pd)[i]? =some 48 from fun i q1 q2=>by
    rcases Nat.lt_or_ge m i with q|q
    ·exact hz.out i q q2
    have:i=m:=by omega
    rw[this,hg,e48])
   clear hz hg e48;go_wp2_with fail
   go_round
   case rel=>exact⟨m - 1,by(congr 1;omega),by omega,by omega,HZ⟩
   case measure=>simp [intOf]<;>omega
  have d1:((pd[m].toNat:Int)==48)=false:=Af.2 rF;have HE:=Ax (HDC.out m hm4 hmp hz.out (.inr ⟨_,hg,fun e=>h48 rU⟩));clear hz hg;go_wp2_with fail;have w1:IntKind.i64.wrap ((pd.size:Int) - 4)=(pd.size:Int) - 4:=IntWalk.i64_in _ rF;have hs1:=Oo pd ((pd.size:Int) - 4) rF rF;have hs2:=Dm pd ((pd.size:Int) - 4) ((m:Int)+1) rF rF rF;have t1:((pd.size:Int) - 4).toNat=pd.size - 4:=by omega
  have t2:((m:Int)+1).toNat=m+1:=by omega
  rw[t1] at hs1;rw[t1,t2] at hs2;obtain⟨A,hA⟩:∃A,pd.extract 0 (pd.size - 4)=A:=⟨_,rfl⟩;obtain⟨B,hB⟩:∃B,pd.extract (pd.size - 4) (m+1)=B:=⟨_,rfl⟩;have hAs:A.size<=30:=by rw[←hA,ByteArray.size_extract];omega
  have hBs:B.size<=30:=by rw[←hB,ByteArray.size_extract];omega
  rw[hA] at hs1 HE;rw[hB] at hs2 HE;clear t1 t2 hpl hA hB;go_quiet (fail);go_wp2_with fail;go_ret;exact⟨Ee HE.out,A8 HB3.out _⟩
 have p1:decide ((pd.size:Int) - 3<(m:Int)+1)=false:=An rF;have HE:=Ax (HDC.out m hm4 hmp hz.out (.inl rF));clear hz hg;go_wp2_with fail;have w1:IntKind.i64.wrap ((pd.size:Int) - 4)=(pd.size:Int) - 4:=IntWalk.i64_in _ rF;have hs1:=Oo pd ((pd.size:Int) - 4) rF rF;have hs2:=Dm pd ((pd.size:Int) - 4) ((m:Int)+1) rF rF rF;have t1:((pd.size:Int) - 4).toNat=pd.size - 4:=by omega
 have t2:((m:Int)+1).toNat=m+1:=by omega
 rw[t1] at hs1;rw[t1,t2] at hs2;obtain⟨A,hA⟩:∃A,pd.extract 0 (pd.size - 4)=A:=⟨_,rfl⟩;obtain⟨B,hB⟩:∃B,pd.extract (pd.size - 4) (m+1)=B:=⟨_,rfl⟩;have hAs:A.size<=30:=by rw[←hA,ByteArray.size_extract];omega
 have hBs:B.size<=30:=by rw[←hB,ByteArray.size_extract];omega
 rw[hA] at hs1 HE;rw[hB] at hs2 HE;clear t1 t2 hpl hA hB;go_quiet (fail);go_wp2_with fail;go_ret
 exact⟨Ee HE.out,A8 HB3.out _⟩):P:=h
theorem zzy{P:Prop}(h:P:=by
 go_wp2_with fail;refine HP.out.mono ?_;rintro e V6 ⟨z6,v6,rfl,hx6,hr6⟩;have HF:=Ax (show Bw w B X b vl ts (t::t'::q') d vt nds xx (.returned (.int .i64 z6)) V6 from⟨z6,v6,rfl,HR5.out.trans hr6,by rw[HLE.out];exact hx6.mono rZ H.out.few⟩);clear hx6 hr6 HP m0 m1 m2 m3 m4 m5 m6 m7;go_wp2_with fail;go_ret
 exact HF.out):P:=h
theorem zzx{P:Prop}(h:P:=by
 rw[hK0,hK1] at hlen ⊢;simp only[hK0] at HA0;simp only[hK1] at HA1;obtain⟨wd,hwd⟩:∃wd,Cw op=wd:=⟨_,rfl⟩;simp only[hwd] at HIX;rw[hwd] at hlen ⊢;have hl0:K0.length<=65536:=by simp only[Ab,Aa] at hlen;omega
 have hl1:K1.length<=65536:=by simp only[Ab,Aa] at hlen;omega
 have hl2:wd.length<=65536:=by simp only[Ab,Aa] at hlen;omega
 rw[Vz];obtain⟨B0,hB0⟩:∃B:ByteArray,(⟨K0.toArray⟩:ByteArray)=B:=⟨_,rfl⟩;obtain⟨B1,hB1⟩:∃B:ByteArray,(⟨K1.toArray⟩:ByteArray)=B:=⟨_,rfl⟩;obtain⟨BW,hBW⟩:∃B:ByteArray,(⟨wd.toArray⟩:ByteArray)=B:=⟨_,rfl⟩;have hl0:B0.size<=65536:=by rw[←hB0];exact hl0
 have hl1:B1.size<=65536:=by rw[←hB1];exact hl1
 have hl2:BW.size<=65536:=by rw[←hBW];exact hl2
 simp only[hB0] at HA0;simp only[hB1] at HA1;simp only[hBW] at HIX;rw[hB0,hB1,hBW];have z1:¬9223372036854775807<B0.size+1:=by omega
 have z2:¬9223372036854775807<B0.size+1+BW.size:=by omega
 have z3:¬9223372036854775807<B0.size+1+BW.size+1:=by omega
 have z4:¬9223372036854775807<B0.size+1+BW.size+1+B1.size:=by omega
 have HA0:=Ax HA0;have HA1:=Ax HA1;have HIX:=Ax HIX;rw[hk1] at hW1 n5 HP1 x5;have Y0:=Ax y0;have Y1:=Ax y1;have N0:=Ax n0;have N5:=Ax n5;clear hz htx hlen hA hkc hK0 hK1 hwd hB0 hB1 hBW hl0 hl1 hl2 hc0 hc1 k0 k1 hkl y0 y1 n0 n1 n2 n3 n4 n5 n6 n7 hin hk1;clear ht IH hx hfits hkids hp1 hb1 hfit hT;obtain⟨n0,n1,n2,n3,n4,n5,n6,n7,_⟩:=A6 HP1.out;go_enter Tryz.func64,Tryz.ntmps64;go_wp2_with fail;refine HL.out.mono ?_;rintro e V2 ⟨rfl,hb2⟩;obtain⟨wz,hwz⟩:∃wz,V2.drew=wz:=⟨_,rfl⟩;have hbz:Below W1.heap.size W1 wz:=by rw[←hwz];exact hb2.drew
 have n0:=A4 hbz N0.out;have n5:=A4 hbz N5.out;have y0:=A4 hbz Y0.out;have y1:=A4 hbz Y1.out;have HBZ:=Ax (HB1.out.trans (hbz.mono HB1.out.size));clear hb2 hbz HL N0 N5 Y0 Y1 n1 n2 n3 n4 n6 n7;go_wp2_with fail
 go_region_held3 (fun V=>V.cell? ⟨w.heap.size,0,none⟩=some (.int .u8 op)/\V.cell? ⟨w.heap.size,5,none⟩=some (.slice (some ⟨kb,ko,none⟩) 2 kc)/\V.cell? ⟨kb,ko,none⟩=some (.int .i64 c0)/\V.cell? ⟨kb,ko+1,none⟩=some (.int .i64 c1)) (go_keep)
  (first
  |(go_at_call 95;(with_reducible refine(HA0.out _ HBZ.out).mono ?_);rintro e V3 ⟨rfl,hb3⟩;have p0:=A4 hb3 n0;have p5:=A4 hb3 n5;have q0:=A4 hb3 y0;have q1:=A4 hb3 y1;have HB3:=Ax (HBZ.out.trans (hb3.mono HBZ.out.size));clear hb3)
  |(go_at_call 31;(with_reducible refine(HIX.out _).mono ?_);rintro e V4 ⟨rfl,hb4⟩;have r0:=A4 hb4 p0;have r5:=A4 hb4 p5;have s0:=A4 hb4 q0;have s1:=A4 hb4 q1;have HB4:=Ax (HB3.out.trans (hb4.mono HB3.out.size));clear hb4)
  |(go_at_call 95;(with_reducible refine(HA1.out _ HB4.out).mono ?_);rintro e V5 ⟨rfl,hb5⟩;have u0:=A4 hb5 r0;have u5:=A4 hb5 r5;have v0:=A4 hb5 s0;have v1:=A4 hb5 s1;have HB5:=Ax (HB4.out.trans (hb5.mono HB4.out.size));clear hb5))
 go_wp2
 go_ret
 exact⟨rfl,HB5.out⟩):P:=h
theorem zzw{P:Prop}(h:P:=by
 have hT:=Bi.set7 HA.out.r 0 ⟨#[]⟩ 0 0 ⟨#[]⟩ 0 0;have hB:=A7 HA.out.bel (Ak _) 0 ⟨#[]⟩ 0 0 ⟨#[]⟩ 0 0;obtain⟨Z,hZ⟩:∃Z,set7 W1 w.heap.size 0 ⟨#[]⟩ 0 0 ⟨#[]⟩ 0 0=Z:=⟨_,rfl⟩;rw[hZ] at hT hB;unfold set7 at hZ;have HT:=Ax hT;have HB:=Ax hB;have HZ:=Ax hZ;clear hT hB hZ;go_wp2_with fail;rw[HZ.out];obtain⟨s0,s1,s2,s3,s4,s5,s6,_⟩:=HT.out
 exact Au (v:= .tuple #[.agg #[.int .u8 0,.string ⟨#[]⟩,.int .u8 0,.int .i64 0,.string ⟨#[]⟩,.int .i64 0,.int .i64 0],.int .i64 0,.int .i64 4]) rQ rfl (F9 HB.out HE.out)):P:=h
theorem zzv{P:Prop}(h:P:=by
 go_wp2_with fail
 exact Au (v:= .tuple #[.agg #[.bool false,.slice a n c],.bool false,.bool false]) rJ rfl (Cm.no HF.out.1 HNO.out)):P:=h
theorem zzu{P:Prop}(h:P:=by
 obtain⟨vk,vn,vs⟩:=p2;simp only at he HP;subst he
 have hfit:(⟨vk,vn,⟨vs.toArray⟩⟩:Vl).fit:=by
  obtain⟨h1,h2,h3⟩:=Hf1.out;refine⟨?_,h1,h2⟩;rw[←A5,Da];rw[A5] at h3;exact Al h3 hs
 obtain⟨W3,hW3⟩:∃W3,V2.alloc (.cells #[.int .u8 vk,.int .i64 vn,.string ⟨vs.toArray⟩] 23)=W3:=⟨_,rfl⟩;have hb3:Below V2.heap.size V2 W3:=by rw[←hW3];exact(Aq V2.heap.size V2).alloc (Ak _) _
 have hx3:=(MapKept.heap_alloc V2 (.cells #[.int .u8 vk,.int .i64 vn,.string ⟨vs.toArray⟩] 23)).1;rw[hW3] at hx3;have h3:=h2.below hb3;have Ht:=Ax (Sn ⟨vk,vn,⟨vs.toArray⟩⟩ W3 hfit (hR2.below hb3));have HW3:=Ax hW3;have Hx3:=Ax hx3;have H3:=Ax h3;have hv0:W3.cell? ⟨V2.heap.size,0,none⟩=some (.int .u8 vk):=by simp [World.cell?,hx3]
 have hv1:W3.cell? ⟨V2.heap.size,1,none⟩=some (.int .i64 vn):=by simp [World.cell?,hx3]
 have hv2:W3.cell? ⟨V2.heap.size,2,none⟩=some (.string ⟨vs.toArray⟩):=by simp [World.cell?,hx3]
 clear hW3 hx3 h3 h2 hR2 hb3 b0 b1 b2 bf Hf1 Hr;go_upto_region 9 with fail
 rw[HW3.out];go_wp2_with fail;refine Ht.out.mono ?_;rintro e V4 ⟨rfl,hb4⟩;have h4:=H3.out.below hb4;obtain⟨b0,b1,b2,bf,_,_,hlt4,_⟩:=h4.cells;have hx4:=(hb4.block _ (lt_of_block Hx3.out)).trans Hx3.out;clear hv0 hv1 hv2;have hv0:V4.cell? ⟨V2.heap.size,0,none⟩=some (.int .u8 vk):=by simp [World.cell?,hx4]
 have hv1:V4.cell? ⟨V2.heap.size,1,none⟩=some (.int .i64 vn):=by simp [World.cell?,hx4]
 have hv2:V4.cell? ⟨V2.heap.size,2,none⟩=some (.string ⟨vs.toArray⟩):=by simp [World.cell?,hx4]
 have HB:=Ax h4.low;have htx:dl (Nu ⟨vk,vn,⟨vs.toArray⟩⟩)=C3 vk vn vs:=rfl;obtain⟨X,hX⟩:∃X,Nu ⟨vk,vn,⟨vs.toArray⟩⟩=X:=⟨_,rfl⟩;rw[hX] at htx ⊢;rw[←htx] at HP;clear hX htx hb4 h4 hx4 Ht HW3 Hx3 H3;by_cases hXs:dl X=dl s
 ·have hXe:X=s:=Ch hXs;subst hXe;have HP:Hid (Dy (dl X)= .ok (vk,vn,vs)):=Ax (by rw[HP.out,Ap rfl])
  go_wp2
  refine Au (v:= .tuple #[.agg #[.int .u8 vk,.int .i64 vn,.string ⟨vs.toArray⟩],.int .i64 0]) sC rfl ?_;rw[HP.out];exact⟨((HB.out.setCell rI _).setCell rI _).setCell rI _,rfl⟩
 have HP:Hid (Dy (dl s)= .error 4):=Ax (by rw[HP.out,Ao hXs]);have t1:(X.toList==s.toList)=false:=by rw[A0,A0];simpa using hXs
 have t2:(X.toList !=s.toList)=true:=by rw[A0,A0];simpa using hXs
 clear hXs
 go_wp2
 refine Au (v:= .tuple #[.agg #[.int .u8 0,.int .i64 0,.string ⟨#[]⟩],.int .i64 4]) sC rfl ?_;rw[HP.out]
 exact⟨((HB.out.setCell rI _).setCell rI _).setCell rI _,rfl⟩):P:=h
theorem zzt{P:Prop}(h:P:=by
 rw[hZ] at hT hB;unfold set7 at hZ;have HT:=Ax hT;have HB:=Ax hB;have HZ:=Ax hZ;clear hT hB hZ;go_wp2_with fail;rw[HZ.out];obtain⟨s0,s1,s2,s3,s4,s5,s6,_⟩:=HT.out
 exact Au (v:= .tuple #[.agg #[.int .u8 0,.string ⟨#[]⟩,.int .u8 0,.int .i64 0,.string ⟨#[]⟩,.int .i64 0,.int .i64 0],.int .i64 0,.int .i64 4]) rQ rfl (F9 HB.out HE.out)):P:=h
theorem zzs{P:Prop}(h:P:=by
 refine wpAnyIn_ready (rs:=[11]) rG rI ?_;refine Av rfl (fun K hK=>?_) ?_
 ·go_simp
  refine hK _ _ ?_;clear hK K;refine QI 12 (h:=?_);refine QI 13 (h:=?_);refine wpAnyIn_done rG ?_ _
  gi_wp2
  gi_meet
  case rel=>exact⟨_,m,rfl,rfl,rfl,H8.out⟩
 exact AllReadyIn.nil):P:=h
theorem zzr{P:Prop}(h:P:=by
 obtain⟨a,q⟩:=p;rw[hq] at hp;have HE:=Ax hp;obtain⟨rfl,_⟩:=hp;rw[←hq] at HE;clear hq;go_wp2_with fail;go_ret
 exact HE.out):P:=h
theorem zzq{P:Prop}(h:P:=by
 have hT:=(Bi.set7 (w:=X) ⟨c0,c1,c2,c3,c4,c5,c6,fz⟩ 0 ⟨#[]⟩ 0 0 ⟨#[]⟩ 0 0).below (((Aq _ _).alloc (Ak _) (.cells #[.int .u8 0,.int .i64 0,.string ⟨#[]⟩] 23)));have hB2:=(A7 HB2.out (Ak _) 0 ⟨#[]⟩ 0 0 ⟨#[]⟩ 0 0).trans ((((Aq _ _).alloc (Ak _) (.cells #[.int .u8 0,.int .i64 0,.string ⟨#[]⟩] 23))).mono uM);obtain⟨Z,hZ⟩:∃Z,(set7 X w.heap.size 0 ⟨#[]⟩ 0 0 ⟨#[]⟩ 0 0).alloc (.cells #[.int .u8 0,.int .i64 0,.string ⟨#[]⟩] 23)=Z:=⟨_,rfl⟩;rw[hZ] at hT hB2;unfold set7 at hZ;have HT:=Ax hT;have HB3:=Ax hB2;have HZ:=Ax hZ;clear hT hB2 hZ HB2;go_wp2_with fail;rw[HZ.out];obtain⟨d0,d1,d2,d3,d4,d5,d6,_⟩:=HT.out;clear c0 c1 c2 c3 c4 c5 c6 fz;refine Au (v:= .tuple #[.agg #[.int .u8 0,.string ⟨#[]⟩,.int .u8 0,.int .i64 0,.string ⟨#[]⟩,.int .i64 0,.int .i64 0],.int .i64 0,.int .i64 4]) sH rfl ?_
 exact⟨HB3.out,⟨0,[],(0,0,[])⟩,0,rfl⟩):P:=h
theorem zzp{P:Prop}(h:P:=by
 go_quiet ((go_at_call 110;exact Calls.quiet_of_same (HGo _).out));obtain⟨W5,hW5⟩:∃W,wr.drewN nq=W:=⟨_,rfl⟩;have hb5:Below wr.heap.size wr W5:=by rw[←hW5];exact A8 HBX.out nq
 have HB5:=Ax hb5;obtain⟨_,m1,m2⟩:=HK3.out W5 hb5;rw[hW5];clear hW5 hb5;go_wp2_with fail;go_ret2
 exact⟨by rw[HZ.out];rfl,HBw.out.trans (HB5.out.mono HBw.out.size)⟩):P:=h
theorem zzo{P:Prop}(h:P:=by
 obtain⟨er,q⟩:=p;rw[hq] at hp;have HE:=Ax hp;obtain⟨rfl,_,_⟩:=hp;clear hq;go_wp2_with fail
 exact⟨rfl,HE.out⟩):P:=h
theorem zzn{P:Prop}(h:P:=by
 have e1:(X.toList==s.toList)=false:=by rw[A0,A0];exact Af.2 (fun e=>hXs (Ch e))
 clear hXs;go_wp2_with fail
 exact Au (v:= .tuple #[.agg #[.int .u8 0,.int .i64 0,.string ⟨#[]⟩],.int .i64 4]) rK rfl (B7.bad (HP7.out.ret _ _ _) H0.out H4.out HR.out HBD.out)):P:=h
theorem zzm{P:Prop}(h:P:=by
 go_wp2_with fail;go_ret
 exact⟨Cu HR.out,rfl⟩):P:=h
theorem zzl{P:Prop}(h:P:=by
 go_wp2_with fail;go_ret
 exact HF.out):P:=h
theorem zzk{P:Prop}(h:P:=by
 have hO:Bb vk.ownBlock.toList w w2:=(Bb.of_below hb _).trans (Bb.of_grown hg _ fun k hk=>by simp [hk]);have hnb:vk.ownBlock≠some b:=Bh hk h.blk rH;refine⟨h.suf,h.toks.kept hO.size fun g hg' hlt=>hO.block g hlt fun hm=>?_,h.nam,h.tl,h.hB,fun x hx=>?_,h.hd,h.big,h.few,hO.cells_of h.blk uO,h.tree.imp (fun xs q=>Bj q hO fun g e hm=>?_) fun v n xs hn q=>⟨Bj q hO fun g e hm=>hn g e (List.mem_append.2 (.inl hm)),fun g e hm=>?_⟩⟩
 ·have h1:=h.tl g hg';have h2:=Co hk g sE;omega
 ·rcases List.mem_append.1 hx with hx|hx
  ·rcases hv x (by simpa using hx) with e|e
   ·have:=h.xl x (List.mem_append.2 (.inl (by simpa using e)))
    have:=hO.size
    omega
   exact e.2
  have:=h.xl x (List.mem_append.2 (.inr hx))
  have:=hO.size
  omega
 ·have hm':vk.ownBlock=some g:=by simpa using hm
  rcases q.2 with ⟨rfl,_⟩|⟨g',cap,cur,rfl,_,hg',_⟩
  ·cases e
  simp only[Value.ownBlock,Option.some.injEq] at e;subst e;exact Bh hk hg' rH hm'
 rcases List.mem_append.1 hm with hm|hm
 ·rcases hv g sE with e2|e2
  ·exact hn g e (List.mem_append.2 (.inl (by simpa using e2)))
  have:g<w.heap.size:=by
   rcases q.2 with ⟨rfl,_⟩|⟨g',cap,cur,rfl,_,hg',_⟩
   ·cases e
   simp only[Value.ownBlock,Option.some.injEq] at e;subst e;exact Ay hg'
  omega
 exact hn g e (List.mem_append.2 (.inr hm))):P:=h
theorem zzj{P:Prop}(h:P:=by
 go_wp2_with fail;rw[HZ.out];obtain⟨d0,d1,d2,d3,d4,d5,d6,_⟩:=HT.out;clear c0 c1 c2 c3 c4 c5 c6 fz;refine Au (v:= .tuple #[.agg #[.int .u8 0,.string ⟨#[]⟩,.int .u8 0,.int .i64 0,.string ⟨#[]⟩,.int .i64 0,.int .i64 0],.int .i64 0,.int .i64 4]) sH rfl ?_
 exact⟨HB3.out,⟨0,[],(0,0,[])⟩,0,rfl⟩):P:=h
theorem zzi{P:Prop}(h:P:=by
 intro d u V hd hu hdep hF hbV hzV K hK;obtain⟨x0,x1,rfl⟩:=Ka hu;obtain⟨b0,b1,rfl⟩:=Ka hd;obtain⟨f0,f1,_⟩:=hF;clear hd hu hdep f0 f1 HMONO;have HBV:=Ax hbV;have HZV:=Ax hzV;clear hbV hzV;simp only[Bo,Act.put,Ac,Ad,Ae] at hK ⊢
 go_simp
 go_at_call 47
 refine(HO.out V).mono ?_;rintro e V1 ⟨⟨v1,rfl,hv1⟩,hb1⟩
 (try go_wp2_with fail)
 refine hK.out _ _ hb1 hv1 (fun h=>absurd h rH)):P:=h
theorem zzh{P:Prop}(h:P:=by
 go_wp2_with fail
 exact⟨rfl,HE.out⟩):P:=h
theorem zzg{P:Prop}(h:P:=by
 exact AllReadyIn.nil):P:=h
theorem zzf{P:Prop}(h:P:=by
 go_wp2
 go_ret
 exact⟨rfl,HB.out⟩):P:=h
theorem zze{P:Prop}(h:P:=by
 rw[hK0] at hl0 ⊢;simp only[hK0] at HK0;rw[←J3];have HP1:=Ax hp1;have HB1:=Ax hb1;have Hlv:=Ax hlv;have Hwd:=Ax hwd;clear h hx hp1 hb1 hz hK hKL hlv hwd hK0 ho1 ho2 ho3;go_enter Tryz.func92,Tryz.ntmps92;go_wp2_with fail
 go_region_held3 (fun V=>V.cell? ⟨w.heap.size,0,none⟩=some (.int .u8 op)) (go_keep)
  (first
   |(go_at_call 62;(with_reducible refine(ho _).out.mono ?_);rintro e V2 ⟨rfl,hb2⟩;have hc2:=A4 hb2 n0;have hB2:=Ax hb2;clear hb2)
   |(go_at_call 62;(with_reducible refine(ho _).out.mono ?_);rintro e V3 ⟨rfl,hb3⟩;have hc3:=A4 hb3 hc2;have HB3:=Ax (hB2.out.trans (hb3.mono hB2.out.size));clear hb3))
 obtain⟨m0,m1,m2,m3,m4,m5,m6,m7,_⟩:=A6 ((HB3.out.block _ (Ay HP1.out)).trans HP1.out);have HBV0:=Ax (HB1.out.trans (HB3.out.mono HB1.out.size));clear HB1 hB2;go_wp2_with fail;refine(HK0 _ HBV0.out).out.mono ?_;rintro e V5 ⟨rfl,hbb0⟩;have HBV1:=Ax (HBV0.out.trans (hbb0.mono HBV0.out.size));clear hbb0;go_wp2_with fail;go_ret
 exact⟨rfl,HBV1.out⟩):P:=h
theorem zzd{P:Prop}(h:P:=by
 go_wp2_with fail;go_ret
 exact⟨HR.out,HB.out⟩):P:=h
theorem zzc{P:Prop}(h:P:=by
 go_enter Tryz.func92,Tryz.ntmps92;go_wp2_with fail
 go_region_held3 (fun V=>V.cell? ⟨w.heap.size,0,none⟩=some (.int .u8 op)) (go_keep)
  (first
   |(go_at_call 62;(with_reducible refine(ho _).out.mono ?_);rintro e V2 ⟨rfl,hb2⟩;have hc2:=A4 hb2 n0;have hB2:=Ax hb2;clear hb2)
   |(go_at_call 62;(with_reducible refine(ho _).out.mono ?_);rintro e V3 ⟨rfl,hb3⟩;have hc3:=A4 hb3 hc2;have HB3:=Ax (hB2.out.trans (hb3.mono hB2.out.size));clear hb3))
 obtain⟨m0,m1,m2,m3,m4,m5,m6,m7,_⟩:=A6 ((HB3.out.block _ (Ay HP1.out)).trans HP1.out);have HBV0:=Ax (HB1.out.trans (HB3.out.mono HB1.out.size));clear HB1 hB2;go_wp2_with fail;refine(HK0 _ HBV0.out).out.mono ?_;rintro e V5 ⟨rfl,hbb0⟩;have HBV1:=Ax (HBV0.out.trans (hbb0.mono HBV0.out.size));clear hbb0;go_wp2_with fail;refine(HK1 _ HBV1.out).out.mono ?_;rintro e V6 ⟨rfl,hbb1⟩;have HBV2:=Ax (HBV1.out.trans (hbb1.mono HBV1.out.size));clear hbb1;go_wp2_with fail;go_ret
 exact⟨rfl,HBV2.out⟩):P:=h
theorem zzb{P:Prop}(h:P:=by
 rw[hr] at HN;clear hDd hr;cases r
 case ok n=>
  have Hp:=Ax hp;have HN:=Ax HN.out;clear hp;go_wp2_with fail;refine Hp.out.mono ?_;rintro e V2 ⟨rfl,hb⟩;have h1:=Hs1.out.below hb;obtain⟨a0,a1,a2,b0,b1,b2,f0,f1,hlt⟩:=h1.cells;have HB:=Ax h1.low;clear h1 hb Hp Hs1
  go_wp2
  refine Au (v:= .tuple #[.agg #[.int .u8 1,.int .i64 n,.string ⟨#[]⟩],.int .i64 0]) rV rfl ?_;rw[HN.out];exact⟨(((HB.out.setCell rI _).setCell rI _).setCell rI _).setCell rI _,rfl⟩
 all_goals
  have Hp:=Ax hp;have HN:=Ax HN.out;clear hp;go_wp2_with fail;refine Hp.out.mono ?_;rintro e V2 ⟨pz,pt,pN,rfl,hb⟩;have h1:=Hs1.out.below hb;obtain⟨a0,a1,a2,b0,b1,b2,f0,f1,hlt⟩:=h1.cells;have HB:=Ax h1.low;clear h1 hb Hp Hs1
  go_wp2
  refine Au (v:= .tuple #[.agg #[.int .u8 1,.int .i64 0,.string ⟨#[]⟩],.int .i64 9]) rV rfl ?_;rw[HN.out]
  exact⟨((HB.out.setCell rI _).setCell rI _).setCell rI _,_,_,_,rfl⟩):P:=h
theorem zza{P:Prop}(h:P:=by
 rw[hr] at HN;clear hDd hr;cases r
 case ok n=>
  have Hp:=Ax hp;have HN:=Ax HN.out;clear hp;go_wp2_with fail;refine Hp.out.mono ?_;rintro e V2 ⟨rfl,hb⟩;have h1:=Hs1.out.below hb;obtain⟨a0,a1,a2,b0,b1,b2,f0,f1,hlt⟩:=h1.cells;have HB:=Ax h1.low;clear h1 hb Hp Hs1
  go_wp2
  refine Au (v:= .tuple #[.agg #[.int .u8 2,.int .i64 n,.string ⟨#[]⟩],.int .i64 0]) rV rfl ?_;rw[HN.out];exact⟨(((HB.out.setCell rI _).setCell rI _).setCell rI _).setCell rI _,rfl⟩
 all_goals
  have Hp:=Ax hp;have HN:=Ax HN.out;clear hp;go_wp2_with fail;refine Hp.out.mono ?_;rintro e V2 ⟨pz,pt,pN,rfl,hb⟩;have h1:=Hs1.out.below hb;obtain⟨a0,a1,a2,b0,b1,b2,f0,f1,hlt⟩:=h1.cells;have HB:=Ax h1.low;clear h1 hb Hp Hs1
  go_wp2
  refine Au (v:= .tuple #[.agg #[.int .u8 2,.int .i64 0,.string ⟨#[]⟩],.int .i64 9]) rV rfl ?_;rw[HN.out]
  exact⟨((HB.out.setCell rI _).setCell rI _).setCell rI _,_,_,_,rfl⟩):P:=h
theorem zy9{P:Prop}(h:P:=by
 go_wp2_with fail;go_ret
 exact HE.out):P:=h
theorem zy8{P:Prop}(h:P:=by
 go_wp2_with fail;go_ret
 exact⟨rfl,Aq _ _⟩):P:=h
theorem zy7{P:Prop}(h:P:=by
 go_wp2_with fail;refine HA.out.mono ?_;rintro e V ⟨rfl,hb⟩;have HB:=Ax (HBw.out.trans (hb.mono HBw.out.size));clear hb HA;go_wp2_with fail;go_ret2
 exact⟨by rw[HZ.out];rfl,HB.out⟩):P:=h
theorem zy6{P:Prop}(h:P:=by
 go_wp2_with fail;go_ret2
 exact⟨by rw[HZ.out];rfl,HB.out⟩):P:=h
theorem zy5{P:Prop}(h:P:=by
 clear hbk hkl hk12;go_wp2_with fail;go_roundw
 case rel=>
  refine⟨j+1,by omega,by go_num,HB2,fun i h h1 h2=>?_⟩;rcases Nat.lt_succ_iff_lt_or_eq.1 h with h|rfl
  ·exact HALL.out i h h1 h2
  exact HEQ.out
 case measure=>simp [intOf];omega):P:=h
theorem zy4{P:Prop}(h:P:=by
 have hB6:=Cq (v:= .slice oa (i+k) oc) (HR.out.bel.alloc (by have:=HSW.out;omega) (.cells #[.int .i64 (d:Int)] 3)) hgrow6 Hown.out tK;rw[←Dg,List.append_assoc] at hown6
 have HR6:Hid (aQ wo.heap.size W0 w6 xs y i (k+1) c (.slice (some ⟨g6,0,none⟩) (i+(k+1)) cap) (o++[d])):=Ax ⟨hown6,by rw[Ab,HR.out.len];rfl,Ff HR.out.ok HDL.out,by
  rw[Gg,HR.out.len,Nat.pow_succ,HVL.out]
  exact HR.out.val,hB6⟩
 clear hown6 hgrow6 hat6 hlt6 hB6 Hrow1 HN1 HZ1 hsr HSW Hown HR HVL HDL;go_wp2_with fail;go_roundw
 case rel=>exact⟨k+1,c,o++[d],some ⟨g6,0,none⟩,cap,hm1,Hbd.out,by rw[Nat.add_assoc],by first|rfl|rw[hd],by go_num,HR6⟩
 case measure=>simp [intOf];omega):P:=h
theorem zy3{P:Prop}(h:P:=by
 have hc:=HA.out l[k] wo (List.getElem_mem hlk) hb.out;have Hc:=Ax hc;obtain⟨q,hp⟩:∃q,p l[k]=q:=⟨_,rfl⟩;rw[hp] at Hc;have Hp:=Ax hp;have j0:(0:Int)<=(k:Int):=by omega
 have j1:(k:Int)<(l.length:Int):=by omega
 clear hc hp;go_wp2_with fail;refine Hc.out.mono ?_;rintro r w2 ⟨rfl,hb2⟩;have HB2:=Ax (hb.out.trans (hb2.mono hb.out.size));clear hb2;cases q
 ·go_wp2
  go_roundw
  case rel=>exact⟨k+1,by omega,by go_num,fun j h hj=>by
   rcases Nat.lt_or_ge j k with q|q
   ·exact hq.out j h q
   obtain rfl:j=k:=by omega
   exact Hp.out,HB2.out⟩
  case measure=>simp [intOf];omega
 go_wp2
 go_ret
 exact⟨by rw[Qu hlk hq.out Hp.out];rfl,HB2.out⟩):P:=h
theorem zy2{P:Prop}(h:P:=by
 have HQ:Hid (∃j,dl (⟨#[48]⟩++T2)=List.replicate j 48++d/\(j=0\/(⟨#[48]⟩++T2:ByteArray).size<=5)):=Ax (by
  obtain⟨j,e,_⟩:=hq.out;refine⟨j+1,?_,.inr ?_⟩
  ·rw[Dz,e];rfl
  have hs1:(⟨#[48]⟩:ByteArray).size=1:=rfl;rw[ByteArray.size_append,hs1]
  omega)
 have i2:(T2.size:Int)<5:=by omega
 clear hq
 go_wp2
 go_round
 case rel=>
  have hs1:(⟨#[48]⟩:ByteArray).size=1:=rfl;exact⟨_,rfl,by rw[ByteArray.size_append,hs1];omega,by rw[ByteArray.size_append,hs1];omega,HQ.out⟩
 case measure=>
  have hs1:(⟨#[48]⟩:ByteArray).size=1:=rfl;simp only[ByteArray.size_append,hs1]
  omega):P:=h
theorem zy1{P:Prop}(h:P:=by
 have Hnx:=Ax hnx;have Hk0:=Ax hk0;clear hnx hk0;go_wp2_with fail;refine HT.out.mono ?_;rintro e V ⟨rfl,hbv⟩;have HN:Hid (Below w.heap.size w V/\V.heap[w.heap.size]? =some (.cells #[.int .u8 op,.int .u8 vk,.int .i64 vn,.string ⟨vs.toArray⟩,.string ⟨nm.toArray⟩,.slice (some ⟨kb,ko,none⟩) kids.length kc,.int .i64 ln,.int .i64 cl] 43 (0,0))):=Ax ⟨HBk.out.trans (hbv.mono HBk.out.size),(hbv.block _ (Ay HPk.out)).trans HPk.out⟩;clear hbv HT n5 hcell;go_wp2_with fail;go_roundw
 case rel=>exact⟨k+1,by omega,by go_num,by rw[Hnx.out],HN⟩
 case measure=>simp [intOf];omega):P:=h
theorem zy0{P:Prop}(h:P:=by
 rw[HN.out]
 exact⟨((HB.out.setCell rI _).setCell rI _).setCell rI _,_,_,_,rfl⟩):P:=h
theorem zyz{P:Prop}(h:P:=by
 go_wp2
 go_meet
 case rel=>exact⟨rfl,rfl⟩):P:=h
theorem zyy{P:Prop}(h:P:=by
 have HNG:=Ax (Ol HX.out);go_wp2_with fail;refine HNG.out.mono ?_;rintro e V5 ⟨⟨v5,rfl,hv5⟩,hb5⟩;obtain⟨b5,a5,n5,c5,rfl⟩:=hv5.parts;have hA5:=HA.out.below hb5;have HN5:=Ax (Jv hA5 hv5);obtain⟨g0,g1,gf⟩:=A1 hA5.x;obtain⟨r0,r1,rf⟩:=A1 hA5.r;have gf0:=gf 0;have gf1:=gf 1;have rf0:=rf 0;have rf1:=rf 1;have HF:=Ax (C5 HN5.out.1 HN5.out.2);clear hv5 hb5 hA5 gf rf HNG y0 y1 z0 z1 zf0 zf1 yf0 yf1;go_wp2_with fail
 exact Au (v:= .tuple #[.agg #[.bool b5,.slice a5 n5 c5],.bool false,.bool true]) rJ rfl (Cm.yes HF.out.1 HYY.out HF.out.2)):P:=h
theorem zyx{P:Prop}(h:P:=by
 have HNG:=Ax (Ol HX.out);go_wp2_with fail;refine HNG.out.mono ?_;rintro e V5 ⟨⟨v5,rfl,hv5⟩,hb5⟩;obtain⟨b5,a5,n5,c5,rfl⟩:=hv5.parts;have hA5:=HA.out.below hb5;have HN5:=Ax (Jv hA5 hv5);obtain⟨g0,g1,gf⟩:=A1 hA5.x;obtain⟨r0,r1,rf⟩:=A1 hA5.r;have gf0:=gf 0;have gf1:=gf 1;have rf0:=rf 0;have rf1:=rf 1;have HF:=Ax (C5 HN5.out.1 HN5.out.2);clear hv5 hb5 hA5 gf rf HNG y0 y1 z0 z1 zf0 zf1 yf0 yf1;go_wp2_with fail
 exact Au (v:= .tuple #[.agg #[.bool b5,.slice a5 n5 c5],.bool true,.bool true]) rJ rfl (Cm.yes HF.out.1 HYY.out HF.out.2)):P:=h
theorem zyw{P:Prop}(h:P:=by
 have:=Az (w.alloc (.cells #[.int .u8 op,.int .u8 vk,.int .i64 vn,.string ⟨vs.toArray⟩,.string ⟨nm.toArray⟩,.slice ka kids.length kc,.int .i64 ln,.int .i64 cl] 43)) (.cells #[.int .u8 op,.int .u8 vk,.int .i64 vn,.string ⟨vs.toArray⟩,.string ⟨nm.toArray⟩,.slice ka kids.length kc,.int .i64 ln,.int .i64 cl] 43)
 rw[show(w.alloc (.cells #[.int .u8 op,.int .u8 vk,.int .i64 vn,.string ⟨vs.toArray⟩,.string ⟨nm.toArray⟩,.slice ka kids.length kc,.int .i64 ln,.int .i64 cl] 43)).heap.size=w.heap.size+1 by simp] at this
 exact this):P:=h
theorem zyv{P:Prop}(h:P:=by
 go_enter Tryz.func94,Tryz.ntmps94;go_wp2_with fail;refine HW.out.mono ?_;rintro e V ⟨rfl,hb⟩;have HB:=Ax hb;have HC:=Ax (HCL.out V);clear hb HW HCL;go_wp2_with fail;refine HC.out.mono ?_;rintro e V2 ⟨rfl,rfl⟩;go_wp2_with fail;go_ret
 exact⟨rfl,HB.out⟩):P:=h
theorem zyu{P:Prop}(h:P:=by
 refine⟨⟨h.suf,h.toks.kept hO.size fun g hg hlt=>hO.block g hlt fun hm=>?_,h.nam,h.tl,h.hB,fun x hx=>Nat.lt_of_lt_of_le (h.xl x hx) hO.size,h.hd,h.big,by simpa using hroom,hb2,kvs++[kv],?_,?_⟩,hO,fun g hg=>hv g hg⟩
 ·have h1:=h.tl g hg;rcases List.mem_cons.1 hm with rfl|hm
  ·have:=h.hB
   omega
  have:=h.tree.own g sE
  omega
 ·rw[Mp hk2.len]
  have:=hset _ _ _ rH hown
  simpa using this
 exact C8.snoc (hk2.imp fun v k xs hn q=>⟨hset v k xs rH (hint v k xs q),hn⟩) ⟨hset _ _ _ rH (hint _ _ _ hkv),hkx⟩):P:=h
theorem zyt{P:Prop}(h:P:=by
 clear hq c hZ;go_wp2_with fail
 go_round
 case rel=>exact⟨1,by first|rfl|go_num,by omega,HM⟩
 case measure=>simp [intOf]<;>omega):P:=h
theorem zys{P:Prop}(h:P:=by
 exact⟨((HB.out.setCell rI _).setCell rI _).setCell rI _,rfl⟩):P:=h
theorem zyr{P:Prop}(h:P:=by
 obtain⟨nb,hnb⟩:∃nb,decide (x+y<0)=nb:=⟨_,rfl⟩;obtain⟨kk,hkk⟩:∃k,Br (x+y).natAbs=k:=⟨_,rfl⟩;rw[hnb,hkk] at HB2 HV ⊢;clear hnb hkk;go_wp2_with fail
 refine Au (v:= .agg #[.bool nb,.slice a2 kk c2]) tZ rfl ⟨⟨_,rfl,HV.out⟩,HB2.out⟩):P:=h
theorem zyq{P:Prop}(h:P:=by
 go_wp2_with fail;go_quiet (fail);go_wp2_with fail;go_ret
 exact⟨rfl,A8 (Aq _ w) _⟩):P:=h
theorem zyp{P:Prop}(h:P:=by
 obtain⟨b,off,e,hc⟩:=h4 i hi;refine⟨b,off,e,?_⟩
 have hne:b≠r:=by
  rintro rfl;simp only[World.cell?,hr] at hc;obtain h0|h0|h0:off+i=0\/off+i=1\/2<=off+i:=by omega
  ·rw[h0] at hc;simp at hc
  ·rw[h0] at hc;simp at hc
  rw[Array.getElem?_eq_none (by simpa using h0)] at hc;simp at hc
 rw[←hc];refine World.cell?_of_block ?_
 show((V.setCell ⟨r,0,none⟩ u).setCell ⟨r,1,none⟩ u').heap[b]? =V.heap[b]?
 rw[Below.heap_setCell _ _ _ _ (by exact hne),Below.heap_setCell _ _ _ _ (by exact hne)]):P:=h
theorem zyo{P:Prop}(h:P:=by
 go_enter Tryz.func54,Tryz.ntmps54;go_wp2_with fail;refine Au (v:= .agg #[.int .i64 tl,.int .i64 (tc+(tt.length:Int)+1)]) sJ rfl ?_;refine⟨by simp [*],?_⟩
 exact(((HB3.out.setCell rI _).setCell rI _).setCell rI _).setCell rI _):P:=h
theorem zyn{P:Prop}(h:P:=by
 go_ret
 exact⟨rfl,rfl⟩):P:=h
theorem zym{P:Prop}(h:P:=by
 rw[Ao rH];refine OneB.mk 0 ⟨some 54,_,_,_,_,_⟩ _ rfl rfl rfl rfl HMONO.out (Ak _) ?_;intro d u V hd hu hdep hF hbV hzV K hK;obtain⟨x0,x1,rfl⟩:=Ka hu;obtain⟨b0,b1,rfl⟩:=Ka hd;obtain⟨f0,f1,_⟩:=hF;clear hd hu hdep f0 f1 HMONO;have HBV:=Ax hbV;have HZV:=Ax hzV;clear hbV hzV;simp only[Bo,Act.put,Ac,Ad,Ae] at hK ⊢;obtain⟨u0,u1⟩:=HY.out V HBV.out
 go_simp
 (try go_wp2_with fail)
 refine hK.out _ _ (Aq _ _) rfl (fun h=>absurd h rH)):P:=h
theorem zyl{P:Prop}(h:P:=by
 go_enter Tryz.func59,Tryz.ntmps59;go_wp2_with fail;go_ret
 exact⟨rfl,((Aq _ w).alloc (Ak _) _).alloc rI _⟩):P:=h
theorem zyk{P:Prop}(h:P:=by
 go_enter Tryz.func57,Tryz.ntmps57;go_wp2_with fail;refine Au (v:= .agg #[.int .i64 tl,.int .i64 (tc+((tt.length:Int)+1))]) sI rfl ?_;refine⟨by simp [*,Int.add_assoc],?_⟩
 exact(HB3.out.setCell rI _).setCell rI _):P:=h
theorem zyj{P:Prop}(h:P:=by
 have hl:=hs.len;refine⟨hs.trans h.suf,h.toks.kept ho.size fun g hg hlt=>ho.block g hlt ?_,h.nam,h.tl,h.hB,fun x hx=>Nat.lt_of_lt_of_le (h.xl x hx) ho.size,hd,h.big,by have:=h.few;omega,hb,h.tree.imp (fun _ q=>Bj q ho fun k e hm=>?_) fun v n xs hn q=>⟨Bj q ho fun k e hm=>?_,hn⟩⟩
 ·have:=h.tl g hg
  have:=h.hB
  simp;omega
 ·simp at hm;subst hm;exact h.tree.not h.blk rH e
 simp at hm;subst hm
 exact Bh q h.blk rH e):P:=h
theorem zyi{P:Prop}(h:P:=by
 go_enter Tryz.func67,Tryz.ntmps67;go_upto_region 1 with fail
 rw[HW1.out,HW2.out];clear HW1 HW2;go_wp2_with fail;go_ret2
 exact⟨rfl,HB.out⟩):P:=h
theorem zyh{P:Prop}(h:P:=by
 rw[←Pu] at hown6;have HR6:Hid (w6.ownsRow w.heap.size 9 1 (.slice (some ⟨g6,0,none⟩) (L++[nm]).length cap) (L++[nm]).length (Ib (L++[nm]))/\Below w.heap.size w w6):=Ax ⟨by rw[Ab];exact hown6,hB6⟩;clear hown6 hgrow6 hat6 hlt6 hB6 Hrow1 HN1 HZ1 hsr Hown;go_wp2_with fail;go_roundw
 case rel=>exact⟨i+1,L++[nm],some ⟨g6,0,none⟩,cap,by omega,by go_num,by rw[Ab];rfl,HH2,HR6⟩
 case measure=>simp [intOf];omega):P:=h
theorem zyg{P:Prop}(h:P:=by
 rw[HX.out];have hO:Bb [w.heap.size] V4 ((V4.setCell ⟨w.heap.size,0,none⟩ (.int .i64 0)).setCell ⟨w.heap.size,1,none⟩ (.int .i64 0)):=(A3 V4 _ _ _).setCell (.inl rI) _;refine⟨(HB4.out.setCell rI _).setCell rI _,_,rfl,HT.out.imp (fun _ r=>Bj r hO fun k e hm=>?_) fun v n xs hx r=>⟨Bj r hO fun k e hm=>?_,hx⟩⟩
 ·simp at hm;subst hm;exact Bh r HP5.out rH e
 simp at hm;subst hm
 exact Bh r HP5.out rH e):P:=h
theorem zyf{P:Prop}(h:P:=by
 have hl:=h.suf.len;simp only[Aa] at hl;have hlt:ts.length - (t::q).length<ts.length:=by simp only[Aa];omega
 have he:ts[ts.length - (t::q).length]=t:=by
  have h1:=h.suf.at_drop;have h2:=Ar (fun l=>l[0]?) h1;simp only[List.getElem?_cons_zero,List.getElem?_drop,Nat.add_zero] at h2;rw[Ag hlt] at h2;injection h2 with h2;exact h2.symm
 obtain⟨g,c,e,hg,h0⟩:=h.toks.at hlt;rw[he] at h0
 exact⟨g,c,e,hg,hlt,h0⟩):P:=h
theorem zye{P:Prop}(h:P:=by
 have HBL:=Ax (hb.out.trans ((hbW1.trans (hbW2.mono hbW1.size)).mono hb.out.size));clear hpa hsz hbW1 hbW2 hpb hpa2 hW1 hW2 x0 x1 x2 x3 x4 x5 x6 x7 y0 y1 y2 y3 y4 y5 y6 y7 hbx hby hb;go_wp2_with fail
 all_goals first|exact absurd rfl d2|exact absurd (Prod.ext (show vk1=vk2 by assumption) (Prod.ext (show vn1=vn2 by assumption) (show vs1=vs2 by assumption))) d2|(go_ret;exact⟨by rw[HF.out];rfl,HBL.out⟩)):P:=h
theorem zyd{P:Prop}(h:P:=by
 have h1:=Az (w.alloc (.cells #[.bool bx,.slice ax nx cx] 79)) (.cells #[.bool by',.slice ay ny cy] 79);rw[show(w.alloc (.cells #[.bool bx,.slice ax nx cx] 79)).heap.size=w.heap.size+1 by simp] at h1;have h2:=(Aq _ ((w.alloc (.cells #[.bool bx,.slice ax nx cx] 79)).alloc (.cells #[.bool by',.slice ay ny cy] 79))).alloc (Ak _) (.cells #[.bool false,.slice none 0 0] 79)
 exact(h2.block _ (Ay h1)).trans h1):P:=h
theorem zyc{P:Prop}(h:P:=by
 simp only at he HP;obtain⟨ek,en,es,rfl⟩:=he
 have hq0:(q==0)=false:=by
  have:=Hf1.out
  unfold oF at this;simp;omega
 have HB:=Ax h2.low;have HP:=Ax HP.out;clear h2 hR2 Hf1 Hr
 go_wp2
 refine Au (v:= .tuple #[.agg #[.int .u8 0,.int .i64 0,.string ⟨#[]⟩],.int .i64 q]) sC rfl ?_;rw[HP.out]
 exact⟨(((HB.out.setCell rI _).setCell rI _).setCell rI _).alloc (by simp [World.setCell];omega) _,rfl⟩):P:=h
theorem zyb{P:Prop}(h:P:=by
 go_wp2_with fail;go_region
 all_goals
  rw[HZ.out];obtain⟨d0,d1,d2,d3,d4,d5,d6,_⟩:=HT.out;clear c0 c1 c2 c3 c4 c5 c6 fz
  go_wp2
  refine Au (v:= .tuple #[.agg #[.int .u8 4,.string (s.extract 0 N),.int .u8 0,.int .i64 0,.string ⟨#[]⟩,.int .i64 0,.int .i64 0],.int .i64 N,.int .i64 4]) sV rfl ?_
  exact⟨HB2.out,⟨4,(dl s).take N,(0,0,[])⟩,_,by rw[←Hex.out];rfl⟩):P:=h
theorem zya{P:Prop}(h:P:=by
 rw[hK] at HA hlen ⊢;have hKl:K.length<=65536:=by rw[Ab] at hlen;omega
 rw[←J3];clear hz htx hlen hA hkc hK hc0 hk1;clear ht IH hx hfits hkids hp1 hb1 hfit hT;go_enter Tryz.func64,Tryz.ntmps64;go_wp2_with fail;refine HA.out.mono ?_;rintro e V4 ⟨rfl,hb4⟩;have HB4:=Ax (HB1.out.trans (hb4.mono HB1.out.size));clear hb4 HA;go_wp2_with fail;go_ret
 exact⟨rfl,HB4.out⟩):P:=h
theorem zx9{P:Prop}(h:P:=by
 have HBL:=Ax (hb.out.trans ((hbW1.trans (hbW2.mono hbW1.size)).mono hb.out.size));clear hpa hsz hbW1 hbW2 hpb hpa2 hW1 hW2 x0 x1 x2 x3 x4 x5 x6 x7 y0 y1 y2 y3 y4 y5 y6 y7 hbx hby hb;go_wp2_with fail
 all_goals first|exact absurd rfl d5|exact absurd (Prod.ext (show ln1=ln2 by assumption) (show cl1=cl2 by assumption)) d5|(go_ret;exact⟨by rw[HF.out];rfl,HBL.out⟩)):P:=h
theorem zx8{P:Prop}(h:P:=by
 go_enter Tryz.func95,Tryz.ntmps95;go_wp2_with fail;refine HI.out.mono ?_;rintro e V1 ⟨rfl,hb1⟩;have x0:=A4 hb1 HX.out;have HB1:=Ax hb1;have HL:=Ax (Jg op V1);clear hb1 HI HX;go_wp2_with fail;refine HL.out.mono ?_;rintro e V2 ⟨rfl,hb2⟩;have HB2:=Ax (HB1.out.trans (hb2.mono HB1.out.size));clear hb2 HL HB1;go_wp2_with fail;go_ret
 exact⟨rfl,HB2.out⟩):P:=h
theorem zx7{P:Prop}(h:P:=by
 have ec:∀i,w'.cell? ⟨b,i,none⟩=w.cell? ⟨b,i,none⟩:=fun i=>World.cell?_of_block (w:=w) e
 have ef:∀i,w'.frozen? ⟨b,i,none⟩=w.frozen? ⟨b,i,none⟩:=fun i=>World.frozen?_of_block (w:=w) e
 constructor<;>first|(rw[ec];first|exact h.c0|exact h.c1|exact h.c2|exact h.c3|exact h.c4|exact h.c5|exact h.c6)|(intro i;rw[ef];exact h.fz i)):P:=h
theorem zx6{P:Prop}(h:P:=by
 clear hb3
 try go_wp2_with fail
 clear hHeld;refine hK.out _ _ ?_ (fun hHeld=>?_)
 ·exact HSV.out _ HB3.out
 clear hK K
 try simp only[Act.put,Ac,Ad,Ae]
 refine QH 17 ⟨some 4,_,_,_,_,_⟩ (h:=?_)
 try simp only[Act.put,Ac,Ad,Ae]
 refine wpAnyH_done rG ?_ _;refine NoPanic.normal ?_;go_wp2_with fail;go_ret
 exact⟨by rw[←HZ.out];rfl,HB3.out⟩):P:=h
theorem zx5{P:Prop}(h:P:=by
 refine⟨by rw[Hl.out];rfl,?_⟩
 exact(((HB3.out.setCell (Ak _) _).setCell (Ak _) _).setCell (Ak _) _).alloc rM _):P:=h
theorem zx4{P:Prop}(h:P:=by
 go_wp2_with fail;refine HEA.out.mono ?_;rintro e V3 ⟨rfl,hb3⟩;have HB3:=Ax (HA.out.trans (hb3.mono HA.out.size));clear hb3;go_wp2_with fail;refine(HS _ _).out.mono ?_;rintro e V4 ⟨rfl,hb4⟩;have HB4:=Ax (HB3.out.trans (hb4.mono HB3.out.size));clear hb4;go_wp2_with fail;go_ret
 exact⟨by rw[←HR.out];rfl,HB4.out⟩):P:=h
theorem zx3{P:Prop}(h:P:=by
 go_enter Tryz.func168,Tryz.ntmps168;go_wp2_with fail;go_quiet (fail);go_wp2_with fail;go_region_with ((go_at_call 62;(with_reducible refine(ho _).out.mono ?_);rintro e V ⟨rfl,hb⟩;have HB:=Ax ((HD nq).out.drew.trans (hb.mono (HD nq).out.size));clear hb))
 all_goals
  go_wp2_with fail;go_ret
  exact⟨rfl,HB.out⟩):P:=h
theorem zx2{P:Prop}(h:P:=by
 have HH2:Hid (Dc (l.take (i+1)) []=L):=Ax HH.out;have HR:Hid (W1.ownsRow w.heap.size 9 1 (.slice oa L.length oc) L.length (Ib L)/\Below w.heap.size w W1):=Ax ⟨HR1.out,HB1.out⟩;clear HCn;go_wp2_with fail;go_roundw
 case rel=>exact⟨i+1,L,oa,oc,by omega,by go_num,rfl,HH2,HR⟩
 case measure=>simp [intOf];omega):P:=h
theorem zx1{P:Prop}(h:P:=by
 rcases h.2 with ⟨e,h0⟩|⟨g,cap,cur,rfl,_,hg,hc,_⟩
 ·have:l=[]:=List.eq_nil_of_length_eq_zero h0
  subst this;exact⟨hl,none,0,e,fun i hi=>by simp at hi⟩
 refine⟨hl,_,_,rfl,fun i hi=>⟨g,0,rfl,?_⟩⟩
 have:=h.cells (g:=g) rfl i (.int .u8 l[i]) (by simp [hi])
 simpa only[Addr.add_lit] using this):P:=h
theorem zx0{P:Prop}(h:P:=by
 have h1:=Az ((w.alloc (.cells #[.bool bx,.slice ax nx cx] 79)).alloc (.cells #[.bool by',.slice ay ny cy] 79)) (.cells #[.bool false,.slice none 0 0] 79);rw[show((w.alloc (.cells #[.bool bx,.slice ax nx cx] 79)).alloc (.cells #[.bool by',.slice ay ny cy] 79)).heap.size=w.heap.size+2 by simp] at h1
 exact h1):P:=h
theorem zxz{P:Prop}(h:P:=by
 have HBL:=Ax (hb.out.trans ((hbW1.trans (hbW2.mono hbW1.size)).mono hb.out.size));clear hpa hsz hbW1 hbW2 hpb hpa2 hW1 hW2 x0 x1 x2 x3 x4 x5 x6 x7 y0 y1 y2 y3 y4 y5 y6 y7 hbx hby hb;go_wp2_with fail
 all_goals first|exact absurd rfl d1|exact absurd uK d1|(go_ret;exact⟨by rw[HF.out];rfl,HBL.out⟩)):P:=h
theorem zxy{P:Prop}(h:P:=by
 have HBL:=Ax (hb.out.trans ((hbW1.trans (hbW2.mono hbW1.size)).mono hb.out.size));clear hpa hsz hbW1 hbW2 hpb hpa2 hW1 hW2 x0 x1 x2 x3 x4 x5 x6 x7 y0 y1 y2 y3 y4 y5 y6 y7 hbx hby hb;go_wp2_with fail
 all_goals first|exact absurd rfl d3|exact absurd uK d3|(go_ret;exact⟨by rw[HF.out];rfl,HBL.out⟩)):P:=h
theorem zxx{P:Prop}(h:P:=by
 have HBL:=Ax (hb.out.trans ((hbW1.trans (hbW2.mono hbW1.size)).mono hb.out.size));clear hpa hsz hbW1 hbW2 hpb hpa2 hW1 hW2 x0 x1 x2 x3 x4 x5 x6 x7 y0 y1 y2 y3 y4 y5 y6 y7 hbx hby hb;go_wp2_with fail
 all_goals first|exact absurd rfl d4|exact absurd uK d4|(go_ret;exact⟨by rw[HF.out];rfl,HBL.out⟩)):P:=h
theorem zxw{P:Prop}(h:P:=by
 go_enter Tryz.func115,Tryz.ntmps115
 go_wp2
 go_ret
 exact⟨by simp [Ij,Ef,Jd,show ¬(97<=x/\x<=122) by omega,show ¬(48<=x/\x<=57) by omega],rfl⟩):P:=h
theorem zxv{P:Prop}(h:P:=by
 rintro e w' ⟨rfl,rfl⟩;go_wp2_with fail
 go_round
 case rel=>exact⟨q+1,by go_num,by omega,by omega,HN⟩
 case measure=>simp [intOf]<;>omega):P:=h
theorem zxu{P:Prop}(h:P:=by
 clear hq;go_wp2_with fail
 go_round
 case rel=>exact⟨i+1,_,by omega,by go_num,rfl,HN.out.1,Ax HN.out.2⟩
 case measure=>simp [intOf];omega):P:=h
theorem zxt{P:Prop}(h:P:=by
 split
 ·next hf=>
  obtain⟨_,hr⟩:=Fr (h2 hf).1;rw[List.all_append,had,Bool.true_and];refine List.all_eq_true.2 fun x hx=>?_
  rcases List.mem_append.1 (List.mem_of_mem_take hx) with q|q
  ·exact List.all_eq_true.1 hr x q
  simp at q;subst q;decide
 exact had):P:=h
theorem zxs{P:Prop}(h:P:=by
 have h1:=Az w (.cells #[.bool bx,.slice ax nx cx] 79);have h2:=((Aq _ (w.alloc (.cells #[.bool bx,.slice ax nx cx] 79))).alloc (Ak _) (.cells #[.bool by',.slice ay ny cy] 79)).alloc rI (.cells #[.bool false,.slice none 0 0] 79)
 exact(h2.block _ (Ay h1)).trans h1):P:=h
theorem zxr{P:Prop}(h:P:=by
 clear hq c hZ;go_wp2_with fail
 go_round
 case rel=>exact⟨2,by first|rfl|go_num,by omega,HM⟩
 case measure=>simp [intOf]<;>omega):P:=h
theorem zxq{P:Prop}(h:P:=by
 rw[←hW3]
 show(World.setCell _ _ _).heap[_]? =_
 rw[A2 (A2 (A2 (A2 HN2.out)))]
 rfl):P:=h
theorem zxp{P:Prop}(h:P:=by
 obtain⟨h1,a,c,h2,h3⟩:=h;refine⟨h1,a,c,h2,fun i hi=>?_⟩;obtain⟨b,off,e,hc⟩:=h3 i hi
 exact⟨b,off,e,A4 hb hc⟩):P:=h
theorem zxo{P:Prop}(h:P:=by
 go_wp2_with fail;go_ret
 exact⟨_,rfl,by rw[HZ.out];exact⟨Nat.zero_le _,none,0,rfl,fun i hi=>by simp at hi⟩,HB.out⟩):P:=h
theorem zxn{P:Prop}(h:P:=by
 simp [hi] at h
 exact⟨i,rfl,h.1,h.2.1,h.2.2⟩):P:=h
theorem zxm{P:Prop}(h:P:=by
 go_wp2_with fail;go_roundw
 case rel=>exact⟨q,ln,bg,ts,va,vc,by rw[HTN.out],rfl,rfl,rfl,by omega,by omega,by omega,by rw[HTN.out];omega,Ax ⟨by rw[HTN.out];exact HA.out,HM.out⟩⟩
 case measure=>have:=HPQ.out;simp [intOf]<;>omega):P:=h
theorem zxl{P:Prop}(h:P:=by
 simp only[hz] at HT;clear ht ho hf hR hz;go_enter Tryz.func30,Tryz.ntmps30;go_wp2_with fail;refine HT.out.mono ?_;rintro e V1 ⟨rfl,hb1⟩;have HB1:=Ax hb1;clear hb1 HT;unfold P4;go_wp2_with fail;go_ret
 exact⟨rfl,HB1.out⟩):P:=h
theorem zxk{P:Prop}(h:P:=by
 unfold G8;rw[←hRd];cases q
 ·have h0:R.size≠0:=of_decide_eq_false hq;rw[Ao (fun e=>h0 (by rw[←A5,e];rfl))];rfl
 have h0:R.size=0:=of_decide_eq_true hq;rw[Ap (List.eq_nil_of_length_eq_zero (by rw[A5];exact h0))]
 rfl):P:=h
theorem zxj{P:Prop}(h:P:=by
 have:(ms.map fun _=>false).getD x false=false:=by
  rw[List.getD_eq_getElem?_getD];cases q:(ms.map fun _=>false)[x]? with
  |none=>rfl
  |some b=>have:=List.mem_of_getElem? q;simp at this;simp [this.2]
 rw[this] at hd
 cases hd):P:=h
theorem zxi{P:Prop}(h:P:=by
 rw[←hW3]
 exact Bb.drew ((((A3 W2 _ _ _).setCell (.inl rI) _).setCell (.inl rI) _).setCell (.inl rI) _)):P:=h
theorem zxh{P:Prop}(h:P:=by
 go_enter Tryz.func72,Tryz.ntmps72
 go_wp2
 go_ret
 exact⟨rfl,Aq _ _⟩):P:=h
theorem zxg{P:Prop}(h:P:=by
 subst hn;go_enter Tryz.func42,Tryz.ntmps42;go_wp2_with fail;refine Hc.out.mono ?_;rintro e w1 ⟨rfl,hb1⟩;have HB1:=Ax (HB.out.trans (hb1.mono HB.out.size));clear hb1
 go_wp2
 go_ret
 exact⟨Iz rI,HB1.out⟩):P:=h
theorem zxf{P:Prop}(h:P:=by
 rw[hhd h] at q2;exact h2 ⟨by rw[Option.some.inj q2];rfl,by omega⟩):P:=h
theorem zxe{P:Prop}(h:P:=by
 obtain⟨m0,m1,m2,m3,m4,m5,m6,m7,_⟩:=A6 ((HB3.out.block _ (Ay HP1.out)).trans HP1.out);have HBV:=Ax (HB1.out.trans (HB3.out.mono HB1.out.size));clear HB1 hB2;go_wp2_with fail;go_ret
 exact⟨rfl,HBV.out⟩):P:=h
theorem zxd{P:Prop}(h:P:=by
 rw[HX.out]
 exact⟨((HB4.out.setCell rI _).setCell rI _).drew,rfl⟩):P:=h
theorem zxc{P:Prop}(h:P:=by
 go_wp2
 go_round
 case rel=>exact⟨k+1,by omega,by go_num,Hyes.out⟩
 case measure=>simp [intOf];omega):P:=h
theorem zxb{P:Prop}(h:P:=by
 have hl:=h.suf.len;simp only[Aa] at hl;refine h.turn (A3 _ _ _ _) ⟨1,rfl⟩ h.hd ?_;rw[A2 h.blk]
 have:((ts.length - (q.length+1):Nat):Int)+1=((ts.length - q.length:Nat):Int):=by omega
 rw[this]
 rfl):P:=h
theorem zxa{P:Prop}(h:P:=by
 have hm':vt.ownBlock=some g:=by simpa using hm
 rcases q.2 with ⟨rfl,_⟩|⟨g',cap,cur,rfl,_,hg',_⟩
 ·cases e
 simp only[Value.ownBlock,Option.some.injEq] at e;subst e
 exact Bh hk1 hg' rH hm'):P:=h
theorem zw9{P:Prop}(h:P:=by
 go_wp2_with fail;refine Hc.out.mono ?_;rintro e w1 ⟨rfl,hb1⟩
 go_wp2
 go_ret
 exact⟨Iz rI,hb1⟩):P:=h
theorem zw8{P:Prop}(h:P:=by
 go_wp2_with fail;refine Au (v:= .agg #[.bool false,.slice a 0 c]) sW rfl ⟨I2.mk ?_,(HB.out.setCell (Ak _) _).setCell (Ak _) _⟩
 exact HN.out.below ((HB.out.setCell (Ak _) _).setCell (Ak _) _)):P:=h
theorem zw7{P:Prop}(h:P:=by
 clear hnb;go_wp2_with fail;refine HDG.out.mono ?_;rintro e W3 ⟨rfl,hb3⟩;have HB3:=Ax (HBA.out.trans (hb3.mono HBA.out.size));clear hb3;go_wp2_with fail;go_ret
 exact⟨Ee HIT.out,HB3.out⟩):P:=h
theorem zw6{P:Prop}(h:P:=by
 go_wp2_with fail;go_ret
 exact⟨R5 HR.out,rfl⟩):P:=h
theorem zw5{P:Prop}(h:P:=by
 obtain rfl:nb=false:=by rw[←hnb];rfl
 clear hnb;go_wp2_with fail;go_ret
 exact⟨rfl,HBA.out⟩):P:=h
theorem zw4{P:Prop}(h:P:=by
 by_cases hk:p.1=k
 ·simp [hk,List.findIdx?_cons]
 have hb2:(p.1==k)=false:=by simpa using hk
 simp only[List.find?_cons,hb2,List.findIdx?_cons,ih]
 cases l.findIdx? (fun p=>p.1==k)<;>simp):P:=h
theorem zw3{P:Prop}(h:P:=by
 go_wp2
 go_ret
 exact⟨by rw[Hno.out];rfl,rfl⟩):P:=h
theorem zw2{P:Prop}(h:P:=by
 go_wp2_with fail;go_ret
 exact⟨rfl,(Aq _ _).alloc (Ak _) _⟩):P:=h
theorem zw1{P:Prop}(h:P:=by
 rcases h.row.2 with ⟨e2,_⟩|⟨g',cap,cur,e2,_,hg',_⟩
 ·rw[e2] at e;cases e
 rw[e2] at e;simp only[Value.ownBlock,Option.some.injEq] at e;subst e
 exact h.rd.apart hg' rH rH hm):P:=h
theorem zw0{P:Prop}(h:P:=by
 rw[HX.out]
 exact⟨rfl,v6,hr6,hch6⟩):P:=h
theorem zwz{P:Prop}(h:P:=by
 go_simp
 refine hK _ _ ?_;clear hK K;refine QI 12 (h:=?_);refine QI 13 (h:=?_);refine wpAnyIn_done rG ?_ _
 gi_wp2
 gi_meet
 case rel=>exact⟨X.heap.size,rfl,rfl,rfl,hXz,H7.out,H8.out⟩):P:=h
theorem zwy{P:Prop}(h:P:=by
 go_wp2_with fail;go_ret2
 exact⟨by rw[HZ.out];rfl,HB5.out⟩):P:=h
theorem zwx{P:Prop}(h:P:=by
 go_wp2_with fail;go_ret2
 exact⟨by rw[HZ.out];rfl,HBw.out⟩):P:=h
theorem zww{P:Prop}(h:P:=by
 go_wp2_with fail;go_ret
 exact⟨by rw[HZ.out];rfl,HB.out⟩):P:=h
theorem zwv{P:Prop}(h:P:=by
 obtain⟨x,hx,hx2⟩:=hend.resolve_left rF;simp at hx;subst hx
 simp [G8,trimRightB,hx2]):P:=h
theorem zwu{P:Prop}(h:P:=by
 rw[←hfl];refine hr.grow hrow4 hb hg fun g' e=>?_
 simp only[Value.ownBlock,Option.some.injEq] at e;subst e;rcases hat with e2|e2
 ·exact .inl e2
 exact .inr ⟨e2,hlt⟩):P:=h
theorem zwt{P:Prop}(h:P:=by
 have HF:=Ax (C5 HA.out HX.out);go_wp2_with fail
 exact Au (v:= .tuple #[.agg #[.bool false,.slice a n c],.bool false,.bool true]) rJ rfl (Cm.yes HF.out.1 HYY.out HF.out.2)):P:=h
theorem zws{P:Prop}(h:P:=by
 have HF:=Ax (C5 HA.out HX.out);go_wp2_with fail
 exact Au (v:= .tuple #[.agg #[.bool false,.slice a n c],.bool true,.bool true]) rJ rfl (Cm.yes HF.out.1 HYY.out HF.out.2)):P:=h
theorem zwr{P:Prop}(h:P:=by
 rw[e] at hfew;exact absurd (List.eq_nil_of_length_eq_zero (Nat.le_zero.1 hfew.2)) hk):P:=h
theorem zwq{P:Prop}(h:P:=by
 exact⟨rfl,((A8 ((Aq _ w).alloc (Ak _) _) _).setCell (Ak _) _).setCell (Ak _) _⟩):P:=h
theorem zwp{P:Prop}(h:P:=by
 injection hp with hp;injection hp with _ hp
 exact hT hp):P:=h
theorem zwo{P:Prop}(h:P:=by
 refine⟨h1,fun ts h=>?_⟩;obtain⟨h3,h4⟩:=h2 ts h;refine⟨fun t ht=>?_,h4⟩;rcases h3 t ht with h5|⟨h5,h6⟩
 ·exact .inl h5
 exact .inr ⟨h5,by omega⟩):P:=h
theorem zwn{P:Prop}(h:P:=by
 rintro e w' ⟨hb,he⟩;rw[h] at he;obtain⟨v,h1,h2⟩:=he
 exact⟨v,h1,h2,hb⟩):P:=h
theorem zwm{P:Prop}(h:P:=by
 go_enter Tryz.func164,Tryz.ntmps164;go_wp2_with fail;go_quiet (fail);go_wp2_with fail;go_quiet (fail);go_wp2_with fail;go_ret
 exact⟨rfl,A8 (A8 (Aq _ w) _) _⟩):P:=h
theorem zwl{P:Prop}(h:P:=by
 go_wp2_with fail;go_ret
 exact⟨by rw[Hz.out];rfl,HB.out.alloc HB.out.size _⟩):P:=h
theorem zwk{P:Prop}(h:P:=by
 intro hm;rcases List.mem_cons.1 hm with rfl|hm
 ·rw[h.blk] at hp;injection hp with hp;injection hp with _ hp;exact h1 hp
 exact h.tree.not hp h2 sE):P:=h
theorem zwj{P:Prop}(h:P:=by
 rcases (show op=9\/op=10\/op=11\/op=12 by omega) with rfl|rfl|rfl|rfl<;>rfl):P:=h
theorem zwi{P:Prop}(h:P:=by
 rw[HW.out];unfold C7;rw[Ao sX]
 exact⟨HB3.out,by rw[show(1:Int)+(own.size:Int)=((1+N:Nat):Int) by(have:=Hj.out;omega)];rw[←J9 own,Hod.out];rfl⟩):P:=h
theorem zwh{P:Prop}(h:P:=by
 go_roundw
 case rel=>exact⟨j+1,na,nc,by omega,by go_num,rfl,by rw[Hst.out,List.map_append];exact Ho3.out,HX.out⟩
 case measure=>simp [intOf];omega):P:=h
theorem zwg{P:Prop}(h:P:=by
 rintro e w' ⟨rfl,rfl⟩;go_wp2_with fail;go_ret
 exact⟨Jo HR.out,rfl⟩):P:=h
theorem zwf{P:Prop}(h:P:=by
 have:=List.drop_eq_getElem_cons l1
 rw[List.drop_zero] at this
 exact this):P:=h
theorem zwe{P:Prop}(h:P:=by
 go_wp2_with fail
 exact Au (v:= .tuple #[.agg #[.int .u8 0,.int .i64 0,.string ⟨#[]⟩],.int .i64 4]) rK rfl (B7.err (HP.out.ret _ _ _) HE.out)):P:=h
theorem zwd{P:Prop}(h:P:=by
 rw[Nat.add_comm,List.take_succ_cons];refine⟨rfl,fun d hd=>?_⟩;rw[List.mem_cons] at hd;rcases hd with rfl|hd
 ·decide
 exact Ro (Gu _ d hd)):P:=h
theorem zwc{P:Prop}(h:P:=by
 split at hr
 ·cases hr
 injection hr with hr;exact .inr (.inl hr.symm)):P:=h
theorem zwb{P:Prop}(h:P:=by
 simp only[Value.ownBlock,Option.some.injEq] at e;subst e;rcases hat with e2|e2
 ·exact h.new g e2
 exact Al (h.rch.trans hch).only.size e2):P:=h
theorem zwa{P:Prop}(h:P:=by
 split
 ·exact⟨by decide,by decide,Nat.zero_le _⟩
 exact .inl rfl):P:=h
theorem zv9{P:Prop}(h:P:=by
 simp only[List.findIdx?_cons,hb2];cases l.findIdx? (fun p=>p.1==k) with
 |none=>simp
 |some j=>simp [Nat.add_assoc,Nat.add_comm 1]):P:=h
theorem zv8{P:Prop}(h:P:=by
 by_cases h:c=45
 ·subst h;rfl
 have:(45==c)=false:=by simpa using fun e:(45:UInt8)=c=>h e.symm
 simp [List.isPrefixOf,this,h]):P:=h
theorem zv7{P:Prop}(h:P:=by
 obtain⟨kk,hk⟩:=Jn ((dl T2).drop (T2.size - 4))
 have:=Ar List.length hk
 rw[←hRd,Ab,List.length_drop,A5,A5] at this
 omega):P:=h
theorem zv6{P:Prop}(h:P:=by
 clear ht IH hx hfits hkids hp1 hb1 hfit hT;go_enter Tryz.func64,Tryz.ntmps64;go_wp2_with fail;go_ret
 exact⟨rfl,HB1.out⟩):P:=h
theorem zv5{P:Prop}(h:P:=by
 go_wp2_with fail;go_roundw
 case rel=>exact⟨i+1,by omega,by go_num,HB.out,HZ.out⟩
 case measure=>simp [intOf];omega):P:=h
theorem zv4{P:Prop}(h:P:=by
 go_wp2_with fail;go_roundw
 case rel=>exact⟨k+1,_,by omega,by go_num,rfl,HF.out⟩
 case measure=>simp [intOf];omega):P:=h
end Go.Proofs
namespace Go.Proofs.YtgfakdobajgnfaaGreatDoor
open Go Go.RowKit
theorem QH {P:Program}{ops:Array Oper}{md:Region.Mode}{Q:Exit->Act->World->Prop}{S:World->Prop}{v:Value}{fuel:Nat}{d:Array Bool}{a:Act}{w:World}(i:Nat)(e:Oper)(f:ops[i]? =some e:=by rfl)
 (g:Region.noSelect ops=true:=by kernel_rfl) (j:Region.free md ops d i=true:=by kernel_rfl) (k:(Region.ready md ops d).contains i=true:=by kernel_rfl)
 (m:∀c a w,Q (.panic c) (a.put e.dst v) w->Q (.panic c) a w:=by exact fun _ _ _ h=>h) (n:Region.wanted e (yielded ops a.tmps)=true:=by rfl)
 (o:∀w,S w->(execOp a.eval e).run P w= .ok (.value v) w:=by(intro w hSw;(try dsimp only at hSw);(first|(go_simp;done)|(go_simp;with_reducible rfl)))) (p:S w:=by assumption)
 (h:wpAnyH P md ops Q S fuel (d.setIfInBounds i true) (a.put e.dst v) w):wpAnyH P md ops Q S (fuel+1) d a w:=
 wpAnyH_take f g j k m (Or.inl ⟨n,o⟩) p h
theorem QS {P:Program}{ops:Array Oper}{md:Region.Mode}{Q:Exit->Act->World->Prop}{S:World->Prop}{fuel:Nat}{d:Array Bool}{a:Act}{w:World}(i:Nat)(e:Oper)(f:ops[i]? =some e:=by rfl)
 (g:Region.noSelect ops=true:=by kernel_rfl) (j:Region.free md ops d i=true:=by kernel_rfl) (k:(Region.ready md ops d).contains i=true:=by kernel_rfl)
 (m:∀c a w,Q (.panic c) (a.put e.dst undef) w->Q (.panic c) a w:=by exact fun _ _ _ h=>h) (n:Region.wanted e (yielded ops a.tmps)=false:=by rfl) (o:S w:=by assumption)
 (h:wpAnyH P md ops Q S fuel (d.setIfInBounds i true) (a.put e.dst undef) w):wpAnyH P md ops Q S (fuel+1) d a w:=
 wpAnyH_take f g j k m (Or.inr ⟨n,rfl⟩) o h
theorem QI {F:Fence}{n:Nat}{P:Program}{ops:Array Oper}{md:Region.Mode}{Q:Exit->Act->World->Prop}{e:Oper}{v:Value}{fuel:Nat}{d:Array Bool}{a:Act}{w:World}(i:Nat)(f:F.round=none:=by rfl)(g:ops[i]? =some e:=by rfl)
 (j:Region.noSelect ops=true:=by kernel_rfl) (k:Region.free md ops d i=true:=by kernel_rfl) (m:(Region.ready md ops d).contains i=true:=by kernel_rfl)
 (o:∀c a w,Q (.panic c) (a.put e.dst v) w->Q (.panic c) a w:=by exact fun _ _ _ h=>h) (p:Region.wanted e (yielded ops a.tmps)=true:=by rfl)
 (q:∀w,(execOp a.eval e).run P w= .ok (.value v) w:=by(focus ((intro w;go_simp);try (with_reducible rfl)))) (r:∀w,e.about P w a.eval=none:=by exact fun _=>rfl)
 (h:wpAnyIn F n P md ops Q fuel (d.setIfInBounds i true) (a.put e.dst v) w):wpAnyIn F n P md ops Q (fuel+1) d a w:=
 Aw f g j k m o ⟨Or.inl ⟨p,q⟩,r⟩ h
open Go Go.RowKit
theorem Ax {p:Prop}(h:p):Hid p:=h
theorem Bn {w:World}{p:Addr}{v:Value}(h:w.cell? p=some v):p.block<w.heap.size:=by
 simp only[World.cell?] at h;cases hb:w.heap[p.block]? with
 |none=>simp [hb] at h
 |some o=>exact lt_of_block hb
theorem A4 {W c:World}(d:Below W.heap.size W c){b o:Nat}{v:Value}(h:W.cell? ⟨b,o,none⟩=some v):c.cell? ⟨b,o,none⟩=some v:=
 (d.cell (p:=⟨b,o,none⟩) (Bn h)).trans h
structure Vl where
 k:Int
 n:Int
 s:ByteArray
 deriving DecidableEq
def Vv {α:Type}(k:Nat)(cells:α->List Value)(w:World)(a:Option Addr)(c:Nat)(l:List α):Prop:=
 l.length<=c/\c<=9223372036854775807/\((∃b off,a=some ⟨b,off,none⟩/\∀i (h:i<l.length) j v,(cells l[i])[j]? =some v->w.cell? ⟨b,off+i*k+j,none⟩=some v)\/l=[])
theorem Vv.below {α:Type}{k:Nat}{cells:α->List Value}{w w':World}{a:Option Addr}{c:Nat}{l:List α}(h:Vv k cells w a c l)(f:Below w.heap.size w w'):Vv k cells w' a c l:=by
 obtain⟨d,e,⟨b,off,rfl,g⟩|rfl⟩:=h
 ·exact⟨d,e,.inl ⟨b,off,rfl,fun i m j v n=>A4 f (g i m j v n)⟩⟩
 exact⟨d,e,.inr rfl⟩
theorem Vv.len {α:Type}{k:Nat}{cells:α->List Value}{w:World}{a:Option Addr}{c:Nat}{l:List α}(h:Vv k cells w a c l):l.length<=9223372036854775807:=Al h.1 h.2.1
theorem Vv.nil {α:Type}{k:Nat}{cells:α->List Value}(w:World)(a:Option Addr){c:Nat}(d:c<=9223372036854775807):Vv k cells w a c []:=⟨Nat.zero_le _,d,.inr rfl⟩
theorem Vv.get {α:Type}{k:Nat}{cells:α->List Value}{w:World}{a:Option Addr}{c:Nat}{l:List α}(h:Vv k cells w a c l){i:Nat}(d:i<l.length):
 ∃b off,a=some ⟨b,off,none⟩/\∀j v,(cells l[i])[j]? =some v->w.cell? ⟨b,off+i*k+j,none⟩=some v:=by
 obtain⟨_,_,⟨b,off,rfl,e⟩|rfl⟩:=h
 ·exact⟨b,off,rfl,e i d⟩
 simp at d
def Vl.cells (v:Vl):List Value:=[.int .u8 v.k,.int .i64 v.n,.string v.s]
def Vl.val (v:Vl):Value:= .agg #[.int .u8 v.k,.int .i64 v.n,.string v.s]
def Vl.ok (v:Vl):Prop:=0<=v.k/\v.k<=255/\v.s.size<=9223372036854775807
open Go Go.RowKit Go.MapKept
structure Bb (S:List Nat)(w w':World):Prop where
 os:w'.os=w.os
 tape:w'.tape=w.tape
 output:w'.output=w.output
 size:w.heap.size<=w'.heap.size
 block:∀k,k<w.heap.size->k∉S->w'.heap[k]? =w.heap[k]?
theorem Bb.refl (S:List Nat)(w:World):Bb S w w:=⟨rfl,rfl,rfl,Ak _,fun _ _ _=>rfl⟩
theorem Bb.step {S T:List Nat}{a b c:World}(h:Bb S a b)(k:Bb T b c)(f:∀i∈T,i∈S\/a.heap.size<=i):Bb S a c:=
 ⟨k.os.trans h.os,k.tape.trans h.tape,k.output.trans h.output,Al h.size k.size,fun i d e=>
   (k.block i (Nat.lt_of_lt_of_le d h.size) (fun g=>by rcases f i g with q|q;exact e q;omega)).trans (h.block i d e)⟩
theorem Bb.trans {S:List Nat}{a b c:World}(h:Bb S a b)(k:Bb S b c):Bb S a c:=h.step k fun _ d=> .inl d
theorem Bb.mono {S T:List Nat}{a b:World}(h:Bb S a b)(c:∀i∈S,i∈T):Bb T a b:=
 ⟨h.os,h.tape,h.output,h.size,fun i d e=>h.block i d fun f=>e (c i f)⟩
theorem Bb.of_below {a b:World}(h:Below a.heap.size a b)(S:List Nat):Bb S a b:=⟨h.os,h.tape,h.output,h.size,fun i c _=>h.block i c⟩
theorem Bb.below {a b:World}(h:Bb [] a b):Below a.heap.size a b:=⟨h.os,h.tape,h.output,h.size,fun i c=>h.block i c rI⟩
theorem Bb.drew {S:List Nat}{a b:World}(h:Bb S a b):Bb S a b.drew:=⟨h.os,h.tape,h.output,h.size,h.block⟩
theorem Bb.drewN {S:List Nat}{a b:World}(h:Bb S a b)(n:Nat):Bb S a (b.drewN n):=⟨h.os,h.tape,h.output,h.size,h.block⟩
theorem Bb.alloc {S:List Nat}{a b:World}(h:Bb S a b)(o:Obj):Bb S a (b.alloc o):=
 h.step (T:=[]) ⟨rfl,rfl,rfl,by simp,fun k c _=>Below.heap_alloc _ _ _ c⟩ rI
theorem Bb.setCell {S:List Nat}{a b:World}(h:Bb S a b){p:Addr}(c:p.block∈S\/a.heap.size<=p.block)(u:Value):Bb S a (b.setCell p u):=
 h.step (T:=[p.block]) ⟨rfl,rfl,rfl,by simp [World.setCell],fun k _ d=>Below.heap_setCell _ _ _ _ (by simpa using d)⟩ (by simpa using c)
theorem Bb.of_grown {a b:World}{row:Option Nat}(h:a.grownBy b row)(S:List Nat)(c:∀k,row=some k->k∈S):Bb S a b:=
 ⟨h.os,h.tape,h.output,h.size,fun i d f=>h.block i d fun e=>f (c i e.symm)⟩
theorem Bb.cell {S:List Nat}{a b:World}(h:Bb S a b){p:Addr}(c:p.block<a.heap.size)(d:p.block∉S):b.cell? p=a.cell? p:=World.cell?_of_block (w:=a) (h.block p.block c d)
theorem Bb.frozen {S:List Nat}{a b:World}(h:Bb S a b){p:Addr}(c:p.block<a.heap.size)(d:p.block∉S):b.frozen? p=a.frozen? p:=World.frozen?_of_block (w:=a) (h.block p.block c d)
theorem Bq {B:Nat}{a b c:World}{S:List Nat}(h:Below B a b)(k:Bb S b c)(d:∀i∈S,B<=i)(f:B<=b.heap.size):Below B a c:=
 h.trans ⟨k.os,k.tape,k.output,k.size,fun i g=>k.block i rF fun e=>by have:=d i e;omega⟩
theorem A8 {B:Nat}{a w:World}(h:Below B a w)(n:Nat):Below B a (w.drewN n):=⟨h.os,h.tape,h.output,h.size,h.block⟩
theorem Ay {w:World}{b:Nat}{o:Obj}(h:w.heap[b]? =some o):b<w.heap.size:=lt_of_block h
theorem A2 {w:World}{b i:Nat}{u:Value}{c:Array Value}{t:TypeId}{d:Nat×Nat}(h:w.heap[b]? =some (.cells c t d)):(w.setCell ⟨b,i,none⟩ u).heap[b]? =some (.cells (c.setIfInBounds i u) t d):=by
 simp [World.setCell,Array.getElem?_modify,h]
section
variable {K:IntKind}
def Je (K:IntKind)(w:World)(b:Nat)(l:List (Int×Value)):Prop:=
 ∃d c,w.heap[b]? =some (.map d c)/\Stamped d c/\d.toList.map (fun e=>(e.key,e.val))=l.map (fun p=>(Value.int K p.1,p.2))
theorem Je.of_block {w w':World}{b:Nat}{l:List (Int×Value)}(h:Je K w b l)(d:w'.heap[b]? =w.heap[b]?):Je K w' b l:=by
 obtain⟨e,c,f,g,i⟩:=h;exact⟨e,c,d.trans f,g,i⟩
theorem Je.lt {w:World}{b:Nat}{l:List (Int×Value)}(h:Je K w b l):b<w.heap.size:=by
 obtain⟨e,c,d,_⟩:=h;exact Ay d
theorem Je.only {w w':World}{b:Nat}{l:List (Int×Value)}{S:List Nat}(h:Je K w b l)(c:Bb S w w')(d:b∉S):Je K w' b l:=h.of_block (c.block b h.lt d)
theorem Je.new (w:World):Je K (w.alloc (.map #[] 0)) w.heap.size []:=⟨#[],0,(MapKept.heap_alloc w _).1,stamped_empty 0,rfl⟩
def Xl (l:List (Int×Value))(k:Int):Option Value:=(l.find? (fun p=>p.1==k)).map (·.2)
def Gd (z:Value):Option Value->Value
 |some v=> .tuple #[v,.bool true]
 |none=> .tuple #[z,.bool false]
def put:List (Int×Value)->Int->Value->List (Int×Value)
 |[],k,v=>[(k,v)]
 |p::r,k,v=>if p.1=k then(k,v)::r else p::put r k v
theorem Je.size {l:List (Int×Value)}{c:Array MapEntry}(h:c.toList.map (fun e=>(e.key,e.val))=l.map (fun p=>(Value.int K p.1,p.2))):c.size=l.length:=by
 have:=Ar List.length h
 simpa using this
theorem X5 {l:List (Int×Value)}{c:Array MapEntry}(h:c.toList.map (fun e=>(e.key,e.val))=l.map (fun p=>(Value.int K p.1,p.2))){e:MapEntry}(d:e∈c.toList):∃p∈l,e.key= .int K p.1/\e.val=p.2:=by
 have:(e.key,e.val)∈c.toList.map (fun e=>(e.key,e.val)):=List.mem_map.2 ⟨e,d,rfl⟩
 rw[h] at this;obtain⟨p,f,q⟩:=List.mem_map.1 this;simp only[Prod.mk.injEq] at q;exact⟨p,f,q.1.symm,q.2.symm⟩
theorem Ll (k:Int):∀(c:List MapEntry) (l:List (Int×Value)) (i:Nat),c.map (fun e=>(e.key,e.val))=l.map (fun p=>(Value.int K p.1,p.2))->
 Instr.findNow (.int K) (.int K k) c i=some ((l.findIdx? (fun p=>p.1==k)).bind fun j=>(l[j]?).map fun p=>(i+j,p.2))
 |[],[],_,_=>rfl
 |[],_::_,_,h=>by simp at h
 |_::_,[],_,h=>by simp at h
 |e::c,p::l,i,h=>by
  simp only[List.map_cons,List.cons.injEq,Prod.mk.injEq] at h;obtain⟨⟨f,g⟩,m⟩:=h;by_cases hk:p.1=k
  ·subst hk;simp [Instr.findNow,f,Instr.sameNow,g,List.findIdx?_cons]
  have d:¬k=p.1:=fun q=>hk q.symm
  have n:(k==p.1)=false:=by simpa using d
  have hb2:(p.1==k)=false:=by simpa using hk
  rw[show Instr.findNow (.int K) (.int K k) (e::c) i=Instr.findNow (.int K) (.int K k) c (i+1) from by simp [Instr.findNow,f,Instr.sameNow,n],Ll k c l (i+1) m];exact zv9
theorem mH (l:List (Int×Value))(k:Int):Xl l k=(l.findIdx? (fun p=>p.1==k)).bind fun j=>(l[j]?).map (·.2):=by
 induction l with
 |nil=>rfl
 |cons p l ih=>
  unfold Xl at ih ⊢;exact zw4
section
variable {P:Program} {w:World} {t kt et:TypeId} {b:Nat} {l:List (Int×Value)}
theorem Je.keys {c:Array MapEntry}(d:c.toList.map (fun e=>(e.key,e.val))=l.map (fun p=>(Value.int K p.1,p.2))):∀x∈c.toList,IsKey (.int K) x.key:=by
 intro x f;obtain⟨p,_,g,_⟩:=X5 d f;rw[g];rfl
theorem Rn (e:P.underlying t=some (.map kt et))(d:P.underlying kt=some (.int K))(h:Je K w b l){z:Value}(f:(zeroValue et).run P w= .ok z w)(k:Int):
 (Instr.lookup t (.map (some b)) (.int K k) true).run P w= .ok (Gd z (Xl l k)) w:=by
 obtain⟨g,c,i,q,m⟩:=h;have n:=run_findKey (P:=P) (w:=w) d (Ll k g.toList l 0 m);rw[mH];simp only[Instr.lookup,Sem.run_bind,run_underlying e,MapKept.run_getObj_map i,Result.andThen_ok,Sem.run_pure,run_checkKey (k:= .int K k) d rfl,n];cases hi:l.findIdx? (fun p=>p.1==k) with
 |none=>simp [f,Gd]
 |some j=>
  have o:=(List.findIdx?_eq_some_iff_getElem.1 hi).1;simp [Ag o,Gd]
theorem qF (l:List (Int×Value))(k:Int)(v:Value):put l k v=match l.findIdx? (fun p=>p.1==k) with|some j=>l.set j (k,v)|none=>l++[(k,v)]:=by
 induction l with
 |nil=>rfl
 |cons p l ih=>
  unfold put;by_cases hk:p.1=k
  ·simp [hk,List.findIdx?_cons]
  have c:(p.1==k)=false:=by simpa using hk
  rw[Ao hk,ih];simp only[List.findIdx?_cons,c];cases l.findIdx? (fun p=>p.1==k)<;>simp
theorem Cf (N:P.underlying t=some (.map kt et))(F:P.underlying kt=some (.int K))(h:Je K w b l)(k:Int)(v:Value):
 ∃w',(Instr.mapUpdate t (.map (some b)) (.int K k) v).run P w= .ok () w'/\Je K w' b (put l k v)/\Bb [b] w w'/\w'.heap.size=w.heap.size:=by
 obtain⟨n,c,u,O,y⟩:=h;have g:=Ll k n.toList l 0 y;have A:=run_findKey (P:=P) (w:=w) F g;have R:∀x∈n.toList,IsKey (.int K) x.key:=Je.keys y;have T:=Ay u;rw[qF]
 have f:∀o,Bb [b] w {w with heap:=w.heap.setIfInBounds b o}:=fun o=>⟨rfl,rfl,rfl,by simp,fun i _ U=>by
  have:b≠i:=fun e=>U (by simp [e])
  simp [this]⟩
 cases hi:l.findIdx? (fun p=>p.1==k) with
 |none=>
  rw[hi] at A g;refine⟨{w with heap:=w.heap.setIfInBounds b (.map (n.push {key:= .int K k,val:=v,born:=c}) (c+1))},?_,?_,f _,by simp⟩
  ·simp only[Instr.mapUpdate,Sem.run_bind,run_underlying N,MapKept.run_getObj_map u,Result.andThen_ok,run_checkKey (k:= .int K k) F rfl,A,Option.bind_none,MapKept.run_setObj_map _ u]
  refine⟨_,_,(heap_set u).1,stamped_push O ?_,?_⟩
  ·intro x V G;obtain⟨p,W,q,_⟩:=X5 y V;rw[G] at q;cases q
   have:=List.findIdx?_eq_none_iff.1 hi p W
   simp at this
  simp [y]
 |some j=>
  have I:=(List.findIdx?_eq_some_iff_getElem.1 hi);obtain⟨L,M,_⟩:=I;have C:(l[j]).1=k:=by simpa using M
  rw[hi] at A g;simp only[Option.bind_some,Ag L,Option.map_some,Nat.zero_add] at A g;have X:n.size=l.length:=Je.size y;have m:j<n.size:=by omega
  have r:n[j].key= .int K k/\n[j].val=l[j].2:=by
   have:=Ar (fun q=>q[j]?) y
   simp only[List.getElem?_map,Array.getElem?_toList,Array.getElem?_eq_getElem m,Ag L,Option.map_some,Option.some.injEq,Prod.mk.injEq] at this;exact⟨this.1.trans (by rw[C]),this.2⟩
  refine⟨{w with heap:=w.heap.setIfInBounds b (.map (n.modify j fun e=>{e with key:= .int K k,val:=v}) c)},?_,?_,f _,by simp⟩
  ·simp only[Instr.mapUpdate,Sem.run_bind,run_underlying N,MapKept.run_getObj_map u,Result.andThen_ok,run_checkKey (k:= .int K k) F rfl,A,Array.getElem?_eq_getElem m,Option.map_some,Option.getD_some,r.1,run_keyThatStays (d:= .int K) (k:= .int K k) rfl,MapKept.run_setObj_map _ u]
  refine⟨_,_,(heap_set u).1,stamped_modify O _ _ (fun _ _=>rfl) (fun Y _ D=>?_),?_⟩
  ·rw[Array.getElem?_eq_getElem m] at D;cases D;exact r.1.symm
  apply List.ext_getElem?;intro i;simp only[List.getElem?_map,Array.getElem?_toList,Array.getElem?_modify,List.getElem?_set];have E:=Ar (fun q=>q[i]?) y;simp only[List.getElem?_map,Array.getElem?_toList] at E;by_cases hij:j=i
  ·subst hij;simp [L,Array.getElem?_eq_getElem m]
  simp [hij,E]
end
end
open Go Go.RowKit Go.MapKept
theorem Co {w:World}{B n d:Nat}{e:TypeId}{v:Value}{f:List Value}(h:w.ownsRow B e d v n f):∀k,v.ownBlock=some k->B<=k:=by
 intro k c;rcases h.2 with ⟨rfl,_⟩|⟨g,i,j,rfl,m,_⟩
 ·simp [Value.ownBlock] at c
 simp only[Value.ownBlock,Option.some.injEq] at c;omega
theorem Cg {W d:World}{base:Nat}{e:TypeId}{size:Nat}{v:Value}{n:Nat}{f:List Value}(h:W.ownsRow base e size v n f)(c:Below W.heap.size W d):d.ownsRow base e size v n f:=
 h.kept (row:=none) ⟨c.os,c.tape,c.output,c.size,fun i g _=>c.block i g⟩ (by cases v.ownBlock<;>simp)
theorem Bj {W i:World}{base:Nat}{e:TypeId}{size:Nat}{v:Value}{n:Nat}{j:List Value}{S:List Nat}(h:W.ownsRow base e size v n j)(o:Bb S W i)(p:∀k,v.ownBlock=some k->k∉S):i.ownsRow base e size v n j:=by
 refine⟨h.1,?_⟩;rcases h.2 with q|⟨g,c,d,rfl,f,m,r⟩
 ·exact .inl q
 exact .inr ⟨g,c,d,rfl,f,(o.block g (Ay m) (p g rfl)).trans m,r⟩
theorem D8 {w:World}{B n d:Nat}{e:TypeId}{v:Value}{f:List Value}(h:w.ownsRow B e d v n f):∃a c,v= .slice a n c:=by
 rcases h.2 with ⟨rfl,q⟩|⟨g,i,j,rfl,_⟩
 ·exact⟨none,0,by rw[q]⟩
 exact⟨_,_,rfl⟩
theorem Tn {w:World}{B f n i:Nat}{e:TypeId}{v:Value}{j:List Value}(h:w.ownsRow B e i v n j)(k:f<=B):w.ownsRow f e i v n j:=by
 refine⟨h.1,?_⟩;rcases h.2 with q|⟨g,c,d,e,m,r⟩
 ·exact .inl q
 exact .inr ⟨g,c,d,e,Al k m,r⟩
theorem Az (w:World)(o:Obj):(w.alloc o).heap[w.heap.size]? =some o:=(MapKept.heap_alloc w o).1
theorem Bh {w:World}{B n s k:Nat}{t t':TypeId}{v:Value}{d:List Value}{cs:Array Value}(h:w.ownsRow B t s v n d)(c:w.heap[k]? =some (.cells cs t' (0,0)))(f:t≠t'):v.ownBlock≠some k:=by
 intro e;rcases h.2 with ⟨rfl,_⟩|⟨g,i,j,rfl,_,m,_⟩
 ·cases e
 simp only[Value.ownBlock,Option.some.injEq] at e;subst e;rw[m] at c;injection c with q;injection q with q1 q2;exact f q2
open Go Go.RowKit
structure Wd where
 k:Int
 t:List UInt8
 v:Int×Int×List UInt8
structure Tkn where
 w:Wd
 line:Int
 col:Int
def v0:Int×Int×List UInt8:=(0,0,[])
def Eb:List Tkn->List Value
 |[]=>[]
 |t::l=> .int .u8 t.w.k:: .string ⟨t.w.t.toArray⟩:: .int .u8 t.w.v.1:: .int .i64 t.w.v.2.1:: .string ⟨t.w.v.2.2.toArray⟩:: .int .i64 t.line:: .int .i64 t.col::Eb l
theorem N6 (l m:List Tkn):Eb (l++m)=Eb l++Eb m:=by
 induction l with
 |nil=>rfl
 |cons j l ih=>simp [Eb,ih]
theorem Ui:∀(l:List Tkn) (i:Nat) (h:i<l.length),(Eb l)[i*7]? =some (.int .u8 l[i].w.k)/\(Eb l)[i*7+1]? =some (.string ⟨l[i].w.t.toArray⟩)/\(Eb l)[i*7+2]? =some (.int .u8 l[i].w.v.1)/\
 (Eb l)[i*7+3]? =some (.int .i64 l[i].w.v.2.1)/\(Eb l)[i*7+4]? =some (.string ⟨l[i].w.v.2.2.toArray⟩)/\(Eb l)[i*7+5]? =some (.int .i64 l[i].line)/\(Eb l)[i*7+6]? =some (.int .i64 l[i].col)
 |[],i,h=>by simp at h
 |t::l,0,_=>⟨rfl,rfl,rfl,rfl,rfl,rfl,rfl⟩
 |t::l,i+1,h=>by
  have:=Ui l i sD
  rw[show(i+1)*7=i*7+1+1+1+1+1+1+1 by omega];exact this
def Ih (w:World)(v:Value)(ts:List Tkn):Prop:=
 (v= .slice none 0 0/\ts=[])\/∃b c,v= .slice (some ⟨b,0,none⟩) ts.length c/\ts.length<=c/\b<w.heap.size/\∀j u,(Eb ts)[j]? =some u->w.cell? ⟨b,j,none⟩=some u
theorem Ih.below {w w':World}{v:Value}{ts:List Tkn}(h:Ih w v ts)(d:Below w.heap.size w w'):Ih w' v ts:=by
 rcases h with h|⟨b,c,f,g,e,i⟩
 ·exact .inl h
 exact .inr ⟨b,c,f,g,Nat.lt_of_lt_of_le e d.size,fun j u k=>(World.cell?_of_block (w:=w) (w':=w') (a:=⟨b,j,none⟩) (d.block b e)).trans (i j u k)⟩
theorem Ih.of_row {w:World}{B:Nat}{v:Value}{ts:List Tkn}(h:w.ownsRow B 94 7 v ts.length (Eb ts)):Ih w v ts:=by
 rcases h.2 with ⟨e,d⟩|⟨g,c,f,rfl,_,i,k,_⟩
 ·exact .inl ⟨e,List.eq_nil_of_length_eq_zero d⟩
 refine .inr ⟨g,c,rfl,k,Ay i,fun j u m=>?_⟩
 have:=h.cells (g:=g) rfl j u m
 rwa [Addr.add_lit,Nat.zero_add] at this
theorem Ih.form {w:World}{v:Value}{ts:List Tkn}(h:Ih w v ts):∃a c,v= .slice a ts.length c:=by
 rcases h with ⟨rfl,rfl⟩|⟨b,c,rfl,_⟩
 ·exact⟨none,0,rfl⟩
 exact⟨_,_,rfl⟩
theorem Ih.at {w:World}{v:Value}{ts:List Tkn}(h:Ih w v ts){k:Nat}(e:k<ts.length):∃b c,v= .slice (some ⟨b,0,none⟩) ts.length c/\b<w.heap.size/\
 w.cell? ⟨b,k*7,none⟩=some (.int .u8 ts[k].w.k)/\w.cell? ⟨b,k*7+1,none⟩=some (.string ⟨ts[k].w.t.toArray⟩)/\w.cell? ⟨b,k*7+2,none⟩=some (.int .u8 ts[k].w.v.1)/\w.cell? ⟨b,k*7+3,none⟩=some (.int .i64 ts[k].w.v.2.1)/\
 w.cell? ⟨b,k*7+4,none⟩=some (.string ⟨ts[k].w.v.2.2.toArray⟩)/\w.cell? ⟨b,k*7+5,none⟩=some (.int .i64 ts[k].line)/\w.cell? ⟨b,k*7+6,none⟩=some (.int .i64 ts[k].col):=by
 rcases h with ⟨_,rfl⟩|⟨b,c,rfl,_,f,d⟩
 ·simp at e
 obtain⟨g,i,j,m,n,o,p⟩:=Ui ts k e;exact⟨b,c,rfl,f,d _ _ g,d _ _ i,d _ _ j,d _ _ m,d _ _ n,d _ _ o,d _ _ p⟩
theorem Ih.kept {w w':World}{v:Value}{ts:List Tkn}(h:Ih w v ts)(e:w.heap.size<=w'.heap.size)(f:∀g,v.ownBlock=some g->g<w.heap.size->w'.heap[g]? =w.heap[g]?):Ih w' v ts:=by
 rcases h with h|⟨b,c,rfl,i,d,k⟩
 ·exact .inl h
 exact .inr ⟨b,c,rfl,i,Nat.lt_of_lt_of_le d e,fun j u m=>(World.cell?_of_block (w:=w) (w':=w') (a:=⟨b,j,none⟩) (f b rfl d)).trans (k j u m)⟩
theorem Ih.lt {w:World}{v:Value}{ts:List Tkn}(h:Ih w v ts):∀g,v.ownBlock=some g->g<w.heap.size:=fun g e=>by
 rcases h with ⟨rfl,_⟩|⟨b,c,rfl,f,d,i⟩
 ·cases e
 injection e with e;subst e;exact d
end Go.Proofs.YtgfakdobajgnfaaGreatDoor
