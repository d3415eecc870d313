import Derived.WalkLawsBesides
import Derived.WalkSpells
import Derived.Deep.RegionHeld3
import Derived.Shelf.Strings.OnBuilder
import Derived.Shelf.Strings.Trim
import Derived.Shelf.Small.Wraps
import Derived.Shelf.Strconv.Itoa4
import Derived.Shelf.Strconv.ErrVarParseInt
import Derived.Shelf.Strings.Shaped
import Derived.Shelf.GgClosure.StringsRunes
import Derived.Shelf.Strings.SplitShaped
import Derived.Shelf.Strings.Runes
import Derived.Shelf.Strings.AsciiSet
import Derived.Shelf.Strings.FuncGrows
import Derived.Shelf.Strings.BuilderCap
import Derived.Shelf.Slices.Equal
import Derived.Lib.SpaceUEq
import Derived.Lib.ItoaLen
import Derived.Lib.SmallJoins
import Derived.Lay
import Derived.SevenTiedAt
import Derived.HandedShaped
import Derived.Laws.EntriesVeiled
import Derived.Deep.AppendLies
import Derived.RangeFuncWrites
import Derived.RangeFuncCalls
import Derived.Shelf.RegionOpen
import Derived.OwnWalkIn
import Derived.LoopNIn
import Derived.Sort.CutIn
import Derived.Great.Walk
import Derived.Test.YtgfakdobajgnfaaGreatDoorProg
set_option maxRecDepth 100000
set_option maxHeartbeats 16000000
namespace Go.Proofs
theorem Aa{α:Type}{a:α}{l:List α}:(a::l).length=l.length+1:=List.length_cons
theorem Ab{α:Type}{l m:List α}:(l++m).length=l.length+m.length:=List.length_append
theorem Ac{α:Type}(l:List α)(i:Nat)(a:α):l.toArray.setIfInBounds i a=(l.set i a).toArray:=List.setIfInBounds_toArray l i a
theorem Ad{α:Type}{a b:α}{l:List α}:(a::l).set 0 b=b::l:=rfl
theorem Ae{α:Type}{a b:α}{l:List α}{n:Nat}:(a::l).set (n+1) b=a::l.set n b:=rfl
theorem Af{α:Type}[BEq α][LawfulBEq α]{a b:α}:(a==b)=false↔a≠b:=beq_eq_false_iff_ne
theorem Ag{α:Type}{l:List α}{i:Nat}(h:i<l.length):l[i]?=some l[i]:=List.getElem?_eq_getElem h
theorem Ah{α:Type}{l:List α}{i:Nat}{a:α}:l[i]?=some a↔∃h:i<l.length,l[i]=a:=List.getElem?_eq_some_iff
theorem Ai{α:Type}{a:α}{l:List α}:a∈a::l:=List.mem_cons_self
theorem Aj{α:Type}(b:α){a:α}{l:List α}(h:a∈l):a∈b::l:=List.mem_cons_of_mem b h
theorem Ak(n:Nat):n≤n:=Nat.le_refl n
theorem Al{n m k:Nat}(h:n≤m)(h2:m≤k):n≤k:=Nat.le_trans h h2
theorem Am{p:Prop}[Decidable p](h:p):decide p=true:=decide_eq_true h
theorem An{p:Prop}[Decidable p](h:¬p):decide p=false:=decide_eq_false h
theorem Ao{c:Prop}{h:Decidable c}(n:¬c){α:Sort _}{t e:α}:ite c t e=e:=if_neg n
theorem Ap{c:Prop}{h:Decidable c}(n:c){α:Sort _}{t e:α}:ite c t e=t:=if_pos n
theorem Aq(B:Nat)(w:Go.World):Go.RowKit.Below B w w:=Go.RowKit.Below.refl B w
theorem Ar{α:Sort _}{β:Sort _}{a b:α}(f:α→β)(h:a=b):f a=f b:=congrArg f h
theorem Au:type_of% @Go.bodyPost_ret:=@Go.bodyPost_ret
theorem Av:type_of% @Go.AllReadyIn.cons:=@Go.AllReadyIn.cons
theorem Aw:type_of% @Go.wpAnyIn_take:=@Go.wpAnyIn_take
theorem nT{P:Prop}(h:P:=by kernel_rfl):P:=h
theorem nU{P:Prop}(h:P:=by omega):P:=h
theorem nV{P:Prop}(h:P:=by decide):P:=h
theorem nW{P:Prop}(h:P:=by simp):P:=h
theorem nX{P:Prop}(h:P:=by assumption):P:=h
theorem nY{P:Prop}(h:P:=by simp [results,Tryz.results211,go_sem, *]):P:=h
theorem nZ{P:Prop}(h:P:=by simp [results,Tryz.results159,go_sem, *]):P:=h
theorem oA{P:Prop}(h:P:=by simp;intro e;exact HAP.out (by rw[e];exact Ai)):P:=h
theorem oB{P:Prop}(h:P:=by simp;omega):P:=h
theorem oC{P:Prop}(h:P:=by simp [results,Tryz.results87,go_sem, *]):P:=h
theorem oD{P:Prop}(h:P:=by rw[←e1];exact HT.out):P:=h
theorem oE{P:Prop}(h:P:=by simp [results,Tryz.results90,go_sem, *]):P:=h
theorem oF{P:Prop}(h:P:=by unfold maxLen;omega):P:=h
theorem oG{P:Prop}(h:P:=by simp only[Br];omega):P:=h
theorem oH{P:Prop}(h:P:=by simp [Value.oneCell']):P:=h
theorem oI{P:Prop}(h:P:=by rw[e];exact Ai):P:=h
theorem oJ{P:Prop}(h:P:=by simp [results,Tryz.results51,go_sem, *]):P:=h
theorem oK{P:Prop}(h:P:=by rw[e];rfl):P:=h
theorem oL{P:Prop}(h:P:=by rw[HZ.out];omega):P:=h
theorem oM{P:Prop}(h:P:=by simp [results,Tryz.results170,go_sem]):P:=h
theorem oN{P:Prop}(h:P:=by simp;try omega):P:=h
theorem oO{P:Prop}(h:P:=by simp only[Aa];omega):P:=h
theorem oP{P:Prop}(h:P:=by simp [results,Tryz.results18,go_sem, *]):P:=h
theorem oQ{P:Prop}(h:P:=by simpa using h):P:=h
theorem oR{P:Prop}(h:P:=by simpa using hm):P:=h
theorem oS{P:Prop}(h:P:=by simp only[F3.ok];omega):P:=h
theorem oT{P:Prop}(h:P:=by simp [results,Tryz.results146,go_sem, *]):P:=h
theorem oU{P:Prop}(h:P:=by simp [results,Tryz.results57,go_sem, *]):P:=h
theorem oV{P:Prop}(h:P:=by simp [results,Tryz.results54,go_sem, *]):P:=h
theorem oW{P:Prop}(h:P:=by rw[List.length_drop];omega):P:=h
theorem oX{P:Prop}(h:P:=by rw[←e];unfold Cy;rw[hmy];rfl):P:=h
theorem oY{P:Prop}(h:P:=by simp only;omega):P:=h
theorem oZ{P:Prop}(h:P:=by rw[hbj];exact hdg):P:=h
theorem pA{P:Prop}(h:P:=by rw[HBL.out];omega):P:=h
theorem pB{P:Prop}(h:P:=by simp only[Br,Aa] at hk ⊢;omega):P:=h
theorem pC{P:Prop}(h:P:=by simp [results,Tryz.results21,go_sem, *]):P:=h
theorem pD{P:Prop}(h:P:=by simp [results,Tryz.results20,go_sem, *]):P:=h
theorem pE{P:Prop}(h:P:=by rw[List.length_drop,Aa];omega):P:=h
theorem pF{P:Prop}(h:P:=by rfl):P:=h
theorem pG{P:Prop}(h:P:=by rw[hbj];exact hbad):P:=h
theorem pH{P:Prop}(h:P:=by rw[Aa] at hk;omega):P:=h
theorem pI{P:Prop}(h:P:=by show b<_;rw[HS.out];omega):P:=h
theorem pJ{P:Prop}(h:P:=by simpa using hi):P:=h
theorem pK{P:Prop}(h:P:=by simp [results,Tryz.results145,go_sem, *]):P:=h
theorem pL{P:Prop}(h:P:=by simp [results,Tryz.results125,go_sem, *]):P:=h
theorem pO{P:Prop}(h:P:=by rw[Hlt.out];exact hlong):P:=h
theorem pP{P:Prop}(h:P:=by simp only[Br] at hk ⊢;omega):P:=h
theorem pQ{P:Prop}(h:P:=by simp [results,Tryz.results80,go_sem, *]):P:=h
theorem pR{P:Prop}(h:P:=by simp [results,Tryz.results35,go_sem, *]):P:=h
theorem pS{P:Prop}(h:P:=by simp at hm;rw[←hm];exact e):P:=h
theorem pT{P:Prop}(h:P:=by exact Al (Dn (by decide)) (by decide)):P:=h
theorem pU{P:Prop}(h:P:=by rw[Bw];rfl):P:=h
theorem pV{P:Prop}(h:P:=by simp;intro e;exact(Cn.apart (H.out.below HB1.out) HPB1.out (by decide) (by decide)) (by rw[e];exact Ai)):P:=h
theorem pW{P:Prop}(h:P:=by rw[HZ.out];have:=HU.out.on.size;simp at this;omega):P:=h
theorem pX{P:Prop}(h:P:=by rw[HZ1.out];have:=HSW.out;omega):P:=h
theorem pY{P:Prop}(h:P:=by rw[←hZ];exact(HO.out.below.trans (HbO.out.mono hwB)).setCell (by show w.heap.size<=g;omega) _):P:=h
theorem pZ{P:Prop}(h:P:=by simp only[Br,Aa];omega):P:=h
theorem qA{P:Prop}(h:P:=by rw[Hok.out];simp [D8,Ic];omega):P:=h
theorem qB{P:Prop}(h:P:=by rw[Hz0.out];omega):P:=h
theorem qC{P:Prop}(h:P:=by show ¬12<(dl T).length;rw[HTL.out];exact h12):P:=h
theorem qD{P:Prop}(h:P:=by rw[List.length_drop,A4];omega):P:=h
theorem qE{P:Prop}(h:P:=by rw[HXL.out,e]):P:=h
theorem qF{P:Prop}(h:P:=by show((w.alloc _).alloc _).heap.size=_;simp):P:=h
theorem qG{P:Prop}(h:P:=by show 0<=7;omega):P:=h
theorem qH{P:Prop}(h:P:=by simp;intro e;exact(hm4.apart HPB4.out (by decide) (by decide)) (by rw[e];exact Ai)):P:=h
theorem qI{P:Prop}(h:P:=by simp;intro e;exact(hf4.apart HPB4.out (by decide) (by decide)) (by rw[e];exact Ai)):P:=h
theorem qJ{P:Prop}(h:P:=by simp;intro e;exact(hd2.apart HPB2.out (by decide) (by decide)) (by rw[e];exact Ai)):P:=h
theorem qK{P:Prop}(h:P:=by simp [results,Tryz.results191,go_sem, *]):P:=h
theorem qL{P:Prop}(h:P:=by simp [results,Tryz.results147,go_sem, *]):P:=h
theorem qN{P:Prop}(h:P:=by simp [results,Tryz.results56,go_sem, *]):P:=h
theorem qO{P:Prop}(h:P:=by simpa using h1):P:=h
theorem qP{P:Prop}(h:P:=by simp [results,Tryz.results214,go_sem]):P:=h
theorem qQ{P:Prop}(h:P:=by simp [results,Tryz.results141,go_sem]):P:=h
theorem qR{P:Prop}(h:P:=by have:=HU.out.on.size;simpa using this):P:=h
theorem qS{P:Prop}(h:P:=by rw[Int.natAbs_natCast];exact Al (Dn (by have:=HD9.out;omega)) (by decide)):P:=h
theorem qT{P:Prop}(h:P:=by rw[C7,HF.out];simp [dl]):P:=h
theorem qU{P:Prop}(h:P:=by show 12<(r.take (F4 r)).length;rw[HMM.out,HTK.out,HTL.out];exact h12):P:=h
theorem qV{P:Prop}(h:P:=by rw[Hh];omega):P:=h
theorem qW{P:Prop}(h:P:=by rw[Array.length_toList,hcs];omega):P:=h
theorem qX{P:Prop}(h:P:=by simpa using hnb):P:=h
theorem qY{P:Prop}(h:P:=by have:=HD9.out;omega):P:=h
theorem qZ{P:Prop}(h:P:=by rw[dZ,Int.natAbs_natCast];exact Al (aE HLX.out) (by decide)):P:=h
theorem zz9{P:Prop}(h:P:=by
 try simp only[Act.put,Ac,Ad,Ae]
 have HMONO:=Ax (show ∀F∈[Iy 10,Two (n/10) (n % 10),Bx wd.heap.size 79 #[.bool false,.slice none 0 0],Bx wd.heap.size 79 #[.bool false,.slice none 0 0],Two (n/10) (n % 10),Iy (n/10),Iy (n % 10)],∀v w w',F v w->Below w.heap.size w w'->F v w' from B6 (fun _ _ _ h hb=>h.below hb)<|B6 (fun _ _ _ h hb=>h.below hb)<|B6 (fun _ _ _ h hb=>h.below hb)<|B6 (fun _ _ _ h hb=>h.below hb)<|B6 (fun _ _ _ h hb=>h.below hb)<|B6 (fun _ _ _ h hb=>h.below hb)<|B6 (fun _ _ _ h hb=>h.below hb)<|Jm);refine Dy (Inv:=Lm wd.heap.size wd [Iy 10,Two (n/10) (n % 10),Bx wd.heap.size 79 #[.bool false,.slice none 0 0],Bx wd.heap.size 79 #[.bool false,.slice none 0 0],Two (n/10) (n % 10),Iy (n/10),Iy (n % 10)] [2,3]) 7 [1,2,6,7,3,4,5] [some 25,some 26,some 7,some 8,some 23,some 27,some 28] [[],[0],[],[],[1],[4],[4]] [false,false,false,false,true,true,true] nT (fun _ _ _ _ _ h=>h) nT ?_ (Lm.start rfl rfl) ?_ ?_
 ·intro d u V hI;exact HSL.out V hI.1
 ·refine lt7 ?_ ?_ ?_ ?_ ?_ ?_ ?_
  ·rw[Ao nV];refine OneB.mk 1 ⟨some 25,_,_,_,_,_⟩ _ rfl rfl rfl rfl HMONO.out (Ak _) ?_;intro d u V hd hu hdep hF hbV hzV K hK;obtain⟨x0,x1,x2,x3,x4,x5,x6,rfl⟩:=Fm hu;obtain⟨b0,b1,b2,b3,b4,b5,b6,rfl⟩:=Fm hd;obtain⟨f0,f1,f2,f3,f4,f5,f6,_⟩:=hF;clear hd hu hdep f0 f1 f2 f3 f4 f5 f6 HMONO;have HBV:=Ax hbV;have HZV:=Ax hzV;clear hbV hzV;simp only[Bl,Act.put,Ac,Ad,Ae] at hK ⊢
   go_simp
   go_at_call 47
   refine Calls.mono (Jd 10 nV nV) ?_;rintro e V1 ⟨⟨v1,rfl,hv1⟩,hb1⟩
   (try go_wp2_with fail)
   refine hK.out _ _ hb1 hv1 (fun h=>absurd h nV)
  ·rw[Ao nV];refine OneB.mk 2 ⟨some 26,_,_,_,_,_⟩ _ rfl rfl rfl rfl HMONO.out (Ak _) ?_;intro d u V hd hu hdep hF hbV hzV K hK;obtain⟨x0,x1,x2,x3,x4,x5,x6,rfl⟩:=Fm hu;obtain⟨b0,b1,b2,b3,b4,b5,b6,rfl⟩:=Fm hd;obtain⟨f0,f1,f2,f3,f4,f5,f6,_⟩:=hF;have g0:=f0 (List.all_eq_true.1 hdep 0 nV);clear hd hu hdep f0 f1 f2 f3 f4 f5 f6 HMONO
   (try dsimp only at g0)
   have HBV:=Ax hbV;have HZV:=Ax hzV;clear hbV hzV;simp only[Bl,Act.put,Ac,Ad,Ae] at hK ⊢;have HQ:=Ax (Z4 (X:=n) (Y:=10) (HLN.out V HBV.out) g0 nV (by have:=HPP.out.2;omega) (Al (Dn nV) nV));clear g0
   go_simp
   go_at_call 77
   refine HQ.out.mono ?_;rintro e V1 ⟨⟨v1,v2,rfl,hv1,hv2⟩,hb1⟩
   (try go_wp2_with fail)
   refine hK.out _ _ hb1 ⟨v1,v2,rfl,hv1,hv2⟩ (fun h=>absurd h nV)
  ·rw[Ao nV];refine OneB.mk 6 ⟨some 7,_,_,_,_,_⟩ _ rfl rfl rfl rfl HMONO.out (Ak _) ?_;intro d u V hd hu hdep hF hbV hzV K hK;obtain⟨x0,x1,x2,x3,x4,x5,x6,rfl⟩:=Fm hu;obtain⟨b0,b1,b2,b3,b4,b5,b6,rfl⟩:=Fm hd;obtain⟨f0,f1,f2,f3,f4,f5,f6,_⟩:=hF;clear hd hu hdep f0 f1 f2 f3 f4 f5 f6 HMONO;have HBV:=Ax hbV;have HZV:=Ax hzV;clear hbV hzV;simp only[Bl,Act.put,Ac,Ad,Ae] at hK ⊢
   go_simp
   (try go_wp2_with fail)
   refine hK.out _ _ ((Aq _ _).alloc (Ak _) _) ⟨_,rfl,HZV.out,(MapKept.heap_alloc V _).1⟩ (fun _=>⟨rfl,by simp⟩)
  ·rw[Ao nV];refine OneB.mk 7 ⟨some 8,_,_,_,_,_⟩ _ rfl rfl rfl rfl HMONO.out (Ak _) ?_;intro d u V hd hu hdep hF hbV hzV K hK;obtain⟨x0,x1,x2,x3,x4,x5,x6,rfl⟩:=Fm hu;obtain⟨b0,b1,b2,b3,b4,b5,b6,rfl⟩:=Fm hd;obtain⟨f0,f1,f2,f3,f4,f5,f6,_⟩:=hF;clear hd hu hdep f0 f1 f2 f3 f4 f5 f6 HMONO;have HBV:=Ax hbV;have HZV:=Ax hzV;clear hbV hzV;simp only[Bl,Act.put,Ac,Ad,Ae] at hK ⊢
   go_simp
   (try go_wp2_with fail)
   refine hK.out _ _ ((Aq _ _).alloc (Ak _) _) ⟨_,rfl,HZV.out,(MapKept.heap_alloc V _).1⟩ (fun _=>⟨rfl,by simp⟩)
  ·rw[Ap nV];refine OneBP.mk 3 ⟨some 23,_,_,_,_,_⟩ _ rfl rfl rfl rfl nV ?_;intro d u V hd hu hdep hF hbV hzV;obtain⟨x0,x1,x2,x3,x4,x5,x6,rfl⟩:=Fm hu;obtain⟨b0,b1,b2,b3,b4,b5,b6,rfl⟩:=Fm hd;obtain⟨f0,f1,f2,f3,f4,f5,f6,_⟩:=hF;have g1:=f1 (List.all_eq_true.1 hdep 1 nV);clear hd hu hdep f0 f1 f2 f3 f4 f5 f6 HMONO
   (try dsimp only at g1)
   have HBV:=Ax hbV;have HZV:=Ax hzV;clear hbV hzV;refine⟨x1,Or.inl ⟨by rfl,fun W hSW=>?_⟩,g1⟩;simp only[Bl,Act.put,Ac,Ad,Ae];clear HBV HZV
   (try dsimp only at hSW)
   (first|(go_simp;done)|(go_simp;with_reducible rfl))
  ·rw[Ap nV];refine OneBP.mk 4 ⟨some 27,_,_,_,_,_⟩ _ rfl rfl rfl rfl nV ?_;intro d u V hd hu hdep hF hbV hzV;obtain⟨x0,x1,x2,x3,x4,x5,x6,rfl⟩:=Fm hu;obtain⟨b0,b1,b2,b3,b4,b5,b6,rfl⟩:=Fm hd;obtain⟨f0,f1,f2,f3,f4,f5,f6,_⟩:=hF;have g4:=f4 (List.all_eq_true.1 hdep 4 nV);clear hd hu hdep f0 f1 f2 f3 f4 f5 f6 HMONO
   (try dsimp only at g4)
   have HBV:=Ax hbV;have HZV:=Ax hzV;clear hbV hzV;obtain⟨v1,v2,rfl,hv1,hv2⟩:=g4;refine⟨v1,Or.inl ⟨by rfl,fun W hSW=>?_⟩,hv1⟩;simp only[Bl,Act.put,Ac,Ad,Ae];clear HBV HZV
   (try dsimp only at hSW)
   (first|(go_simp;done)|(go_simp;with_reducible rfl))
  rw[Ap nV];refine OneBP.mk 5 ⟨some 28,_,_,_,_,_⟩ _ rfl rfl rfl rfl nV ?_;intro d u V hd hu hdep hF hbV hzV;obtain⟨x0,x1,x2,x3,x4,x5,x6,rfl⟩:=Fm hu;obtain⟨b0,b1,b2,b3,b4,b5,b6,rfl⟩:=Fm hd;obtain⟨f0,f1,f2,f3,f4,f5,f6,_⟩:=hF;have g4:=f4 (List.all_eq_true.1 hdep 4 nV);clear hd hu hdep f0 f1 f2 f3 f4 f5 f6 HMONO
  (try dsimp only at g4)
  have HBV:=Ax hbV;have HZV:=Ax hzV;clear hbV hzV;obtain⟨v1,v2,rfl,hv1,hv2⟩:=g4;refine⟨v2,Or.inl ⟨by rfl,fun W hSW=>?_⟩,hv2⟩;simp only[Bl,Act.put,Ac,Ad,Ae];clear HBV HZV
  (try dsimp only at hSW)
  (first|(go_simp;done)|(go_simp;with_reducible rfl))
 intro u V hu hI;obtain⟨x0,x1,x2,x3,x4,x5,x6,rfl⟩:=Fm hu;obtain⟨hbV,hzV,⟨f0,f1,f2,f3,f4,f5,f6,_⟩,hDst⟩:=hI;have f0:=f0 rfl;have f1:=f1 rfl;have f2:=f2 rfl;have f3:=f3 rfl;have f4:=f4 rfl;have f5:=f5 rfl;have f6:=f6 rfl;clear hu HMONO;simp only[Bl,Act.put,Ac,Ad,Ae];have hHeld:=HSL.out V hbV;obtain⟨p2,rfl,hp2,hb2⟩:=f2;obtain⟨p3,rfl,hp3,hb3⟩:=f3;have hne:p2≠p3:=fun e=>hDst.2 2 nV 3 nV nV rfl rfl oK
 obtain⟨a5,n5,c5,rfl,hd5⟩:=Bj.nat f5;obtain⟨a6,n6,c6,rfl,hd6⟩:=Bj.nat f6;have hlt:=B1 hHeld.1;have hlw:=B1 m0d;have n1:¬p2=w.heap.size+1:=by intro e;simp at hlw;omega
 have n2:¬p3=w.heap.size+1:=by intro e;simp at hlw;omega
 have n3:¬w.heap.size+1=p2:=fun e=>n1 e.symm
 have n4:¬w.heap.size+1=p3:=fun e=>n2 e.symm
 have n5':¬p3=p2:=fun e=>hne e.symm
 obtain⟨c20,c21,cf2⟩:=A1 hb2;obtain⟨c30,c31,cf3⟩:=A1 hb3;have cf20:=cf2 0;have cf21:=cf2 1;have cf30:=cf3 0;have cf31:=cf3 1;obtain⟨hh0,hh1⟩:=hHeld;have hHeld:=HSL.out V hbV;have H5:=Ax hd5;have H6:=Ax hd6;have HB2:=Ax (And.intro hb2 hb3);have HP:=Ax (And.intro hp2 hp3);have HBV:=Ax (And.intro hbV hzV);clear f0 f1 f4 f5 f6 hDst hd5 hd6 hb2 hb3 hp2 hp3 hlt hlw cf2 cf3 hbV hzV;refine wpAnyH_ready (rs:=[8]) nT nW ?_;refine AllReadyH.cons (o:=⟨none,_,_,_,_,_⟩) (rs:=[]) rfl (fun K hK=>?_) AllReadyH.nil
 go_simp
 try go_wp2_with fail
 clear hHeld;refine hK.out _ _ ?_ (fun hHeld=>?_)
 ·(try dsimp only);go_keep
 clear hK K
 try simp only[Act.put,Ac,Ad,Ae]
 refine wpAnyH_ready (rs:=[9]) nT nW ?_;refine AllReadyH.cons (o:=⟨none,_,_,_,_,_⟩) (rs:=[]) rfl (fun K hK=>?_) AllReadyH.nil
 go_simp
 try go_wp2_with fail
 clear hHeld;refine hK.out _ _ ?_ (fun hHeld=>?_)
 ·(try dsimp only);go_keep
 clear hK K
 try simp only[Act.put,Ac,Ad,Ae]
 refine wpAnyH_done nT ?_ _;refine NoPanic.normal ?_;obtain⟨F,hF⟩:∃F,(((V.setCell ⟨p2,0,none⟩ (.bool false)).setCell ⟨p2,1,none⟩ (.slice a5 n5 c5)).setCell ⟨p3,0,none⟩ (.bool false)).setCell ⟨p3,1,none⟩ (.slice a6 n6 c6)=F:=⟨_,rfl⟩;rw[hF];obtain⟨hF2,hF3,hFo,hFn⟩:=Q9 HB2.out.1 HB2.out.2 hne hF;have hFb:Below wd.heap.size wd F:=Bn HBV.out.1 hFo (by simp;exact⟨HP.out.1,HP.out.2⟩) HBV.out.2;have H5F:=Ax (hFn _ _ (Rw H5.out));have h6F:=Bj.natk (hFn _ _ (Rw H6.out));have hdig:=S0 h6F.2 (Nat.mod_lt _ nV);have hd10:n % 10<10:=Nat.mod_lt _ nV;obtain⟨dd,hdd⟩:∃dd,n % 10=dd:=⟨_,rfl⟩;rw[hdd] at hdig hd10;have HDD:=Ax hdd;clear h6F hdd hHeld c20 c21 c30 c31 cf20 cf21 cf30 cf31 hh0 hh1 hF hFn hFo HB2 H5 H6;obtain⟨c20,c21,cf2⟩:=A1 hF2;obtain⟨c30,c31,cf3⟩:=A1 hF3;have HFF:=Ax (And.intro hF2 (And.intro hF3 hFb));clear hF2 hF3 hFb;obtain⟨cs,hcs⟩:∃cs:ByteArray,cs=⟨#[UInt8.ofNat (48+dd)]⟩:=⟨_,rfl⟩;have HPN:=Ax (Vi HPP.out.1 HGO.out HDD.out hcs HN.out HK.out);have HCS:=Ax hcs;clear hcs;have hcsz:cs.size=1:=by rw[HCS.out];rfl
 have hcsl:cs.size<=1:=by omega
 clear hcsz;rcases hdig with ⟨rfl,rfl⟩|⟨hd1,rfl,b6,o6,rfl,hc6⟩
 ·have hbF:=HA.out.2.trans (HFF.out.2.2.mono HA.out.2.size);have hcv:=Jw F 0 (48) nU nU;rw[←HCS.out] at hcv;have HDN:=Ax (Qe HA.out.1 hbF H5F.out (.cells #[.int .u8 (48)] 5));obtain⟨e0,e1,ef⟩:=A1 (HA.out.1.box hbF (.cells #[.int .u8 (48)] 5));have ef0:=ef 0;have ef1:=ef 1;have hal:=(Aq F.heap.size F).alloc (Ak _) (.cells #[.int .u8 (48)] 5);have c20:=A6 hal c20;have c21:=A6 hal c21;clear hbF ef cf2 cf3 hal;go_wp2_with fail;go_roundw
  case rel=>exact⟨n/10,cs++sl,a5,n5,c5,rfl,HPN.out.1,Ax ⟨HDN.out.1,HDN.out.2.1,HDN.out.2.2,Al (Ez (Nat.div_le_self _ _)) HPP.out.2,HPN.out.2.1⟩⟩
  case measure=>exact HPN.out.2.2
 have hbF:=HA.out.2.trans (HFF.out.2.2.mono HA.out.2.size);have hcv:=Jw F dd (48+(dd:Int)) nU nU;rw[←HCS.out] at hcv;have HDN:=Ax (Qe HA.out.1 hbF H5F.out (.cells #[.int .u8 (48+(dd:Int))] 5));obtain⟨e0,e1,ef⟩:=A1 (HA.out.1.box hbF (.cells #[.int .u8 (48+(dd:Int))] 5));have ef0:=ef 0;have ef1:=ef 1;have hal:=(Aq F.heap.size F).alloc (Ak _) (.cells #[.int .u8 (48+(dd:Int))] 5);have c20:=A6 hal c20;have c21:=A6 hal c21;clear hbF ef cf2 cf3 hal;go_wp2_with fail;go_roundw
 case rel=>exact⟨n/10,cs++sl,a5,n5,c5,rfl,HPN.out.1,Ax ⟨HDN.out.1,HDN.out.2.1,HDN.out.2.2,Al (Ez (Nat.div_le_self _ _)) HPP.out.2,HPN.out.2.1⟩⟩
 case measure=>exact HPN.out.2.2):P:=h
theorem zz8{P:Prop}(h:P:=by
 rw[hW5] at HM5 ho5 hnb5;have HN5:=Ax hnb5;have HW5:=Ax hW5;have HR5:=Ax (HR.out.trans (Rch.of_only v7 ho5));clear hkb kf ho5 hnb5 hW5 hx5;go_upto_region 15 with fail
 rw[HW5.out];clear k0 k1 k2 k3 k4 k5 kf2 hx5';obtain⟨m0,m1,m2,m3,m4,m5,m6,m7,_⟩:=C4 HN5.out;have HP:=Ax (Dv HM5.out nU (Al hB HR5.out.only.size) ⟨c.op,v0,[],c.line,c.col⟩ ka7 (ks.length+1) kc7);have HP:Hid (Calls Tryz.prog 166 #[.pointer (some ⟨b,0,none⟩),.agg #[.int .u8 c.op,.int .u8 0,.int .i64 0,.string ⟨#[]⟩,.string ⟨#[]⟩,.slice ka7 (ks.length+1) kc7,.int .i64 c.line,.int .i64 c.col]] W5 _):=Ax HP.out;go_wp2_with fail;refine HP.out.mono ?_;rintro e V6 ⟨z6,v6,rfl,hx6,hr6⟩;have HF:=Ax (show Bu w B X b vl ts (t::t'::q') d vt nds xx (.returned (.int .i64 z6)) V6 from⟨z6,v6,rfl,HR5.out.trans hr6,by rw[HLE.out];exact hx6.mono oO H.out.few⟩);clear hx6 hr6 HP m0 m1 m2 m3 m4 m5 m6 m7;go_wp2_with fail;go_ret
 exact HF.out):P:=h
theorem zz7{P:Prop}(h:P:=by
 by_cases h40:s[p].toNat=40
 ·have d40:((s[p].toNat:Int)==40)=true:=beq_iff_eq.2 nU;have HR:=Ax (show Ct p ((dl s).drop p)=((p+1:Nat):Int) by rw[e1];exact Bt oD (by rw[Ca (n:=40) h40];decide));clear e1 h40;go_wp2_with fail;go_ret;exact⟨Cp HR.out,rfl⟩
 have d40:((s[p].toNat:Int)==40)=false:=Af.2 nU;by_cases h41:s[p].toNat=41
 ·have d41:((s[p].toNat:Int)==41)=true:=beq_iff_eq.2 nU;have HR:=Ax (show Ct p ((dl s).drop p)=((p+1:Nat):Int) by rw[e1];exact Bt oD (by rw[Ca (n:=41) h41];decide));clear e1 h41;go_wp2_with fail;go_ret;exact⟨Cp HR.out,rfl⟩
 have d41:((s[p].toNat:Int)==41)=false:=Af.2 nU;by_cases h91:s[p].toNat=91
 ·have d91:((s[p].toNat:Int)==91)=true:=beq_iff_eq.2 nU;have HR:=Ax (show Ct p ((dl s).drop p)=((p+1:Nat):Int) by rw[e1];exact Bt oD (by rw[Ca (n:=91) h91];decide));clear e1 h91;go_wp2_with fail;go_ret;exact⟨Cp HR.out,rfl⟩
 have d91:((s[p].toNat:Int)==91)=false:=Af.2 nU;by_cases h93:s[p].toNat=93
 ·have d93:((s[p].toNat:Int)==93)=true:=beq_iff_eq.2 nU;have HR:=Ax (show Ct p ((dl s).drop p)=((p+1:Nat):Int) by rw[e1];exact Bt oD (by rw[Ca (n:=93) h93];decide));clear e1 h93;go_wp2_with fail;go_ret;exact⟨Cp HR.out,rfl⟩
 have d93:((s[p].toNat:Int)==93)=false:=Af.2 nU;by_cases h44:s[p].toNat=44
 ·have d44:((s[p].toNat:Int)==44)=true:=beq_iff_eq.2 nU;have HR:=Ax (show Ct p ((dl s).drop p)=((p+1:Nat):Int) by rw[e1];exact Bt oD (by rw[Ca (n:=44) h44];decide));clear e1 h44;go_wp2_with fail;go_ret;exact⟨Cp HR.out,rfl⟩
 have d44:((s[p].toNat:Int)==44)=false:=Af.2 nU;by_cases h58:s[p].toNat=58
 ·have d58:((s[p].toNat:Int)==58)=true:=beq_iff_eq.2 nU;have HR:=Ax (show Ct p ((dl s).drop p)=((p+1:Nat):Int) by rw[e1];exact Bt oD (by rw[Ca (n:=58) h58];decide));clear e1 h58;go_wp2_with fail;go_ret;exact⟨Cp HR.out,rfl⟩
 have d58:((s[p].toNat:Int)==58)=false:=Af.2 nU;by_cases h61:s[p].toNat=61
 ·have d61:((s[p].toNat:Int)==61)=true:=beq_iff_eq.2 nU;have HR:=Ax (show Ct p ((dl s).drop p)=((p+1:Nat):Int) by rw[e1];exact Bt oD (by rw[Ca (n:=61) h61];decide));clear e1 h61;go_wp2_with fail;go_ret;exact⟨Cp HR.out,rfl⟩
 have d61:((s[p].toNat:Int)==61)=false:=Af.2 nU;by_cases h60:s[p].toNat=60
 ·have d60:((s[p].toNat:Int)==60)=true:=beq_iff_eq.2 nU;have HR:=Ax (show Ct p ((dl s).drop p)=((p+1:Nat):Int) by rw[e1];exact Bt oD (by rw[Ca (n:=60) h60];decide));clear e1 h60;go_wp2_with fail;go_ret;exact⟨Cp HR.out,rfl⟩
 have d60:((s[p].toNat:Int)==60)=false:=Af.2 nU;by_cases h62:s[p].toNat=62
 ·have d62:((s[p].toNat:Int)==62)=true:=beq_iff_eq.2 nU;have HR:=Ax (show Ct p ((dl s).drop p)=((p+1:Nat):Int) by rw[e1];exact Bt oD (by rw[Ca (n:=62) h62];decide));clear e1 h62;go_wp2_with fail;go_ret;exact⟨Cp HR.out,rfl⟩
 have d62:((s[p].toNat:Int)==62)=false:=Af.2 nU;by_cases h43:s[p].toNat=43
 ·have d43:((s[p].toNat:Int)==43)=true:=beq_iff_eq.2 nU;have HR:=Ax (show Ct p ((dl s).drop p)=((p+1:Nat):Int) by rw[e1];exact Bt oD (by rw[Ca (n:=43) h43];decide));clear e1 h43;go_wp2_with fail;go_ret;exact⟨Cp HR.out,rfl⟩
 have d43:((s[p].toNat:Int)==43)=false:=Af.2 nU;by_cases h45:s[p].toNat=45
 ·have d45:((s[p].toNat:Int)==45)=true:=beq_iff_eq.2 nU;have HR:=Ax (show Ct p ((dl s).drop p)=((p+1:Nat):Int) by rw[e1];exact Bt oD (by rw[Ca (n:=45) h45];decide));clear e1 h45;go_wp2_with fail;go_ret;exact⟨Cp HR.out,rfl⟩
 have d45:((s[p].toNat:Int)==45)=false:=Af.2 nU;by_cases h42:s[p].toNat=42
 ·have d42:((s[p].toNat:Int)==42)=true:=beq_iff_eq.2 nU;have HR:=Ax (show Ct p ((dl s).drop p)=((p+1:Nat):Int) by rw[e1];exact Bt oD (by rw[Ca (n:=42) h42];decide));clear e1 h42;go_wp2_with fail;go_ret;exact⟨Cp HR.out,rfl⟩
 have d42:((s[p].toNat:Int)==42)=false:=Af.2 nU;by_cases h47:s[p].toNat=47
 ·have d47:((s[p].toNat:Int)==47)=true:=beq_iff_eq.2 nU;have HR:=Ax (show Ct p ((dl s).drop p)=((p+1:Nat):Int) by rw[e1];exact Bt oD (by rw[Ca (n:=47) h47];decide));clear e1 h47;go_wp2_with fail;go_ret;exact⟨Cp HR.out,rfl⟩
 have d47:((s[p].toNat:Int)==47)=false:=Af.2 nU;have HR:=Ax (show Ct p ((dl s).drop p)= -1 by rw[e1];exact Wj oD (by unfold Kq;simp only[List.mem_cons,List.not_mem_nil,or_false,not_or];exact⟨fun e=>h40 oK,fun e=>h41 oK,fun e=>h91 oK,fun e=>h93 oK,fun e=>h44 oK,fun e=>h58 oK,fun e=>h61 oK,fun e=>h60 oK,fun e=>h62 oK,fun e=>h43 oK,fun e=>h45 oK,fun e=>h42 oK,fun e=>h47 oK⟩));clear e1;go_wp2_with fail;go_ret
 exact⟨Cp HR.out,rfl⟩):P:=h
theorem zz6{P:Prop}(h:P:=by
 have p1:decide ((m:Int)+(i:Int)<4)=true:=Am nU;obtain⟨wd,hwd⟩:∃wd,wp.drew=wd:=⟨_,rfl⟩;have hbd:Below wp.heap.size wp wd:=by rw[←hwd];exact(Aq _ _).drew
 have HBD:=Ax hbd;have HY2:Hid (∀V,Below wd.heap.size wd V->V.cell? ⟨w.heap.size+1,0,none⟩=some (.bool false)/\V.cell? ⟨w.heap.size+1,1,none⟩=some (.slice a n c)):=Ax fun V hV=>⟨A6 hV (A6 hbd y0),A6 hV (A6 hbd y1)⟩
 have HLT:=Ax hlt;clear hbd hlt;go_wp2_with fail;clear p1;refine wp_region_noPanic ?_;refine wp_region_held_drew (S:=fun _=>True) nT ?_ (fun hHeld=>?_)
 ·trivial
 rw[hwd];have HMONO:=Ax (show ∀F∈[(fun v _=>v= .agg #[.bool false,.slice a n c]),Iy 10],∀v w w',F v w->Below w.heap.size w w'->F v w' from B6 (fun _ _ _ h _=>h)<|B6 (fun _ _ _ h hb=>h.below hb)<|Jm);refine Dy (Inv:=Lm wd.heap.size wd [(fun v _=>v= .agg #[.bool false,.slice a n c]),Iy 10] []) 2 [0,1] [some 85,some 86] [[],[]] [false,false] nT (fun _ _ _ _ _ h=>h) nT ?_ (Lm.start rfl rfl) ?_ ?_
 ·exact fun _ _ _ _=>trivial
 ·refine lt2 ?_ ?_
  ·rw[Ao nV];refine OneB.mk 0 ⟨some 85,_,_,_,_,_⟩ _ rfl rfl rfl rfl HMONO.out (Ak _) ?_;intro d u V hd hu hdep hF hbV hzV K hK;obtain⟨x0,x1,rfl⟩:=Jj hu;obtain⟨b0,b1,rfl⟩:=Jj hd;obtain⟨f0,f1,_⟩:=hF;clear hd hu hdep f0 f1 HMONO;have HBV:=Ax hbV;have HZV:=Ax hzV;clear hbV hzV;simp only[Bl,Act.put,Ac,Ad,Ae] at hK ⊢;obtain⟨u0,u1⟩:=HY2.out V HBV.out
   go_simp
   (try go_wp2_with fail)
   refine hK.out _ _ (Aq _ _) rfl (fun h=>absurd h nV)
  rw[Ao nV];refine OneB.mk 1 ⟨some 86,_,_,_,_,_⟩ _ rfl rfl rfl rfl HMONO.out (Ak _) ?_;intro d u V hd hu hdep hF hbV hzV K hK;obtain⟨x0,x1,rfl⟩:=Jj hu;obtain⟨b0,b1,rfl⟩:=Jj hd;obtain⟨f0,f1,_⟩:=hF;clear hd hu hdep f0 f1 HMONO;have HBV:=Ax hbV;have HZV:=Ax hzV;clear hbV hzV;simp only[Bl,Act.put,Ac,Ad,Ae] at hK ⊢
  go_simp
  go_at_call 47
  refine(HO.out V).mono ?_;rintro e V1 ⟨⟨v1,rfl,hv1⟩,hb1⟩
  (try go_wp2_with fail)
  refine hK.out _ _ hb1 hv1 (fun h=>absurd h nV)
 intro u V hu hI;obtain⟨x0,x1,rfl⟩:=Jj hu;obtain⟨hbV,hzV,⟨f0,f1,_⟩,hDst⟩:=hI;have f0:=f0 rfl;have f1:=f1 rfl;clear hu HMONO;simp only[Bl,Act.put,Ac,Ad,Ae]
 (try dsimp only at f0)
 subst f0;have HBV:=Ax hbV;have HM:=Ax (Li (x:=((X*10^i:Nat):Int)) (y:=10) (HX.out.below (HBD.out.trans (hbV.mono HBD.out.size))) f1 (by have:=HLi.out;rw[Int.natAbs_natCast];omega) pT);clear f1 hDst hbV;have hHeld:True:=trivial;refine wpAnyH_ready (rs:=[2]) nT nW ?_;refine AllReadyH.cons (o:=⟨some 87,_,_,_,_,_⟩) (rs:=[]) rfl (fun K hK=>?_) AllReadyH.nil
 go_simp
 go_at_call 127
 refine HM.out.mono ?_;rintro e V4 ⟨⟨v4,rfl,hv4⟩,hb4⟩;rw[show((X*10^i:Nat):Int)*10=((X*10^(i+1):Nat):Int) by rw[Nat.pow_succ,←Nat.mul_assoc];omega] at hv4;obtain⟨a4,n4,c4,rfl,hd4⟩:=hv4.nat;have HM4:=Ax (And.intro hv4 hb4);clear hv4 hb4 hd4
 try go_wp2_with fail
 clear hHeld;refine hK.out _ _ ?_ (fun hHeld=>?_)
 ·trivial
 clear hK K
 try simp only[Act.put,Ac,Ad,Ae]
 have hb4:=HBD.out.trans ((HBV.out.trans (HM4.out.2.mono HBV.out.size)).mono HBD.out.size);have hA4:=HA.out.below hb4;obtain⟨g0,g1,gf⟩:=A1 hA4.x;have gf0:=gf 0;have gf1:=gf 1;have HNX:=Ax (I1 hA4 HM4.out.1);clear hb4 hA4 gf HM HM4;refine wpAnyH_ready (rs:=[3]) nT nW ?_;refine AllReadyH.cons (o:=⟨none,_,_,_,_,_⟩) (rs:=[]) rfl (fun K hK=>?_) AllReadyH.nil
 go_simp
 try go_wp2_with fail
 clear hHeld;refine hK.out _ _ ?_ (fun hHeld=>?_)
 ·trivial
 clear hK K
 try simp only[Act.put,Ac,Ad,Ae]
 refine wpAnyH_done nT ?_ _;refine NoPanic.normal ?_;go_wp2_with fail;go_roundw
 case rel=>exact⟨i+1,a4,n4,c4,by first|rfl|(congr 1;omega)|congr 1,by have:=HLT.out;omega,Ax ⟨HNX.out.1,HNX.out.2,by have:=aE HLi.out;rw[Nat.mul_assoc,←Nat.pow_succ] at this;omega⟩⟩
 case measure=>have:=HLT.out;simp [intOf]<;>omega):P:=h
theorem zz5{P:Prop}(h:P:=by
 obtain⟨⟨k,t,vk,vn,vs⟩,n,he⟩:=he;simp only[Fc] at he;subst he;have hT:=Bi.set7 (w:=V) (b:=w.heap.size) ⟨c0,c1,c2,c3,c4,c5,c6,fz⟩ k ⟨t.toArray⟩ vk vn ⟨vs.toArray⟩ 0 0;have hB2:=A5 HBV.out (Ak _) k ⟨t.toArray⟩ vk vn ⟨vs.toArray⟩ 0 0;obtain⟨Z,hZ⟩:∃Z,set7 V w.heap.size k ⟨t.toArray⟩ vk vn ⟨vs.toArray⟩ 0 0=Z:=⟨_,rfl⟩;rw[hZ] at hT hB2;unfold set7 at hZ;have HT:=Ax hT;have HB3:=Ax hB2;have HZ:=Ax hZ;clear hT hB2 hZ;go_wp2_with fail;rw[HZ.out];obtain⟨d0,d1,d2,d3,d4,d5,d6,_⟩:=HT.out;clear c0 c1 c2 c3 c4 c5 c6 fz;refine Au (v:= .tuple #[.agg #[.int .u8 k,.string ⟨t.toArray⟩,.int .u8 vk,.int .i64 vn,.string ⟨vs.toArray⟩,.int .i64 0,.int .i64 0],.int .i64 n,.int .i64 q]) oC rfl ?_;rw[HW.out]
 exact⟨HB3.out,⟨k,t,(vk,vn,vs)⟩,n,rfl⟩):P:=h
theorem zz4{P:Prop}(h:P:=by
 obtain⟨⟨k,t,vk,vn,vs⟩,n⟩:=p;simp only[Fc] at he;subst he;have hT:=Bi.set7 (w:=V) (b:=w.heap.size) ⟨c0,c1,c2,c3,c4,c5,c6,fz⟩ k ⟨t.toArray⟩ vk vn ⟨vs.toArray⟩ 0 0;have hB2:=A5 HBV.out (Ak _) k ⟨t.toArray⟩ vk vn ⟨vs.toArray⟩ 0 0;obtain⟨Z,hZ⟩:∃Z,set7 V w.heap.size k ⟨t.toArray⟩ vk vn ⟨vs.toArray⟩ 0 0=Z:=⟨_,rfl⟩;rw[hZ] at hT hB2;unfold set7 at hZ;have HT:=Ax hT;have HB3:=Ax hB2;have HZ:=Ax hZ;clear hT hB2 hZ;go_wp2_with fail;rw[HZ.out];obtain⟨d0,d1,d2,d3,d4,d5,d6,_⟩:=HT.out;clear c0 c1 c2 c3 c4 c5 c6 fz;refine Au (v:= .tuple #[.agg #[.int .u8 k,.string ⟨t.toArray⟩,.int .u8 vk,.int .i64 vn,.string ⟨vs.toArray⟩,.int .i64 0,.int .i64 0],.int .i64 (n:Nat),.int .i64 0]) oC rfl ?_;rw[HW.out]
 exact⟨HB3.out,rfl⟩):P:=h
theorem zz3{P:Prop}(h:P:=by
 clear hmy hXl hfit HTX;go_wp2_with fail;refine HMY.out.mono ?_;rintro e V6 ⟨rfl,hb6⟩;have HP6:=Ax (HP.out.below hb6);clear y0 y1 y2 z0 z1 z2 yf0 yf1 yf2 zf0 zf1 zf2;obtain⟨⟨y0,y1,y2,yf⟩,z0,z1,z2,zf⟩:=Dm.cells HP6.out;have yf0:=yf 0;have yf1:=yf 1;have yf2:=yf 2;have zf0:=zf 0;have zf1:=zf 1;have zf2:=zf 2;clear yf zf;clear hb6;go_wp2_with fail
 exact Au (v:= .tuple #[.agg #[.int .u8 0,.int .i64 0,.string ⟨#[]⟩],.int .i64 4]) nZ rfl (B4.bad (HP6.out.ret _ _ _) H0.out H4.out HR.out HBD.out)):P:=h
theorem zz2{P:Prop}(h:P:=by
 clear hnb;go_wp2_with fail;refine HDG.out.mono ?_;rintro e W3 ⟨rfl,hb3⟩;have HB3:=Ax (HBA.out.trans (hb3.mono HBA.out.size));clear hb3;go_wp2_with fail
 go_loop [6] (fun v6=>∃m:Nat,v6= .int .i64 ((m:Int)+1)/\pd.size<=m+4/\m<pd.size/\Hid (∀i,m<i->i<pd.size->(dl pd)[i]? =some 48)) (fun v6=>(intOf v6).toNat)
 case atStart=>exact⟨pd.size - 1,by(congr 1;omega),by omega,by omega,Ax (fun i h1 h2=>by omega)⟩
 obtain⟨m,rfl,hm4,hmp,hz⟩:=hrel;have q0:(0:Int)<=(m:Int):=by omega
 have q1:(m:Int)<(pd.size:Int):=by omega
 have hg:(dl pd)[m]? =some pd[m]:=Fu hmp;by_cases hgo:pd.size<=m+3
 ·have p1:decide ((pd.size:Int) - 3<(m:Int)+1)=true:=Am nU;by_cases h48:pd[m].toNat=48
  ·have d1:((pd[m].toNat:Int)==48)=true:=beq_iff_eq.2 nU;have e48:pd[m]=48:=Ca h48
   have HZ:=Ax (show ∀i,m - 1<i->i<pd.size->(dl pd)[i]? =some 48 from fun i q1 q2=>by
    rcases Nat.lt_or_ge m i with q|q
    ·exact hz.out i q q2
    have:i=m:=by omega
    rw[this,hg,e48])
   clear hz hg e48;go_wp2_with fail
   go_round
   case rel=>exact⟨m - 1,by(congr 1;omega),by omega,by omega,HZ⟩
   case measure=>simp [intOf]<;>omega
  have d1:((pd[m].toNat:Int)==48)=false:=Af.2 nU;have HE:=Ax (HDC.out m hm4 hmp hz.out (.inr ⟨_,hg,fun e=>h48 oK⟩));clear hz hg;go_wp2_with fail;have w1:IntKind.i64.wrap ((pd.size:Int) - 4)=(pd.size:Int) - 4:=IntWalk.i64_in _ nU;have hs1:=N6 pd ((pd.size:Int) - 4) nU nU;have hs2:=Db pd ((pd.size:Int) - 4) ((m:Int)+1) nU nU nU;have t1:((pd.size:Int) - 4).toNat=pd.size - 4:=by omega
  have t2:((m:Int)+1).toNat=m+1:=by omega
  rw[t1] at hs1;rw[t1,t2] at hs2;obtain⟨A,hA⟩:∃A,pd.extract 0 (pd.size - 4)=A:=⟨_,rfl⟩;obtain⟨B,hB⟩:∃B,pd.extract (pd.size - 4) (m+1)=B:=⟨_,rfl⟩;have hAs:A.size<=30:=by rw[←hA,ByteArray.size_extract];omega
  have hBs:B.size<=30:=by rw[←hB,ByteArray.size_extract];omega
  rw[hA] at hs1 HE;rw[hB] at hs2 HE;clear t1 t2 hpl hA hB;go_quiet (fail);go_wp2_with fail;go_ret;exact⟨D7 HE.out,Bd HB3.out _⟩
 have p1:decide ((pd.size:Int) - 3<(m:Int)+1)=false:=An nU;have HE:=Ax (HDC.out m hm4 hmp hz.out (.inl nU));clear hz hg;go_wp2_with fail;have w1:IntKind.i64.wrap ((pd.size:Int) - 4)=(pd.size:Int) - 4:=IntWalk.i64_in _ nU;have hs1:=N6 pd ((pd.size:Int) - 4) nU nU;have hs2:=Db pd ((pd.size:Int) - 4) ((m:Int)+1) nU nU nU;have t1:((pd.size:Int) - 4).toNat=pd.size - 4:=by omega
 have t2:((m:Int)+1).toNat=m+1:=by omega
 rw[t1] at hs1;rw[t1,t2] at hs2;obtain⟨A,hA⟩:∃A,pd.extract 0 (pd.size - 4)=A:=⟨_,rfl⟩;obtain⟨B,hB⟩:∃B,pd.extract (pd.size - 4) (m+1)=B:=⟨_,rfl⟩;have hAs:A.size<=30:=by rw[←hA,ByteArray.size_extract];omega
 have hBs:B.size<=30:=by rw[←hB,ByteArray.size_extract];omega
 rw[hA] at hs1 HE;rw[hB] at hs2 HE;clear t1 t2 hpl hA hB;go_quiet (fail);go_wp2_with fail;go_ret
 exact⟨D7 HE.out,Bd HB3.out _⟩):P:=h
theorem zz1{P:Prop}(h:P:=by
 go_wp2_with fail;refine HP.out.mono ?_;rintro e V6 ⟨z6,v6,rfl,hx6,hr6⟩;have HF:=Ax (show Bu w B X b vl ts (t::t'::q') d vt nds xx (.returned (.int .i64 z6)) V6 from⟨z6,v6,rfl,HR5.out.trans hr6,by rw[HLE.out];exact hx6.mono oO H.out.few⟩);clear hx6 hr6 HP m0 m1 m2 m3 m4 m5 m6 m7;go_wp2_with fail;go_ret
 exact HF.out):P:=h
theorem zz0{P:Prop}(h:P:=by
 have hT:=Bi.set7 HA.out.r 0 ⟨#[]⟩ 0 0 ⟨#[]⟩ 0 0;have hB:=A5 HA.out.bel (Ak _) 0 ⟨#[]⟩ 0 0 ⟨#[]⟩ 0 0;obtain⟨Z,hZ⟩:∃Z,set7 W1 w.heap.size 0 ⟨#[]⟩ 0 0 ⟨#[]⟩ 0 0=Z:=⟨_,rfl⟩;rw[hZ] at hT hB;unfold set7 at hZ;have HT:=Ax hT;have HB:=Ax hB;have HZ:=Ax hZ;clear hT hB hZ;go_wp2_with fail;rw[HZ.out];obtain⟨s0,s1,s2,s3,s4,s5,s6,_⟩:=HT.out
 exact Au (v:= .tuple #[.agg #[.int .u8 0,.string ⟨#[]⟩,.int .u8 0,.int .i64 0,.string ⟨#[]⟩,.int .i64 0,.int .i64 0],.int .i64 0,.int .i64 4]) oE rfl (F2 HB.out HE.out)):P:=h
theorem zzz{P:Prop}(h:P:=by
 go_wp2_with fail
 exact Au (v:= .tuple #[.agg #[.bool false,.slice a n c],.bool false,.bool false]) nY rfl (Cj.no HF.out.1 HNO.out)):P:=h
theorem zzy{P:Prop}(h:P:=by
 obtain⟨vk,vn,vs⟩:=p2;simp only at he HP;subst he
 have hfit:(⟨vk,vn,⟨vs.toArray⟩⟩:Vl).fit:=by
  obtain⟨h1,h2,h3⟩:=Hf1.out;refine⟨?_,h1,h2⟩;rw[←A4,C7];rw[A4] at h3;exact Al h3 hs
 obtain⟨W3,hW3⟩:∃W3,V2.alloc (.cells #[.int .u8 vk,.int .i64 vn,.string ⟨vs.toArray⟩] 23)=W3:=⟨_,rfl⟩;have hb3:Below V2.heap.size V2 W3:=by rw[←hW3];exact(Aq V2.heap.size V2).alloc (Ak _) _
 have hx3:=(MapKept.heap_alloc V2 (.cells #[.int .u8 vk,.int .i64 vn,.string ⟨vs.toArray⟩] 23)).1;rw[hW3] at hx3;have h3:=h2.below hb3;have Ht:=Ax (Ra ⟨vk,vn,⟨vs.toArray⟩⟩ W3 hfit (hR2.below hb3));have HW3:=Ax hW3;have Hx3:=Ax hx3;have H3:=Ax h3;have hv0:W3.cell? ⟨V2.heap.size,0,none⟩=some (.int .u8 vk):=by simp [World.cell?,hx3]
 have hv1:W3.cell? ⟨V2.heap.size,1,none⟩=some (.int .i64 vn):=by simp [World.cell?,hx3]
 have hv2:W3.cell? ⟨V2.heap.size,2,none⟩=some (.string ⟨vs.toArray⟩):=by simp [World.cell?,hx3]
 clear hW3 hx3 h3 h2 hR2 hb3 b0 b1 b2 bf Hf1 Hr;go_upto_region 9 with fail
 rw[HW3.out];go_wp2_with fail;refine Ht.out.mono ?_;rintro e V4 ⟨rfl,hb4⟩;have h4:=H3.out.below hb4;obtain⟨b0,b1,b2,bf,_,_,hlt4,_⟩:=h4.cells;have hx4:=(hb4.block _ (lt_of_block Hx3.out)).trans Hx3.out;clear hv0 hv1 hv2;have hv0:V4.cell? ⟨V2.heap.size,0,none⟩=some (.int .u8 vk):=by simp [World.cell?,hx4]
 have hv1:V4.cell? ⟨V2.heap.size,1,none⟩=some (.int .i64 vn):=by simp [World.cell?,hx4]
 have hv2:V4.cell? ⟨V2.heap.size,2,none⟩=some (.string ⟨vs.toArray⟩):=by simp [World.cell?,hx4]
 have HB:=Ax h4.low;have htx:dl (Mk ⟨vk,vn,⟨vs.toArray⟩⟩)=Cy vk vn vs:=rfl;obtain⟨X,hX⟩:∃X,Mk ⟨vk,vn,⟨vs.toArray⟩⟩=X:=⟨_,rfl⟩;rw[hX] at htx ⊢;rw[←htx] at HP;clear hX htx hb4 h4 hx4 Ht HW3 Hx3 H3;by_cases hXs:dl X=dl s
 ·have hXe:X=s:=Ce hXs;subst hXe;have HP:Hid (Dq (dl X)= .ok (vk,vn,vs)):=Ax (by rw[HP.out,Ap rfl])
  go_wp2
  refine Au (v:= .tuple #[.agg #[.int .u8 vk,.int .i64 vn,.string ⟨vs.toArray⟩],.int .i64 0]) oP rfl ?_;rw[HP.out];exact⟨((HB.out.setCell nW _).setCell nW _).setCell nW _,rfl⟩
 have HP:Hid (Dq (dl s)= .error 4):=Ax (by rw[HP.out,Ao hXs]);have t1:(X.toList==s.toList)=false:=by rw[Az,Az];simpa using hXs
 have t2:(X.toList !=s.toList)=true:=by rw[Az,Az];simpa using hXs
 clear hXs
 go_wp2
 refine Au (v:= .tuple #[.agg #[.int .u8 0,.int .i64 0,.string ⟨#[]⟩],.int .i64 4]) oP rfl ?_;rw[HP.out]
 exact⟨((HB.out.setCell nW _).setCell nW _).setCell nW _,rfl⟩):P:=h
theorem zzx{P:Prop}(h:P:=by
 rw[hZ] at hT hB;unfold set7 at hZ;have HT:=Ax hT;have HB:=Ax hB;have HZ:=Ax hZ;clear hT hB hZ;go_wp2_with fail;rw[HZ.out];obtain⟨s0,s1,s2,s3,s4,s5,s6,_⟩:=HT.out
 exact Au (v:= .tuple #[.agg #[.int .u8 0,.string ⟨#[]⟩,.int .u8 0,.int .i64 0,.string ⟨#[]⟩,.int .i64 0,.int .i64 0],.int .i64 0,.int .i64 4]) oE rfl (F2 HB.out HE.out)):P:=h
theorem zzw{P:Prop}(h:P:=by
 obtain⟨a,q⟩:=p;rw[hq] at hp;have HE:=Ax hp;obtain⟨rfl,_⟩:=hp;rw[←hq] at HE;clear hq;go_wp2_with fail;go_ret
 exact HE.out):P:=h
theorem zzv{P:Prop}(h:P:=by
 have hT:=(Bi.set7 (w:=X) ⟨c0,c1,c2,c3,c4,c5,c6,fz⟩ 0 ⟨#[]⟩ 0 0 ⟨#[]⟩ 0 0).below (((Aq _ _).alloc (Ak _) (.cells #[.int .u8 0,.int .i64 0,.string ⟨#[]⟩] 23)));have hB2:=(A5 HB2.out (Ak _) 0 ⟨#[]⟩ 0 0 ⟨#[]⟩ 0 0).trans ((((Aq _ _).alloc (Ak _) (.cells #[.int .u8 0,.int .i64 0,.string ⟨#[]⟩] 23))).mono qV);obtain⟨Z,hZ⟩:∃Z,(set7 X w.heap.size 0 ⟨#[]⟩ 0 0 ⟨#[]⟩ 0 0).alloc (.cells #[.int .u8 0,.int .i64 0,.string ⟨#[]⟩] 23)=Z:=⟨_,rfl⟩;rw[hZ] at hT hB2;unfold set7 at hZ;have HT:=Ax hT;have HB3:=Ax hB2;have HZ:=Ax hZ;clear hT hB2 hZ HB2;go_wp2_with fail;rw[HZ.out];obtain⟨d0,d1,d2,d3,d4,d5,d6,_⟩:=HT.out;clear c0 c1 c2 c3 c4 c5 c6 fz;refine Au (v:= .tuple #[.agg #[.int .u8 0,.string ⟨#[]⟩,.int .u8 0,.int .i64 0,.string ⟨#[]⟩,.int .i64 0,.int .i64 0],.int .i64 0,.int .i64 4]) oT rfl ?_
 exact⟨HB3.out,⟨0,[],(0,0,[])⟩,0,rfl⟩):P:=h
theorem zzu{P:Prop}(h:P:=by
 obtain⟨er,q⟩:=p;rw[hq] at hp;have HE:=Ax hp;obtain⟨rfl,_,_⟩:=hp;clear hq;go_wp2_with fail
 exact⟨rfl,HE.out⟩):P:=h
theorem zzt{P:Prop}(h:P:=by
 have e1:(X.toList==s.toList)=false:=by rw[Az,Az];exact Af.2 (fun e=>hXs (Ce e))
 clear hXs;go_wp2_with fail
 exact Au (v:= .tuple #[.agg #[.int .u8 0,.int .i64 0,.string ⟨#[]⟩],.int .i64 4]) nZ rfl (B4.bad (HP7.out.ret _ _ _) H0.out H4.out HR.out HBD.out)):P:=h
theorem zzs{P:Prop}(h:P:=by
 go_wp2_with fail;go_ret
 exact⟨Cp HR.out,rfl⟩):P:=h
theorem zzr{P:Prop}(h:P:=by
 go_wp2_with fail;go_ret
 exact HF.out):P:=h
theorem zzq{P:Prop}(h:P:=by
 have hO:A8 vk.ownBlock.toList w w2:=(A8.of_below hb _).trans (A8.of_grown hg _ fun k hk=>by simp [hk]);have hnb:vk.ownBlock≠some b:=Bf hk h.blk nV;refine⟨h.suf,h.toks.kept hO.size fun g hg' hlt=>hO.block g hlt fun hm=>?_,h.nam,h.tl,h.hB,fun x hx=>?_,h.hd,h.big,h.few,hO.cells_of h.blk qX,h.tree.imp (fun xs q=>Bh q hO fun g e hm=>?_) fun v n xs hn q=>⟨Bh q hO fun g e hm=>hn g e (List.mem_append.2 (.inl hm)),fun g e hm=>?_⟩⟩
 ·have h1:=h.tl g hg';have h2:=Cf hk g oR;omega
 ·rcases List.mem_append.1 hx with hx|hx
  ·rcases hv x (by simpa using hx) with e|e
   ·have:=h.xl x (List.mem_append.2 (.inl (by simpa using e)))
    have:=hO.size
    omega
   exact e.2
  have:=h.xl x (List.mem_append.2 (.inr hx))
  have:=hO.size
  omega
 ·have hm':vk.ownBlock=some g:=by simpa using hm
  rcases q.2 with ⟨rfl,_⟩|⟨g',cap,cur,rfl,_,hg',_⟩
  ·cases e
  simp only[Value.ownBlock,Option.some.injEq] at e;subst e;exact Bf hk hg' nV hm'
 rcases List.mem_append.1 hm with hm|hm
 ·rcases hv g oR with e2|e2
  ·exact hn g e (List.mem_append.2 (.inl (by simpa using e2)))
  have:g<w.heap.size:=by
   rcases q.2 with ⟨rfl,_⟩|⟨g',cap,cur,rfl,_,hg',_⟩
   ·cases e
   simp only[Value.ownBlock,Option.some.injEq] at e;subst e;exact Ay hg'
  omega
 exact hn g e (List.mem_append.2 (.inr hm))):P:=h
theorem zzp{P:Prop}(h:P:=by
 go_wp2_with fail;rw[HZ.out];obtain⟨d0,d1,d2,d3,d4,d5,d6,_⟩:=HT.out;clear c0 c1 c2 c3 c4 c5 c6 fz;refine Au (v:= .tuple #[.agg #[.int .u8 0,.string ⟨#[]⟩,.int .u8 0,.int .i64 0,.string ⟨#[]⟩,.int .i64 0,.int .i64 0],.int .i64 0,.int .i64 4]) oT rfl ?_
 exact⟨HB3.out,⟨0,[],(0,0,[])⟩,0,rfl⟩):P:=h
theorem zzo{P:Prop}(h:P:=by
 intro d u V hd hu hdep hF hbV hzV K hK;obtain⟨x0,x1,rfl⟩:=Jj hu;obtain⟨b0,b1,rfl⟩:=Jj hd;obtain⟨f0,f1,_⟩:=hF;clear hd hu hdep f0 f1 HMONO;have HBV:=Ax hbV;have HZV:=Ax hzV;clear hbV hzV;simp only[Bl,Act.put,Ac,Ad,Ae] at hK ⊢
 go_simp
 go_at_call 47
 refine(HO.out V).mono ?_;rintro e V1 ⟨⟨v1,rfl,hv1⟩,hb1⟩
 (try go_wp2_with fail)
 refine hK.out _ _ hb1 hv1 (fun h=>absurd h nV)):P:=h
theorem zzn{P:Prop}(h:P:=by
 go_wp2_with fail
 exact⟨rfl,HE.out⟩):P:=h
theorem zzm{P:Prop}(h:P:=by
 exact AllReadyIn.nil):P:=h
theorem zzl{P:Prop}(h:P:=by
 go_wp2
 go_ret
 exact⟨rfl,HB.out⟩):P:=h
theorem zzk{P:Prop}(h:P:=by
 rw[hK0] at hl0 ⊢;simp only[hK0] at HK0;rw[←Ye];have HP1:=Ax hp1;have HB1:=Ax hb1;have Hlv:=Ax hlv;have Hwd:=Ax hwd;clear h hx hp1 hb1 hz hK hKL hlv hwd hK0 ho1 ho2 ho3;go_enter Tryz.func92,Tryz.ntmps92;go_wp2_with fail
 go_region_held3 (fun V=>V.cell? ⟨w.heap.size,0,none⟩=some (.int .u8 op)) (go_keep)
  (first
   |(go_at_call 62;(with_reducible refine(ho _).out.mono ?_);rintro e V2 ⟨rfl,hb2⟩;have hc2:=A6 hb2 n0;have hB2:=Ax hb2;clear hb2)
   |(go_at_call 62;(with_reducible refine(ho _).out.mono ?_);rintro e V3 ⟨rfl,hb3⟩;have hc3:=A6 hb3 hc2;have HB3:=Ax (hB2.out.trans (hb3.mono hB2.out.size));clear hb3))
 obtain⟨m0,m1,m2,m3,m4,m5,m6,m7,_⟩:=Bp ((HB3.out.block _ (Ay HP1.out)).trans HP1.out);have HBV0:=Ax (HB1.out.trans (HB3.out.mono HB1.out.size));clear HB1 hB2;go_wp2_with fail;refine(HK0 _ HBV0.out).out.mono ?_;rintro e V5 ⟨rfl,hbb0⟩;have HBV1:=Ax (HBV0.out.trans (hbb0.mono HBV0.out.size));clear hbb0;go_wp2_with fail;go_ret
 exact⟨rfl,HBV1.out⟩):P:=h
theorem zzj{P:Prop}(h:P:=by
 go_wp2_with fail;go_ret
 exact⟨HR.out,HB.out⟩):P:=h
theorem zzi{P:Prop}(h:P:=by
 go_enter Tryz.func92,Tryz.ntmps92;go_wp2_with fail
 go_region_held3 (fun V=>V.cell? ⟨w.heap.size,0,none⟩=some (.int .u8 op)) (go_keep)
  (first
   |(go_at_call 62;(with_reducible refine(ho _).out.mono ?_);rintro e V2 ⟨rfl,hb2⟩;have hc2:=A6 hb2 n0;have hB2:=Ax hb2;clear hb2)
   |(go_at_call 62;(with_reducible refine(ho _).out.mono ?_);rintro e V3 ⟨rfl,hb3⟩;have hc3:=A6 hb3 hc2;have HB3:=Ax (hB2.out.trans (hb3.mono hB2.out.size));clear hb3))
 obtain⟨m0,m1,m2,m3,m4,m5,m6,m7,_⟩:=Bp ((HB3.out.block _ (Ay HP1.out)).trans HP1.out);have HBV0:=Ax (HB1.out.trans (HB3.out.mono HB1.out.size));clear HB1 hB2;go_wp2_with fail;refine(HK0 _ HBV0.out).out.mono ?_;rintro e V5 ⟨rfl,hbb0⟩;have HBV1:=Ax (HBV0.out.trans (hbb0.mono HBV0.out.size));clear hbb0;go_wp2_with fail;refine(HK1 _ HBV1.out).out.mono ?_;rintro e V6 ⟨rfl,hbb1⟩;have HBV2:=Ax (HBV1.out.trans (hbb1.mono HBV1.out.size));clear hbb1;go_wp2_with fail;go_ret
 exact⟨rfl,HBV2.out⟩):P:=h
theorem zzh{P:Prop}(h:P:=by
 rw[hr] at HN;clear hDd hr;cases r
 case ok n=>
  have Hp:=Ax hp;have HN:=Ax HN.out;clear hp;go_wp2_with fail;refine Hp.out.mono ?_;rintro e V2 ⟨rfl,hb⟩;have h1:=Hs1.out.below hb;obtain⟨a0,a1,a2,b0,b1,b2,f0,f1,hlt⟩:=h1.cells;have HB:=Ax h1.low;clear h1 hb Hp Hs1
  go_wp2
  refine Au (v:= .tuple #[.agg #[.int .u8 1,.int .i64 n,.string ⟨#[]⟩],.int .i64 0]) oJ rfl ?_;rw[HN.out];exact⟨(((HB.out.setCell nW _).setCell nW _).setCell nW _).setCell nW _,rfl⟩
 all_goals
  have Hp:=Ax hp;have HN:=Ax HN.out;clear hp;go_wp2_with fail;refine Hp.out.mono ?_;rintro e V2 ⟨pz,pt,pN,rfl,hb⟩;have h1:=Hs1.out.below hb;obtain⟨a0,a1,a2,b0,b1,b2,f0,f1,hlt⟩:=h1.cells;have HB:=Ax h1.low;clear h1 hb Hp Hs1
  go_wp2
  refine Au (v:= .tuple #[.agg #[.int .u8 1,.int .i64 0,.string ⟨#[]⟩],.int .i64 9]) oJ rfl ?_;rw[HN.out]
  exact⟨((HB.out.setCell nW _).setCell nW _).setCell nW _,_,_,_,rfl⟩):P:=h
theorem zzg{P:Prop}(h:P:=by
 rw[hr] at HN;clear hDd hr;cases r
 case ok n=>
  have Hp:=Ax hp;have HN:=Ax HN.out;clear hp;go_wp2_with fail;refine Hp.out.mono ?_;rintro e V2 ⟨rfl,hb⟩;have h1:=Hs1.out.below hb;obtain⟨a0,a1,a2,b0,b1,b2,f0,f1,hlt⟩:=h1.cells;have HB:=Ax h1.low;clear h1 hb Hp Hs1
  go_wp2
  refine Au (v:= .tuple #[.agg #[.int .u8 2,.int .i64 n,.string ⟨#[]⟩],.int .i64 0]) oJ rfl ?_;rw[HN.out];exact⟨(((HB.out.setCell nW _).setCell nW _).setCell nW _).setCell nW _,rfl⟩
 all_goals
  have Hp:=Ax hp;have HN:=Ax HN.out;clear hp;go_wp2_with fail;refine Hp.out.mono ?_;rintro e V2 ⟨pz,pt,pN,rfl,hb⟩;have h1:=Hs1.out.below hb;obtain⟨a0,a1,a2,b0,b1,b2,f0,f1,hlt⟩:=h1.cells;have HB:=Ax h1.low;clear h1 hb Hp Hs1
  go_wp2
  refine Au (v:= .tuple #[.agg #[.int .u8 2,.int .i64 0,.string ⟨#[]⟩],.int .i64 9]) oJ rfl ?_;rw[HN.out]
  exact⟨((HB.out.setCell nW _).setCell nW _).setCell nW _,_,_,_,rfl⟩):P:=h
theorem zzf{P:Prop}(h:P:=by
 go_wp2_with fail;go_ret
 exact HE.out):P:=h
theorem zze{P:Prop}(h:P:=by
 have hB6:=Ck (v:= .slice oa (i+k) oc) (HR.out.bel.alloc (by have:=HSW.out;omega) (.cells #[.int .i64 (d:Int)] 3)) hgrow6 Hown.out pX;rw[←C6,List.append_assoc] at hown6
 have HR6:Hid (Ys wo.heap.size W0 w6 xs y i (k+1) c (.slice (some ⟨g6,0,none⟩) (i+(k+1)) cap) (o++[d])):=Ax ⟨hown6,by rw[Ab,HR.out.len];rfl,E0 HR.out.ok HDL.out,by
  rw[Fx,HR.out.len,Nat.pow_succ,HVL.out]
  exact HR.out.val,hB6⟩
 clear hown6 hgrow6 hat6 hlt6 hB6 Hrow1 HN1 HZ1 hsr HSW Hown HR HVL HDL;go_wp2_with fail;go_roundw
 case rel=>exact⟨k+1,c,o++[d],some ⟨g6,0,none⟩,cap,hm1,Hbd.out,by rw[Nat.add_assoc],by first|rfl|rw[hd],by go_num,HR6⟩
 case measure=>simp [intOf];omega):P:=h
theorem zzd{P:Prop}(h:P:=by
 have hc:=HA.out l[k] wo (List.getElem_mem hlk) hb.out;have Hc:=Ax hc;obtain⟨q,hp⟩:∃q,p l[k]=q:=⟨_,rfl⟩;rw[hp] at Hc;have Hp:=Ax hp;have j0:(0:Int)<=(k:Int):=by omega
 have j1:(k:Int)<(l.length:Int):=by omega
 clear hc hp;go_wp2_with fail;refine Hc.out.mono ?_;rintro r w2 ⟨rfl,hb2⟩;have HB2:=Ax (hb.out.trans (hb2.mono hb.out.size));clear hb2;cases q
 ·go_wp2
  go_roundw
  case rel=>exact⟨k+1,by omega,by go_num,fun j h hj=>by
   rcases Nat.lt_or_ge j k with q|q
   ·exact hq.out j h q
   obtain rfl:j=k:=by omega
   exact Hp.out,HB2.out⟩
  case measure=>simp [intOf];omega
 go_wp2
 go_ret
 exact⟨by rw[P6 hlk hq.out Hp.out];rfl,HB2.out⟩):P:=h
theorem zzc{P:Prop}(h:P:=by
 refine wpAnyIn_done nT ?_ _
 gi_wp2
 gi_meet
 case rel=>exact⟨_,m,rfl,rfl,rfl,H8.out⟩):P:=h
theorem zzb{P:Prop}(h:P:=by
 have HQ:Hid (∃j,dl (⟨#[48]⟩++T2)=List.replicate j 48++d/\(j=0\/(⟨#[48]⟩++T2:ByteArray).size<=5)):=Ax (by
  obtain⟨j,e,_⟩:=hq.out;refine⟨j+1,?_,.inr ?_⟩
  ·rw[Du,e];rfl
  have hs1:(⟨#[48]⟩:ByteArray).size=1:=rfl;rw[ByteArray.size_append,hs1]
  omega)
 have i2:(T2.size:Int)<5:=by omega
 clear hq
 go_wp2
 go_round
 case rel=>
  have hs1:(⟨#[48]⟩:ByteArray).size=1:=rfl;exact⟨_,rfl,by rw[ByteArray.size_append,hs1];omega,by rw[ByteArray.size_append,hs1];omega,HQ.out⟩
 case measure=>
  have hs1:(⟨#[48]⟩:ByteArray).size=1:=rfl;simp only[ByteArray.size_append,hs1]
  omega):P:=h
theorem zza{P:Prop}(h:P:=by
 rw[HN.out]
 exact⟨((HB.out.setCell nW _).setCell nW _).setCell nW _,_,_,_,rfl⟩):P:=h
theorem zy9{P:Prop}(h:P:=by
 have HNG:=Ax (Mz HX.out);go_wp2_with fail;refine HNG.out.mono ?_;rintro e V5 ⟨⟨v5,rfl,hv5⟩,hb5⟩;obtain⟨b5,a5,n5,c5,rfl⟩:=hv5.parts;have hA5:=HA.out.below hb5;have HN5:=Ax (I1 hA5 hv5);obtain⟨g0,g1,gf⟩:=A1 hA5.x;obtain⟨r0,r1,rf⟩:=A1 hA5.r;have gf0:=gf 0;have gf1:=gf 1;have rf0:=rf 0;have rf1:=rf 1;have HF:=Ax (Cw HN5.out.1 HN5.out.2);clear hv5 hb5 hA5 gf rf HNG y0 y1 z0 z1 zf0 zf1 yf0 yf1;go_wp2_with fail
 exact Au (v:= .tuple #[.agg #[.bool b5,.slice a5 n5 c5],.bool false,.bool true]) nY rfl (Cj.yes HF.out.1 HYY.out HF.out.2)):P:=h
theorem zy8{P:Prop}(h:P:=by
 have HNG:=Ax (Mz HX.out);go_wp2_with fail;refine HNG.out.mono ?_;rintro e V5 ⟨⟨v5,rfl,hv5⟩,hb5⟩;obtain⟨b5,a5,n5,c5,rfl⟩:=hv5.parts;have hA5:=HA.out.below hb5;have HN5:=Ax (I1 hA5 hv5);obtain⟨g0,g1,gf⟩:=A1 hA5.x;obtain⟨r0,r1,rf⟩:=A1 hA5.r;have gf0:=gf 0;have gf1:=gf 1;have rf0:=rf 0;have rf1:=rf 1;have HF:=Ax (Cw HN5.out.1 HN5.out.2);clear hv5 hb5 hA5 gf rf HNG y0 y1 z0 z1 zf0 zf1 yf0 yf1;go_wp2_with fail
 exact Au (v:= .tuple #[.agg #[.bool b5,.slice a5 n5 c5],.bool true,.bool true]) nY rfl (Cj.yes HF.out.1 HYY.out HF.out.2)):P:=h
theorem zy7{P:Prop}(h:P:=by
 have:=A0 (w.alloc (.cells #[.int .u8 op,.int .u8 vk,.int .i64 vn,.string ⟨vs.toArray⟩,.string ⟨nm.toArray⟩,.slice ka kids.length kc,.int .i64 ln,.int .i64 cl] 43)) (.cells #[.int .u8 op,.int .u8 vk,.int .i64 vn,.string ⟨vs.toArray⟩,.string ⟨nm.toArray⟩,.slice ka kids.length kc,.int .i64 ln,.int .i64 cl] 43)
 rw[show(w.alloc (.cells #[.int .u8 op,.int .u8 vk,.int .i64 vn,.string ⟨vs.toArray⟩,.string ⟨nm.toArray⟩,.slice ka kids.length kc,.int .i64 ln,.int .i64 cl] 43)).heap.size=w.heap.size+1 by simp] at this
 exact this):P:=h
theorem zy6{P:Prop}(h:P:=by
 refine wpAnyIn_done nT ?_ _
 gi_wp2
 gi_meet
 case rel=>exact⟨V.heap.size,rfl,rfl,rfl,Ak _,H7.out,H8.out⟩):P:=h
theorem zy5{P:Prop}(h:P:=by
 refine⟨⟨h.suf,h.toks.kept hO.size fun g hg hlt=>hO.block g hlt fun hm=>?_,h.nam,h.tl,h.hB,fun x hx=>Nat.lt_of_lt_of_le (h.xl x hx) hO.size,h.hd,h.big,by simpa using hroom,hb2,kvs++[kv],?_,?_⟩,hO,fun g hg=>hv g hg⟩
 ·have h1:=h.tl g hg;rcases List.mem_cons.1 hm with rfl|hm
  ·have:=h.hB
   omega
  have:=h.tree.own g oR
  omega
 ·rw[L2 hk2.len]
  have:=hset _ _ _ nV hown
  simpa using this
 exact Cu.snoc (hk2.imp fun v k xs hn q=>⟨hset v k xs nV (hint v k xs q),hn⟩) ⟨hset _ _ _ nV (hint _ _ _ hkv),hkx⟩):P:=h
theorem zy4{P:Prop}(h:P:=by
 clear hq c hZ;go_wp2_with fail
 go_round
 case rel=>exact⟨1,by first|rfl|go_num,by omega,HM⟩
 case measure=>simp [intOf]<;>omega):P:=h
theorem zy3{P:Prop}(h:P:=by
 exact⟨((HB.out.setCell nW _).setCell nW _).setCell nW _,rfl⟩):P:=h
theorem zy2{P:Prop}(h:P:=by
 obtain⟨nb,hnb⟩:∃nb,decide (x+y<0)=nb:=⟨_,rfl⟩;obtain⟨kk,hkk⟩:∃k,Bo (x+y).natAbs=k:=⟨_,rfl⟩;rw[hnb,hkk] at HB2 HV ⊢;clear hnb hkk;go_wp2_with fail
 refine Au (v:= .agg #[.bool nb,.slice a2 kk c2]) qK rfl ⟨⟨_,rfl,HV.out⟩,HB2.out⟩):P:=h
theorem zy1{P:Prop}(h:P:=by
 go_wp2_with fail;go_quiet (fail);go_wp2_with fail;go_ret
 exact⟨rfl,Bd (Aq _ w) _⟩):P:=h
theorem zy0{P:Prop}(h:P:=by
 obtain⟨b,off,e,hc⟩:=h4 i hi;refine⟨b,off,e,?_⟩
 have hne:b≠r:=by
  rintro rfl;simp only[World.cell?,hr] at hc;obtain h0|h0|h0:off+i=0\/off+i=1\/2<=off+i:=by omega
  ·rw[h0] at hc;simp at hc
  ·rw[h0] at hc;simp at hc
  rw[Array.getElem?_eq_none (by simpa using h0)] at hc;simp at hc
 rw[←hc];refine World.cell?_of_block ?_
 show((V.setCell ⟨r,0,none⟩ u).setCell ⟨r,1,none⟩ u').heap[b]? =V.heap[b]?
 rw[Below.heap_setCell _ _ _ _ (by exact hne),Below.heap_setCell _ _ _ _ (by exact hne)]):P:=h
theorem zyz{P:Prop}(h:P:=by
 go_enter Tryz.func54,Tryz.ntmps54;go_wp2_with fail;refine Au (v:= .agg #[.int .i64 tl,.int .i64 (tc+(tt.length:Int)+1)]) oV rfl ?_;refine⟨by simp [*],?_⟩
 exact(((HB3.out.setCell nW _).setCell nW _).setCell nW _).setCell nW _):P:=h
theorem zyy{P:Prop}(h:P:=by
 rw[Ao nV];refine OneB.mk 0 ⟨some 54,_,_,_,_,_⟩ _ rfl rfl rfl rfl HMONO.out (Ak _) ?_;intro d u V hd hu hdep hF hbV hzV K hK;obtain⟨x0,x1,rfl⟩:=Jj hu;obtain⟨b0,b1,rfl⟩:=Jj hd;obtain⟨f0,f1,_⟩:=hF;clear hd hu hdep f0 f1 HMONO;have HBV:=Ax hbV;have HZV:=Ax hzV;clear hbV hzV;simp only[Bl,Act.put,Ac,Ad,Ae] at hK ⊢;obtain⟨u0,u1⟩:=HY.out V HBV.out
 go_simp
 (try go_wp2_with fail)
 refine hK.out _ _ (Aq _ _) rfl (fun h=>absurd h nV)):P:=h
theorem zyx{P:Prop}(h:P:=by
 go_enter Tryz.func59,Tryz.ntmps59;go_wp2_with fail;go_ret
 exact⟨rfl,((Aq _ w).alloc (Ak _) _).alloc nW _⟩):P:=h
theorem zyw{P:Prop}(h:P:=by
 go_enter Tryz.func57,Tryz.ntmps57;go_wp2_with fail;refine Au (v:= .agg #[.int .i64 tl,.int .i64 (tc+((tt.length:Int)+1))]) oU rfl ?_;refine⟨by simp [*,Int.add_assoc],?_⟩
 exact(HB3.out.setCell nW _).setCell nW _):P:=h
theorem zyv{P:Prop}(h:P:=by
 have hl:=hs.len;refine⟨hs.trans h.suf,h.toks.kept ho.size fun g hg hlt=>ho.block g hlt ?_,h.nam,h.tl,h.hB,fun x hx=>Nat.lt_of_lt_of_le (h.xl x hx) ho.size,hd,h.big,by have:=h.few;omega,hb,h.tree.imp (fun _ q=>Bh q ho fun k e hm=>?_) fun v n xs hn q=>⟨Bh q ho fun k e hm=>?_,hn⟩⟩
 ·have:=h.tl g hg
  have:=h.hB
  simp;omega
 ·simp at hm;subst hm;exact h.tree.not h.blk nV e
 simp at hm;subst hm
 exact Bf q h.blk nV e):P:=h
theorem zyu{P:Prop}(h:P:=by
 go_enter Tryz.func67,Tryz.ntmps67;go_upto_region 1 with fail
 rw[HW1.out,HW2.out];clear HW1 HW2;go_wp2_with fail;go_ret2
 exact⟨rfl,HB.out⟩):P:=h
theorem zyt{P:Prop}(h:P:=by
 rw[HX.out];have hO:A8 [w.heap.size] V4 ((V4.setCell ⟨w.heap.size,0,none⟩ (.int .i64 0)).setCell ⟨w.heap.size,1,none⟩ (.int .i64 0)):=(A3 V4 _ _ _).setCell (.inl nW) _;refine⟨(HB4.out.setCell nW _).setCell nW _,_,rfl,HT.out.imp (fun _ r=>Bh r hO fun k e hm=>?_) fun v n xs hx r=>⟨Bh r hO fun k e hm=>?_,hx⟩⟩
 ·simp at hm;subst hm;exact Bf r HP5.out nV e
 simp at hm;subst hm
 exact Bf r HP5.out nV e):P:=h
theorem zys{P:Prop}(h:P:=by
 have hl:=h.suf.len;simp only[Aa] at hl;have hlt:ts.length - (t::q).length<ts.length:=by simp only[Aa];omega
 have he:ts[ts.length - (t::q).length]=t:=by
  have h1:=h.suf.at_drop;have h2:=Ar (fun l=>l[0]?) h1;simp only[List.getElem?_cons_zero,List.getElem?_drop,Nat.add_zero] at h2;rw[Ag hlt] at h2;injection h2 with h2;exact h2.symm
 obtain⟨g,c,e,hg,h0⟩:=h.toks.at hlt;rw[he] at h0
 exact⟨g,c,e,hg,hlt,h0⟩):P:=h
theorem zyr{P:Prop}(h:P:=by
 go_wp2_with fail;refine HK'.out.mono ?_;rintro e V5 ⟨rfl,hb5⟩;have HB5:=Ax ((HLow.out X4 HB4.out).trans (hb5.mono (HLow.out X4 HB4.out).size));clear hb5 HK';go_wp2_with fail;go_ret
 exact⟨rfl,HB5.out⟩):P:=h
theorem zyq{P:Prop}(h:P:=by
 go_wp2_with fail;go_ret
 exact⟨rfl,Aq _ _⟩):P:=h
theorem zyp{P:Prop}(h:P:=by
 have h1:=A0 (w.alloc (.cells #[.bool bx,.slice ax nx cx] 79)) (.cells #[.bool by',.slice ay ny cy] 79);rw[show(w.alloc (.cells #[.bool bx,.slice ax nx cx] 79)).heap.size=w.heap.size+1 by simp] at h1;have h2:=(Aq _ ((w.alloc (.cells #[.bool bx,.slice ax nx cx] 79)).alloc (.cells #[.bool by',.slice ay ny cy] 79))).alloc (Ak _) (.cells #[.bool false,.slice none 0 0] 79)
 exact(h2.block _ (Ay h1)).trans h1):P:=h
theorem zyo{P:Prop}(h:P:=by
 simp only at he HP;obtain⟨ek,en,es,rfl⟩:=he
 have hq0:(q==0)=false:=by
  have:=Hf1.out
  unfold lP at this;simp;omega
 have HB:=Ax h2.low;have HP:=Ax HP.out;clear h2 hR2 Hf1 Hr
 go_wp2
 refine Au (v:= .tuple #[.agg #[.int .u8 0,.int .i64 0,.string ⟨#[]⟩],.int .i64 q]) oP rfl ?_;rw[HP.out]
 exact⟨(((HB.out.setCell nW _).setCell nW _).setCell nW _).alloc (by simp [World.setCell];omega) _,rfl⟩):P:=h
theorem zyn{P:Prop}(h:P:=by
 go_ret
 exact⟨rfl,rfl⟩):P:=h
theorem zym{P:Prop}(h:P:=by
 go_wp2_with fail;go_region
 all_goals
  rw[HZ.out];obtain⟨d0,d1,d2,d3,d4,d5,d6,_⟩:=HT.out;clear c0 c1 c2 c3 c4 c5 c6 fz
  go_wp2
  refine Au (v:= .tuple #[.agg #[.int .u8 4,.string (s.extract 0 N),.int .u8 0,.int .i64 0,.string ⟨#[]⟩,.int .i64 0,.int .i64 0],.int .i64 N,.int .i64 4]) pK rfl ?_
  exact⟨HB2.out,⟨4,(dl s).take N,(0,0,[])⟩,_,by rw[←Hex.out];rfl⟩):P:=h
theorem zyl{P:Prop}(h:P:=by
 go_wp2
 go_meet
 case rel=>exact⟨rfl,rfl⟩):P:=h
theorem zyk{P:Prop}(h:P:=by
 have ec:∀i,w'.cell? ⟨b,i,none⟩=w.cell? ⟨b,i,none⟩:=fun i=>World.cell?_of_block (w:=w) e
 have ef:∀i,w'.frozen? ⟨b,i,none⟩=w.frozen? ⟨b,i,none⟩:=fun i=>World.frozen?_of_block (w:=w) e
 constructor<;>first|(rw[ec];first|exact h.c0|exact h.c1|exact h.c2|exact h.c3|exact h.c4|exact h.c5|exact h.c6)|(intro i;rw[ef];exact h.fz i)):P:=h
theorem zyj{P:Prop}(h:P:=by
 refine⟨by rw[Hl.out];rfl,?_⟩
 exact(((HB3.out.setCell (Ak _) _).setCell (Ak _) _).setCell (Ak _) _).alloc oB _):P:=h
theorem zyi{P:Prop}(h:P:=by
 go_wp2_with fail;refine HEA.out.mono ?_;rintro e V3 ⟨rfl,hb3⟩;have HB3:=Ax (HA.out.trans (hb3.mono HA.out.size));clear hb3;go_wp2_with fail;refine(HS _ _).out.mono ?_;rintro e V4 ⟨rfl,hb4⟩;have HB4:=Ax (HB3.out.trans (hb4.mono HB3.out.size));clear hb4;go_wp2_with fail;go_ret
 exact⟨by rw[←HR.out];rfl,HB4.out⟩):P:=h
theorem zyh{P:Prop}(h:P:=by
 go_enter Tryz.func168,Tryz.ntmps168;go_wp2_with fail;go_quiet (fail);go_wp2_with fail;go_region_with ((go_at_call 62;(with_reducible refine(ho _).out.mono ?_);rintro e V ⟨rfl,hb⟩;have HB:=Ax ((HD nq).out.drew.trans (hb.mono (HD nq).out.size));clear hb))
 all_goals
  go_wp2_with fail;go_ret
  exact⟨rfl,HB.out⟩):P:=h
theorem zyg{P:Prop}(h:P:=by
 have HH2:Hid (Dp (l.take (i+1)) []=L):=Ax HH.out;have HR:Hid (W1.ownsRow w.heap.size 9 1 (.slice oa L.length oc) L.length (Jp L)/\Below w.heap.size w W1):=Ax ⟨HR1.out,HB1.out⟩;clear HCn;go_wp2_with fail;go_roundw
 case rel=>exact⟨i+1,L,oa,oc,by omega,by go_num,rfl,HH2,HR⟩
 case measure=>simp [intOf];omega):P:=h
theorem zyf{P:Prop}(h:P:=by
 have h1:=A0 ((w.alloc (.cells #[.bool bx,.slice ax nx cx] 79)).alloc (.cells #[.bool by',.slice ay ny cy] 79)) (.cells #[.bool false,.slice none 0 0] 79);rw[show((w.alloc (.cells #[.bool bx,.slice ax nx cx] 79)).alloc (.cells #[.bool by',.slice ay ny cy] 79)).heap.size=w.heap.size+2 by simp] at h1
 exact h1):P:=h
theorem zye{P:Prop}(h:P:=by
 go_enter Tryz.func115,Tryz.ntmps115
 go_wp2
 go_ret
 exact⟨by simp [G6,D8,Ic,show ¬(97<=x/\x<=122) by omega,show ¬(48<=x/\x<=57) by omega],rfl⟩):P:=h
theorem zyd{P:Prop}(h:P:=by
 rintro e w' ⟨rfl,rfl⟩;go_wp2_with fail
 go_round
 case rel=>exact⟨q+1,by go_num,by omega,by omega,HN⟩
 case measure=>simp [intOf]<;>omega):P:=h
theorem zyc{P:Prop}(h:P:=by
 simp [hi] at h
 exact⟨i,rfl,h.1,h.2.1,h.2.2⟩):P:=h
theorem zyb{P:Prop}(h:P:=by
 clear hq;go_wp2_with fail
 go_round
 case rel=>exact⟨i+1,_,by omega,by go_num,rfl,HN.out.1,Ax HN.out.2⟩
 case measure=>simp [intOf];omega):P:=h
theorem zya{P:Prop}(h:P:=by
 split
 ·next hf=>
  obtain⟨_,hr⟩:=Fe (h2 hf).1;rw[List.all_append,had,Bool.true_and];refine List.all_eq_true.2 fun x hx=>?_
  rcases List.mem_append.1 (List.mem_of_mem_take hx) with q|q
  ·exact List.all_eq_true.1 hr x q
  simp at q;subst q;decide
 exact had):P:=h
theorem zx9{P:Prop}(h:P:=by
 have h1:=A0 w (.cells #[.bool bx,.slice ax nx cx] 79);have h2:=((Aq _ (w.alloc (.cells #[.bool bx,.slice ax nx cx] 79))).alloc (Ak _) (.cells #[.bool by',.slice ay ny cy] 79)).alloc nW (.cells #[.bool false,.slice none 0 0] 79)
 exact(h2.block _ (Ay h1)).trans h1):P:=h
theorem zx8{P:Prop}(h:P:=by
 clear hq c hZ;go_wp2_with fail
 go_round
 case rel=>exact⟨2,by first|rfl|go_num,by omega,HM⟩
 case measure=>simp [intOf]<;>omega):P:=h
theorem zx7{P:Prop}(h:P:=by
 rw[←hW3]
 show(World.setCell _ _ _).heap[_]? =_
 rw[A2 (A2 (A2 (A2 HN2.out)))]
 rfl):P:=h
theorem zx6{P:Prop}(h:P:=by
 obtain⟨h1,a,c,h2,h3⟩:=h;refine⟨h1,a,c,h2,fun i hi=>?_⟩;obtain⟨b,off,e,hc⟩:=h3 i hi
 exact⟨b,off,e,A6 hb hc⟩):P:=h
theorem zx5{P:Prop}(h:P:=by
 clear hd hu hdj hdep hI;simp only[Bl,Act.put,Ac,Ad,Ae] at hK ⊢
 go_simp
 (try go_wp2_with fail)
 exact hK.out _ _ HI.out):P:=h
theorem zx4{P:Prop}(h:P:=by
 go_wp2_with fail;go_roundw
 case rel=>exact⟨q,ln,bg,ts,va,vc,by rw[HTN.out],rfl,rfl,rfl,by omega,by omega,by omega,by rw[HTN.out];omega,Ax ⟨by rw[HTN.out];exact HA.out,HM.out⟩⟩
 case measure=>have:=HPQ.out;simp [intOf]<;>omega):P:=h
theorem zx3{P:Prop}(h:P:=by
 simp only[hz] at HT;clear ht ho hf hR hz;go_enter Tryz.func30,Tryz.ntmps30;go_wp2_with fail;refine HT.out.mono ?_;rintro e V1 ⟨rfl,hb1⟩;have HB1:=Ax hb1;clear hb1 HT;unfold jB;go_wp2_with fail;go_ret
 exact⟨rfl,HB1.out⟩):P:=h
theorem zx2{P:Prop}(h:P:=by
 unfold Kf;rw[←hRd];cases q
 ·have h0:R.size≠0:=of_decide_eq_false hq;rw[Ao (fun e=>h0 (by rw[←A4,e];rfl))];rfl
 have h0:R.size=0:=of_decide_eq_true hq;rw[Ap (List.eq_nil_of_length_eq_zero (by rw[A4];exact h0))]
 rfl):P:=h
theorem zx1{P:Prop}(h:P:=by
 have:(ms.map fun _=>false).getD x false=false:=by
  rw[List.getD_eq_getElem?_getD];cases q:(ms.map fun _=>false)[x]? with
  |none=>rfl
  |some b=>have:=List.mem_of_getElem? q;simp at this;simp [this.2]
 rw[this] at hd
 cases hd):P:=h
theorem zx0{P:Prop}(h:P:=by
 rw[←hW3]
 exact A8.drew ((((A3 W2 _ _ _).setCell (.inl nW) _).setCell (.inl nW) _).setCell (.inl nW) _)):P:=h
theorem zxz{P:Prop}(h:P:=by
 go_enter Tryz.func72,Tryz.ntmps72
 go_wp2
 go_ret
 exact⟨rfl,Aq _ _⟩):P:=h
theorem zxy{P:Prop}(h:P:=by
 subst hn;go_enter Tryz.func42,Tryz.ntmps42;go_wp2_with fail;refine Hc.out.mono ?_;rintro e w1 ⟨rfl,hb1⟩;have HB1:=Ax (HB.out.trans (hb1.mono HB.out.size));clear hb1
 go_wp2
 go_ret
 exact⟨Ir nW,HB1.out⟩):P:=h
theorem zxx{P:Prop}(h:P:=by
 rw[hhd h] at q2;exact h2 ⟨by rw[Option.some.inj q2];rfl,by omega⟩):P:=h
theorem zxw{P:Prop}(h:P:=by
 obtain⟨m0,m1,m2,m3,m4,m5,m6,m7,_⟩:=Bp ((HB3.out.block _ (Ay HP1.out)).trans HP1.out);have HBV:=Ax (HB1.out.trans (HB3.out.mono HB1.out.size));clear HB1 hB2;go_wp2_with fail;go_ret
 exact⟨rfl,HBV.out⟩):P:=h
theorem zxv{P:Prop}(h:P:=by
 rw[HX.out]
 exact⟨((HB4.out.setCell nW _).setCell nW _).drew,rfl⟩):P:=h
theorem zxu{P:Prop}(h:P:=by
 have:l=[]:=List.eq_nil_of_length_eq_zero h0
 subst this
 exact⟨hl,none,0,e,fun i hi=>by simp at hi⟩):P:=h
theorem zxt{P:Prop}(h:P:=by
 go_wp2
 go_round
 case rel=>exact⟨k+1,by omega,by go_num,Hyes.out⟩
 case measure=>simp [intOf];omega):P:=h
theorem zxs{P:Prop}(h:P:=by
 go_wp2_with fail;refine Hc.out.mono ?_;rintro e w1 ⟨rfl,hb1⟩
 go_wp2
 go_ret
 exact⟨Ir nW,hb1⟩):P:=h
theorem zxr{P:Prop}(h:P:=by
 have hl:=h.suf.len;simp only[Aa] at hl;refine h.turn (A3 _ _ _ _) ⟨1,rfl⟩ h.hd ?_;rw[A2 h.blk]
 have:((ts.length - (q.length+1):Nat):Int)+1=((ts.length - q.length:Nat):Int):=by omega
 rw[this]
 rfl):P:=h
theorem zxq{P:Prop}(h:P:=by
 have hm':vt.ownBlock=some g:=by simpa using hm
 rcases q.2 with ⟨rfl,_⟩|⟨g',cap,cur,rfl,_,hg',_⟩
 ·cases e
 simp only[Value.ownBlock,Option.some.injEq] at e;subst e
 exact Bf hk1 hg' nV hm'):P:=h
theorem zxp{P:Prop}(h:P:=by
 go_wp2_with fail;refine Au (v:= .agg #[.bool false,.slice a 0 c]) pL rfl ⟨Iu.mk ?_,(HB.out.setCell (Ak _) _).setCell (Ak _) _⟩
 exact HN.out.below ((HB.out.setCell (Ak _) _).setCell (Ak _) _)):P:=h
theorem zxo{P:Prop}(h:P:=by
 clear hnb;go_wp2_with fail;refine HDG.out.mono ?_;rintro e W3 ⟨rfl,hb3⟩;have HB3:=Ax (HBA.out.trans (hb3.mono HBA.out.size));clear hb3;go_wp2_with fail;go_ret
 exact⟨D7 HIT.out,HB3.out⟩):P:=h
theorem zxn{P:Prop}(h:P:=by
 go_wp2_with fail;go_ret
 exact⟨Qq HR.out,rfl⟩):P:=h
theorem zxm{P:Prop}(h:P:=by
 obtain rfl:nb=false:=by rw[←hnb];rfl
 clear hnb;go_wp2_with fail;go_ret
 exact⟨rfl,HBA.out⟩):P:=h
theorem zxl{P:Prop}(h:P:=by
 by_cases hk:p.1=k
 ·simp [hk,List.findIdx?_cons]
 have hb2:(p.1==k)=false:=by simpa using hk
 simp only[List.find?_cons,hb2,List.findIdx?_cons,ih]
 cases l.findIdx? (fun p=>p.1==k)<;>simp):P:=h
theorem zxk{P:Prop}(h:P:=by
 go_wp2
 go_ret
 exact⟨by rw[Hno.out];rfl,rfl⟩):P:=h
theorem zxj{P:Prop}(h:P:=by
 rcases h.row.2 with ⟨e2,_⟩|⟨g',cap,cur,e2,_,hg',_⟩
 ·rw[e2] at e;cases e
 rw[e2] at e;simp only[Value.ownBlock,Option.some.injEq] at e;subst e
 exact h.rd.apart hg' nV nV hm):P:=h
theorem zxi{P:Prop}(h:P:=by
 rw[HX.out]
 exact⟨rfl,v6,hr6,hch6⟩):P:=h
theorem zxh{P:Prop}(h:P:=by
 go_wp2_with fail;refine HK'.out.mono ?_;rintro e V2 ⟨rfl,hb2⟩;have HB2:=Ax (HB.out.trans (hb2.mono HB.out.size));clear hb2 HB HK';go_wp2_with fail;go_ret
 exact⟨rfl,HB2.out⟩):P:=h
theorem zxg{P:Prop}(h:P:=by
 obtain⟨x,hx,hx2⟩:=hend.resolve_left nU;simp at hx;subst hx
 simp [Kf,trimRightB,hx2]):P:=h
theorem zxf{P:Prop}(h:P:=by
 rw[←hfl];refine hr.grow hrow4 hb hg fun g' e=>?_
 simp only[Value.ownBlock,Option.some.injEq] at e;subst e;rcases hat with e2|e2
 ·exact .inl e2
 exact .inr ⟨e2,hlt⟩):P:=h
theorem zxe{P:Prop}(h:P:=by
 have HF:=Ax (Cw HA.out HX.out);go_wp2_with fail
 exact Au (v:= .tuple #[.agg #[.bool false,.slice a n c],.bool false,.bool true]) nY rfl (Cj.yes HF.out.1 HYY.out HF.out.2)):P:=h
theorem zxd{P:Prop}(h:P:=by
 have HF:=Ax (Cw HA.out HX.out);go_wp2_with fail
 exact Au (v:= .tuple #[.agg #[.bool false,.slice a n c],.bool true,.bool true]) nY rfl (Cj.yes HF.out.1 HYY.out HF.out.2)):P:=h
theorem zxc{P:Prop}(h:P:=by
 exact⟨rfl,((Bd ((Aq _ w).alloc (Ak _) _) _).setCell (Ak _) _).setCell (Ak _) _⟩):P:=h
theorem zxb{P:Prop}(h:P:=by
 injection hp with hp;injection hp with _ hp
 exact hT hp):P:=h
theorem zxa{P:Prop}(h:P:=by
 refine⟨h1,fun ts h=>?_⟩;obtain⟨h3,h4⟩:=h2 ts h;refine⟨fun t ht=>?_,h4⟩;rcases h3 t ht with h5|⟨h5,h6⟩
 ·exact .inl h5
 exact .inr ⟨h5,by omega⟩):P:=h
theorem zw9{P:Prop}(h:P:=by
 rintro e w' ⟨hb,he⟩;rw[h] at he;obtain⟨v,h1,h2⟩:=he
 exact⟨v,h1,h2,hb⟩):P:=h
theorem zw8{P:Prop}(h:P:=by
 go_enter Tryz.func164,Tryz.ntmps164;go_wp2_with fail;go_quiet (fail);go_wp2_with fail;go_quiet (fail);go_wp2_with fail;go_ret
 exact⟨rfl,Bd (Bd (Aq _ w) _) _⟩):P:=h
theorem zw7{P:Prop}(h:P:=by
 go_wp2_with fail;go_ret
 exact⟨by rw[Hz.out];rfl,HB.out.alloc HB.out.size _⟩):P:=h
theorem zw6{P:Prop}(h:P:=by
 intro hm;rcases List.mem_cons.1 hm with rfl|hm
 ·rw[h.blk] at hp;injection hp with hp;injection hp with _ hp;exact h1 hp
 exact h.tree.not hp h2 oR):P:=h
theorem zw5{P:Prop}(h:P:=by
 rw[HW.out];unfold Cv;rw[Ao pO]
 exact⟨HB3.out,by rw[show(1:Int)+(own.size:Int)=((1+N:Nat):Int) by(have:=Hj.out;omega)];rw[←Ji own,Hod.out];rfl⟩):P:=h
theorem zw4{P:Prop}(h:P:=by
 rintro e w' ⟨rfl,rfl⟩;go_wp2_with fail;go_ret
 exact⟨Ja HR.out,rfl⟩):P:=h
theorem zw3{P:Prop}(h:P:=by
 try simp only[Act.put,Ac,Ad,Ae]
 refine wpAnyH_done nT ?_ _;refine NoPanic.normal ?_;go_wp2_with fail;go_ret
 exact⟨by rw[←HZ.out];rfl,HB3.out⟩):P:=h
theorem zw2{P:Prop}(h:P:=by
 have:=List.drop_eq_getElem_cons l1
 rw[List.drop_zero] at this
 exact this):P:=h
theorem zw1{P:Prop}(h:P:=by
 go_wp2_with fail
 exact Au (v:= .tuple #[.agg #[.int .u8 0,.int .i64 0,.string ⟨#[]⟩],.int .i64 4]) nZ rfl (B4.err (HP.out.ret _ _ _) HE.out)):P:=h
theorem zw0{P:Prop}(h:P:=by
 rw[Nat.add_comm,List.take_succ_cons];refine⟨rfl,fun d hd=>?_⟩;rw[List.mem_cons] at hd;rcases hd with rfl|hd
 ·decide
 exact Qm (F6 _ d hd)):P:=h
theorem zwz{P:Prop}(h:P:=by
 split at hr
 ·cases hr
 injection hr with hr;exact .inr (.inl hr.symm)):P:=h
theorem zwy{P:Prop}(h:P:=by
 simp only[Value.ownBlock,Option.some.injEq] at e;subst e;rcases hat with e2|e2
 ·exact h.new g e2
 exact Al (h.rch.trans hch).only.size e2):P:=h
theorem zwx{P:Prop}(h:P:=by
 split
 ·exact⟨by decide,by decide,Nat.zero_le _⟩
 exact .inl rfl):P:=h
theorem zww{P:Prop}(h:P:=by
 simp only[List.findIdx?_cons,hb2];cases l.findIdx? (fun p=>p.1==k) with
 |none=>simp
 |some j=>simp [Nat.add_assoc,Nat.add_comm 1]):P:=h
theorem zwv{P:Prop}(h:P:=by
 by_cases h:c=45
 ·subst h;rfl
 have:(45==c)=false:=by simpa using fun e:(45:UInt8)=c=>h e.symm
 simp [List.isPrefixOf,this,h]):P:=h
theorem zwu{P:Prop}(h:P:=by
 obtain⟨kk,hk⟩:=Pu ((dl T2).drop (T2.size - 4))
 have:=Ar List.length hk
 rw[←hRd,Ab,List.length_drop,A4,A4] at this
 omega):P:=h
theorem zwt{P:Prop}(h:P:=by
 go_wp2_with fail;go_roundw
 case rel=>exact⟨k+1,_,by omega,by go_num,rfl,HF.out⟩
 case measure=>simp [intOf];omega):P:=h
end Go.Proofs
namespace Go.Proofs.YtgfakdobajgnfaaGreatDoor
open Go Go.RowKit
theorem Ax {p:Prop}(h:p):Hid p:=h
theorem B1 {w:World}{p:Addr}{v:Value}(h:w.cell? p=some v):p.block<w.heap.size:=by
 simp only[World.cell?] at h;cases hb:w.heap[p.block]? with
 |none=>simp [hb] at h
 |some o=>exact lt_of_block hb
theorem A6 {W w1:World}(hb:Below W.heap.size W w1){b o:Nat}{v:Value}(h:W.cell? ⟨b,o,none⟩=some v):w1.cell? ⟨b,o,none⟩=some v:=
 (hb.cell (p:=⟨b,o,none⟩) (B1 h)).trans h
structure Vl where
 k:Int
 n:Int
 s:ByteArray
 deriving DecidableEq
def T3 {α:Type}(k:Nat)(cells:α->List Value)(w:World)(a:Option Addr)(c:Nat)(l:List α):Prop:=
 l.length<=c/\c<=9223372036854775807/\((∃b off,a=some ⟨b,off,none⟩/\∀i (h:i<l.length) j v,(cells l[i])[j]? =some v->w.cell? ⟨b,off+i*k+j,none⟩=some v)\/l=[])
theorem T3.below {α:Type}{k:Nat}{cells:α->List Value}{w w':World}{a:Option Addr}{c:Nat}{l:List α}(h:T3 k cells w a c l)(hb:Below w.heap.size w w'):T3 k cells w' a c l:=by
 obtain⟨h1,h2,⟨b,off,rfl,h3⟩|rfl⟩:=h
 ·exact⟨h1,h2,.inl ⟨b,off,rfl,fun i hi j v hv=>A6 hb (h3 i hi j v hv)⟩⟩
 exact⟨h1,h2,.inr rfl⟩
theorem T3.len {α:Type}{k:Nat}{cells:α->List Value}{w:World}{a:Option Addr}{c:Nat}{l:List α}(h:T3 k cells w a c l):l.length<=9223372036854775807:=Al h.1 h.2.1
theorem T3.nil {α:Type}{k:Nat}{cells:α->List Value}(w:World)(a:Option Addr){c:Nat}(hc:c<=9223372036854775807):T3 k cells w a c []:=⟨Nat.zero_le _,hc,.inr rfl⟩
theorem T3.get {α:Type}{k:Nat}{cells:α->List Value}{w:World}{a:Option Addr}{c:Nat}{l:List α}(h:T3 k cells w a c l){i:Nat}(hi:i<l.length):
 ∃b off,a=some ⟨b,off,none⟩/\∀j v,(cells l[i])[j]? =some v->w.cell? ⟨b,off+i*k+j,none⟩=some v:=by
 obtain⟨_,_,⟨b,off,rfl,h3⟩|rfl⟩:=h
 ·exact⟨b,off,rfl,h3 i hi⟩
 simp at hi
def Vl.cells (v:Vl):List Value:=[.int .u8 v.k,.int .i64 v.n,.string v.s]
def Vl.val (v:Vl):Value:= .agg #[.int .u8 v.k,.int .i64 v.n,.string v.s]
def Vl.ok (v:Vl):Prop:=0<=v.k/\v.k<=255/\v.s.size<=9223372036854775807
end Go.Proofs.YtgfakdobajgnfaaGreatDoor
namespace Go.Proofs
open Go.Shelf
def Tryz.lays169_ren:Go.Shelf.Ren:=⟨fun|169=>130|n=>n,fun|70=>179|9=>9|0=>0|72=>181|37=>40|127=>218|3=>3|5=>5|n=>n,fun|n=>n⟩
theorem Tryz.lays169:Go.Proofs.Lays.n169 Tryz.prog Tryz.lays169_ren:={
 mixed:=by kernel_rfl
 f169:=Tryz.func130.trans (Ar some nT)
 t0:=Tryz.underlying0
 a0:=Tryz.isAgg0
 z0:=Tryz.sizeOf0
 v0:=Tryz.zeroValue0
 t3:=Tryz.underlying3
 a3:=Tryz.isAgg3
 z3:=Tryz.sizeOf3
 v3:=Tryz.zeroValue3
 t9:=Tryz.underlying9
 a9:=Tryz.isAgg9
 z9:=Tryz.sizeOf9
 v9:=Tryz.zeroValue9
 t37:=Tryz.underlying40
 a37:=Tryz.isAgg40
 z37:=Tryz.sizeOf40
 v37:=Tryz.zeroValue40
 t70:=Tryz.underlying179
 a70:=Tryz.isAgg179
 z70:=Tryz.sizeOf179
 v70:=Tryz.zeroValue179
 t72:=Tryz.underlying181
 a72:=Tryz.isAgg181
 z72:=Tryz.sizeOf181
 v72:=Tryz.zeroValue181
 t127:=Tryz.underlying218
 a127:=Tryz.isAgg218
 z127:=Tryz.sizeOf218
 v127:=Tryz.zeroValue218}
theorem Tryz.Builder_Extra_169:Builder.Extra Tryz.prog Tryz.lays169_ren:={
 sizeBuilder:=by kernel_rfl
 liesBuilder:=by kernel_rfl
 t5:=Tryz.underlying5
 a5:=Tryz.isAgg5
 z5:=Tryz.sizeOf5
 v5:=Tryz.zeroValue5
 infoByte:=by kernel_rfl
 cellsByte:=by kernel_rfl
 sizeByte:=by kernel_rfl
 neB5:=by decide}
open Go.RowKit in
theorem Tryz.Builder_String_any (B b:Nat)(l:List UInt8)(w:World)(h:Lib.IsBuilder 181 5 B b (Lib.byteCells l) w)(hBw:B<=w.heap.size):
 Calls Tryz.prog 130 #[.pointer (some ⟨b,0,none⟩)] w fun e w'=>e= .returned (.string ⟨l.toArray⟩)/\Below B w w':=Any.Builder_String_any Tryz.lays169 Tryz.Builder_Extra_169 B b l w h hBw
def Tryz.lays156_ren:Go.Shelf.Ren:=⟨fun|156=>169|165=>187|166=>188|169=>130|240=>193|241=>228|276=>232|277=>241|n=>n,fun|31=>39|9=>9|3=>3|4=>4|0=>0|20=>20|72=>181|76=>214|70=>179|37=>40|75=>119|127=>218|164=>254|5=>5|80=>183|n=>n,fun|n=>n⟩
theorem Tryz.lays156:Go.Proofs.Lays.n156 Tryz.prog Tryz.lays156_ren:={
 mixed:=by kernel_rfl
 f156:=Tryz.func169.trans (Ar some nT)
 f165:=Tryz.func187.trans (Ar some nT)
 f166:=Tryz.func188.trans (Ar some nT)
 f169:=Tryz.func130.trans (Ar some nT)
 f240:=Tryz.func193.trans (Ar some nT)
 f241:=Tryz.func228.trans (Ar some nT)
 f276:=Tryz.func232.trans (Ar some nT)
 f277:=Tryz.func241.trans (Ar some nT)
 t0:=Tryz.underlying0
 a0:=Tryz.isAgg0
 z0:=Tryz.sizeOf0
 v0:=Tryz.zeroValue0
 t3:=Tryz.underlying3
 a3:=Tryz.isAgg3
 z3:=Tryz.sizeOf3
 v3:=Tryz.zeroValue3
 t4:=Tryz.underlying4
 a4:=Tryz.isAgg4
 z4:=Tryz.sizeOf4
 v4:=Tryz.zeroValue4
 t9:=Tryz.underlying9
 a9:=Tryz.isAgg9
 z9:=Tryz.sizeOf9
 v9:=Tryz.zeroValue9
 t20:=Tryz.underlying20
 a20:=Tryz.isAgg20
 z20:=Tryz.sizeOf20
 v20:=Tryz.zeroValue20
 t31:=Tryz.underlying39
 a31:=Tryz.isAgg39
 z31:=Tryz.sizeOf39
 v31:=Tryz.zeroValue39
 t37:=Tryz.underlying40
 a37:=Tryz.isAgg40
 z37:=Tryz.sizeOf40
 v37:=Tryz.zeroValue40
 t70:=Tryz.underlying179
 a70:=Tryz.isAgg179
 z70:=Tryz.sizeOf179
 v70:=Tryz.zeroValue179
 t72:=Tryz.underlying181
 a72:=Tryz.isAgg181
 z72:=Tryz.sizeOf181
 v72:=Tryz.zeroValue181
 t75:=Tryz.underlying119
 a75:=Tryz.isAgg119
 z75:=Tryz.sizeOf119
 v75:=Tryz.zeroValue119
 t76:=Tryz.underlying214
 a76:=Tryz.isAgg214
 z76:=Tryz.sizeOf214
 v76:=Tryz.zeroValue214
 t127:=Tryz.underlying218
 a127:=Tryz.isAgg218
 z127:=Tryz.sizeOf218
 v127:=Tryz.zeroValue218
 t164:=Tryz.underlying254
 a164:=Tryz.isAgg254
 z164:=Tryz.sizeOf254
 v164:=Tryz.zeroValue254}
theorem Tryz.Builder_Extra_156:Builder.Extra Tryz.prog Tryz.lays156_ren:={
 sizeBuilder:=by kernel_rfl
 liesBuilder:=by kernel_rfl
 t5:=Tryz.underlying5
 a5:=Tryz.isAgg5
 z5:=Tryz.sizeOf5
 v5:=Tryz.zeroValue5
 infoByte:=by kernel_rfl
 cellsByte:=by kernel_rfl
 sizeByte:=by kernel_rfl
 neB5:=by decide}
open Go.RowKit in
theorem Tryz.strings_Join_none (a:Option Addr)(c:Nat)(sep:ByteArray)(w:World):
 Calls Tryz.prog 169 #[.slice a 0 c,.string sep] w fun e w'=>e= .returned (.string ⟨#[]⟩)/\w'=w:=Any.strings_Join_none Tryz.lays156 Tryz.Builder_Extra_156 a c sep w
open Go.RowKit in
theorem Tryz.strings_Join (bk o c:Nat)(xs:List ByteArray)(sep:ByteArray)(w:World)(hcells:∀(j:Nat) x,xs[j]? =some x->w.cell? ⟨bk,o+j,none⟩=some (.string x))(hbk:bk<w.heap.size)(hN:xs.length<=140737488355328)(hcap:xs.length<=c)(hlen:(Lib.join (xs.map (·.data.toList)) sep.data.toList).length<=140737488355328):
 Calls Tryz.prog 169 #[.slice (some ⟨bk,o,none⟩) xs.length c,.string sep] w fun e w'=>e= .returned (.string ⟨(Lib.join (xs.map (·.data.toList)) sep.data.toList).toArray⟩)/\Below w.heap.size w w':=Any.strings_Join Tryz.lays156 Tryz.Builder_Extra_156 bk o c xs sep w hcells hbk hN hcap hlen
def Tryz.lays162_ren:Go.Shelf.Ren:=⟨fun|162=>74|232=>120|227=>121|234=>122|236=>123|228=>183|271=>184|151=>185|120=>224|197=>189|152=>225|260=>229|137=>200|119=>240|224=>173|225=>172|217=>171|266=>218|n=>n,fun|9=>9|4=>4|3=>3|5=>5|117=>171|116=>170|0=>0|124=>174|21=>21|105=>210|46=>200|119=>267|139=>270|138=>269|n=>n,fun|3=>6|4=>7|n=>n⟩
theorem Tryz.lays162:Go.Proofs.Lays.n162 Tryz.prog Tryz.lays162_ren:={
 mixed:=by kernel_rfl
 f119:=Tryz.func240.trans (Ar some nT)
 f120:=Tryz.func224.trans (Ar some nT)
 f137:=Tryz.func200.trans (Ar some nT)
 f151:=Tryz.func185.trans (Ar some nT)
 f152:=Tryz.func225.trans (Ar some nT)
 f162:=Tryz.func74.trans (Ar some nT)
 f197:=Tryz.func189.trans (Ar some nT)
 f217:=Tryz.func171.trans (Ar some nT)
 f224:=Tryz.func173.trans (Ar some nT)
 f225:=Tryz.func172.trans (Ar some nT)
 f227:=Tryz.func121.trans (Ar some nT)
 f228:=Tryz.func183.trans (Ar some nT)
 f232:=Tryz.func120.trans (Ar some nT)
 f234:=Tryz.func122.trans (Ar some nT)
 f236:=Tryz.func123.trans (Ar some nT)
 f260:=Tryz.func229.trans (Ar some nT)
 f266:=Tryz.func218.trans (Ar some nT)
 f271:=Tryz.func184.trans (Ar some nT)
 t0:=Tryz.underlying0
 a0:=Tryz.isAgg0
 z0:=Tryz.sizeOf0
 v0:=Tryz.zeroValue0
 t3:=Tryz.underlying3
 a3:=Tryz.isAgg3
 z3:=Tryz.sizeOf3
 v3:=Tryz.zeroValue3
 t4:=Tryz.underlying4
 a4:=Tryz.isAgg4
 z4:=Tryz.sizeOf4
 v4:=Tryz.zeroValue4
 t5:=Tryz.underlying5
 a5:=Tryz.isAgg5
 z5:=Tryz.sizeOf5
 v5:=Tryz.zeroValue5
 t9:=Tryz.underlying9
 a9:=Tryz.isAgg9
 z9:=Tryz.sizeOf9
 v9:=Tryz.zeroValue9
 t21:=Tryz.underlying21
 a21:=Tryz.isAgg21
 z21:=Tryz.sizeOf21
 v21:=Tryz.zeroValue21
 t46:=Tryz.underlying200
 a46:=Tryz.isAgg200
 z46:=Tryz.sizeOf200
 v46:=Tryz.zeroValue200
 t105:=Tryz.underlying210
 a105:=Tryz.isAgg210
 z105:=Tryz.sizeOf210
 v105:=Tryz.zeroValue210
 t116:=Tryz.underlying170
 a116:=Tryz.isAgg170
 z116:=Tryz.sizeOf170
 t117:=Tryz.underlying171
 a117:=Tryz.isAgg171
 z117:=Tryz.sizeOf171
 v117:=Tryz.zeroValue171
 t119:=Tryz.underlying267
 a119:=Tryz.isAgg267
 z119:=Tryz.sizeOf267
 t124:=Tryz.underlying174
 a124:=Tryz.isAgg174
 z124:=Tryz.sizeOf174
 v124:=Tryz.zeroValue174
 t138:=Tryz.underlying269
 a138:=Tryz.isAgg269
 z138:=Tryz.sizeOf269
 v138:=Tryz.zeroValue269
 t139:=Tryz.underlying270
 a139:=Tryz.isAgg270
 z139:=Tryz.sizeOf270
 v139:=Tryz.zeroValue270
 g3:=by kernel_rfl
 g4:=by kernel_rfl}
open Go.RowKit in
theorem Tryz.strings_TrimRight_one (s:ByteArray)(c:UInt8)(hc:c.toNat<128)(w:World)(hs:s.size<=9223372036854775807):
 Calls Tryz.prog 74 #[.string s,.string ⟨#[c]⟩] w fun e w'=>e= .returned (.string ⟨(Lib.trimRightB s.data.toList c).toArray⟩)/\w'=w:=Any.strings_TrimRight_one Tryz.lays162 s c hc w hs
def Tryz.lays137_ren:Go.Shelf.Ren:=⟨fun|137=>200|217=>171|266=>218|n=>n,fun|9=>9|5=>5|3=>3|n=>n,fun|n=>n⟩
theorem Tryz.lays137:Go.Proofs.Lays.n137 Tryz.prog Tryz.lays137_ren:={
 mixed:=by kernel_rfl
 f137:=Tryz.func200.trans (Ar some nT)
 f217:=Tryz.func171.trans (Ar some nT)
 f266:=Tryz.func218.trans (Ar some nT)
 t3:=Tryz.underlying3
 a3:=Tryz.isAgg3
 z3:=Tryz.sizeOf3
 v3:=Tryz.zeroValue3
 t5:=Tryz.underlying5
 a5:=Tryz.isAgg5
 z5:=Tryz.sizeOf5
 v5:=Tryz.zeroValue5
 t9:=Tryz.underlying9
 a9:=Tryz.isAgg9
 z9:=Tryz.sizeOf9
 v9:=Tryz.zeroValue9}
open Go.RowKit in
theorem Tryz.strings_IndexByte (s:ByteArray)(c:Int)(w:World):
 Calls Tryz.prog 200 #[.string s,.int .u8 c] w fun e w'=>e= .returned (.int .i64 (Lib.indexByte s.data.toList c.toNat.toUInt8))/\w'=w:=Any.strings_IndexByte Tryz.lays137 s c w
def Tryz.lays121_ren:Go.Shelf.Ren:=⟨fun|121=>46|214=>76|n=>n,fun|4=>4|9=>9|n=>n,fun|n=>n⟩
theorem Tryz.lays121:Go.Proofs.Lays.n121 Tryz.prog Tryz.lays121_ren:={
 mixed:=by kernel_rfl
 f121:=Tryz.func46.trans (Ar some nT)
 f214:=Tryz.func76.trans (Ar some nT)
 t4:=Tryz.underlying4
 a4:=Tryz.isAgg4
 z4:=Tryz.sizeOf4
 v4:=Tryz.zeroValue4
 t9:=Tryz.underlying9
 a9:=Tryz.isAgg9
 z9:=Tryz.sizeOf9
 v9:=Tryz.zeroValue9}
open Go.RowKit in
theorem Tryz.strconv_FormatBool (b:Bool)(w:World):
 Calls Tryz.prog 46 #[.bool b] w fun e w'=>e= .returned (.string ⟨(Lib.formatBool b).toArray⟩)/\w'=w:=Any.strconv_FormatBool Tryz.lays121 b w
def Tryz.laysM173_ren:Go.Shelf.Ren:=⟨fun|173=>43|246=>73|283=>116|284=>117|285=>118|286=>119|129=>179|317=>178|318=>180|319=>181|320=>182|337=>222|338=>223|n=>n,fun|2=>2|3=>3|9=>9|4=>4|171=>163|0=>0|53=>55|37=>40|5=>5|173=>166|212=>205|51=>206|20=>20|213=>207|46=>200|232=>264|233=>265|n=>n,fun|17=>1|18=>4|19=>5|n=>n⟩
theorem Tryz.laysM173:Go.Proofs.LaysM.n173 Tryz.prog Tryz.laysM173_ren:={
 mixed:=by kernel_rfl
 f129:=Tryz.func179.trans (Ar some nT)
 f173:=Tryz.func43.trans (Ar some nT)
 f246:=Tryz.func73.trans (Ar some nT)
 f283:=Tryz.func116.trans (Ar some nT)
 f284:=Tryz.func117.trans (Ar some nT)
 f285:=Tryz.func118.trans (Ar some nT)
 f286:=Tryz.func119.trans (Ar some nT)
 f317:=Tryz.func178.trans (Ar some nT)
 f318:=Tryz.func180.trans (Ar some nT)
 f319:=Tryz.func181.trans (Ar some nT)
 f320:=Tryz.func182.trans (Ar some nT)
 f337:=Tryz.func222.trans (Ar some nT)
 f338:=Tryz.func223.trans (Ar some nT)
 t0:=Tryz.underlying0
 a0:=Tryz.isAgg0
 z0:=Tryz.sizeOf0
 v0:=Tryz.zeroValue0
 t2:=Tryz.underlying2
 a2:=Tryz.isAgg2
 z2:=Tryz.sizeOf2
 v2:=Tryz.zeroValue2
 t3:=Tryz.underlying3
 a3:=Tryz.isAgg3
 z3:=Tryz.sizeOf3
 v3:=Tryz.zeroValue3
 t4:=Tryz.underlying4
 a4:=Tryz.isAgg4
 z4:=Tryz.sizeOf4
 v4:=Tryz.zeroValue4
 t5:=Tryz.underlying5
 a5:=Tryz.isAgg5
 z5:=Tryz.sizeOf5
 v5:=Tryz.zeroValue5
 t9:=Tryz.underlying9
 a9:=Tryz.isAgg9
 z9:=Tryz.sizeOf9
 v9:=Tryz.zeroValue9
 t20:=Tryz.underlying20
 a20:=Tryz.isAgg20
 z20:=Tryz.sizeOf20
 v20:=Tryz.zeroValue20
 t37:=Tryz.underlying40
 a37:=Tryz.isAgg40
 z37:=Tryz.sizeOf40
 v37:=Tryz.zeroValue40
 t46:=Tryz.underlying200
 a46:=Tryz.isAgg200
 z46:=Tryz.sizeOf200
 v46:=Tryz.zeroValue200
 t51:=Tryz.underlying206
 a51:=Tryz.isAgg206
 z51:=Tryz.sizeOf206
 v51:=Tryz.zeroValue206
 t53:=Tryz.underlying55
 a53:=Tryz.isAgg55
 z53:=Tryz.sizeOf55
 v53:=Tryz.zeroValue55
 t171:=Tryz.underlying163
 a171:=Tryz.isAgg163
 z171:=Tryz.sizeOf163
 v171:=Tryz.zeroValue163
 t173:=Tryz.underlying166
 a173:=Tryz.isAgg166
 z173:=Tryz.sizeOf166
 v173:=Tryz.zeroValue166
 t212:=Tryz.underlying205
 a212:=Tryz.isAgg205
 z212:=Tryz.sizeOf205
 v212:=Tryz.zeroValue205
 t213:=Tryz.underlying207
 a213:=Tryz.isAgg207
 z213:=Tryz.sizeOf207
 t232:=Tryz.underlying264
 a232:=Tryz.isAgg264
 z232:=Tryz.sizeOf264
 v232:=Tryz.zeroValue264
 t233:=Tryz.underlying265
 a233:=Tryz.isAgg265
 z233:=Tryz.sizeOf265
 v233:=Tryz.zeroValue265
 g17:=by kernel_rfl
 g18:=by kernel_rfl
 g19:=by kernel_rfl
 i0:=by kernel_rfl
 i2:=by kernel_rfl
 i3:=by kernel_rfl
 i4:=by kernel_rfl
 i5:=by kernel_rfl
 i9:=by kernel_rfl
 i20:=by kernel_rfl
 i37:=by kernel_rfl
 i46:=by kernel_rfl
 i51:=by kernel_rfl
 i53:=by kernel_rfl
 i171:=by kernel_rfl
 i173:=by kernel_rfl
 i212:=by kernel_rfl
 i232:=by kernel_rfl
 i233:=by kernel_rfl
 m17:=by kernel_rfl
 m18:=by kernel_rfl
 m19:=by kernel_rfl}
open Go.RowKit Go.Sort Go.Lib in
theorem Tryz.strconv_FormatInt_10 (n:Int)(h0: -9223372036854775808<=n)(h1:n<=9223372036854775807)(w:World)(htab:Lib.TabIs Tryz.prog w "internal/strconv.uint64pow10" .u64 Lib.pow10Tab):
 Calls Tryz.prog 43 #[.int .i64 n,.int .i64 10] w fun e w'=>e= .returned (.string ⟨(Lib.itoa n).toArray⟩)/\∃k os,w'=grow (w.drewN k) os:=Any.strconv_FormatInt_10 Tryz.laysM173 n h0 h1 w htab
def Tryz.laysC174_ren:Go.Shelf.Ren:=⟨fun|174=>85|247=>136|245=>137|287=>194|279=>195|280=>196|281=>197|282=>198|321=>233|322=>234|316=>235|171=>237|205=>236|243=>242|246=>73|283=>116|284=>117|285=>118|286=>119|129=>179|317=>178|318=>180|319=>181|320=>182|337=>222|338=>223|n=>n,fun|9=>9|3=>3|2=>2|75=>119|85=>120|4=>4|167=>219|5=>5|53=>55|175=>220|46=>200|168=>222|37=>40|0=>0|210=>258|21=>21|127=>218|145=>273|143=>271|171=>163|173=>166|212=>205|51=>206|20=>20|213=>207|232=>264|233=>265|80=>183|n=>n,fun|15=>2|16=>3|17=>1|18=>4|19=>5|n=>n⟩
theorem Tryz.laysC174:Go.Proofs.LaysC.n174 Tryz.prog Tryz.laysC174_ren:={
 mixed:=by kernel_rfl
 f129:=Tryz.func179.trans (Ar some nT)
 f171:=Tryz.func237.trans (Ar some nT)
 f174:=Tryz.func85.trans (Ar some nT)
 f205:=Tryz.func236.trans (Ar some nT)
 f243:=Tryz.func242.trans (Ar some nT)
 f245:=Tryz.func137.trans (Ar some nT)
 f246:=Tryz.func73.trans (Ar some nT)
 f247:=Tryz.func136.trans (Ar some nT)
 f279:=Tryz.func195.trans (Ar some nT)
 f280:=Tryz.func196.trans (Ar some nT)
 f281:=Tryz.func197.trans (Ar some nT)
 f282:=Tryz.func198.trans (Ar some nT)
 f283:=Tryz.func116.trans (Ar some nT)
 f284:=Tryz.func117.trans (Ar some nT)
 f285:=Tryz.func118.trans (Ar some nT)
 f286:=Tryz.func119.trans (Ar some nT)
 f287:=Tryz.func194.trans (Ar some nT)
 f316:=Tryz.func235.trans (Ar some nT)
 f317:=Tryz.func178.trans (Ar some nT)
 f318:=Tryz.func180.trans (Ar some nT)
 f319:=Tryz.func181.trans (Ar some nT)
 f320:=Tryz.func182.trans (Ar some nT)
 f321:=Tryz.func233.trans (Ar some nT)
 f322:=Tryz.func234.trans (Ar some nT)
 f337:=Tryz.func222.trans (Ar some nT)
 f338:=Tryz.func223.trans (Ar some nT)
 t0:=Tryz.underlying0
 a0:=Tryz.isAgg0
 z0:=Tryz.sizeOf0
 v0:=Tryz.zeroValue0
 t2:=Tryz.underlying2
 a2:=Tryz.isAgg2
 z2:=Tryz.sizeOf2
 v2:=Tryz.zeroValue2
 t3:=Tryz.underlying3
 a3:=Tryz.isAgg3
 z3:=Tryz.sizeOf3
 v3:=Tryz.zeroValue3
 t4:=Tryz.underlying4
 a4:=Tryz.isAgg4
 z4:=Tryz.sizeOf4
 v4:=Tryz.zeroValue4
 t5:=Tryz.underlying5
 a5:=Tryz.isAgg5
 z5:=Tryz.sizeOf5
 v5:=Tryz.zeroValue5
 t9:=Tryz.underlying9
 a9:=Tryz.isAgg9
 z9:=Tryz.sizeOf9
 v9:=Tryz.zeroValue9
 t20:=Tryz.underlying20
 a20:=Tryz.isAgg20
 z20:=Tryz.sizeOf20
 v20:=Tryz.zeroValue20
 t21:=Tryz.underlying21
 a21:=Tryz.isAgg21
 z21:=Tryz.sizeOf21
 v21:=Tryz.zeroValue21
 t37:=Tryz.underlying40
 a37:=Tryz.isAgg40
 z37:=Tryz.sizeOf40
 v37:=Tryz.zeroValue40
 t46:=Tryz.underlying200
 a46:=Tryz.isAgg200
 z46:=Tryz.sizeOf200
 v46:=Tryz.zeroValue200
 t51:=Tryz.underlying206
 a51:=Tryz.isAgg206
 z51:=Tryz.sizeOf206
 v51:=Tryz.zeroValue206
 t53:=Tryz.underlying55
 a53:=Tryz.isAgg55
 z53:=Tryz.sizeOf55
 v53:=Tryz.zeroValue55
 t75:=Tryz.underlying119
 a75:=Tryz.isAgg119
 z75:=Tryz.sizeOf119
 v75:=Tryz.zeroValue119
 t85:=Tryz.underlying120
 a85:=Tryz.isAgg120
 z85:=Tryz.sizeOf120
 v85:=Tryz.zeroValue120
 t127:=Tryz.underlying218
 a127:=Tryz.isAgg218
 z127:=Tryz.sizeOf218
 v127:=Tryz.zeroValue218
 t143:=Tryz.underlying271
 a143:=Tryz.isAgg271
 z143:=Tryz.sizeOf271
 v143:=Tryz.zeroValue271
 t145:=Tryz.underlying273
 a145:=Tryz.isAgg273
 z145:=Tryz.sizeOf273
 v145:=Tryz.zeroValue273
 t167:=Tryz.underlying219
 a167:=Tryz.isAgg219
 z167:=Tryz.sizeOf219
 v167:=Tryz.zeroValue219
 t168:=Tryz.underlying222
 a168:=Tryz.isAgg222
 z168:=Tryz.sizeOf222
 v168:=Tryz.zeroValue222
 t171:=Tryz.underlying163
 a171:=Tryz.isAgg163
 z171:=Tryz.sizeOf163
 v171:=Tryz.zeroValue163
 t173:=Tryz.underlying166
 a173:=Tryz.isAgg166
 z173:=Tryz.sizeOf166
 v173:=Tryz.zeroValue166
 t175:=Tryz.underlying220
 a175:=Tryz.isAgg220
 z175:=Tryz.sizeOf220
 v175:=Tryz.zeroValue220
 t210:=Tryz.underlying258
 a210:=Tryz.isAgg258
 z210:=Tryz.sizeOf258
 v210:=Tryz.zeroValue258
 t212:=Tryz.underlying205
 a212:=Tryz.isAgg205
 z212:=Tryz.sizeOf205
 v212:=Tryz.zeroValue205
 t213:=Tryz.underlying207
 a213:=Tryz.isAgg207
 z213:=Tryz.sizeOf207
 t232:=Tryz.underlying264
 a232:=Tryz.isAgg264
 z232:=Tryz.sizeOf264
 v232:=Tryz.zeroValue264
 t233:=Tryz.underlying265
 a233:=Tryz.isAgg265
 z233:=Tryz.sizeOf265
 v233:=Tryz.zeroValue265
 g15:=by kernel_rfl
 g16:=by kernel_rfl
 g17:=by kernel_rfl
 g18:=by kernel_rfl
 g19:=by kernel_rfl
 t80:=Tryz.underlying183
 a80:=Tryz.isAgg183
 z80:=Tryz.sizeOf183
 v80:=Tryz.zeroValue183
 i0:=by kernel_rfl
 i2:=by kernel_rfl
 i3:=by kernel_rfl
 i4:=by kernel_rfl
 i5:=by kernel_rfl
 i9:=by kernel_rfl
 i20:=by kernel_rfl
 i21:=by kernel_rfl
 i37:=by kernel_rfl
 i46:=by kernel_rfl
 i51:=by kernel_rfl
 i53:=by kernel_rfl
 i75:=by kernel_rfl
 i80:=by kernel_rfl
 i85:=by kernel_rfl
 i127:=by kernel_rfl
 i143:=by kernel_rfl
 i145:=by kernel_rfl
 i167:=by kernel_rfl
 i168:=by kernel_rfl
 i171:=by kernel_rfl
 i173:=by kernel_rfl
 i175:=by kernel_rfl
 i210:=by kernel_rfl
 i212:=by kernel_rfl
 i232:=by kernel_rfl
 i233:=by kernel_rfl
 m15:=by kernel_rfl
 m16:=by kernel_rfl
 m17:=by kernel_rfl
 m18:=by kernel_rfl
 m19:=by kernel_rfl
 c0:=by kernel_rfl
 c2:=by kernel_rfl
 c3:=by kernel_rfl
 c4:=by kernel_rfl
 c5:=by kernel_rfl
 c9:=by kernel_rfl
 c20:=by kernel_rfl
 c21:=by kernel_rfl
 c37:=by kernel_rfl
 c46:=by kernel_rfl
 c51:=by kernel_rfl
 c53:=by kernel_rfl
 c75:=by kernel_rfl
 c80:=by kernel_rfl
 c85:=by kernel_rfl
 c127:=by kernel_rfl
 c143:=by kernel_rfl
 c145:=by kernel_rfl
 c167:=by kernel_rfl
 c168:=by kernel_rfl
 c171:=by kernel_rfl
 c173:=by kernel_rfl
 c175:=by kernel_rfl
 c210:=by kernel_rfl
 c212:=by kernel_rfl
 c213:=by kernel_rfl
 c232:=by kernel_rfl
 c233:=by kernel_rfl}
open Go.RowKit in
theorem Tryz.strconv_ParseInt_10_at64_ok (s:ByteArray)(hmax:s.size<=9223372036854775806)(v:Int)(h:Lib.parseIntB 64 s.data.toList= .ok v)(w:World):
 Calls Tryz.prog 85 #[.string s,.int .i64 10,.int .i64 64] w fun e w'=>e= .returned (.tuple #[.int .i64 v,.nilIface])/\(w'=w\/∃t,w'=Lib.bytesWorld w 5 t):=Any.strconv_ParseInt_10_at64_ok Tryz.laysC174 s hmax v h w
open Go.RowKit in
theorem Tryz.strconv_ParseInt_10_at64_range (s:ByteArray)(hlim:s.size<=281474976710656)(h:Lib.parseIntB 64 s.data.toList= .range)(ev:Value)(w:World)(hv:w.cell? ⟨3,0,none⟩=some ev)(hev:ev= .nilIface\/∃te pe,ev= .iface te pe):
 Calls Tryz.prog 85 #[.string s,.int .i64 10,.int .i64 64] w fun e w'=>∃N,e= .returned (.tuple #[.int .i64 (Lib.intSat 64 s.data.toList),.iface 222 (.pointer (some ⟨N,0,none⟩))])/\w.heap.size<=N/\w'.heap[N]? =some (.cells #[.string ⟨#[80,97,114,115,101,73,110,116]⟩,.string s,ev] 258 (0,0))/\Below w.heap.size w w':=Any.strconv_ParseInt_10_at64_range Tryz.laysC174 s hlim h ev w hv hev
def Tryz.lays145_ren:Go.Shelf.Ren:=⟨fun|145=>81|220=>132|219=>98|217=>171|225=>172|224=>173|267=>174|266=>218|314=>219|n=>n,fun|9=>9|4=>4|59=>116|3=>3|5=>5|46=>200|146=>246|51=>206|n=>n,fun|1=>0|n=>n⟩
theorem Tryz.lays145:Go.Proofs.Lays.n145 Tryz.prog Tryz.lays145_ren:={
 mixed:=by kernel_rfl
 f145:=Tryz.func81.trans (Ar some nT)
 f217:=Tryz.func171.trans (Ar some nT)
 f219:=Tryz.func98.trans (Ar some nT)
 f220:=Tryz.func132.trans (Ar some nT)
 f224:=Tryz.func173.trans (Ar some nT)
 f225:=Tryz.func172.trans (Ar some nT)
 f266:=Tryz.func218.trans (Ar some nT)
 f267:=Tryz.func174.trans (Ar some nT)
 f314:=Tryz.func219.trans (Ar some nT)
 t3:=Tryz.underlying3
 a3:=Tryz.isAgg3
 z3:=Tryz.sizeOf3
 v3:=Tryz.zeroValue3
 t4:=Tryz.underlying4
 a4:=Tryz.isAgg4
 z4:=Tryz.sizeOf4
 v4:=Tryz.zeroValue4
 t5:=Tryz.underlying5
 a5:=Tryz.isAgg5
 z5:=Tryz.sizeOf5
 v5:=Tryz.zeroValue5
 t9:=Tryz.underlying9
 a9:=Tryz.isAgg9
 z9:=Tryz.sizeOf9
 v9:=Tryz.zeroValue9
 t46:=Tryz.underlying200
 a46:=Tryz.isAgg200
 z46:=Tryz.sizeOf200
 v46:=Tryz.zeroValue200
 t51:=Tryz.underlying206
 a51:=Tryz.isAgg206
 z51:=Tryz.sizeOf206
 v51:=Tryz.zeroValue206
 t59:=Tryz.underlying116
 a59:=Tryz.isAgg116
 z59:=Tryz.sizeOf116
 v59:=Tryz.zeroValue116
 t146:=Tryz.underlying246
 a146:=Tryz.isAgg246
 z146:=Tryz.sizeOf246
 v146:=Tryz.zeroValue246
 g1:=by kernel_rfl}
open Go.RowKit Go.Lib in
theorem Tryz.strings_Cut (s sep:ByteArray)(m:Int)(w:World)(hs:s.size<4294967281)(hm:w.cell? ⟨0,0,none⟩=some (.int .i64 m)):
 Calls Tryz.prog 81 #[.string s,.string sep] w fun e w'=>e= .returned (.tuple #[.string ⟨(Lib.cut s.data.toList sep.data.toList).1.toArray⟩,.string ⟨(Lib.cut s.data.toList sep.data.toList).2.1.toArray⟩,.bool (Lib.cut s.data.toList sep.data.toList).2.2])/\∃n,w'=w.drewN n:=Any.strings_Cut Tryz.lays145 s sep m w hs hm
def Tryz.laysGw17_ren:Go.Shelf.Ren:=⟨fun|17=>113|15=>177|20=>221|n=>n,fun|9=>9|23=>162|4=>4|3=>3|0=>0|21=>21|n=>n,fun|n=>n⟩
theorem Tryz.laysGw17:Go.Proofs.LaysGw.n17 Tryz.prog Tryz.laysGw17_ren:={
 mixed:=by kernel_rfl
 f15:=Tryz.func177.trans (Ar some nT)
 f17:=Tryz.func113.trans (Ar some nT)
 f20:=Tryz.func221.trans (Ar some nT)
 t0:=Tryz.underlying0
 a0:=Tryz.isAgg0
 z0:=Tryz.sizeOf0
 v0:=Tryz.zeroValue0
 i0:=by kernel_rfl
 t3:=Tryz.underlying3
 a3:=Tryz.isAgg3
 z3:=Tryz.sizeOf3
 v3:=Tryz.zeroValue3
 i3:=by kernel_rfl
 t4:=Tryz.underlying4
 a4:=Tryz.isAgg4
 z4:=Tryz.sizeOf4
 v4:=Tryz.zeroValue4
 i4:=by kernel_rfl
 t9:=Tryz.underlying9
 a9:=Tryz.isAgg9
 z9:=Tryz.sizeOf9
 v9:=Tryz.zeroValue9
 i9:=by kernel_rfl
 t21:=Tryz.underlying21
 a21:=Tryz.isAgg21
 z21:=Tryz.sizeOf21
 v21:=Tryz.zeroValue21
 i21:=by kernel_rfl
 t23:=Tryz.underlying162
 a23:=Tryz.isAgg162
 z23:=Tryz.sizeOf162
 v23:=Tryz.zeroValue162
 i23:=by kernel_rfl}
open Go.RowKit Go.Lib in
theorem Tryz.strings_ContainsFunc_runes (g:Nat)(lb:Array Value)(eg:∀args w,(callFunc g args).run Tryz.prog w= .ok (.enter g args) w)(p:Nat->Bool)(s:ByteArray)(w:World)(hp:PredAtRunes Tryz.prog g lb p w):
 Calls Tryz.prog 113 #[.string s,.func (.func g) #[] lb] w fun e w'=>e= .returned (.bool (decide (0<=Lib.idxFunc p true s)))/\Below w.heap.size w w':=Any.strings_ContainsFunc_runes Tryz.laysGw17 g lb eg p s w hp
def Tryz.lays99_ren:Go.Shelf.Ren:=⟨fun|99=>84|206=>135|n=>n,fun|9=>9|4=>4|3=>3|n=>n,fun|n=>n⟩
theorem Tryz.lays99:Go.Proofs.Lays.n99 Tryz.prog Tryz.lays99_ren:={
 mixed:=by kernel_rfl
 f99:=Tryz.func84.trans (Ar some nT)
 f206:=Tryz.func135.trans (Ar some nT)
 t3:=Tryz.underlying3
 a3:=Tryz.isAgg3
 z3:=Tryz.sizeOf3
 v3:=Tryz.zeroValue3
 t4:=Tryz.underlying4
 a4:=Tryz.isAgg4
 z4:=Tryz.sizeOf4
 v4:=Tryz.zeroValue4
 t9:=Tryz.underlying9
 a9:=Tryz.isAgg9
 z9:=Tryz.sizeOf9
 v9:=Tryz.zeroValue9}
open Go.RowKit Go.Lib in
theorem Tryz.strings_HasPrefix (s p:ByteArray)(w:World):
 Calls Tryz.prog 84 #[.string s,.string p] w fun e w'=>e= .returned (.bool (Lib.hasPrefix s.data.toList p.data.toList))/\w'=w:=Any.strings_HasPrefix Tryz.lays99 s p w
def Tryz.lays101_ren:Go.Shelf.Ren:=⟨fun|101=>82|208=>133|206=>135|n=>n,fun|9=>9|4=>4|3=>3|n=>n,fun|n=>n⟩
theorem Tryz.lays101:Go.Proofs.Lays.n101 Tryz.prog Tryz.lays101_ren:={
 mixed:=by kernel_rfl
 f101:=Tryz.func82.trans (Ar some nT)
 f206:=Tryz.func135.trans (Ar some nT)
 f208:=Tryz.func133.trans (Ar some nT)
 t3:=Tryz.underlying3
 a3:=Tryz.isAgg3
 z3:=Tryz.sizeOf3
 v3:=Tryz.zeroValue3
 t4:=Tryz.underlying4
 a4:=Tryz.isAgg4
 z4:=Tryz.sizeOf4
 v4:=Tryz.zeroValue4
 t9:=Tryz.underlying9
 a9:=Tryz.isAgg9
 z9:=Tryz.sizeOf9
 v9:=Tryz.zeroValue9}
open Go.RowKit Go.Lib in
theorem Tryz.strings_TrimPrefix (s p:ByteArray)(w:World):
 Calls Tryz.prog 82 #[.string s,.string p] w fun e w'=>e= .returned (.string ⟨(Lib.trimPrefix s.data.toList p.data.toList).toArray⟩)/\w'=w:=Any.strings_TrimPrefix Tryz.lays101 s p w
def Tryz.lays155_ren:Go.Shelf.Ren:=⟨fun|155=>75|154=>124|138=>186|165=>187|143=>65|166=>188|197=>189|169=>130|195=>226|218=>227|240=>193|241=>228|219=>98|260=>229|276=>232|277=>241|217=>171|225=>172|224=>173|267=>174|266=>218|314=>219|n=>n,fun|9=>9|3=>3|4=>4|72=>181|0=>0|76=>214|105=>210|21=>21|5=>5|70=>179|20=>20|37=>40|75=>119|127=>218|164=>254|46=>200|119=>267|139=>270|138=>269|146=>246|51=>206|80=>183|n=>n,fun|1=>0|3=>6|4=>7|n=>n⟩
theorem Tryz.lays155:Go.Proofs.Lays.n155 Tryz.prog Tryz.lays155_ren:={
 mixed:=by kernel_rfl
 f138:=Tryz.func186.trans (Ar some nT)
 f143:=Tryz.func65.trans (Ar some nT)
 f154:=Tryz.func124.trans (Ar some nT)
 f155:=Tryz.func75.trans (Ar some nT)
 f165:=Tryz.func187.trans (Ar some nT)
 f166:=Tryz.func188.trans (Ar some nT)
 f169:=Tryz.func130.trans (Ar some nT)
 f195:=Tryz.func226.trans (Ar some nT)
 f197:=Tryz.func189.trans (Ar some nT)
 f217:=Tryz.func171.trans (Ar some nT)
 f218:=Tryz.func227.trans (Ar some nT)
 f219:=Tryz.func98.trans (Ar some nT)
 f224:=Tryz.func173.trans (Ar some nT)
 f225:=Tryz.func172.trans (Ar some nT)
 f240:=Tryz.func193.trans (Ar some nT)
 f241:=Tryz.func228.trans (Ar some nT)
 f260:=Tryz.func229.trans (Ar some nT)
 f266:=Tryz.func218.trans (Ar some nT)
 f267:=Tryz.func174.trans (Ar some nT)
 f276:=Tryz.func232.trans (Ar some nT)
 f277:=Tryz.func241.trans (Ar some nT)
 f314:=Tryz.func219.trans (Ar some nT)
 t0:=Tryz.underlying0
 a0:=Tryz.isAgg0
 z0:=Tryz.sizeOf0
 v0:=Tryz.zeroValue0
 t3:=Tryz.underlying3
 a3:=Tryz.isAgg3
 z3:=Tryz.sizeOf3
 v3:=Tryz.zeroValue3
 t4:=Tryz.underlying4
 a4:=Tryz.isAgg4
 z4:=Tryz.sizeOf4
 v4:=Tryz.zeroValue4
 t5:=Tryz.underlying5
 a5:=Tryz.isAgg5
 z5:=Tryz.sizeOf5
 v5:=Tryz.zeroValue5
 t9:=Tryz.underlying9
 a9:=Tryz.isAgg9
 z9:=Tryz.sizeOf9
 v9:=Tryz.zeroValue9
 t20:=Tryz.underlying20
 a20:=Tryz.isAgg20
 z20:=Tryz.sizeOf20
 v20:=Tryz.zeroValue20
 t21:=Tryz.underlying21
 a21:=Tryz.isAgg21
 z21:=Tryz.sizeOf21
 v21:=Tryz.zeroValue21
 t37:=Tryz.underlying40
 a37:=Tryz.isAgg40
 z37:=Tryz.sizeOf40
 v37:=Tryz.zeroValue40
 t46:=Tryz.underlying200
 a46:=Tryz.isAgg200
 z46:=Tryz.sizeOf200
 v46:=Tryz.zeroValue200
 t51:=Tryz.underlying206
 a51:=Tryz.isAgg206
 z51:=Tryz.sizeOf206
 v51:=Tryz.zeroValue206
 t70:=Tryz.underlying179
 a70:=Tryz.isAgg179
 z70:=Tryz.sizeOf179
 v70:=Tryz.zeroValue179
 t72:=Tryz.underlying181
 a72:=Tryz.isAgg181
 z72:=Tryz.sizeOf181
 v72:=Tryz.zeroValue181
 t75:=Tryz.underlying119
 a75:=Tryz.isAgg119
 z75:=Tryz.sizeOf119
 v75:=Tryz.zeroValue119
 t76:=Tryz.underlying214
 a76:=Tryz.isAgg214
 z76:=Tryz.sizeOf214
 v76:=Tryz.zeroValue214
 t105:=Tryz.underlying210
 a105:=Tryz.isAgg210
 z105:=Tryz.sizeOf210
 v105:=Tryz.zeroValue210
 t119:=Tryz.underlying267
 a119:=Tryz.isAgg267
 z119:=Tryz.sizeOf267
 t127:=Tryz.underlying218
 a127:=Tryz.isAgg218
 z127:=Tryz.sizeOf218
 v127:=Tryz.zeroValue218
 t138:=Tryz.underlying269
 a138:=Tryz.isAgg269
 z138:=Tryz.sizeOf269
 v138:=Tryz.zeroValue269
 t139:=Tryz.underlying270
 a139:=Tryz.isAgg270
 z139:=Tryz.sizeOf270
 v139:=Tryz.zeroValue270
 t146:=Tryz.underlying246
 a146:=Tryz.isAgg246
 z146:=Tryz.sizeOf246
 v146:=Tryz.zeroValue246
 t164:=Tryz.underlying254
 a164:=Tryz.isAgg254
 z164:=Tryz.sizeOf254
 v164:=Tryz.zeroValue254
 g1:=by kernel_rfl
 g3:=by kernel_rfl
 g4:=by kernel_rfl}
theorem Tryz.Builder_Extra_155:Builder.Extra Tryz.prog Tryz.lays155_ren:={
 sizeBuilder:=by kernel_rfl
 liesBuilder:=by kernel_rfl
 t5:=Tryz.underlying5
 a5:=Tryz.isAgg5
 z5:=Tryz.sizeOf5
 v5:=Tryz.zeroValue5
 infoByte:=by kernel_rfl
 cellsByte:=by kernel_rfl
 sizeByte:=by kernel_rfl
 neB5:=by decide}
open Go.RowKit Go.Lib in
theorem Tryz.strings_ReplaceAll (s old new:ByteArray)(m:Int)(w:World)(hs:s.size<4294967281)(hm:w.cell? ⟨0,0,none⟩=some (.int .i64 m))(h1:1<=old.size)(hlen:s.size+Lib.countB s old*new.size<=140737488355328):
 Calls Tryz.prog 75 #[.string s,.string old,.string new] w fun e w'=>
  e= .returned (.string ⟨(Lib.replaceAll s.data.toList old.data.toList new.data.toList).toArray⟩)/\Below w.heap.size w w':=Any.strings_ReplaceAll Tryz.lays155 Tryz.Builder_Extra_155 s old new m w hs hm h1 hlen
def Tryz.lays111_ren:Go.Shelf.Ren:=⟨fun|111=>60|n=>n,fun|28=>41|3=>3|4=>4|0=>0|n=>n,fun|n=>n⟩
theorem Tryz.lays111:Go.Proofs.Lays.n111 Tryz.prog Tryz.lays111_ren:={
 mixed:=by kernel_rfl
 f111:=Tryz.func60.trans (Ar some nT)
 t0:=Tryz.underlying0
 a0:=Tryz.isAgg0
 z0:=Tryz.sizeOf0
 v0:=Tryz.zeroValue0
 t3:=Tryz.underlying3
 a3:=Tryz.isAgg3
 z3:=Tryz.sizeOf3
 v3:=Tryz.zeroValue3
 t4:=Tryz.underlying4
 a4:=Tryz.isAgg4
 z4:=Tryz.sizeOf4
 v4:=Tryz.zeroValue4
 t28:=Tryz.underlying41
 a28:=Tryz.isAgg41
 z28:=Tryz.sizeOf41
 v28:=Tryz.zeroValue41}
open Go.RowKit Go.Lib in
theorem Tryz.slices_Equal_int (b1 o1 n c b2 o2 m d:Nat)(xs ys:List Int)(w:World)(hx:n<=xs.length)(hy:m<=ys.length)(hbig:n<=9223372036854775807)(hbig2:m<=9223372036854775807)(hc1:∀j,j<xs.length->w.cell? ⟨b1,o1+j,none⟩=some (.int .i64 (xs.getD j 0)))(hc2:∀j,j<ys.length->w.cell? ⟨b2,o2+j,none⟩=some (.int .i64 (ys.getD j 0))):
 Calls Tryz.prog 60 #[.slice (some ⟨b1,o1,none⟩) n c,.slice (some ⟨b2,o2,none⟩) m d] w fun e w'=>e= .returned (.bool (xs.take n==ys.take m))/\∃q,w'=w.drewN q:=Any.slices_Equal_int Tryz.lays111 b1 o1 n c b2 o2 m d xs ys w hx hy hbig hbig2 hc1 hc2
open Go.RowKit Go.Lib in
theorem Tryz.slices_Equal_int_empty (a1 a2:Option Addr)(c m d:Nat)(w:World)(hbig2:m<=9223372036854775807):
 Calls Tryz.prog 60 #[.slice a1 0 c,.slice a2 m d] w fun e w'=>e= .returned (.bool (decide (m=0)))/\w'=w:=Any.slices_Equal_int_empty Tryz.lays111 a1 a2 c m d w hbig2
end Go.Proofs
namespace Go.Proofs.YtgfakdobajgnfaaGreatDoor
open Go Go.RowKit Go.Lib
def D8 (n:Nat):Bool:=decide (97<=n/\n<=122)
def Ic (n:Nat):Bool:=decide (48<=n/\n<=57)
def G6 (n:Nat):Bool:=!D8 n && !Ic n
def Im (n:Nat):Bool:=decide (n<32\/126<n)
def Gx (s:ByteArray):Bool:=match s.data.toList with
 |[]=>false
 |c::r=>decide (s.size<=12) && D8 c.toNat && !(r.any fun b=>G6 b.toNat)
def J8 (s:ByteArray):Bool:=decide (s.size<=200) && !(s.data.toList.any fun b=>Im b.toNat)
def cO (v:Vl):Bool:=
 if v.k=0 then decide (v.n=0) && decide (v.s.size=0) else if v.k=1\/v.k=2 then decide (v.s.size=0) else if v.k=3 then decide (v.n=0) && J8 v.s
 else if v.k=4 then decide (v.s.size=0) && decide (v.n=0\/v.n=1) else if v.k=5 then decide (v.n=0) && Gx v.s else false
theorem jI {s:ByteArray}{pos:Nat}(h:pos<s.size):s.data.toList.drop pos=s.get! pos::s.data.toList.drop (pos+1):=by
 have h':pos<s.data.toList.length:=by simpa using h
 rw[List.drop_eq_getElem_cons h'];congr 1;simp only[ByteArray.get!];rw[getElem!_pos s.data pos oQ];simp
theorem Wz (p:Nat->Bool)(hp:∀r,128<=r->p r=true)(s:ByteArray):∀(f pos:Nat),s.size<=pos+f->
 decide (0<=idxFuncFrom p true s f pos)=(s.data.toList.drop pos).any (fun b=>p b.toNat)
 |0,pos,h=>by
  rw[List.drop_eq_nil_of_le oQ];rfl
 |f+1,pos,h=>by
  unfold idxFuncFrom;by_cases hlt:pos<s.size
  ·rw[Ap hlt,jI hlt,List.any_cons];rcases decodeN_cases (s.size - pos) (s.get! pos).toNat (s.get! (pos+1)).toNat (s.get! (pos+2)).toNat (s.get! (pos+3)).toNat with ⟨c,e⟩|e'
   ·rw[←decode_at] at e;rw[e];cases hq:p (s.get! pos).toNat
    ·simp only[Bool.false_eq_true,if_false,Bool.false_or];exact Wz p hp s f (pos+1) nU
    simp
   have hr:128<=(Utf8.decode s pos).1:=by
    rw[decode_at];rcases e' with ⟨_,_,_,_,e⟩|⟨_,_,_,_,_,e⟩|⟨_,e⟩|e
    ·rw[e];assumption
    ·rw[e];simp only;omega
    ·omega
    rw[e];simp
   rw[hp _ hr,Ap rfl];by_cases hb:(s.get! pos).toNat<128
   ·exfalso
    have:decodeN (s.size - pos) (s.get! pos).toNat (s.get! (pos+1)).toNat (s.get! (pos+2)).toNat (s.get! (pos+3)).toNat=((s.get! pos).toNat,1):=by
     unfold decodeN;rw[Ap hb]
    rw[decode_at,this] at hr;simp only at hr;omega
   rw[hp _ nU];simp
  rw[Ao hlt,List.drop_eq_nil_of_le (by simpa using Nat.le_of_not_lt hlt)];rfl
theorem O4 (p:Nat->Bool)(hp:∀r,128<=r->p r=true)(s:ByteArray):decide (0<=idxFunc p true s)=s.data.toList.any (fun b=>p b.toNat):=by
 have:=Wz p hp s s.size 0 nU
 rw[List.drop_zero] at this;exact this
theorem kG (r:Nat)(h:128<=r):G6 r=true:=by
 have h1:¬(97<=r/\r<=122):=by omega
 have h2:¬(48<=r/\r<=57):=by omega
 simp [G6,D8,Ic,h1,h2]
theorem lV (r:Nat)(h:128<=r):Im r=true:=by
 have h1:r<32\/126<r:=by omega
 simp [Im,h1]
theorem lF (x:Nat)(W:World)(hx:x<=1114111):Calls Tryz.prog 115 #[.int .i32 (x:Int)] W fun e w'=>e= .returned (.bool (G6 x))/\w'=W:=by
 by_cases h1:x<97
 ·have d1:decide ((x:Int)<97)=true:=by simp;omega
  by_cases h3:x<48
  ·have d3:decide ((x:Int)<48)=true:=by simp;omega
   exact zye
  have d3:decide ((x:Int)<48)=false:=by simp;omega
  by_cases h4:57<x
  ·have d4:decide ((57:Int)<(x:Int))=true:=by simp;omega
   exact zye
  have d4:decide ((57:Int)<(x:Int))=false:=by simp;omega
  go_enter Tryz.func115,Tryz.ntmps115
  go_wp2
  go_ret;exact⟨by simp [G6,D8,Ic,show ¬(97<=x/\x<=122) by omega,show(48<=x/\x<=57) by omega],rfl⟩
 have d1:decide ((x:Int)<97)=false:=by simp;omega
 by_cases h2:122<x
 ·have d2:decide ((122:Int)<(x:Int))=true:=by simp;omega
  have d3:decide ((x:Int)<48)=false:=by simp;omega
  have d4:decide ((57:Int)<(x:Int))=true:=by simp;omega
  exact zye
 have d2:decide ((122:Int)<(x:Int))=false:=by simp;omega
 go_enter Tryz.func115,Tryz.ntmps115
 go_wp2
 go_ret;exact⟨by simp [G6,D8,Ic,show(97<=x/\x<=122) by omega],rfl⟩
theorem lG (x:Nat)(W:World)(hx:x<=1114111):Calls Tryz.prog 114 #[.int .i32 (x:Int)] W fun e w'=>e= .returned (.bool (Im x))/\w'=W:=by
 by_cases h1:x<32
 ·have d1:decide ((x:Int)<32)=true:=by simp;omega
  go_enter Tryz.func114,Tryz.ntmps114
  go_wp2
  go_ret;exact⟨by simp [Im,h1],rfl⟩
 have d1:decide ((x:Int)<32)=false:=by simp;omega
 by_cases h2:126<x
 ·have d2:decide ((126:Int)<(x:Int))=true:=by simp;omega
  go_enter Tryz.func114,Tryz.ntmps114
  go_wp2
  go_ret;exact⟨by simp [Im,h2],rfl⟩
 have d2:decide ((126:Int)<(x:Int))=false:=by simp;omega
 go_enter Tryz.func114,Tryz.ntmps114
 go_wp2
 go_ret;exact⟨by simp [Im,h1,h2],rfl⟩
theorem aW (s:ByteArray)(w:World):Calls Tryz.prog 113 #[.string s,.func (.func 115) #[] #[]] w fun e w'=>e= .returned (.bool (s.data.toList.any fun b=>G6 b.toNat))/\Below w.heap.size w w':=by
 rw[←O4 G6 kG];exact Tryz.strings_ContainsFunc_runes 115 #[] (enters_of Tryz.func115 nT rfl) G6 s w fun W x hx _=>(lF x W hx).mono fun e w' ⟨he,hw⟩=>⟨he,0,hw⟩
theorem cJ (s:ByteArray)(w:World):Calls Tryz.prog 113 #[.string s,.func (.func 114) #[] #[]] w fun e w'=>e= .returned (.bool (s.data.toList.any fun b=>Im b.toNat))/\Below w.heap.size w w':=by
 rw[←O4 Im lV];exact Tryz.strings_ContainsFunc_runes 114 #[] (enters_of Tryz.func114 nT rfl) Im s w fun W x hx _=>(lG x W hx).mono fun e w' ⟨he,hw⟩=>⟨he,0,hw⟩
open Go Go.RowKit Go.Lib
theorem Ir {a b:Bool}(h:a=b):Ending.returned (.bool a)= .returned (.bool b):=by rw[h]
theorem Mf {s:ByteArray}(h:s.size=0):s.toList=[]:=by
 rw[ByteArray.toList_eq];exact List.eq_nil_of_length_eq_zero oQ
theorem Lc {s:ByteArray}(h:0<s.size):¬s.toList=[]:=by
 rw[ByteArray.toList_eq];intro e;have hl:s.data.toList.length=s.size:=by simp
 rw[e] at hl;simp at hl;omega
theorem Lz {s:ByteArray}(h:0<s.size):s.toList.isEmpty=false:=by
 have:=Lc h
 cases hl:s.toList with
 |nil=>exact absurd hl this
 |cons=>rfl
theorem Re {s:ByteArray}(h:s.size=0):s.toList.isEmpty=true:=by rw[Mf h];rfl
theorem aR {s:ByteArray}(h:0<s.size):∃r,s.data.toList=s[0]::r:=by
 have h':0<s.data.toList.length:=by simpa using h
 refine⟨s.data.toList.tail,?_⟩;cases hl:s.data.toList with
 |nil=>simp [hl] at h'
 |cons c r=>
  have:s.data.toList[0]=c:=by simp [hl]
  rw[List.tail_cons,←this];rfl
theorem Qz {s:ByteArray}(h:s.size=0):Gx s=false:=by
 have:s.data.toList=[]:=List.eq_nil_of_length_eq_zero oQ
 simp [Gx,this]
theorem Nv {s:ByteArray}(h:0<s.size):Gx s=(decide (s.size<=12) && D8 s[0].toNat && !(s.data.toList.any fun b=>G6 b.toNat)):=by
 obtain⟨r,hr⟩:=aR h;unfold Gx;rw[hr];simp only[List.any_cons];cases hl:D8 s[0].toNat
 ·simp
 simp [G6,hl]
theorem Yw (s:ByteArray)(hs:s.size<=9223372036854775807)(w:World):
 Calls Tryz.prog 72 #[.string s] w fun e w'=>e= .returned (.bool (Gx s))/\Below w.heap.size w w':=by
 by_cases h0:s.size=0
 ·have hq:=Qz h0;have h1:=Mf h0;have h2:=Re h0;rw[hq];clear h0 hq;exact zxz
 have hp:0<s.size:=by omega
 have hq:=Nv hp;have h1:=Lc hp;have h2:=Lz hp;clear h0;by_cases h12:s.size<=12
 ·have d12:(s.size:Int)<=12:=by omega
  have e12:decide (12<(s.size:Int))=false:=by simp;omega
  rw[Am h12] at hq;obtain⟨c,hc⟩:∃c:UInt8,s[0]=c:=⟨_,rfl⟩;rw[hc] at hq;by_cases ha:c.toNat<97
  ·have hl:D8 c.toNat=false:=by simp [D8];omega
   rw[hl] at hq;rw[hq];have da:(s[0].toNat:Int)<97:=by rw[hc];omega
   clear hq hc ha hl;exact zxz
  have da:97<=(s[0].toNat:Int):=by rw[hc];omega
  by_cases hz:122<c.toNat
  ·have hl:D8 c.toNat=false:=by simp [D8];omega
   rw[hl] at hq;rw[hq];have dz:122<(s[0].toNat:Int):=by rw[hc];omega
   clear hq hc ha hl;exact zxz
  have hl:D8 c.toNat=true:=by simp [D8];omega
  rw[hl] at hq;rw[hq];have dz:(s[0].toNat:Int)<=122:=by rw[hc];omega
  have hcc:=aW s w;obtain⟨b,hb⟩:∃b,(s.data.toList.any fun b=>G6 b.toNat)=b:=⟨_,rfl⟩;rw[hb] at hcc ⊢;have Hc:=Ax hcc;clear hq hc ha hl hb hcc hz;go_enter Tryz.func72,Tryz.ntmps72;exact zxs
 have hq':Gx s=false:=by rw[hq,An h12];rfl
 rw[hq'];have d12:12<(s.size:Int):=by omega
 clear hq hq' h12;exact zxz
theorem Zb (s:ByteArray)(hs:s.size<=9223372036854775807)(w:World):
 Calls Tryz.prog 71 #[.string s] w fun e w'=>e= .returned (.bool (J8 s))/\Below w.heap.size w w':=by
 unfold J8;by_cases h:s.size<=200
 ·have d:(s.size:Int)<=200:=by omega
  rw[Am h];have hcc:=cJ s w;obtain⟨b,hb⟩:∃b,(s.data.toList.any fun b=>Im b.toNat)=b:=⟨_,rfl⟩;rw[hb] at hcc ⊢;have Hc:=Ax hcc;clear hb hcc h;go_enter Tryz.func71,Tryz.ntmps71;exact zxs
 have d:200<(s.size:Int):=by omega
 rw[An h];clear h;go_enter Tryz.func71,Tryz.ntmps71
 go_wp2
 go_ret;exact⟨rfl,Aq _ _⟩
theorem Dz (s:ByteArray){b:Bool}(hb:decide (s.size=0)=b):s.toList.isEmpty=b/\(b=true->s.toList=[])/\(b=false->¬s.toList=[]):=by
 cases b
 ·have:0<s.size:=Nat.pos_of_ne_zero (of_decide_eq_false hb)
  exact⟨Lz this,(fun h=>by cases h),fun _=>Lc this⟩
 have:s.size=0:=of_decide_eq_true hb
 exact⟨Re this,fun _=>Mf this,(fun h=>by cases h)⟩
def E9 (w:World)(b:Bool)(e:Ending)(w':World):Prop:=e= .returned (.bool b)/\Below w.heap.size w w'
theorem fC (n:Int)(s:ByteArray)(w:World):Calls Tryz.prog 42 #[.agg #[.int .u8 0,.int .i64 n,.string s]] w (E9 w (decide (n=0) && decide (s.size=0))):=by
 have HB:=Ax ((Aq w.heap.size w).alloc (Ak _) (.cells #[.int .u8 0,.int .i64 n,.string s] 23));obtain⟨q,hq⟩:∃q,decide (s.size=0)=q:=⟨_,rfl⟩;obtain⟨he1,he2,he3⟩:=Dz s hq;rw[hq];clear hq;by_cases hn:n=0
 ·subst hn;cases q
  ·have he:=he3 rfl;clear he2 he3;go_enter Tryz.func42,Tryz.ntmps42;exact zzl
  have he:=he2 rfl;clear he2 he3;go_enter Tryz.func42,Tryz.ntmps42;exact zzl
 have h0:(n==0)=false:=by simpa using hn
 rw[An hn];cases q
 ·have he:=he3 rfl;clear he2 he3;go_enter Tryz.func42,Tryz.ntmps42;exact zzl
 have he:=he2 rfl;clear he2 he3;go_enter Tryz.func42,Tryz.ntmps42;exact zzl
theorem kK (k n:Int)(s:ByteArray)(w:World)(hk:k=1\/k=2):Calls Tryz.prog 42 #[.agg #[.int .u8 k,.int .i64 n,.string s]] w (E9 w (decide (s.size=0))):=by
 have HB:=Ax ((Aq w.heap.size w).alloc (Ak _) (.cells #[.int .u8 k,.int .i64 n,.string s] 23));obtain⟨q,hq⟩:∃q,decide (s.size=0)=q:=⟨_,rfl⟩;obtain⟨he1,he2,he3⟩:=Dz s hq;rw[hq];clear hq;rcases hk with rfl|rfl
 all_goals
  cases q
  ·have he:=he3 rfl;clear he2 he3;go_enter Tryz.func42,Tryz.ntmps42;exact zzl
  have he:=he2 rfl;clear he2 he3;go_enter Tryz.func42,Tryz.ntmps42;exact zzl
theorem lW (n:Int)(s:ByteArray)(hs:s.size<=9223372036854775807)(w:World):Calls Tryz.prog 42 #[.agg #[.int .u8 3,.int .i64 n,.string s]] w (E9 w (decide (n=0) && J8 s)):=by
 have HB:=Ax ((Aq w.heap.size w).alloc (Ak _) (.cells #[.int .u8 3,.int .i64 n,.string s] 23));have hc:=Zb s hs (w.alloc (.cells #[.int .u8 3,.int .i64 n,.string s] 23));obtain⟨b,hb⟩:∃b,J8 s=b:=⟨_,rfl⟩;rw[hb] at hc ⊢;have Hc:=Ax hc;clear hc hb;by_cases hn:n=0
 ·exact zxy
 have h0:(n==0)=false:=by simpa using hn
 rw[An hn];clear hn;go_enter Tryz.func42,Tryz.ntmps42;exact zzl
theorem jW (n:Int)(s:ByteArray)(hs:s.size<=9223372036854775807)(w:World):Calls Tryz.prog 42 #[.agg #[.int .u8 5,.int .i64 n,.string s]] w (E9 w (decide (n=0) && Gx s)):=by
 have HB:=Ax ((Aq w.heap.size w).alloc (Ak _) (.cells #[.int .u8 5,.int .i64 n,.string s] 23));have hc:=Yw s hs (w.alloc (.cells #[.int .u8 5,.int .i64 n,.string s] 23));obtain⟨b,hb⟩:∃b,Gx s=b:=⟨_,rfl⟩;rw[hb] at hc ⊢;have Hc:=Ax hc;clear hc hb;by_cases hn:n=0
 ·exact zxy
 have h0:(n==0)=false:=by simpa using hn
 rw[An hn];clear hn;go_enter Tryz.func42,Tryz.ntmps42;exact zzl
theorem eJ (n:Int)(s:ByteArray)(w:World):Calls Tryz.prog 42 #[.agg #[.int .u8 4,.int .i64 n,.string s]] w (E9 w (decide (s.size=0) && decide (n=0\/n=1))):=by
 have HB:=Ax ((Aq w.heap.size w).alloc (Ak _) (.cells #[.int .u8 4,.int .i64 n,.string s] 23));obtain⟨q,hq⟩:∃q,decide (s.size=0)=q:=⟨_,rfl⟩;obtain⟨he1,he2,he3⟩:=Dz s hq;rw[hq];clear hq;cases q
 ·have he:=he3 rfl;clear he2 he3;go_enter Tryz.func42,Tryz.ntmps42;exact zzl
 have he:=he2 rfl;clear he2 he3;by_cases h0:n=0
 ·subst h0;go_enter Tryz.func42,Tryz.ntmps42;exact zzl
 by_cases h1:n=1
 ·subst h1;go_enter Tryz.func42,Tryz.ntmps42;exact zzl
 have e0:(n==0)=false:=by simpa using h0
 have e1:(n==1)=false:=by simpa using h1
 rw[An nU];clear h0 h1;go_enter Tryz.func42,Tryz.ntmps42;exact zzl
theorem dC (k n:Int)(s:ByteArray)(w:World)(hk:k<0\/5<k):Calls Tryz.prog 42 #[.agg #[.int .u8 k,.int .i64 n,.string s]] w (E9 w false):=by
 have HB:=Ax ((Aq w.heap.size w).alloc (Ak _) (.cells #[.int .u8 k,.int .i64 n,.string s] 23));have e0:(k==0)=false:=by simp;omega
 have e1:(k==1)=false:=by simp;omega
 have e2:(k==2)=false:=by simp;omega
 have e3:(k==3)=false:=by simp;omega
 have e4:(k==4)=false:=by simp;omega
 have e5:(k==5)=false:=by simp;omega
 clear hk;go_enter Tryz.func42,Tryz.ntmps42;exact zzl
theorem jR (v:Vl)(hv:v.s.size<=9223372036854775807)(w:World):
 Calls Tryz.prog 42 #[.agg #[.int .u8 v.k,.int .i64 v.n,.string v.s]] w fun e w'=>e= .returned (.bool (cO v))/\Below w.heap.size w w':=by
 obtain⟨k,n,s⟩:=v;simp only at hv;unfold cO;simp only;by_cases k0:k=0
 ·subst k0;rw[Ap rfl];exact fC n s w
 rw[Ao k0];by_cases k1:k=1\/k=2
 ·rw[Ap k1];exact kK k n s w k1
 rw[Ao k1];by_cases k3:k=3
 ·subst k3;rw[Ap rfl];exact lW n s hv w
 rw[Ao k3];by_cases k4:k=4
 ·subst k4;rw[Ap rfl];exact eJ n s w
 rw[Ao k4];by_cases k5:k=5
 ·subst k5;rw[Ap rfl];exact jW n s hv w
 rw[Ao k5];exact dC k n s w nU
open Go Go.Shelf Go.RowKit
def eH:Go.Shelf.Ren:=⟨fun|167=>129|240=>193|276=>232|n=>n,
 fun|0=>0|4=>4|5=>5|9=>9|20=>20|37=>40|70=>179|72=>181|75=>119|80=>183|164=>254|n=>n,fun|n=>n⟩
theorem kU:Go.Proofs.Lays.n167 Tryz.prog eH:={
 mixed:=by kernel_rfl
 f167:=Tryz.func129.trans (Ar some nT)
 f240:=Tryz.func193.trans (Ar some nT)
 f276:=Tryz.func232.trans (Ar some nT)
 t0:=Tryz.underlying0
 a0:=Tryz.isAgg0
 z0:=Tryz.sizeOf0
 v0:=Tryz.zeroValue0
 t4:=Tryz.underlying4
 a4:=Tryz.isAgg4
 z4:=Tryz.sizeOf4
 v4:=Tryz.zeroValue4
 t5:=Tryz.underlying5
 a5:=Tryz.isAgg5
 z5:=Tryz.sizeOf5
 v5:=Tryz.zeroValue5
 t9:=Tryz.underlying9
 a9:=Tryz.isAgg9
 z9:=Tryz.sizeOf9
 v9:=Tryz.zeroValue9
 t20:=Tryz.underlying20
 a20:=Tryz.isAgg20
 z20:=Tryz.sizeOf20
 v20:=Tryz.zeroValue20
 t37:=Tryz.underlying40
 a37:=Tryz.isAgg40
 z37:=Tryz.sizeOf40
 v37:=Tryz.zeroValue40
 t70:=Tryz.underlying179
 a70:=Tryz.isAgg179
 z70:=Tryz.sizeOf179
 v70:=Tryz.zeroValue179
 t72:=Tryz.underlying181
 a72:=Tryz.isAgg181
 z72:=Tryz.sizeOf181
 v72:=Tryz.zeroValue181
 t75:=Tryz.underlying119
 a75:=Tryz.isAgg119
 z75:=Tryz.sizeOf119
 v75:=Tryz.zeroValue119
 t164:=Tryz.underlying254
 a164:=Tryz.isAgg254
 z164:=Tryz.sizeOf254
 v164:=Tryz.zeroValue254}
theorem gU:Builder.Extra Tryz.prog eH:={
 sizeBuilder:=by kernel_rfl
 liesBuilder:=by kernel_rfl
 t5:=Tryz.underlying5
 a5:=Tryz.isAgg5
 z5:=Tryz.sizeOf5
 v5:=Tryz.zeroValue5
 infoByte:=by kernel_rfl
 cellsByte:=by kernel_rfl
 sizeByte:=by kernel_rfl
 neB5:=by decide}
theorem Si (B b:Nat)(bs:List Value)(c:Int)(w:World)(h:Lib.IsBuilder 181 5 B b bs w)(hlen:bs.length+1<=140737488355328)(hBw:B<=w.heap.size):
 Calls Tryz.prog 129 #[.pointer (some ⟨b,0,none⟩),.int .u8 c] w fun e w'=>e= .returned .nilIface/\(Lib.IsBuilder 181 5 B b (bs++[.int .u8 c]) w'/\Below B w w'):=
 (Any.Builder_WriteByte kU gU B b bs c w h hlen hBw).mono fun _ _ h=>⟨h.1,.inr h.2.1,h.2.2⟩
end Go.Proofs.YtgfakdobajgnfaaGreatDoor
