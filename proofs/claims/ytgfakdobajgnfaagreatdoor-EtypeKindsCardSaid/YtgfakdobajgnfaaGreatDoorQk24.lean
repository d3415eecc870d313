import Derived.Test.YtgfakdobajgnfaaGreatDoorQk23
set_option maxRecDepth 100000
set_option maxHeartbeats 16000000
namespace Go.Proofs.YtgfakdobajgnfaaGreatDoor
open Go Go.RowKit Go.Lib
structure R2 (w wr:World)(b:Bool)(sl:Value):Prop where
 r:wr.heap[w.heap.size]? =some (.cells #[.bool false,.slice none 0 0] 79 (0,0))
 x:wr.heap[w.heap.size+1]? =some (.cells #[.bool b,sl] 79 (0,0))
 bel:Below w.heap.size w wr
theorem R2.below {w wr V:World}{b:Bool}{d:Value}(h:R2 w wr b d)(c:Below wr.heap.size wr V):R2 w V b d:=
 ⟨(c.block _ (Bp h.r)).trans h.r,(c.block _ (Bp h.x)).trans h.x,h.bel.trans (c.mono h.bel.size)⟩
theorem lQ (w:World):R2 w ((w.alloc (.cells #[.bool false,.slice none 0 0] 79)).alloc (.cells #[.bool false,.slice none 0 0] 79)) false (.slice none 0 0):=by
 refine⟨?_,?_,((Aq _ _).alloc (Ak _) _).alloc rI _⟩
 ·rw[Below.heap_alloc _ _ _ rI];exact Az _ _
 have:=Az (w.alloc (.cells #[.bool false,.slice none 0 0] 79)) (.cells #[.bool false,.slice none 0 0] 79)
 simpa using this
theorem Jv {w V:World}{b d:Bool}{a e:Option Addr}{n c f g:Nat}{z:Int}(h:R2 w V b (.slice a n c))(j:Bm V (.agg #[.bool d,.slice e f g]) z):
 R2 w ((V.setCell ⟨w.heap.size+1,0,none⟩ (.bool d)).setCell ⟨w.heap.size+1,1,none⟩ (.slice e f g)) d (.slice e f g)/\Bm ((V.setCell ⟨w.heap.size+1,0,none⟩ (.bool d)).setCell ⟨w.heap.size+1,1,none⟩ (.slice e f g)) (.agg #[.bool d,.slice e f g]) z:=by
 have k:=A2 (i:=1) (u:= .slice e f g) (A2 (i:=0) (u:= .bool d) h.x);have m:Bb [w.heap.size+1] V ((V.setCell ⟨w.heap.size+1,0,none⟩ (.bool d)).setCell ⟨w.heap.size+1,1,none⟩ (.slice e f g)):=((Bb.refl _ _).setCell (.inl rI) _).setCell (.inl rI) _;refine⟨⟨(m.block _ (Bp h.r) rI).trans h.r,k,(h.bel.setCell rI _).setCell rI _⟩,j.store h.x _ _⟩
theorem C5 {w V:World}{b c:Bool}{g:Value}{d:Option Addr}{e f:Nat}{z:Int}(h:R2 w V b g)(i:Bm V (.agg #[.bool c,.slice d e f]) z):
 Below w.heap.size w ((V.setCell ⟨w.heap.size,0,none⟩ (.bool c)).setCell ⟨w.heap.size,1,none⟩ (.slice d e f))/\Bm ((V.setCell ⟨w.heap.size,0,none⟩ (.bool c)).setCell ⟨w.heap.size,1,none⟩ (.slice d e f)) (.agg #[.bool c,.slice d e f]) z:=
 ⟨(h.bel.setCell rI _).setCell rI _,i.store h.r _ _⟩
def Cm (w:World)(l:List UInt8)(e:Ending)(w':World):Prop:=Below w.heap.size w w'/\∃(b:Bool) (a:Option Addr) (n c:Nat) (pt ok:Bool),e= .returned (.tuple #[.agg #[.bool b,.slice a n c],.bool pt,.bool ok])/\(match E4 l with
 |none=>ok=false
 |some z=>ok=true/\pt=z.2/\Bm w' (.agg #[.bool b,.slice a n c]) z.1)
theorem Cm.no {w w':World}{l:List UInt8}{b:Bool}{a:Option Addr}{n c:Nat}{pt:Bool}(d:Below w.heap.size w w')(h:E4 l=none):Cm w l (.returned (.tuple #[.agg #[.bool b,.slice a n c],.bool pt,.bool false])) w':=⟨d,b,a,n,c,pt,false,rfl,by rw[h]⟩
theorem Cm.yes {w w':World}{l:List UInt8}{b:Bool}{a:Option Addr}{n c:Nat}{z:Int}{pt:Bool}(d:Below w.heap.size w w')(h:E4 l=some (z,pt))(e:Bm w' (.agg #[.bool b,.slice a n c]) z):Cm w l (.returned (.tuple #[.agg #[.bool b,.slice a n c],.bool pt,.bool true])) w':=⟨d,b,a,n,c,pt,true,rfl,by rw[h];exact⟨rfl,rfl,e⟩⟩
theorem bP {X:Nat}{k:Nat}(h:Br X<=k):Br (X*10)<=k+1:=by
 have c:=Lh X 10;have d:Br 10<=1:=D0 rH;omega
theorem gU {X:Nat}:(X:Int)*10=((X*10:Nat):Int):=by omega
theorem Xp {w:World}(s:ByteArray)(hs:s.size<=402):Calls Tryz.prog 211 #[.string s] w (Cm w (dl s)):=by
 have Y:=Ax (lQ w);obtain⟨W1,s9⟩:∃W1,(w.alloc (.cells #[.bool false,.slice none 0 0] 79)).alloc (.cells #[.bool false,.slice none 0 0] 79)=W1:=⟨_,rfl⟩;rw[s9] at Y;have uT:=Ax s9;clear s9;have hO:∀V:World,Calls Tryz.prog 47 #[.int .i64 10] V (Fv V 10):=fun V=>J5 _ rH rH
 have HO:=Ax hO;clear hO;go_enter Tryz.func211,Tryz.ntmps211;go_upto_region 2 with fail
 rw[uT.out];obtain⟨uU,uV,_⟩:=A1 Y.out.x;obtain⟨ng,Z⟩:∃ng,decide ((dl s).head? =some 45)=ng:=⟨_,rfl⟩;cases ng with
 |true=>
  have hh:=of_decide_eq_true Z;have b8:0<s.size:=by rcases Nat.eq_zero_or_pos s.size with h|h;(have:=A5 s;rw[h] at this;rw[List.eq_nil_of_length_eq_zero this] at hh;cases hh);exact h
  have y8:s[0]=45:=by rw[Ku b8] at hh;exact Option.some.inj hh
  have d0:((s[0].toNat:Int)==45)=true:=by rw[y8];rfl
  obtain⟨b,hb⟩:∃b,(if(dl s).head? =some 45 then(dl s).tail else dl s)=b:=⟨_,rfl⟩;have T:b=(dl s).tail:=by rw[←hb,Ap hh]
  have HB:=Ax hb;have HBL:Hid (b.length=s.size - 1):=Ax (by rw[T,List.length_tail,A5]);have k:Hid (b.length<=402):=Ax sM;have U:Hid (∀j (hj:j<b.length) p (hp:p<s.size),p=1+j->b[j]=s[p]):=Ax (fun j hj p hp e=>by subst e;subst T;have:=Gc hp;rw[List.getElem_tail];rw[Ag (by rw[A5];omega)] at this;rw[←Option.some.inj this];congr 1;omega);have s8:Hid (1<=s.size):=Ax b8;have HH:Hid (decide ((dl s).head? =some 45)=true):=Ax Z;clear hb T hh y8 Z;go_upto_region 6 with fail
  have w7:Hid (C9 b 1 0 0 (-1)):=Ax (C9.start b 1)
  go_loopw [6,7] (fun v6 v7 wr=>∃(p X:Nat) (pt:Int) (a:Option Addr) (n c:Nat),v6= .int .i64 (p:Int)/\v7= .int .i64 pt/\1<=p/\p<=s.size/\ -1<=pt/\pt<=(s.size:Int)/\Hid (R2 w wr false (.slice a n c)/\Bm wr (.agg #[.bool false,.slice a n c]) (X:Int)/\C9 b 1 (p - 1) X pt)) (fun v6 _ _=>s.size - (intOf v6).toNat)
  case atStart=>exact⟨1,0,-1,none,0,0,rfl,rfl,Ak _,s8.out,by omega,by omega,Ax ⟨Y.out,St (m:=0) (by rw[D1];exact Ck.nil _),w7.out⟩⟩
  obtain⟨wo,rfl⟩:∃wo:World,wo=wr:=⟨_,rfl⟩;obtain⟨p,X,pt,a,n,c,rfl,rfl,uW,uX,y9,uR,hq⟩:=hrel;obtain⟨M,hX,hN⟩:=hq.out;have HA:=Ax M;have HX:=Ax hX;have C:=Ax hN;obtain⟨y0,y1,W⟩:=A1 M.x;obtain⟨z0,z1,N⟩:=A1 M.r;have zf0:=N 0;have zf1:=N 1;have yf0:=W 0;have yf1:=W 1;clear N W hq M hX hN;by_cases hgo:p<s.size
  ·have p0:decide ((p:Int)<(s.size:Int))=true:=Am rF;have q0:(0:Int)<=(p:Int):=by omega
   have q1:(p:Int)<(s.size:Int):=by omega
   have g:p - 1<b.length:=by rw[HBL.out];omega
   have hbj:b[p - 1]'g=s[p]:=U.out (p - 1) g p hgo rF;by_cases h46:s[p].toNat=46
   ·have d1:((s[p].toNat:Int)==46)=true:=beq_iff_eq.2 rF;have a8:s[p]=46:=Cd h46;have hdg:Bg s[p]=false:=by rw[a8];decide
    by_cases hpn:pt<0
    ·have d2:decide (pt<0)=true:=Am hpn;by_cases hpf:1<p
     ·have d3:decide ((1:Int)<(p:Int))=true:=Am rF;have D:=Ax (C.out.point g (by rw[hbj];exact a8) hpn rF);clear hdg a8 hbj;go_wp2_with fail;go_roundw
      case rel=>exact⟨p+1,X,(p:Int),a,n,c,by go_num,rfl,by omega,by omega,by omega,by omega,Ax ⟨HA.out,HX.out,by have:=D.out;rw[show p - 1+1=p+1 - 1 by omega,show((1+(p - 1):Nat):Int)=(p:Int) by omega] at this;exact this⟩⟩
      case measure=>simp [intOf]<;>omega
     have d3:decide ((1:Int)<(p:Int))=false:=An rF;have hbad:¬(s[p]=46/\pt<0/\0<p - 1):=fun h=>by have:=h.2.2;omega
     have d4:decide ((s[p].toNat:Int)<48)=true:=Am rF;have HNO:=Ax (C9.bad HB.out C.out g sL sR);have HF:=Ax (C5 HA.out HX.out);clear hdg hbad hbj;exact zzv
    have d2:decide (pt<0)=false:=An hpn;have hbad:¬(s[p]=46/\pt<0/\0<p - 1):=fun h=>by have:=h.2.1;omega
    have d4:decide ((s[p].toNat:Int)<48)=true:=Am rF;have HNO:=Ax (C9.bad HB.out C.out g sL sR);have HF:=Ax (C5 HA.out HX.out);clear hdg hbad hbj;exact zzv
   have d1:((s[p].toNat:Int)==46)=false:=Af.2 rF;have hbad:¬(s[p]=46/\pt<0/\0<p - 1):=fun h=>h46 (by rw[h.1];rfl)
   by_cases h48:s[p].toNat<48
   ·have hdg:Bg s[p]=false:=by unfold Bg;rw[An rF];rfl
    have d4:decide ((s[p].toNat:Int)<48)=true:=Am rF;have HNO:=Ax (C9.bad HB.out C.out g sL sR);have HF:=Ax (C5 HA.out HX.out);clear hdg hbad hbj;exact zzv
   have d4:decide ((s[p].toNat:Int)<48)=false:=An rF;by_cases h57:57<s[p].toNat
   ·have hdg:Bg s[p]=false:=by unfold Bg;rw[An (show ¬s[p].toNat<=57 by omega),Bool.and_false]
    have d5:decide ((57:Int)<(s[p].toNat:Int))=true:=Am rF;have HNO:=Ax (C9.bad HB.out C.out g sL sR);have HF:=Ax (C5 HA.out HX.out);clear hdg hbad hbj;exact zzv
   have d5:decide ((57:Int)<(s[p].toNat:Int))=false:=An rF;have hdg:Bg s[p]=true:=by unfold Bg;rw[Am rF,Am rF];rfl
   have D:=Ax (C.out.digit g sL);rw[hbj] at D;obtain⟨A,d8⟩:∃A,s[p].toNat - 48=A:=⟨_,rfl⟩;rw[d8] at D;have f7:A<10:=by omega
   have uY:IntKind.u8.wrap ((s[p].toNat:Int) - 48)=(A:Int):=by rw[show(s[p].toNat:Int) - 48=(A:Int) by omega];simp [IntKind.wrap,IntKind.signed,IntKind.bits];omega
   have uS:IntKind.i64.wrap (A:Int)=(A:Int):=IntWalk.i64_in _ rF;have HLX:=Ax (C.out.len k.out);have HD9:=Ax f7;obtain⟨wd,hwd⟩:∃wd,wo.drew=wd:=⟨_,rfl⟩;have hbd:Below wo.heap.size wo wd:=by rw[←hwd];exact(Aq _ _).drew
   have HBD:=Ax hbd;have HY:Hid (∀V,Below wd.heap.size wd V->V.cell? ⟨w.heap.size+1,0,none⟩=some (.bool false)/\V.cell? ⟨w.heap.size+1,1,none⟩=some (.slice a n c)):=Ax fun V hV=>⟨A4 hV (A4 hbd y0),A4 hV (A4 hbd y1)⟩
   clear hbd hbad hbj hdg d8 f7;go_wp2_with fail;refine wp_region_noPanic ?_;refine wp_region_held_drew (S:=fun _=>True) rG ?_ (fun hHeld=>?_)
   ·trivial
   rw[hwd];refine QH 3 ⟨some 57,_,_,_,_,_⟩ (h:=?_)
   try simp only[Act.put,Ac,Ad,Ae]
   refine QH 4 ⟨some 58,_,_,_,_,_⟩ (h:=?_)
   try simp only[Act.put,Ac,Ad,Ae]
   refine QH 5 ⟨some 59,_,_,_,_,_⟩ (h:=?_)
   try simp only[Act.put,Ac,Ad,Ae]
   refine QH 6 ⟨some 60,_,_,_,_,_⟩ (h:=?_)
   try simp only[Act.put,Ac,Ad,Ae]
   refine QH 7 ⟨some 61,_,_,_,_,_⟩ (h:=?_)
   try simp only[Act.put,Ac,Ad,Ae]
   have HMONO:=Ax (show ∀F∈[(fun v _=>v= .agg #[.bool false,.slice a n c]),Jb 10],∀v w w',F v w->Below w.heap.size w w'->F v w' from Ca (fun _ _ _ h _=>h)<|Ca (fun _ _ _ h hb=>h.below hb)<|J8);refine Em (Inv:=Mc wd.heap.size wd [(fun v _=>v= .agg #[.bool false,.slice a n c]),Jb 10] []) 2 [0,1] [some 54,some 55] [[],[]] [false,false] rG (fun _ _ _ _ _ h=>h) rG ?_ (Mc.start rfl rfl) ?_ ?_
   ·exact fun _ _ _ _=>trivial
   ·refine lt2 ?_ ?_
    ·exact zym
    rw[Ao rH];refine OneB.mk 1 ⟨some 55,_,_,_,_,_⟩ _ rfl rfl rfl rfl HMONO.out (Ak _) ?_;exact zzi
   intro u V hu hI;obtain⟨x0,x1,rfl⟩:=Ka hu;obtain⟨hbV,hzV,⟨f0,f1,_⟩,hDst⟩:=hI;have f0:=f0 rfl;have f1:=f1 rfl;clear hu HMONO;simp only[Bo,Act.put,Ac,Ad,Ae]
   (try dsimp only at f0)
   subst f0;have HBV:=Ax hbV;have HM:=Ax (L6 (x:=(X:Int)) (y:=10) (HX.out.below (HBD.out.trans (hbV.mono HBD.out.size))) f1 (by have:=HLX.out;rw[Int.natAbs_natCast];omega) tC);clear f1 hDst hbV;have hHeld:True:=trivial;refine wpAnyH_ready (rs:=[2]) rG rI ?_;refine AllReadyH.cons (o:=⟨some 56,_,_,_,_,_⟩) (rs:=[]) rfl (fun K hK=>?_) AllReadyH.nil
   go_simp
   go_at_call 127
   refine HM.out.mono ?_;rintro e V2 ⟨⟨v2,rfl,f8⟩,f9⟩;have O:=Ax (And.intro f8 f9);clear f8 f9
   try go_wp2_with fail
   clear hHeld;refine hK.out _ _ ?_ (fun hHeld=>?_)
   ·trivial
   clear hK K
   try simp only[Act.put,Ac,Ad,Ae]
   have i6:=Ax (J5 (w:=V2) (A:Int) rF uP);refine wpAnyH_ready (rs:=[8]) rG rI ?_;refine AllReadyH.cons (o:=⟨some 62,_,_,_,_,_⟩) (rs:=[]) rfl (fun K hK=>?_) AllReadyH.nil
   go_simp
   go_at_call 47
   refine i6.out.mono ?_;rintro e V3 ⟨⟨v3,rfl,i7⟩,j8⟩;have E:=Ax (And.intro i7 j8);clear i7 j8
   try go_wp2_with fail
   clear hHeld;refine hK.out _ _ ?_ (fun hHeld=>?_)
   ·trivial
   clear hK K
   try simp only[Act.put,Ac,Ad,Ae]
   have j9:=Ax (U3 (x:=(X:Int)*10) (y:=(A:Int)) (O.out.1.below E.out.2) E.out.1 uQ uH);refine wpAnyH_ready (rs:=[9]) rG rI ?_;refine AllReadyH.cons (o:=⟨some 63,_,_,_,_,_⟩) (rs:=[]) rfl (fun K hK=>?_) AllReadyH.nil
   go_simp
   go_at_call 191
   refine j9.out.mono ?_;rintro e V4 ⟨⟨v4,rfl,hv4⟩,hb4⟩;rw[show(X:Int)*10+(A:Int)=((X*10+A:Nat):Int) by omega] at hv4;obtain⟨a4,n4,c4,rfl,hd4⟩:=hv4.nat;have HM4:=Ax (And.intro hv4 hb4);clear hv4 hb4 hd4
   try go_wp2_with fail
   clear hHeld;refine hK.out _ _ ?_ (fun hHeld=>?_)
   ·trivial
   clear hK K
   try simp only[Act.put,Ac,Ad,Ae]
   have hb4:=HBD.out.trans ((HBV.out.trans ((O.out.2.trans ((E.out.2.trans (HM4.out.2.mono E.out.2.size)).mono O.out.2.size)).mono HBV.out.size)).mono HBD.out.size);have hA4:=HA.out.below hb4;obtain⟨g0,g1,gf⟩:=A1 hA4.x;have gf0:=gf 0;have gf1:=gf 1;have HNX:=Ax (Jv hA4 HM4.out.1);clear hb4 hA4 gf O E j9 HM i6 HM4;refine wpAnyH_ready (rs:=[10]) rG rI ?_;refine AllReadyH.cons (o:=⟨none,_,_,_,_,_⟩) (rs:=[]) rfl (fun K hK=>?_) AllReadyH.nil
   go_simp
   try go_wp2_with fail
   clear hHeld;refine hK.out _ _ ?_ (fun hHeld=>?_)
   ·trivial
   clear hK K
   try simp only[Act.put,Ac,Ad,Ae]
   refine wpAnyH_done rG ?_ _;refine NoPanic.normal ?_;go_wp2_with fail;go_roundw
   case rel=>exact⟨p+1,X*10+A,pt,a4,n4,c4,by go_num,rfl,by omega,by omega,by omega,by omega,Ax ⟨HNX.out.1,HNX.out.2,by have:=D.out;rw[show p - 1+1=p+1 - 1 by omega] at this;exact this⟩⟩
   case measure=>simp [intOf]<;>omega
  obtain rfl:p=s.size:=by omega
  have p0:decide ((s.size:Int)<(s.size:Int))=false:=An rF;have R:s.size - 1=b.length:=HBL.out.symm;rw[R] at C;by_cases hpn:pt<0
  ·have f:=C9.plain HB.out C.out hpn;rw[HH.out] at f;have hhd:=(show ∀h:1<s.size,b.head? =some s[1] from fun h=>by rw[List.head?_eq_getElem?,Ag sM,U.out 0 sM 1 h rF]);have G:Hid (s.size=1->E4 (dl s)=none):=Ax fun h=>by rw[f,Ap (Or.inl (List.eq_nil_of_length_eq_zero rF))]
   have I:Hid (∀h:1<s.size,s[1].toNat=48->2<s.size->E4 (dl s)=none):=Ax fun h h2 h3=>by rw[f,Ap (Or.inr ⟨by omega,by rw[hhd h,Cd h2];rfl⟩)]
   have HY:Hid (s.size≠1->∀h:1<s.size,¬(s[1].toNat=48/\2<s.size)->E4 (dl s)=some (Jj true X,false)):=Ax fun L h h2=>by
    rw[f,Ao];rintro (q|⟨q1,q2⟩)
    ·have q0:b.length=0:=by rw[q];rfl
     omega
    exact zxf
   have d9:decide ((0:Int)<=pt)=false:=An rF;have k8:pt= -1:=by omega
   subst k8;clear f hhd R hpn hgo;go_upto_region 22 with fail
   by_cases L:s.size=1
   ·have d1:((s.size:Int)==1)=true:=beq_iff_eq.2 rF;have HNO:=Ax (G.out L);have HF:=Ax (C5 HA.out HX.out);clear L;exact zzv
   have hF:1<s.size:=by omega
   have d1:((s.size:Int)==1)=false:=Af.2 rF;have q2:(1:Int)<(s.size:Int):=by omega
   by_cases h2:s[1].toNat=48
   ·have d2:((s[1].toNat:Int)==48)=true:=beq_iff_eq.2 rF;by_cases h3:2<s.size
    ·have d3:decide ((2:Int)<(s.size:Int))=true:=Am rF;have d4:decide (2<s.size)=true:=Am rF;have HNO:=Ax (I.out hF h2 h3);have HF:=Ax (C5 HA.out HX.out);exact zzv
    have d3:decide ((2:Int)<(s.size:Int))=false:=An rF;have d4:decide (2<s.size)=false:=An rF;have HYY:=Ax (HY.out L hF (fun h=>h3 h.2));exact zyy
   have d2:((s[1].toNat:Int)==48)=false:=Af.2 rF;have HYY:=Ax (HY.out L hF (fun h=>h2 h.1));exact zyy
  obtain⟨q,rfl⟩:∃q:Nat,pt=(q:Int):=⟨pt.toNat,by omega⟩;obtain⟨f,l7,b7⟩:=C9.pointed HB.out C.out rF;rw[HH.out] at f;have hhd:=(show ∀h:1<s.size,b.head? =some s[1] from fun h=>by rw[List.head?_eq_getElem?,Ag sM,U.out 0 sM 1 h rF]);rw[show((q:Int) - (1:Nat)).toNat=q - 1 by omega] at f l7 b7;rw[←R] at f b7;rw[show s.size - 1 - (q - 1+1)=s.size - q - 1 by omega] at f;have uZ:q<s.size:=by omega
  have vA:1<q:=by omega
  obtain⟨m,hm⟩:∃m,s.size - q - 1=m:=⟨_,rfl⟩;rw[hm] at f;have d9:decide ((0:Int)<=(q:Int))=true:=Am rF;have n9:(s.size:Int) - (q:Int) - 1=(m:Int):=by omega
  have HLX:=Ax (C.out.len k.out);have G:Hid (q=1->E4 (dl s)=none):=Ax fun h=>by omega
  have I:Hid (∀h:1<s.size,s[1].toNat=48->2<q->E4 (dl s)=none):=Ax fun h h2 h3=>by rw[f,Ap (Or.inr ⟨by omega,by rw[hhd h,Cd h2];rfl⟩)]
  have HY:Hid (1<=m->m<=4->q≠1->∀h:1<s.size,¬(s[1].toNat=48/\2<q)->E4 (dl s)=some (Jj true (X*10^(4 - m)),true)):=Ax fun h8 h9 L h h2=>by
   rw[f,Ao];rintro (q|⟨q1,q2⟩)
   ·omega
   exact zxf
  have p8:Hid (m<1->E4 (dl s)=none):=Ax fun h=>by rw[f,Ap (Or.inl (Or.inl h))]
  have r7:Hid (4<m->E4 (dl s)=none):=Ax fun h=>by rw[f,Ap (Or.inl (Or.inr h))]
  have w8:=Ax n9;have w9:m<=402:=by omega
  clear f hhd R hpn hgo l7 b7 hm;go_upto_region 17 with fail
  (try rw[w8.out])
  clear n9;by_cases hm1:m<1
  ·have d1:decide ((m:Int)<1)=true:=Am rF;have x8:decide (m<1)=true:=Am hm1;have HNO:=Ax (p8.out hm1);have HF:=Ax (C5 HA.out HX.out);exact zzv
  have d1:decide ((m:Int)<1)=false:=An rF;have x8:decide (m<1)=false:=An hm1;by_cases hm4:4<m
  ·have d2:decide ((4:Int)<(m:Int))=true:=Am rF;have x9:decide (4<m)=true:=Am hm4;have HNO:=Ax (r7.out hm4);have HF:=Ax (C5 HA.out HX.out);exact zzv
  have d2:decide ((4:Int)<(m:Int))=false:=An rF;have x9:decide (4<m)=false:=An hm4;clear p8 r7;go_upto_region 19 with fail
  go_loopw [11] (fun v11 wr=>∃(i:Nat) (a:Option Addr) (n c:Nat),v11= .int .i64 ((m:Int)+(i:Int))/\m+i<=4/\Hid (R2 w wr false (.slice a n c)/\Bm wr (.agg #[.bool false,.slice a n c]) ((X*10^i:Nat):Int)/\Br (X*10^i)<=102+i)) (fun v11 _=>4 - (intOf v11).toNat)
  case atStart=>exact⟨0,a,n,c,by first|rfl|(congr 1;omega)|congr 1,by omega,Ax ⟨HA.out,by rw[Nat.pow_zero,Nat.mul_one];exact HX.out,by rw[Nat.pow_zero,Nat.mul_one];exact HLX.out⟩⟩
  clear HA HX y0 y1 z0 z1 zf0 zf1 yf0 yf1;obtain⟨wp,rfl⟩:∃wp:World,wp=wr:=⟨_,rfl⟩;obtain⟨i,a,n,c,rfl,hi,hq⟩:=hrel;obtain⟨M,hX,r8⟩:=hq.out;have HA:=Ax M;have HX:=Ax hX;have HLi:=Ax r8;obtain⟨y0,y1,W⟩:=A1 M.x;obtain⟨z0,z1,N⟩:=A1 M.r;have zf0:=N 0;have zf1:=N 1;have yf0:=W 0;have yf1:=W 1;clear N W hq M hX r8;by_cases hlt:m+i<4
  ·exact zz3
  have r9:4 - m=i:=by omega
  rw[r9] at HY;have p1:decide ((m:Int)+(i:Int)<4)=false:=An rF;obtain⟨X2,s7⟩:∃X2,X*10^i=X2:=⟨_,rfl⟩;rw[s7] at HX HY;have HY:Hid (q≠1->∀h:1<s.size,¬(s[1].toNat=48/\2<q)->E4 (dl s)=some (Jj true X2,true)):=Ax (HY.out rF rF);clear s7 HLi r9 hlt;go_upto_region 22 with fail
  by_cases L:q=1
  ·have d1:((q:Int)==1)=true:=beq_iff_eq.2 rF;have HNO:=Ax (G.out L);have HF:=Ax (C5 HA.out HX.out);clear L;exact zzv
  have hF:1<s.size:=by omega
  have d1:((q:Int)==1)=false:=Af.2 rF;have q2:(1:Int)<(s.size:Int):=by omega
  by_cases h2:s[1].toNat=48
  ·have d2:((s[1].toNat:Int)==48)=true:=beq_iff_eq.2 rF;by_cases h3:2<q
   ·have d3:decide ((2:Int)<(q:Int))=true:=Am rF;have d4:decide (2<q)=true:=Am rF;have HNO:=Ax (I.out hF h2 h3);have HF:=Ax (C5 HA.out HX.out);exact zzv
   have d3:decide ((2:Int)<(q:Int))=false:=An rF;have d4:decide (2<q)=false:=An rF;have HYY:=Ax (HY.out L hF (fun h=>h3 h.2));exact zyx
  have d2:((s[1].toNat:Int)==48)=false:=Af.2 rF;have HYY:=Ax (HY.out L hF (fun h=>h2 h.1));exact zyx
 |false=>
  have hh:=of_decide_eq_false Z;obtain⟨b,hb⟩:∃b,(if(dl s).head? =some 45 then(dl s).tail else dl s)=b:=⟨_,rfl⟩;have T:b=dl s:=by rw[←hb,Ao hh]
  have HB:=Ax hb;have HBL:Hid (b.length=s.size - 0):=Ax (by rw[T,A5];rfl);have k:Hid (b.length<=402):=Ax sM;have U:Hid (∀j (hj:j<b.length) p (hp:p<s.size),p=0+j->b[j]=s[p]):=Ax (fun j hj p hp e=>by subst T;obtain rfl:p=j:=rF;have:=Gc hp;rw[Ag hj] at this;exact Option.some.inj this);have s8:Hid (0<=s.size):=Ax (Nat.zero_le _);have HH:Hid (decide ((dl s).head? =some 45)=false):=Ax Z;by_cases b8:0<s.size
  ·have d0:((s[0].toNat:Int)==45)=false:=Af.2 (fun e=>hh (by rw[Ku b8];congr 1;exact Cd (n:=45) rF));clear hb T hh Z;go_upto_region 6 with fail
   have w7:Hid (C9 b 0 0 0 (-1)):=Ax (C9.start b 0)
   go_loopw [6,7] (fun v6 v7 wr=>∃(p X:Nat) (pt:Int) (a:Option Addr) (n c:Nat),v6= .int .i64 (p:Int)/\v7= .int .i64 pt/\0<=p/\p<=s.size/\ -1<=pt/\pt<=(s.size:Int)/\Hid (R2 w wr false (.slice a n c)/\Bm wr (.agg #[.bool false,.slice a n c]) (X:Int)/\C9 b 0 (p - 0) X pt)) (fun v6 _ _=>s.size - (intOf v6).toNat)
   case atStart=>exact⟨0,0,-1,none,0,0,rfl,rfl,Ak _,s8.out,by omega,by omega,Ax ⟨Y.out,St (m:=0) (by rw[D1];exact Ck.nil _),w7.out⟩⟩
   obtain⟨wo,rfl⟩:∃wo:World,wo=wr:=⟨_,rfl⟩;obtain⟨p,X,pt,a,n,c,rfl,rfl,uW,uX,y9,uR,hq⟩:=hrel;obtain⟨M,hX,hN⟩:=hq.out;have HA:=Ax M;have HX:=Ax hX;have C:=Ax hN;obtain⟨y0,y1,W⟩:=A1 M.x;obtain⟨z0,z1,N⟩:=A1 M.r;have zf0:=N 0;have zf1:=N 1;have yf0:=W 0;have yf1:=W 1;clear N W hq M hX hN;by_cases hgo:p<s.size
   ·have p0:decide ((p:Int)<(s.size:Int))=true:=Am rF;have q0:(0:Int)<=(p:Int):=by omega
    have q1:(p:Int)<(s.size:Int):=by omega
    have g:p - 0<b.length:=by rw[HBL.out];omega
    have hbj:b[p - 0]'g=s[p]:=U.out (p - 0) g p hgo rF;by_cases h46:s[p].toNat=46
    ·have d1:((s[p].toNat:Int)==46)=true:=beq_iff_eq.2 rF;have a8:s[p]=46:=Cd h46;have hdg:Bg s[p]=false:=by rw[a8];decide
     by_cases hpn:pt<0
     ·have d2:decide (pt<0)=true:=Am hpn;by_cases hpf:0<p
      ·have d3:decide ((0:Int)<(p:Int))=true:=Am rF;have D:=Ax (C.out.point g (by rw[hbj];exact a8) hpn rF);clear hdg a8 hbj;go_wp2_with fail;go_roundw
       case rel=>exact⟨p+1,X,(p:Int),a,n,c,by go_num,rfl,by omega,by omega,by omega,by omega,Ax ⟨HA.out,HX.out,by have:=D.out;rw[show p - 0+1=p+1 - 0 by omega,show((0+(p - 0):Nat):Int)=(p:Int) by omega] at this;exact this⟩⟩
       case measure=>simp [intOf]<;>omega
      have d3:decide ((0:Int)<(p:Int))=false:=An rF;have hbad:¬(s[p]=46/\pt<0/\0<p - 0):=fun h=>by have:=h.2.2;omega
      have d4:decide ((s[p].toNat:Int)<48)=true:=Am rF;have HNO:=Ax (C9.bad HB.out C.out g sL sR);have HF:=Ax (C5 HA.out HX.out);clear hdg hbad hbj;exact zzv
     have d2:decide (pt<0)=false:=An hpn;have hbad:¬(s[p]=46/\pt<0/\0<p - 0):=fun h=>by have:=h.2.1;omega
     have d4:decide ((s[p].toNat:Int)<48)=true:=Am rF;have HNO:=Ax (C9.bad HB.out C.out g sL sR);have HF:=Ax (C5 HA.out HX.out);clear hdg hbad hbj;exact zzv
    have d1:((s[p].toNat:Int)==46)=false:=Af.2 rF;have hbad:¬(s[p]=46/\pt<0/\0<p - 0):=fun h=>h46 (by rw[h.1];rfl)
    by_cases h48:s[p].toNat<48
    ·have hdg:Bg s[p]=false:=by unfold Bg;rw[An rF];rfl
     have d4:decide ((s[p].toNat:Int)<48)=true:=Am rF;have HNO:=Ax (C9.bad HB.out C.out g sL sR);have HF:=Ax (C5 HA.out HX.out);clear hdg hbad hbj;exact zzv
    have d4:decide ((s[p].toNat:Int)<48)=false:=An rF;by_cases h57:57<s[p].toNat
    ·have hdg:Bg s[p]=false:=by unfold Bg;rw[An (show ¬s[p].toNat<=57 by omega),Bool.and_false]
     have d5:decide ((57:Int)<(s[p].toNat:Int))=true:=Am rF;have HNO:=Ax (C9.bad HB.out C.out g sL sR);have HF:=Ax (C5 HA.out HX.out);clear hdg hbad hbj;exact zzv
    have d5:decide ((57:Int)<(s[p].toNat:Int))=false:=An rF;have hdg:Bg s[p]=true:=by unfold Bg;rw[Am rF,Am rF];rfl
    have D:=Ax (C.out.digit g sL);rw[hbj] at D;obtain⟨A,d8⟩:∃A,s[p].toNat - 48=A:=⟨_,rfl⟩;rw[d8] at D;have f7:A<10:=by omega
    have uY:IntKind.u8.wrap ((s[p].toNat:Int) - 48)=(A:Int):=by rw[show(s[p].toNat:Int) - 48=(A:Int) by omega];simp [IntKind.wrap,IntKind.signed,IntKind.bits];omega
    have uS:IntKind.i64.wrap (A:Int)=(A:Int):=IntWalk.i64_in _ rF;have HLX:=Ax (C.out.len k.out);have HD9:=Ax f7;obtain⟨wd,hwd⟩:∃wd,wo.drew=wd:=⟨_,rfl⟩;have hbd:Below wo.heap.size wo wd:=by rw[←hwd];exact(Aq _ _).drew
    have HBD:=Ax hbd;have HY:Hid (∀V,Below wd.heap.size wd V->V.cell? ⟨w.heap.size+1,0,none⟩=some (.bool false)/\V.cell? ⟨w.heap.size+1,1,none⟩=some (.slice a n c)):=Ax fun V hV=>⟨A4 hV (A4 hbd y0),A4 hV (A4 hbd y1)⟩
    clear hbd hbad hbj hdg d8 f7;go_wp2_with fail;refine wp_region_noPanic ?_;refine wp_region_held_drew (S:=fun _=>True) rG ?_ (fun hHeld=>?_)
    ·trivial
    rw[hwd];refine QH 3 ⟨some 57,_,_,_,_,_⟩ (h:=?_)
    try simp only[Act.put,Ac,Ad,Ae]
    refine QH 4 ⟨some 58,_,_,_,_,_⟩ (h:=?_)
    try simp only[Act.put,Ac,Ad,Ae]
    refine QH 5 ⟨some 59,_,_,_,_,_⟩ (h:=?_)
    try simp only[Act.put,Ac,Ad,Ae]
    refine QH 6 ⟨some 60,_,_,_,_,_⟩ (h:=?_)
    try simp only[Act.put,Ac,Ad,Ae]
    refine QH 7 ⟨some 61,_,_,_,_,_⟩ (h:=?_)
    try simp only[Act.put,Ac,Ad,Ae]
    have HMONO:=Ax (show ∀F∈[(fun v _=>v= .agg #[.bool false,.slice a n c]),Jb 10],∀v w w',F v w->Below w.heap.size w w'->F v w' from Ca (fun _ _ _ h _=>h)<|Ca (fun _ _ _ h hb=>h.below hb)<|J8);refine Em (Inv:=Mc wd.heap.size wd [(fun v _=>v= .agg #[.bool false,.slice a n c]),Jb 10] []) 2 [0,1] [some 54,some 55] [[],[]] [false,false] rG (fun _ _ _ _ _ h=>h) rG ?_ (Mc.start rfl rfl) ?_ ?_
    ·exact fun _ _ _ _=>trivial
    ·refine lt2 ?_ ?_
     ·exact zym
     rw[Ao rH];refine OneB.mk 1 ⟨some 55,_,_,_,_,_⟩ _ rfl rfl rfl rfl HMONO.out (Ak _) ?_;exact zzi
    intro u V hu hI;obtain⟨x0,x1,rfl⟩:=Ka hu;obtain⟨hbV,hzV,⟨f0,f1,_⟩,hDst⟩:=hI;have f0:=f0 rfl;have f1:=f1 rfl;clear hu HMONO;simp only[Bo,Act.put,Ac,Ad,Ae]
    (try dsimp only at f0)
    subst f0;have HBV:=Ax hbV;have HM:=Ax (L6 (x:=(X:Int)) (y:=10) (HX.out.below (HBD.out.trans (hbV.mono HBD.out.size))) f1 (by have:=HLX.out;rw[Int.natAbs_natCast];omega) tC);clear f1 hDst hbV;have hHeld:True:=trivial;refine wpAnyH_ready (rs:=[2]) rG rI ?_;refine AllReadyH.cons (o:=⟨some 56,_,_,_,_,_⟩) (rs:=[]) rfl (fun K hK=>?_) AllReadyH.nil
    go_simp
    go_at_call 127
    refine HM.out.mono ?_;rintro e V2 ⟨⟨v2,rfl,f8⟩,f9⟩;have O:=Ax (And.intro f8 f9);clear f8 f9
    try go_wp2_with fail
    clear hHeld;refine hK.out _ _ ?_ (fun hHeld=>?_)
    ·trivial
    clear hK K
    try simp only[Act.put,Ac,Ad,Ae]
    have i6:=Ax (J5 (w:=V2) (A:Int) rF uP);refine wpAnyH_ready (rs:=[8]) rG rI ?_;refine AllReadyH.cons (o:=⟨some 62,_,_,_,_,_⟩) (rs:=[]) rfl (fun K hK=>?_) AllReadyH.nil
    go_simp
    go_at_call 47
    refine i6.out.mono ?_;rintro e V3 ⟨⟨v3,rfl,i7⟩,j8⟩;have E:=Ax (And.intro i7 j8);clear i7 j8
    try go_wp2_with fail
    clear hHeld;refine hK.out _ _ ?_ (fun hHeld=>?_)
    ·trivial
    clear hK K
    try simp only[Act.put,Ac,Ad,Ae]
    have j9:=Ax (U3 (x:=(X:Int)*10) (y:=(A:Int)) (O.out.1.below E.out.2) E.out.1 uQ uH);refine wpAnyH_ready (rs:=[9]) rG rI ?_;refine AllReadyH.cons (o:=⟨some 63,_,_,_,_,_⟩) (rs:=[]) rfl (fun K hK=>?_) AllReadyH.nil
    go_simp
    go_at_call 191
    refine j9.out.mono ?_;rintro e V4 ⟨⟨v4,rfl,hv4⟩,hb4⟩;rw[show(X:Int)*10+(A:Int)=((X*10+A:Nat):Int) by omega] at hv4;obtain⟨a4,n4,c4,rfl,hd4⟩:=hv4.nat;have HM4:=Ax (And.intro hv4 hb4);clear hv4 hb4 hd4
    try go_wp2_with fail
    clear hHeld;refine hK.out _ _ ?_ (fun hHeld=>?_)
    ·trivial
    clear hK K
    try simp only[Act.put,Ac,Ad,Ae]
    have hb4:=HBD.out.trans ((HBV.out.trans ((O.out.2.trans ((E.out.2.trans (HM4.out.2.mono E.out.2.size)).mono O.out.2.size)).mono HBV.out.size)).mono HBD.out.size);have hA4:=HA.out.below hb4;obtain⟨g0,g1,gf⟩:=A1 hA4.x;have gf0:=gf 0;have gf1:=gf 1;have HNX:=Ax (Jv hA4 HM4.out.1);clear hb4 hA4 gf O E j9 HM i6 HM4;refine wpAnyH_ready (rs:=[10]) rG rI ?_;refine AllReadyH.cons (o:=⟨none,_,_,_,_,_⟩) (rs:=[]) rfl (fun K hK=>?_) AllReadyH.nil
    go_simp
    try go_wp2_with fail
    clear hHeld;refine hK.out _ _ ?_ (fun hHeld=>?_)
    ·trivial
    clear hK K
    try simp only[Act.put,Ac,Ad,Ae]
    refine wpAnyH_done rG ?_ _;refine NoPanic.normal ?_;go_wp2_with fail;go_roundw
    case rel=>exact⟨p+1,X*10+A,pt,a4,n4,c4,by go_num,rfl,by omega,by omega,by omega,by omega,Ax ⟨HNX.out.1,HNX.out.2,by have:=D.out;rw[show p - 0+1=p+1 - 0 by omega] at this;exact this⟩⟩
    case measure=>simp [intOf]<;>omega
   obtain rfl:p=s.size:=by omega
   have p0:decide ((s.size:Int)<(s.size:Int))=false:=An rF;have R:s.size - 0=b.length:=HBL.out.symm;rw[R] at C;by_cases hpn:pt<0
   ·have f:=C9.plain HB.out C.out hpn;rw[HH.out] at f;have hhd:=(show ∀h:0<s.size,b.head? =some s[0] from fun h=>by rw[List.head?_eq_getElem?,Ag sM,U.out 0 sM 0 h rF]);have G:Hid (s.size=0->E4 (dl s)=none):=Ax fun h=>by rw[f,Ap (Or.inl (List.eq_nil_of_length_eq_zero rF))]
    have I:Hid (∀h:0<s.size,s[0].toNat=48->1<s.size->E4 (dl s)=none):=Ax fun h h2 h3=>by rw[f,Ap (Or.inr ⟨by omega,by rw[hhd h,Cd h2];rfl⟩)]
    have HY:Hid (s.size≠0->∀h:0<s.size,¬(s[0].toNat=48/\1<s.size)->E4 (dl s)=some (Jj false X,false)):=Ax fun L h h2=>by
     rw[f,Ao];rintro (q|⟨q1,q2⟩)
     ·have q0:b.length=0:=by rw[q];rfl
      omega
     exact zxf
    have d9:decide ((0:Int)<=pt)=false:=An rF;have k8:pt= -1:=by omega
    subst k8;clear f hhd R hpn hgo;go_upto_region 22 with fail
    by_cases L:s.size=0
    ·have d1:((s.size:Int)==0)=true:=beq_iff_eq.2 rF;have HNO:=Ax (G.out L);have HF:=Ax (C5 HA.out HX.out);clear L;exact zzv
    have hF:0<s.size:=by omega
    have d1:((s.size:Int)==0)=false:=Af.2 rF;have q2:(0:Int)<(s.size:Int):=by omega
    by_cases h2:s[0].toNat=48
    ·have d2:((s[0].toNat:Int)==48)=true:=beq_iff_eq.2 rF;by_cases h3:1<s.size
     ·have d3:decide ((1:Int)<(s.size:Int))=true:=Am rF;have d4:decide (1<s.size)=true:=Am rF;have HNO:=Ax (I.out hF h2 h3);have HF:=Ax (C5 HA.out HX.out);exact zzv
     have d3:decide ((1:Int)<(s.size:Int))=false:=An rF;have d4:decide (1<s.size)=false:=An rF;have HYY:=Ax (HY.out L hF (fun h=>h3 h.2));exact zwt
    have d2:((s[0].toNat:Int)==48)=false:=Af.2 rF;have HYY:=Ax (HY.out L hF (fun h=>h2 h.1));exact zwt
   obtain⟨q,rfl⟩:∃q:Nat,pt=(q:Int):=⟨pt.toNat,by omega⟩;obtain⟨f,l7,b7⟩:=C9.pointed HB.out C.out rF;rw[HH.out] at f;have hhd:=(show ∀h:0<s.size,b.head? =some s[0] from fun h=>by rw[List.head?_eq_getElem?,Ag sM,U.out 0 sM 0 h rF]);rw[show((q:Int) - (0:Nat)).toNat=q - 0 by omega] at f l7 b7;rw[←R] at f b7;rw[show s.size - 0 - (q - 0+1)=s.size - q - 1 by omega] at f;have uZ:q<s.size:=by omega
   have vA:0<q:=by omega
   obtain⟨m,hm⟩:∃m,s.size - q - 1=m:=⟨_,rfl⟩;rw[hm] at f;have d9:decide ((0:Int)<=(q:Int))=true:=Am rF;have n9:(s.size:Int) - (q:Int) - 1=(m:Int):=by omega
   have HLX:=Ax (C.out.len k.out);have G:Hid (q=0->E4 (dl s)=none):=Ax fun h=>by omega
   have I:Hid (∀h:0<s.size,s[0].toNat=48->1<q->E4 (dl s)=none):=Ax fun h h2 h3=>by rw[f,Ap (Or.inr ⟨by omega,by rw[hhd h,Cd h2];rfl⟩)]
   have HY:Hid (1<=m->m<=4->q≠0->∀h:0<s.size,¬(s[0].toNat=48/\1<q)->E4 (dl s)=some (Jj false (X*10^(4 - m)),true)):=Ax fun h8 h9 L h h2=>by
    rw[f,Ao];rintro (q|⟨q1,q2⟩)
    ·omega
    exact zxf
   have p8:Hid (m<1->E4 (dl s)=none):=Ax fun h=>by rw[f,Ap (Or.inl (Or.inl h))]
   have r7:Hid (4<m->E4 (dl s)=none):=Ax fun h=>by rw[f,Ap (Or.inl (Or.inr h))]
   have w8:=Ax n9;have w9:m<=402:=by omega
   clear f hhd R hpn hgo l7 b7 hm;go_upto_region 17 with fail
   (try rw[w8.out])
   clear n9;by_cases hm1:m<1
   ·have d1:decide ((m:Int)<1)=true:=Am rF;have x8:decide (m<1)=true:=Am hm1;have HNO:=Ax (p8.out hm1);have HF:=Ax (C5 HA.out HX.out);exact zzv
   have d1:decide ((m:Int)<1)=false:=An rF;have x8:decide (m<1)=false:=An hm1;by_cases hm4:4<m
   ·have d2:decide ((4:Int)<(m:Int))=true:=Am rF;have x9:decide (4<m)=true:=Am hm4;have HNO:=Ax (r7.out hm4);have HF:=Ax (C5 HA.out HX.out);exact zzv
   have d2:decide ((4:Int)<(m:Int))=false:=An rF;have x9:decide (4<m)=false:=An hm4;clear p8 r7;go_upto_region 19 with fail
   go_loopw [11] (fun v11 wr=>∃(i:Nat) (a:Option Addr) (n c:Nat),v11= .int .i64 ((m:Int)+(i:Int))/\m+i<=4/\Hid (R2 w wr false (.slice a n c)/\Bm wr (.agg #[.bool false,.slice a n c]) ((X*10^i:Nat):Int)/\Br (X*10^i)<=102+i)) (fun v11 _=>4 - (intOf v11).toNat)
   case atStart=>exact⟨0,a,n,c,by first|rfl|(congr 1;omega)|congr 1,by omega,Ax ⟨HA.out,by rw[Nat.pow_zero,Nat.mul_one];exact HX.out,by rw[Nat.pow_zero,Nat.mul_one];exact HLX.out⟩⟩
   clear HA HX y0 y1 z0 z1 zf0 zf1 yf0 yf1;obtain⟨wp,rfl⟩:∃wp:World,wp=wr:=⟨_,rfl⟩;obtain⟨i,a,n,c,rfl,hi,hq⟩:=hrel;obtain⟨M,hX,r8⟩:=hq.out;have HA:=Ax M;have HX:=Ax hX;have HLi:=Ax r8;obtain⟨y0,y1,W⟩:=A1 M.x;obtain⟨z0,z1,N⟩:=A1 M.r;have zf0:=N 0;have zf1:=N 1;have yf0:=W 0;have yf1:=W 1;clear N W hq M hX r8;by_cases hlt:m+i<4
   ·exact zz3
   have r9:4 - m=i:=by omega
   rw[r9] at HY;have p1:decide ((m:Int)+(i:Int)<4)=false:=An rF;obtain⟨X2,s7⟩:∃X2,X*10^i=X2:=⟨_,rfl⟩;rw[s7] at HX HY;have HY:Hid (q≠0->∀h:0<s.size,¬(s[0].toNat=48/\1<q)->E4 (dl s)=some (Jj false X2,true)):=Ax (HY.out rF rF);clear s7 HLi r9 hlt;go_upto_region 22 with fail
   by_cases L:q=0
   ·have d1:((q:Int)==0)=true:=beq_iff_eq.2 rF;have HNO:=Ax (G.out L);have HF:=Ax (C5 HA.out HX.out);clear L;exact zzv
   have hF:0<s.size:=by omega
   have d1:((q:Int)==0)=false:=Af.2 rF;have q2:(0:Int)<(s.size:Int):=by omega
   by_cases h2:s[0].toNat=48
   ·have d2:((s[0].toNat:Int)==48)=true:=beq_iff_eq.2 rF;by_cases h3:1<q
    ·have d3:decide ((1:Int)<(q:Int))=true:=Am rF;have d4:decide (1<q)=true:=Am rF;have HNO:=Ax (I.out hF h2 h3);have HF:=Ax (C5 HA.out HX.out);exact zzv
    have d3:decide ((1:Int)<(q:Int))=false:=An rF;have d4:decide (1<q)=false:=An rF;have HYY:=Ax (HY.out L hF (fun h=>h3 h.2));exact zws
   have d2:((s[0].toNat:Int)==48)=false:=Af.2 rF;have HYY:=Ax (HY.out L hF (fun h=>h2 h.1));exact zws
  obtain rfl:s=⟨#[]⟩:=Ch (List.eq_nil_of_length_eq_zero (by rw[A5];omega));have HNO:=Ax (show E4 (dl (⟨#[]⟩:ByteArray))=none from rfl);have d0:decide (0<(⟨#[]⟩:ByteArray).size)=false:=by decide
  clear hb T hh Z b8 HB HBL k U s8 HH hs;go_upto_region 6 with fail
  go_loopw [6,7] (fun v6 v7 wr=>v6= .int .i64 0/\v7= .int .i64 (-1)/\wr=W1) (fun _ _ _=>0)
  case atStart=>exact⟨rfl,rfl,rfl⟩
  obtain⟨rfl,rfl,rfl⟩:=hrel;obtain⟨y0,y1,W⟩:=A1 Y.out.x;obtain⟨z0,z1,N⟩:=A1 Y.out.r;have zf0:=N 0;have zf1:=N 1;clear N W uU uV;have HF:=Ax (C5 (z:=0) Y.out (St (m:=0) (by rw[D1];exact Ck.nil _)));go_wp2_with fail;exact Au (v:= .tuple #[.agg #[.bool false,.slice none 0 0],.bool false,.bool false]) rJ rfl (Cm.no HF.out.1 HNO.out)
end Go.Proofs.YtgfakdobajgnfaaGreatDoor
