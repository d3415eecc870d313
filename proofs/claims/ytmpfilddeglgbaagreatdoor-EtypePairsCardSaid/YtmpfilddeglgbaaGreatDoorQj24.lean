import Derived.Test.YtmpfilddeglgbaaGreatDoorQj23
set_option maxRecDepth 100000
set_option maxHeartbeats 16000000
namespace Go.Proofs.YtmpfilddeglgbaaGreatDoor
open Go Go.RowKit Go.Lib
structure S2 (w wr:World)(b:Bool)(sl:Value):Prop where
 r:wr.heap[w.heap.size]? =some (.cells #[.bool false,.slice none 0 0] 208 (0,0))
 x:wr.heap[w.heap.size+1]? =some (.cells #[.bool b,sl] 208 (0,0))
 bel:Below w.heap.size w wr
theorem S2.below {w wr V:World}{b:Bool}{sl:Value}(h:S2 w wr b sl)(hb:Below wr.heap.size wr V):S2 w V b sl:=
 ⟨(hb.block _ (Bu h.r)).trans h.r,(hb.block _ (Bu h.x)).trans h.x,h.bel.trans (hb.mono h.bel.size)⟩
theorem mQ (w:World):S2 w ((w.alloc (.cells #[.bool false,.slice none 0 0] 208)).alloc (.cells #[.bool false,.slice none 0 0] 208)) false (.slice none 0 0):=by
 refine⟨?_,?_,((Aq _ _).alloc (Ak _) _).alloc tH _⟩
 ·rw[Below.heap_alloc _ _ _ tH];exact A1 _ _
 have:=A1 (w.alloc (.cells #[.bool false,.slice none 0 0] 208)) (.cells #[.bool false,.slice none 0 0] 208)
 simpa using this
theorem Ko {w V:World}{b b4:Bool}{a a4:Option Addr}{n c n4 c4:Nat}{z:Int}(h:S2 w V b (.slice a n c))(h4:Bn V (.agg #[.bool b4,.slice a4 n4 c4]) z):
 S2 w ((V.setCell ⟨w.heap.size+1,0,none⟩ (.bool b4)).setCell ⟨w.heap.size+1,1,none⟩ (.slice a4 n4 c4)) b4 (.slice a4 n4 c4)/\Bn ((V.setCell ⟨w.heap.size+1,0,none⟩ (.bool b4)).setCell ⟨w.heap.size+1,1,none⟩ (.slice a4 n4 c4)) (.agg #[.bool b4,.slice a4 n4 c4]) z:=by
 have h1:=A2 (i:=1) (u:= .slice a4 n4 c4) (A2 (i:=0) (u:= .bool b4) h.x);have o1:Bc [w.heap.size+1] V ((V.setCell ⟨w.heap.size+1,0,none⟩ (.bool b4)).setCell ⟨w.heap.size+1,1,none⟩ (.slice a4 n4 c4)):=((Bc.refl _ _).setCell (.inl tH) _).setCell (.inl tH) _;refine⟨⟨(o1.block _ (Bu h.r) tH).trans h.r,h1,(h.bel.setCell tH _).setCell tH _⟩,h4.store h.x _ _⟩
theorem C7 {w V:World}{b b4:Bool}{sl:Value}{a4:Option Addr}{n4 c4:Nat}{z:Int}(h:S2 w V b sl)(h4:Bn V (.agg #[.bool b4,.slice a4 n4 c4]) z):
 Below w.heap.size w ((V.setCell ⟨w.heap.size,0,none⟩ (.bool b4)).setCell ⟨w.heap.size,1,none⟩ (.slice a4 n4 c4))/\Bn ((V.setCell ⟨w.heap.size,0,none⟩ (.bool b4)).setCell ⟨w.heap.size,1,none⟩ (.slice a4 n4 c4)) (.agg #[.bool b4,.slice a4 n4 c4]) z:=
 ⟨(h.bel.setCell tH _).setCell tH _,h4.store h.r _ _⟩
def Cs (w:World)(l:List UInt8)(e:Ending)(w':World):Prop:=Below w.heap.size w w'/\∃(b:Bool) (a:Option Addr) (n c:Nat) (pt ok:Bool),e= .returned (.tuple #[.agg #[.bool b,.slice a n c],.bool pt,.bool ok])/\(match Fk l with
 |none=>ok=false
 |some z=>ok=true/\pt=z.2/\Bn w' (.agg #[.bool b,.slice a n c]) z.1)
theorem Cs.no {w w':World}{l:List UInt8}{b:Bool}{a:Option Addr}{n c:Nat}{pt:Bool}(hb:Below w.heap.size w w')(h:Fk l=none):Cs w l (.returned (.tuple #[.agg #[.bool b,.slice a n c],.bool pt,.bool false])) w':=⟨hb,b,a,n,c,pt,false,rfl,by rw[h]⟩
theorem Cs.yes {w w':World}{l:List UInt8}{b:Bool}{a:Option Addr}{n c:Nat}{z:Int}{pt:Bool}(hb:Below w.heap.size w w')(h:Fk l=some (z,pt))(hv:Bn w' (.agg #[.bool b,.slice a n c]) z):Cs w l (.returned (.tuple #[.agg #[.bool b,.slice a n c],.bool pt,.bool true])) w':=⟨hb,b,a,n,c,pt,true,rfl,by rw[h];exact⟨rfl,rfl,hv⟩⟩
theorem eN {X:Nat}{k:Nat}(h:Bw X<=k):Bw (X*10)<=k+1:=by
 have h1:=Nb X 10;have h2:Bw 10<=1:=D7 tG;omega
theorem jP {X:Nat}:(X:Int)*10=((X*10:Nat):Int):=by omega
theorem Zi {w:World}(s:ByteArray)(hs:s.size<=402):Calls Tryz.prog 147 #[.string s] w (Cs w (dl s)):=by
 have HN0:=Ax (mQ w);obtain⟨W1,hW1⟩:∃W1,(w.alloc (.cells #[.bool false,.slice none 0 0] 208)).alloc (.cells #[.bool false,.slice none 0 0] 208)=W1:=⟨_,rfl⟩;rw[hW1] at HN0;have HW1:=Ax hW1;clear hW1;have hO:∀V:World,Calls Tryz.prog 134 #[.int .i64 10] V (Gh V 10):=fun V=>Kv _ tG tG
 have HO:=Ax hO;clear hO;go_enter Tryz.func147,Tryz.ntmps147;go_upto_region 2 with fail
 rw[HW1.out];obtain⟨hx0,hx1,_⟩:=A0 HN0.out.x;obtain⟨ng,hng⟩:∃ng,decide ((dl s).head? =some 45)=ng:=⟨_,rfl⟩;cases ng with
 |true=>
  have hh:=of_decide_eq_true hng;have hsz:0<s.size:=by rcases Nat.eq_zero_or_pos s.size with h|h;(have:=A4 s;rw[h] at this;rw[List.eq_nil_of_length_eq_zero this] at hh;cases hh);exact h
  have h45:s[0]=45:=by rw[Lp hsz] at hh;exact Option.some.inj hh
  have d0:((s[0].toNat:Int)==45)=true:=by rw[h45];rfl
  obtain⟨b,hb⟩:∃b,(if(dl s).head? =some 45 then(dl s).tail else dl s)=b:=⟨_,rfl⟩;have hbt:b=(dl s).tail:=by rw[←hb,Ap hh]
  have HB:=Ax hb;have HBL:Hid (b.length=s.size - 1):=Ax (by rw[hbt,List.length_tail,A4]);have HB402:Hid (b.length<=402):=Ax uM;have HBG:Hid (∀j (hj:j<b.length) p (hp:p<s.size),p=1+j->b[j]=s[p]):=Ax (fun j hj p hp e=>by subst e;subst hbt;have:=Gw hp;rw[List.getElem_tail];rw[Ag (by rw[A4];omega)] at this;rw[←Option.some.inj this];congr 1;omega);have HSZ:Hid (1<=s.size):=Ax hsz;have HH:Hid (decide ((dl s).head? =some 45)=true):=Ax hng;clear hb hbt hh h45 hng;go_upto_region 6 with fail
  have HNP:Hid (Db b 1 0 0 (-1)):=Ax (Db.start b 1)
  go_loopw [6,7] (fun v6 v7 wr=>∃(p X:Nat) (pt:Int) (a:Option Addr) (n c:Nat),v6= .int .i64 (p:Int)/\v7= .int .i64 pt/\1<=p/\p<=s.size/\ -1<=pt/\pt<=(s.size:Int)/\Hid (S2 w wr false (.slice a n c)/\Bn wr (.agg #[.bool false,.slice a n c]) (X:Int)/\Db b 1 (p - 1) X pt)) (fun v6 _ _=>s.size - (intOf v6).toNat)
  case atStart=>exact⟨1,0,-1,none,0,0,rfl,rfl,Ak _,HSZ.out,by omega,by omega,Ax ⟨HN0.out,T7 (m:=0) (by rw[Ed];exact Cp.nil _),HNP.out⟩⟩
  obtain⟨wo,rfl⟩:∃wo:World,wo=wr:=⟨_,rfl⟩;obtain⟨p,X,pt,a,n,c,rfl,rfl,hfp,hps,hpt1,hpt2,hq⟩:=hrel;obtain⟨hA,hX,hN⟩:=hq.out;have HA:=Ax hA;have HX:=Ax hX;have HN:=Ax hN;obtain⟨y0,y1,yf⟩:=A0 hA.x;obtain⟨z0,z1,zf⟩:=A0 hA.r;have zf0:=zf 0;have zf1:=zf 1;have yf0:=yf 0;have yf1:=yf 1;clear zf yf hq hA hX hN;by_cases hgo:p<s.size
  ·have p0:decide ((p:Int)<(s.size:Int))=true:=Am tE;have q0:(0:Int)<=(p:Int):=by omega
   have q1:(p:Int)<(s.size:Int):=by omega
   have hjb:p - 1<b.length:=by rw[HBL.out];omega
   have hbj:b[p - 1]'hjb=s[p]:=HBG.out (p - 1) hjb p hgo tE;by_cases h46:s[p].toNat=46
   ·have d1:((s[p].toNat:Int)==46)=true:=beq_iff_eq.2 tE;have e46:s[p]=46:=Ci h46;have hdg:Bb s[p]=false:=by rw[e46];decide
    by_cases hpn:pt<0
    ·have d2:decide (pt<0)=true:=Am hpn;by_cases hpf:1<p
     ·have d3:decide ((1:Int)<(p:Int))=true:=Am tE;have HN2:=Ax (HN.out.point hjb (by rw[hbj];exact e46) hpn tE);clear hdg e46 hbj;go_wp2_with fail;go_roundw
      case rel=>exact⟨p+1,X,(p:Int),a,n,c,by go_num,rfl,by omega,by omega,by omega,by omega,Ax ⟨HA.out,HX.out,by have:=HN2.out;rw[show p - 1+1=p+1 - 1 by omega,show((1+(p - 1):Nat):Int)=(p:Int) by omega] at this;exact this⟩⟩
      case measure=>simp [intOf]<;>omega
     have d3:decide ((1:Int)<(p:Int))=false:=An tE;have hbad:¬(s[p]=46/\pt<0/\0<p - 1):=fun h=>by have:=h.2.2;omega
     have d4:decide ((s[p].toNat:Int)<48)=true:=Am tE;have HNO:=Ax (Db.bad HB.out HN.out hjb uL uR);have HF:=Ax (C7 HA.out HX.out);clear hdg hbad hbj;exact zzx
    have d2:decide (pt<0)=false:=An hpn;have hbad:¬(s[p]=46/\pt<0/\0<p - 1):=fun h=>by have:=h.2.1;omega
    have d4:decide ((s[p].toNat:Int)<48)=true:=Am tE;have HNO:=Ax (Db.bad HB.out HN.out hjb uL uR);have HF:=Ax (C7 HA.out HX.out);clear hdg hbad hbj;exact zzx
   have d1:((s[p].toNat:Int)==46)=false:=Af.2 tE;have hbad:¬(s[p]=46/\pt<0/\0<p - 1):=fun h=>h46 (by rw[h.1];rfl)
   by_cases h48:s[p].toNat<48
   ·have hdg:Bb s[p]=false:=by unfold Bb;rw[An tE];rfl
    have d4:decide ((s[p].toNat:Int)<48)=true:=Am tE;have HNO:=Ax (Db.bad HB.out HN.out hjb uL uR);have HF:=Ax (C7 HA.out HX.out);clear hdg hbad hbj;exact zzx
   have d4:decide ((s[p].toNat:Int)<48)=false:=An tE;by_cases h57:57<s[p].toNat
   ·have hdg:Bb s[p]=false:=by unfold Bb;rw[An (show ¬s[p].toNat<=57 by omega),Bool.and_false]
    have d5:decide ((57:Int)<(s[p].toNat:Int))=true:=Am tE;have HNO:=Ax (Db.bad HB.out HN.out hjb uL uR);have HF:=Ax (C7 HA.out HX.out);clear hdg hbad hbj;exact zzx
   have d5:decide ((57:Int)<(s[p].toNat:Int))=false:=An tE;have hdg:Bb s[p]=true:=by unfold Bb;rw[Am tE,Am tE];rfl
   have HN2:=Ax (HN.out.digit hjb uL);rw[hbj] at HN2;obtain⟨dd,hdd⟩:∃dd,s[p].toNat - 48=dd:=⟨_,rfl⟩;rw[hdd] at HN2;have hd9:dd<10:=by omega
   have hw8:IntKind.u8.wrap ((s[p].toNat:Int) - 48)=(dd:Int):=by rw[show(s[p].toNat:Int) - 48=(dd:Int) by omega];simp [IntKind.wrap,IntKind.signed,IntKind.bits];omega
   have hw64:IntKind.i64.wrap (dd:Int)=(dd:Int):=IntWalk.i64_in _ tE;have HLX:=Ax (HN.out.len HB402.out);have HD9:=Ax hd9;obtain⟨wd,hwd⟩:∃wd,wo.drew=wd:=⟨_,rfl⟩;have hbd:Below wo.heap.size wo wd:=by rw[←hwd];exact(Aq _ _).drew
   have HBD:=Ax hbd;have HY:Hid (∀V,Below wd.heap.size wd V->V.cell? ⟨w.heap.size+1,0,none⟩=some (.bool false)/\V.cell? ⟨w.heap.size+1,1,none⟩=some (.slice a n c)):=Ax fun V hV=>⟨Ba hV (Ba hbd y0),Ba hV (Ba hbd y1)⟩
   clear hbd hbad hbj hdg hdd hd9;go_wp2_with fail;refine wp_region_noPanic ?_;refine wp_region_held_drew (S:=fun _=>True) tF ?_ (fun hHeld=>?_)
   ·trivial
   rw[hwd];refine QH 3 ⟨some 57,_,_,_,_,_⟩ (h:=?_)
   try simp only[Act.put,Ac,Ad,Ae]
   refine QH 4 ⟨some 58,_,_,_,_,_⟩ (h:=?_)
   try simp only[Act.put,Ac,Ad,Ae]
   refine QH 5 ⟨some 59,_,_,_,_,_⟩ (h:=?_)
   try simp only[Act.put,Ac,Ad,Ae]
   refine QH 6 ⟨some 60,_,_,_,_,_⟩ (h:=?_)
   try simp only[Act.put,Ac,Ad,Ae]
   refine QH 7 ⟨some 61,_,_,_,_,_⟩ (h:=?_)
   try simp only[Act.put,Ac,Ad,Ae]
   have HMONO:=Ax (show ∀F∈[(fun v _=>v= .agg #[.bool false,.slice a n c]),J4 10],∀v w w',F v w->Below w.heap.size w w'->F v w' from Ce (fun _ _ _ h _=>h)<|Ce (fun _ _ _ h hb=>h.below hb)<|La);refine E4 (Inv:=N0 wd.heap.size wd [(fun v _=>v= .agg #[.bool false,.slice a n c]),J4 10] []) 2 [0,1] [some 54,some 55] [[],[]] [false,false] tF (fun _ _ _ _ _ h=>h) tF ?_ (N0.start rfl rfl) ?_ ?_
   ·exact fun _ _ _ _=>trivial
   ·refine lt2 ?_ ?_
    ·exact zyv
    rw[Ao tG];refine OneB.mk 1 ⟨some 55,_,_,_,_,_⟩ _ rfl rfl rfl rfl HMONO.out (Ak _) ?_;exact zzk
   intro u V hu hI;obtain⟨x0,x1,rfl⟩:=Lh hu;obtain⟨hbV,hzV,⟨f0,f1,_⟩,hDst⟩:=hI;have f0:=f0 rfl;have f1:=f1 rfl;clear hu HMONO;simp only[Bt,Act.put,Ac,Ad,Ae]
   (try dsimp only at f0)
   subst f0;have HBV:=Ax hbV;have HM:=Ax (Ny (x:=(X:Int)) (y:=10) (HX.out.below (HBD.out.trans (hbV.mono HBD.out.size))) f1 (by have:=HLX.out;rw[Int.natAbs_natCast];omega) vC);clear f1 hDst hbV;have hHeld:True:=trivial;refine wpAnyH_ready (rs:=[2]) tF tH ?_;refine AllReadyH.cons (o:=⟨some 56,_,_,_,_,_⟩) (rs:=[]) rfl (fun K hK=>?_) AllReadyH.nil
   go_simp
   go_at_call 186
   refine HM.out.mono ?_;rintro e V2 ⟨⟨v2,rfl,hv2⟩,hb2⟩;have HM2:=Ax (And.intro hv2 hb2);clear hv2 hb2
   try go_wp2_with fail
   clear hHeld;refine hK.out _ _ ?_ (fun hHeld=>?_)
   ·trivial
   clear hK K
   try simp only[Act.put,Ac,Ad,Ae]
   have HO2:=Ax (Kv (w:=V2) (dd:Int) tE wL);refine wpAnyH_ready (rs:=[8]) tF tH ?_;refine AllReadyH.cons (o:=⟨some 62,_,_,_,_,_⟩) (rs:=[]) rfl (fun K hK=>?_) AllReadyH.nil
   go_simp
   go_at_call 134
   refine HO2.out.mono ?_;rintro e V3 ⟨⟨v3,rfl,hv3⟩,hb3⟩;have HM3:=Ax (And.intro hv3 hb3);clear hv3 hb3
   try go_wp2_with fail
   clear hHeld;refine hK.out _ _ ?_ (fun hHeld=>?_)
   ·trivial
   clear hK K
   try simp only[Act.put,Ac,Ad,Ae]
   have HA3:=Ax (Xh (x:=(X:Int)*10) (y:=(dd:Int)) (HM2.out.1.below HM3.out.2) HM3.out.1 wM wD);refine wpAnyH_ready (rs:=[9]) tF tH ?_;refine AllReadyH.cons (o:=⟨some 63,_,_,_,_,_⟩) (rs:=[]) rfl (fun K hK=>?_) AllReadyH.nil
   go_simp
   go_at_call 185
   refine HA3.out.mono ?_;rintro e V4 ⟨⟨v4,rfl,hv4⟩,hb4⟩;rw[show(X:Int)*10+(dd:Int)=((X*10+dd:Nat):Int) by omega] at hv4;obtain⟨a4,n4,c4,rfl,hd4⟩:=hv4.nat;have HM4:=Ax (And.intro hv4 hb4);clear hv4 hb4 hd4
   try go_wp2_with fail
   clear hHeld;refine hK.out _ _ ?_ (fun hHeld=>?_)
   ·trivial
   clear hK K
   try simp only[Act.put,Ac,Ad,Ae]
   have hb4:=HBD.out.trans ((HBV.out.trans ((HM2.out.2.trans ((HM3.out.2.trans (HM4.out.2.mono HM3.out.2.size)).mono HM2.out.2.size)).mono HBV.out.size)).mono HBD.out.size);have hA4:=HA.out.below hb4;obtain⟨g0,g1,gf⟩:=A0 hA4.x;have gf0:=gf 0;have gf1:=gf 1;have HNX:=Ax (Ko hA4 HM4.out.1);clear hb4 hA4 gf HM2 HM3 HA3 HM HO2 HM4;refine wpAnyH_ready (rs:=[10]) tF tH ?_;refine AllReadyH.cons (o:=⟨none,_,_,_,_,_⟩) (rs:=[]) rfl (fun K hK=>?_) AllReadyH.nil
   go_simp
   try go_wp2_with fail
   clear hHeld;refine hK.out _ _ ?_ (fun hHeld=>?_)
   ·trivial
   clear hK K
   try simp only[Act.put,Ac,Ad,Ae]
   refine wpAnyH_done tF ?_ _;refine NoPanic.normal ?_;go_wp2_with fail;go_roundw
   case rel=>exact⟨p+1,X*10+dd,pt,a4,n4,c4,by go_num,rfl,by omega,by omega,by omega,by omega,Ax ⟨HNX.out.1,HNX.out.2,by have:=HN2.out;rw[show p - 1+1=p+1 - 1 by omega] at this;exact this⟩⟩
   case measure=>simp [intOf]<;>omega
  obtain rfl:p=s.size:=by omega
  have p0:decide ((s.size:Int)<(s.size:Int))=false:=An tE;have hbs:s.size - 1=b.length:=HBL.out.symm;rw[hbs] at HN;by_cases hpn:pt<0
  ·have hpl:=Db.plain HB.out HN.out hpn;rw[HH.out] at hpl;have hhd:=(show ∀h:1<s.size,b.head? =some s[1] from fun h=>by rw[List.head?_eq_getElem?,Ag uM,HBG.out 0 uM 1 h tE]);have HNOa:Hid (s.size=1->Fk (dl s)=none):=Ax fun h=>by rw[hpl,Ap (Or.inl (List.eq_nil_of_length_eq_zero tE))]
   have HNOb:Hid (∀h:1<s.size,s[1].toNat=48->2<s.size->Fk (dl s)=none):=Ax fun h h2 h3=>by rw[hpl,Ap (Or.inr ⟨by omega,by rw[hhd h,Ci h2];rfl⟩)]
   have HY:Hid (s.size≠1->∀h:1<s.size,¬(s[1].toNat=48/\2<s.size)->Fk (dl s)=some (Ka true X,false)):=Ax fun h1 h h2=>by
    rw[hpl,Ao];rintro (q|⟨q1,q2⟩)
    ·have q0:b.length=0:=by rw[q];rfl
     omega
    exact zxv
   have d9:decide ((0:Int)<=pt)=false:=An tE;have hpn1:pt= -1:=by omega
   subst hpn1;clear hpl hhd hbs hpn hgo;go_upto_region 22 with fail
   by_cases h1:s.size=1
   ·have d1:((s.size:Int)==1)=true:=beq_iff_eq.2 tE;have HNO:=Ax (HNOa.out h1);have HF:=Ax (C7 HA.out HX.out);clear h1;exact zzx
   have hF:1<s.size:=by omega
   have d1:((s.size:Int)==1)=false:=Af.2 tE;have q2:(1:Int)<(s.size:Int):=by omega
   by_cases h2:s[1].toNat=48
   ·have d2:((s[1].toNat:Int)==48)=true:=beq_iff_eq.2 tE;by_cases h3:2<s.size
    ·have d3:decide ((2:Int)<(s.size:Int))=true:=Am tE;have d4:decide (2<s.size)=true:=Am tE;have HNO:=Ax (HNOb.out hF h2 h3);have HF:=Ax (C7 HA.out HX.out);exact zzx
    have d3:decide ((2:Int)<(s.size:Int))=false:=An tE;have d4:decide (2<s.size)=false:=An tE;have HYY:=Ax (HY.out h1 hF (fun h=>h3 h.2));exact zy6
   have d2:((s[1].toNat:Int)==48)=false:=Af.2 tE;have HYY:=Ax (HY.out h1 hF (fun h=>h2 h.1));exact zy6
  obtain⟨q,rfl⟩:∃q:Nat,pt=(q:Int):=⟨pt.toNat,by omega⟩;obtain⟨hpl,hk1,hk2⟩:=Db.pointed HB.out HN.out tE;rw[HH.out] at hpl;have hhd:=(show ∀h:1<s.size,b.head? =some s[1] from fun h=>by rw[List.head?_eq_getElem?,Ag uM,HBG.out 0 uM 1 h tE]);rw[show((q:Int) - (1:Nat)).toNat=q - 1 by omega] at hpl hk1 hk2;rw[←hbs] at hpl hk2;rw[show s.size - 1 - (q - 1+1)=s.size - q - 1 by omega] at hpl;have hqs:q<s.size:=by omega
  have hqf:1<q:=by omega
  obtain⟨m,hm⟩:∃m,s.size - q - 1=m:=⟨_,rfl⟩;rw[hm] at hpl;have d9:decide ((0:Int)<=(q:Int))=true:=Am tE;have hms:(s.size:Int) - (q:Int) - 1=(m:Int):=by omega
  have HLX:=Ax (HN.out.len HB402.out);have HNOa:Hid (q=1->Fk (dl s)=none):=Ax fun h=>by omega
  have HNOb:Hid (∀h:1<s.size,s[1].toNat=48->2<q->Fk (dl s)=none):=Ax fun h h2 h3=>by rw[hpl,Ap (Or.inr ⟨by omega,by rw[hhd h,Ci h2];rfl⟩)]
  have HY:Hid (1<=m->m<=4->q≠1->∀h:1<s.size,¬(s[1].toNat=48/\2<q)->Fk (dl s)=some (Ka true (X*10^(4 - m)),true)):=Ax fun h8 h9 h1 h h2=>by
   rw[hpl,Ao];rintro (q|⟨q1,q2⟩)
   ·omega
   exact zxv
  have HN1:Hid (m<1->Fk (dl s)=none):=Ax fun h=>by rw[hpl,Ap (Or.inl (Or.inl h))]
  have HN4:Hid (4<m->Fk (dl s)=none):=Ax fun h=>by rw[hpl,Ap (Or.inl (Or.inr h))]
  have HM9:=Ax hms;have hm402:m<=402:=by omega
  clear hpl hhd hbs hpn hgo hk1 hk2 hm;go_upto_region 17 with fail
  (try rw[HM9.out])
  clear hms;by_cases hm1:m<1
  ·have d1:decide ((m:Int)<1)=true:=Am tE;have d1':decide (m<1)=true:=Am hm1;have HNO:=Ax (HN1.out hm1);have HF:=Ax (C7 HA.out HX.out);exact zzx
  have d1:decide ((m:Int)<1)=false:=An tE;have d1':decide (m<1)=false:=An hm1;by_cases hm4:4<m
  ·have d2:decide ((4:Int)<(m:Int))=true:=Am tE;have d2':decide (4<m)=true:=Am hm4;have HNO:=Ax (HN4.out hm4);have HF:=Ax (C7 HA.out HX.out);exact zzx
  have d2:decide ((4:Int)<(m:Int))=false:=An tE;have d2':decide (4<m)=false:=An hm4;clear HN1 HN4;go_upto_region 19 with fail
  go_loopw [11] (fun v11 wr=>∃(i:Nat) (a:Option Addr) (n c:Nat),v11= .int .i64 ((m:Int)+(i:Int))/\m+i<=4/\Hid (S2 w wr false (.slice a n c)/\Bn wr (.agg #[.bool false,.slice a n c]) ((X*10^i:Nat):Int)/\Bw (X*10^i)<=102+i)) (fun v11 _=>4 - (intOf v11).toNat)
  case atStart=>exact⟨0,a,n,c,by first|rfl|(congr 1;omega)|congr 1,by omega,Ax ⟨HA.out,by rw[Nat.pow_zero,Nat.mul_one];exact HX.out,by rw[Nat.pow_zero,Nat.mul_one];exact HLX.out⟩⟩
  clear HA HX y0 y1 z0 z1 zf0 zf1 yf0 yf1;obtain⟨wp,rfl⟩:∃wp:World,wp=wr:=⟨_,rfl⟩;obtain⟨i,a,n,c,rfl,hi,hq⟩:=hrel;obtain⟨hA,hX,hLi⟩:=hq.out;have HA:=Ax hA;have HX:=Ax hX;have HLi:=Ax hLi;obtain⟨y0,y1,yf⟩:=A0 hA.x;obtain⟨z0,z1,zf⟩:=A0 hA.r;have zf0:=zf 0;have zf1:=zf 1;have yf0:=yf 0;have yf1:=yf 1;clear zf yf hq hA hX hLi;by_cases hlt:m+i<4
  ·exact zz4
  have hi4:4 - m=i:=by omega
  rw[hi4] at HY;have p1:decide ((m:Int)+(i:Int)<4)=false:=An tE;obtain⟨X2,hX2⟩:∃X2,X*10^i=X2:=⟨_,rfl⟩;rw[hX2] at HX HY;have HY:Hid (q≠1->∀h:1<s.size,¬(s[1].toNat=48/\2<q)->Fk (dl s)=some (Ka true X2,true)):=Ax (HY.out tE tE);clear hX2 HLi hi4 hlt;go_upto_region 22 with fail
  by_cases h1:q=1
  ·have d1:((q:Int)==1)=true:=beq_iff_eq.2 tE;have HNO:=Ax (HNOa.out h1);have HF:=Ax (C7 HA.out HX.out);clear h1;exact zzx
  have hF:1<s.size:=by omega
  have d1:((q:Int)==1)=false:=Af.2 tE;have q2:(1:Int)<(s.size:Int):=by omega
  by_cases h2:s[1].toNat=48
  ·have d2:((s[1].toNat:Int)==48)=true:=beq_iff_eq.2 tE;by_cases h3:2<q
   ·have d3:decide ((2:Int)<(q:Int))=true:=Am tE;have d4:decide (2<q)=true:=Am tE;have HNO:=Ax (HNOb.out hF h2 h3);have HF:=Ax (C7 HA.out HX.out);exact zzx
   have d3:decide ((2:Int)<(q:Int))=false:=An tE;have d4:decide (2<q)=false:=An tE;have HYY:=Ax (HY.out h1 hF (fun h=>h3 h.2));exact zy5
  have d2:((s[1].toNat:Int)==48)=false:=Af.2 tE;have HYY:=Ax (HY.out h1 hF (fun h=>h2 h.1));exact zy5
 |false=>
  have hh:=of_decide_eq_false hng;obtain⟨b,hb⟩:∃b,(if(dl s).head? =some 45 then(dl s).tail else dl s)=b:=⟨_,rfl⟩;have hbt:b=dl s:=by rw[←hb,Ao hh]
  have HB:=Ax hb;have HBL:Hid (b.length=s.size - 0):=Ax (by rw[hbt,A4];rfl);have HB402:Hid (b.length<=402):=Ax uM;have HBG:Hid (∀j (hj:j<b.length) p (hp:p<s.size),p=0+j->b[j]=s[p]):=Ax (fun j hj p hp e=>by subst hbt;obtain rfl:p=j:=tE;have:=Gw hp;rw[Ag hj] at this;exact Option.some.inj this);have HSZ:Hid (0<=s.size):=Ax (Nat.zero_le _);have HH:Hid (decide ((dl s).head? =some 45)=false):=Ax hng;by_cases hsz:0<s.size
  ·have d0:((s[0].toNat:Int)==45)=false:=Af.2 (fun e=>hh (by rw[Lp hsz];congr 1;exact Ci (n:=45) tE));clear hb hbt hh hng;go_upto_region 6 with fail
   have HNP:Hid (Db b 0 0 0 (-1)):=Ax (Db.start b 0)
   go_loopw [6,7] (fun v6 v7 wr=>∃(p X:Nat) (pt:Int) (a:Option Addr) (n c:Nat),v6= .int .i64 (p:Int)/\v7= .int .i64 pt/\0<=p/\p<=s.size/\ -1<=pt/\pt<=(s.size:Int)/\Hid (S2 w wr false (.slice a n c)/\Bn wr (.agg #[.bool false,.slice a n c]) (X:Int)/\Db b 0 (p - 0) X pt)) (fun v6 _ _=>s.size - (intOf v6).toNat)
   case atStart=>exact⟨0,0,-1,none,0,0,rfl,rfl,Ak _,HSZ.out,by omega,by omega,Ax ⟨HN0.out,T7 (m:=0) (by rw[Ed];exact Cp.nil _),HNP.out⟩⟩
   obtain⟨wo,rfl⟩:∃wo:World,wo=wr:=⟨_,rfl⟩;obtain⟨p,X,pt,a,n,c,rfl,rfl,hfp,hps,hpt1,hpt2,hq⟩:=hrel;obtain⟨hA,hX,hN⟩:=hq.out;have HA:=Ax hA;have HX:=Ax hX;have HN:=Ax hN;obtain⟨y0,y1,yf⟩:=A0 hA.x;obtain⟨z0,z1,zf⟩:=A0 hA.r;have zf0:=zf 0;have zf1:=zf 1;have yf0:=yf 0;have yf1:=yf 1;clear zf yf hq hA hX hN;by_cases hgo:p<s.size
   ·have p0:decide ((p:Int)<(s.size:Int))=true:=Am tE;have q0:(0:Int)<=(p:Int):=by omega
    have q1:(p:Int)<(s.size:Int):=by omega
    have hjb:p - 0<b.length:=by rw[HBL.out];omega
    have hbj:b[p - 0]'hjb=s[p]:=HBG.out (p - 0) hjb p hgo tE;by_cases h46:s[p].toNat=46
    ·have d1:((s[p].toNat:Int)==46)=true:=beq_iff_eq.2 tE;have e46:s[p]=46:=Ci h46;have hdg:Bb s[p]=false:=by rw[e46];decide
     by_cases hpn:pt<0
     ·have d2:decide (pt<0)=true:=Am hpn;by_cases hpf:0<p
      ·have d3:decide ((0:Int)<(p:Int))=true:=Am tE;have HN2:=Ax (HN.out.point hjb (by rw[hbj];exact e46) hpn tE);clear hdg e46 hbj;go_wp2_with fail;go_roundw
       case rel=>exact⟨p+1,X,(p:Int),a,n,c,by go_num,rfl,by omega,by omega,by omega,by omega,Ax ⟨HA.out,HX.out,by have:=HN2.out;rw[show p - 0+1=p+1 - 0 by omega,show((0+(p - 0):Nat):Int)=(p:Int) by omega] at this;exact this⟩⟩
       case measure=>simp [intOf]<;>omega
      have d3:decide ((0:Int)<(p:Int))=false:=An tE;have hbad:¬(s[p]=46/\pt<0/\0<p - 0):=fun h=>by have:=h.2.2;omega
      have d4:decide ((s[p].toNat:Int)<48)=true:=Am tE;have HNO:=Ax (Db.bad HB.out HN.out hjb uL uR);have HF:=Ax (C7 HA.out HX.out);clear hdg hbad hbj;exact zzx
     have d2:decide (pt<0)=false:=An hpn;have hbad:¬(s[p]=46/\pt<0/\0<p - 0):=fun h=>by have:=h.2.1;omega
     have d4:decide ((s[p].toNat:Int)<48)=true:=Am tE;have HNO:=Ax (Db.bad HB.out HN.out hjb uL uR);have HF:=Ax (C7 HA.out HX.out);clear hdg hbad hbj;exact zzx
    have d1:((s[p].toNat:Int)==46)=false:=Af.2 tE;have hbad:¬(s[p]=46/\pt<0/\0<p - 0):=fun h=>h46 (by rw[h.1];rfl)
    by_cases h48:s[p].toNat<48
    ·have hdg:Bb s[p]=false:=by unfold Bb;rw[An tE];rfl
     have d4:decide ((s[p].toNat:Int)<48)=true:=Am tE;have HNO:=Ax (Db.bad HB.out HN.out hjb uL uR);have HF:=Ax (C7 HA.out HX.out);clear hdg hbad hbj;exact zzx
    have d4:decide ((s[p].toNat:Int)<48)=false:=An tE;by_cases h57:57<s[p].toNat
    ·have hdg:Bb s[p]=false:=by unfold Bb;rw[An (show ¬s[p].toNat<=57 by omega),Bool.and_false]
     have d5:decide ((57:Int)<(s[p].toNat:Int))=true:=Am tE;have HNO:=Ax (Db.bad HB.out HN.out hjb uL uR);have HF:=Ax (C7 HA.out HX.out);clear hdg hbad hbj;exact zzx
    have d5:decide ((57:Int)<(s[p].toNat:Int))=false:=An tE;have hdg:Bb s[p]=true:=by unfold Bb;rw[Am tE,Am tE];rfl
    have HN2:=Ax (HN.out.digit hjb uL);rw[hbj] at HN2;obtain⟨dd,hdd⟩:∃dd,s[p].toNat - 48=dd:=⟨_,rfl⟩;rw[hdd] at HN2;have hd9:dd<10:=by omega
    have hw8:IntKind.u8.wrap ((s[p].toNat:Int) - 48)=(dd:Int):=by rw[show(s[p].toNat:Int) - 48=(dd:Int) by omega];simp [IntKind.wrap,IntKind.signed,IntKind.bits];omega
    have hw64:IntKind.i64.wrap (dd:Int)=(dd:Int):=IntWalk.i64_in _ tE;have HLX:=Ax (HN.out.len HB402.out);have HD9:=Ax hd9;obtain⟨wd,hwd⟩:∃wd,wo.drew=wd:=⟨_,rfl⟩;have hbd:Below wo.heap.size wo wd:=by rw[←hwd];exact(Aq _ _).drew
    have HBD:=Ax hbd;have HY:Hid (∀V,Below wd.heap.size wd V->V.cell? ⟨w.heap.size+1,0,none⟩=some (.bool false)/\V.cell? ⟨w.heap.size+1,1,none⟩=some (.slice a n c)):=Ax fun V hV=>⟨Ba hV (Ba hbd y0),Ba hV (Ba hbd y1)⟩
    clear hbd hbad hbj hdg hdd hd9;go_wp2_with fail;refine wp_region_noPanic ?_;refine wp_region_held_drew (S:=fun _=>True) tF ?_ (fun hHeld=>?_)
    ·trivial
    rw[hwd];refine QH 3 ⟨some 57,_,_,_,_,_⟩ (h:=?_)
    try simp only[Act.put,Ac,Ad,Ae]
    refine QH 4 ⟨some 58,_,_,_,_,_⟩ (h:=?_)
    try simp only[Act.put,Ac,Ad,Ae]
    refine QH 5 ⟨some 59,_,_,_,_,_⟩ (h:=?_)
    try simp only[Act.put,Ac,Ad,Ae]
    refine QH 6 ⟨some 60,_,_,_,_,_⟩ (h:=?_)
    try simp only[Act.put,Ac,Ad,Ae]
    refine QH 7 ⟨some 61,_,_,_,_,_⟩ (h:=?_)
    try simp only[Act.put,Ac,Ad,Ae]
    have HMONO:=Ax (show ∀F∈[(fun v _=>v= .agg #[.bool false,.slice a n c]),J4 10],∀v w w',F v w->Below w.heap.size w w'->F v w' from Ce (fun _ _ _ h _=>h)<|Ce (fun _ _ _ h hb=>h.below hb)<|La);refine E4 (Inv:=N0 wd.heap.size wd [(fun v _=>v= .agg #[.bool false,.slice a n c]),J4 10] []) 2 [0,1] [some 54,some 55] [[],[]] [false,false] tF (fun _ _ _ _ _ h=>h) tF ?_ (N0.start rfl rfl) ?_ ?_
    ·exact fun _ _ _ _=>trivial
    ·refine lt2 ?_ ?_
     ·exact zyv
     rw[Ao tG];refine OneB.mk 1 ⟨some 55,_,_,_,_,_⟩ _ rfl rfl rfl rfl HMONO.out (Ak _) ?_;exact zzk
    intro u V hu hI;obtain⟨x0,x1,rfl⟩:=Lh hu;obtain⟨hbV,hzV,⟨f0,f1,_⟩,hDst⟩:=hI;have f0:=f0 rfl;have f1:=f1 rfl;clear hu HMONO;simp only[Bt,Act.put,Ac,Ad,Ae]
    (try dsimp only at f0)
    subst f0;have HBV:=Ax hbV;have HM:=Ax (Ny (x:=(X:Int)) (y:=10) (HX.out.below (HBD.out.trans (hbV.mono HBD.out.size))) f1 (by have:=HLX.out;rw[Int.natAbs_natCast];omega) vC);clear f1 hDst hbV;have hHeld:True:=trivial;refine wpAnyH_ready (rs:=[2]) tF tH ?_;refine AllReadyH.cons (o:=⟨some 56,_,_,_,_,_⟩) (rs:=[]) rfl (fun K hK=>?_) AllReadyH.nil
    go_simp
    go_at_call 186
    refine HM.out.mono ?_;rintro e V2 ⟨⟨v2,rfl,hv2⟩,hb2⟩;have HM2:=Ax (And.intro hv2 hb2);clear hv2 hb2
    try go_wp2_with fail
    clear hHeld;refine hK.out _ _ ?_ (fun hHeld=>?_)
    ·trivial
    clear hK K
    try simp only[Act.put,Ac,Ad,Ae]
    have HO2:=Ax (Kv (w:=V2) (dd:Int) tE wL);refine wpAnyH_ready (rs:=[8]) tF tH ?_;refine AllReadyH.cons (o:=⟨some 62,_,_,_,_,_⟩) (rs:=[]) rfl (fun K hK=>?_) AllReadyH.nil
    go_simp
    go_at_call 134
    refine HO2.out.mono ?_;rintro e V3 ⟨⟨v3,rfl,hv3⟩,hb3⟩;have HM3:=Ax (And.intro hv3 hb3);clear hv3 hb3
    try go_wp2_with fail
    clear hHeld;refine hK.out _ _ ?_ (fun hHeld=>?_)
    ·trivial
    clear hK K
    try simp only[Act.put,Ac,Ad,Ae]
    have HA3:=Ax (Xh (x:=(X:Int)*10) (y:=(dd:Int)) (HM2.out.1.below HM3.out.2) HM3.out.1 wM wD);refine wpAnyH_ready (rs:=[9]) tF tH ?_;refine AllReadyH.cons (o:=⟨some 63,_,_,_,_,_⟩) (rs:=[]) rfl (fun K hK=>?_) AllReadyH.nil
    go_simp
    go_at_call 185
    refine HA3.out.mono ?_;rintro e V4 ⟨⟨v4,rfl,hv4⟩,hb4⟩;rw[show(X:Int)*10+(dd:Int)=((X*10+dd:Nat):Int) by omega] at hv4;obtain⟨a4,n4,c4,rfl,hd4⟩:=hv4.nat;have HM4:=Ax (And.intro hv4 hb4);clear hv4 hb4 hd4
    try go_wp2_with fail
    clear hHeld;refine hK.out _ _ ?_ (fun hHeld=>?_)
    ·trivial
    clear hK K
    try simp only[Act.put,Ac,Ad,Ae]
    have hb4:=HBD.out.trans ((HBV.out.trans ((HM2.out.2.trans ((HM3.out.2.trans (HM4.out.2.mono HM3.out.2.size)).mono HM2.out.2.size)).mono HBV.out.size)).mono HBD.out.size);have hA4:=HA.out.below hb4;obtain⟨g0,g1,gf⟩:=A0 hA4.x;have gf0:=gf 0;have gf1:=gf 1;have HNX:=Ax (Ko hA4 HM4.out.1);clear hb4 hA4 gf HM2 HM3 HA3 HM HO2 HM4;refine wpAnyH_ready (rs:=[10]) tF tH ?_;refine AllReadyH.cons (o:=⟨none,_,_,_,_,_⟩) (rs:=[]) rfl (fun K hK=>?_) AllReadyH.nil
    go_simp
    try go_wp2_with fail
    clear hHeld;refine hK.out _ _ ?_ (fun hHeld=>?_)
    ·trivial
    clear hK K
    try simp only[Act.put,Ac,Ad,Ae]
    refine wpAnyH_done tF ?_ _;refine NoPanic.normal ?_;go_wp2_with fail;go_roundw
    case rel=>exact⟨p+1,X*10+dd,pt,a4,n4,c4,by go_num,rfl,by omega,by omega,by omega,by omega,Ax ⟨HNX.out.1,HNX.out.2,by have:=HN2.out;rw[show p - 0+1=p+1 - 0 by omega] at this;exact this⟩⟩
    case measure=>simp [intOf]<;>omega
   obtain rfl:p=s.size:=by omega
   have p0:decide ((s.size:Int)<(s.size:Int))=false:=An tE;have hbs:s.size - 0=b.length:=HBL.out.symm;rw[hbs] at HN;by_cases hpn:pt<0
   ·have hpl:=Db.plain HB.out HN.out hpn;rw[HH.out] at hpl;have hhd:=(show ∀h:0<s.size,b.head? =some s[0] from fun h=>by rw[List.head?_eq_getElem?,Ag uM,HBG.out 0 uM 0 h tE]);have HNOa:Hid (s.size=0->Fk (dl s)=none):=Ax fun h=>by rw[hpl,Ap (Or.inl (List.eq_nil_of_length_eq_zero tE))]
    have HNOb:Hid (∀h:0<s.size,s[0].toNat=48->1<s.size->Fk (dl s)=none):=Ax fun h h2 h3=>by rw[hpl,Ap (Or.inr ⟨by omega,by rw[hhd h,Ci h2];rfl⟩)]
    have HY:Hid (s.size≠0->∀h:0<s.size,¬(s[0].toNat=48/\1<s.size)->Fk (dl s)=some (Ka false X,false)):=Ax fun h1 h h2=>by
     rw[hpl,Ao];rintro (q|⟨q1,q2⟩)
     ·have q0:b.length=0:=by rw[q];rfl
      omega
     exact zxv
    have d9:decide ((0:Int)<=pt)=false:=An tE;have hpn1:pt= -1:=by omega
    subst hpn1;clear hpl hhd hbs hpn hgo;go_upto_region 22 with fail
    by_cases h1:s.size=0
    ·have d1:((s.size:Int)==0)=true:=beq_iff_eq.2 tE;have HNO:=Ax (HNOa.out h1);have HF:=Ax (C7 HA.out HX.out);clear h1;exact zzx
    have hF:0<s.size:=by omega
    have d1:((s.size:Int)==0)=false:=Af.2 tE;have q2:(0:Int)<(s.size:Int):=by omega
    by_cases h2:s[0].toNat=48
    ·have d2:((s[0].toNat:Int)==48)=true:=beq_iff_eq.2 tE;by_cases h3:1<s.size
     ·have d3:decide ((1:Int)<(s.size:Int))=true:=Am tE;have d4:decide (1<s.size)=true:=Am tE;have HNO:=Ax (HNOb.out hF h2 h3);have HF:=Ax (C7 HA.out HX.out);exact zzx
     have d3:decide ((1:Int)<(s.size:Int))=false:=An tE;have d4:decide (1<s.size)=false:=An tE;have HYY:=Ax (HY.out h1 hF (fun h=>h3 h.2));exact zxd
    have d2:((s[0].toNat:Int)==48)=false:=Af.2 tE;have HYY:=Ax (HY.out h1 hF (fun h=>h2 h.1));exact zxd
   obtain⟨q,rfl⟩:∃q:Nat,pt=(q:Int):=⟨pt.toNat,by omega⟩;obtain⟨hpl,hk1,hk2⟩:=Db.pointed HB.out HN.out tE;rw[HH.out] at hpl;have hhd:=(show ∀h:0<s.size,b.head? =some s[0] from fun h=>by rw[List.head?_eq_getElem?,Ag uM,HBG.out 0 uM 0 h tE]);rw[show((q:Int) - (0:Nat)).toNat=q - 0 by omega] at hpl hk1 hk2;rw[←hbs] at hpl hk2;rw[show s.size - 0 - (q - 0+1)=s.size - q - 1 by omega] at hpl;have hqs:q<s.size:=by omega
   have hqf:0<q:=by omega
   obtain⟨m,hm⟩:∃m,s.size - q - 1=m:=⟨_,rfl⟩;rw[hm] at hpl;have d9:decide ((0:Int)<=(q:Int))=true:=Am tE;have hms:(s.size:Int) - (q:Int) - 1=(m:Int):=by omega
   have HLX:=Ax (HN.out.len HB402.out);have HNOa:Hid (q=0->Fk (dl s)=none):=Ax fun h=>by omega
   have HNOb:Hid (∀h:0<s.size,s[0].toNat=48->1<q->Fk (dl s)=none):=Ax fun h h2 h3=>by rw[hpl,Ap (Or.inr ⟨by omega,by rw[hhd h,Ci h2];rfl⟩)]
   have HY:Hid (1<=m->m<=4->q≠0->∀h:0<s.size,¬(s[0].toNat=48/\1<q)->Fk (dl s)=some (Ka false (X*10^(4 - m)),true)):=Ax fun h8 h9 h1 h h2=>by
    rw[hpl,Ao];rintro (q|⟨q1,q2⟩)
    ·omega
    exact zxv
   have HN1:Hid (m<1->Fk (dl s)=none):=Ax fun h=>by rw[hpl,Ap (Or.inl (Or.inl h))]
   have HN4:Hid (4<m->Fk (dl s)=none):=Ax fun h=>by rw[hpl,Ap (Or.inl (Or.inr h))]
   have HM9:=Ax hms;have hm402:m<=402:=by omega
   clear hpl hhd hbs hpn hgo hk1 hk2 hm;go_upto_region 17 with fail
   (try rw[HM9.out])
   clear hms;by_cases hm1:m<1
   ·have d1:decide ((m:Int)<1)=true:=Am tE;have d1':decide (m<1)=true:=Am hm1;have HNO:=Ax (HN1.out hm1);have HF:=Ax (C7 HA.out HX.out);exact zzx
   have d1:decide ((m:Int)<1)=false:=An tE;have d1':decide (m<1)=false:=An hm1;by_cases hm4:4<m
   ·have d2:decide ((4:Int)<(m:Int))=true:=Am tE;have d2':decide (4<m)=true:=Am hm4;have HNO:=Ax (HN4.out hm4);have HF:=Ax (C7 HA.out HX.out);exact zzx
   have d2:decide ((4:Int)<(m:Int))=false:=An tE;have d2':decide (4<m)=false:=An hm4;clear HN1 HN4;go_upto_region 19 with fail
   go_loopw [11] (fun v11 wr=>∃(i:Nat) (a:Option Addr) (n c:Nat),v11= .int .i64 ((m:Int)+(i:Int))/\m+i<=4/\Hid (S2 w wr false (.slice a n c)/\Bn wr (.agg #[.bool false,.slice a n c]) ((X*10^i:Nat):Int)/\Bw (X*10^i)<=102+i)) (fun v11 _=>4 - (intOf v11).toNat)
   case atStart=>exact⟨0,a,n,c,by first|rfl|(congr 1;omega)|congr 1,by omega,Ax ⟨HA.out,by rw[Nat.pow_zero,Nat.mul_one];exact HX.out,by rw[Nat.pow_zero,Nat.mul_one];exact HLX.out⟩⟩
   clear HA HX y0 y1 z0 z1 zf0 zf1 yf0 yf1;obtain⟨wp,rfl⟩:∃wp:World,wp=wr:=⟨_,rfl⟩;obtain⟨i,a,n,c,rfl,hi,hq⟩:=hrel;obtain⟨hA,hX,hLi⟩:=hq.out;have HA:=Ax hA;have HX:=Ax hX;have HLi:=Ax hLi;obtain⟨y0,y1,yf⟩:=A0 hA.x;obtain⟨z0,z1,zf⟩:=A0 hA.r;have zf0:=zf 0;have zf1:=zf 1;have yf0:=yf 0;have yf1:=yf 1;clear zf yf hq hA hX hLi;by_cases hlt:m+i<4
   ·exact zz4
   have hi4:4 - m=i:=by omega
   rw[hi4] at HY;have p1:decide ((m:Int)+(i:Int)<4)=false:=An tE;obtain⟨X2,hX2⟩:∃X2,X*10^i=X2:=⟨_,rfl⟩;rw[hX2] at HX HY;have HY:Hid (q≠0->∀h:0<s.size,¬(s[0].toNat=48/\1<q)->Fk (dl s)=some (Ka false X2,true)):=Ax (HY.out tE tE);clear hX2 HLi hi4 hlt;go_upto_region 22 with fail
   by_cases h1:q=0
   ·have d1:((q:Int)==0)=true:=beq_iff_eq.2 tE;have HNO:=Ax (HNOa.out h1);have HF:=Ax (C7 HA.out HX.out);clear h1;exact zzx
   have hF:0<s.size:=by omega
   have d1:((q:Int)==0)=false:=Af.2 tE;have q2:(0:Int)<(s.size:Int):=by omega
   by_cases h2:s[0].toNat=48
   ·have d2:((s[0].toNat:Int)==48)=true:=beq_iff_eq.2 tE;by_cases h3:1<q
    ·have d3:decide ((1:Int)<(q:Int))=true:=Am tE;have d4:decide (1<q)=true:=Am tE;have HNO:=Ax (HNOb.out hF h2 h3);have HF:=Ax (C7 HA.out HX.out);exact zzx
    have d3:decide ((1:Int)<(q:Int))=false:=An tE;have d4:decide (1<q)=false:=An tE;have HYY:=Ax (HY.out h1 hF (fun h=>h3 h.2));exact zxc
   have d2:((s[0].toNat:Int)==48)=false:=Af.2 tE;have HYY:=Ax (HY.out h1 hF (fun h=>h2 h.1));exact zxc
  obtain rfl:s=⟨#[]⟩:=Cn (List.eq_nil_of_length_eq_zero (by rw[A4];omega));have HNO:=Ax (show Fk (dl (⟨#[]⟩:ByteArray))=none from rfl);have d0:decide (0<(⟨#[]⟩:ByteArray).size)=false:=by decide
  clear hb hbt hh hng hsz HB HBL HB402 HBG HSZ HH hs;go_upto_region 6 with fail
  go_loopw [6,7] (fun v6 v7 wr=>v6= .int .i64 0/\v7= .int .i64 (-1)/\wr=W1) (fun _ _ _=>0)
  case atStart=>exact⟨rfl,rfl,rfl⟩
  obtain⟨rfl,rfl,rfl⟩:=hrel;obtain⟨y0,y1,yf⟩:=A0 HN0.out.x;obtain⟨z0,z1,zf⟩:=A0 HN0.out.r;have zf0:=zf 0;have zf1:=zf 1;clear zf yf hx0 hx1;have HF:=Ax (C7 (z:=0) HN0.out (T7 (m:=0) (by rw[Ed];exact Cp.nil _)));go_wp2_with fail;exact Au (v:= .tuple #[.agg #[.bool false,.slice none 0 0],.bool false,.bool false]) tI rfl (Cs.no HF.out.1 HNO.out)
end Go.Proofs.YtmpfilddeglgbaaGreatDoor
