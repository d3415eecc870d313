import Derived.Test.YtgfakdobajgnfaaGreatDoorQr10
namespace Go.Proofs.YtgfakdobajgnfaaGreatDoor
open Go Go.RowKit Go.Lib
structure NuAt (w wr:World)(b:Bool)(sl:Value):Prop where
 r:wr.heap[w.heap.size]? =some (.cells #[.bool false,.slice none 0 0] 79 (0,0))
 x:wr.heap[w.heap.size+1]? =some (.cells #[.bool b,sl] 79 (0,0))
 bel:Below w.heap.size w wr
theorem NuAt.below {w wr V:World}{b:Bool}{sl:Value}(h:NuAt w wr b sl)(hb:Below wr.heap.size wr V):NuAt w V b sl:=
 ⟨(hb.block _ (lt_some h.r)).trans h.r,(hb.block _ (lt_some h.x)).trans h.x,h.bel.trans (hb.mono h.bel.size)⟩
theorem nu_start (w:World):NuAt w ((w.alloc (.cells #[.bool false,.slice none 0 0] 79)).alloc (.cells #[.bool false,.slice none 0 0] 79)) false (.slice none 0 0):=by
 refine⟨?_,?_,((Below.refl _ _).alloc (Nat.le_refl _) _).alloc (by simp) _⟩
 ·rw[Below.heap_alloc _ _ _ (by simp)];exact heap_alloc0 _ _
 ·have:=heap_alloc0 (w.alloc (.cells #[.bool false,.slice none 0 0] 79)) (.cells #[.bool false,.slice none 0 0] 79)
  simpa using this
theorem nu_next {w V:World}{b b4:Bool}{a a4:Option Addr}{n c n4 c4:Nat}{z:Int}(h:NuAt w V b (.slice a n c))(h4:NumIs V (.agg #[.bool b4,.slice a4 n4 c4]) z):
 NuAt w ((V.setCell ⟨w.heap.size+1,0,none⟩ (.bool b4)).setCell ⟨w.heap.size+1,1,none⟩ (.slice a4 n4 c4)) b4 (.slice a4 n4 c4)∧NumIs ((V.setCell ⟨w.heap.size+1,0,none⟩ (.bool b4)).setCell ⟨w.heap.size+1,1,none⟩ (.slice a4 n4 c4)) (.agg #[.bool b4,.slice a4 n4 c4]) z:=by
 have h1:=setCell_heap (i:=1) (u:= .slice a4 n4 c4) (setCell_heap (i:=0) (u:= .bool b4) h.x)
 have o1:Only [w.heap.size+1] V ((V.setCell ⟨w.heap.size+1,0,none⟩ (.bool b4)).setCell ⟨w.heap.size+1,1,none⟩ (.slice a4 n4 c4)):=((Only.refl _ _).setCell (.inl (by simp)) _).setCell (.inl (by simp)) _
 refine⟨⟨(o1.block _ (lt_some h.r) (by simp)).trans h.r,h1,(h.bel.setCell (by simp) _).setCell (by simp) _⟩,h4.store h.x _ _⟩
theorem nu_ret {w V:World}{b b4:Bool}{sl:Value}{a4:Option Addr}{n4 c4:Nat}{z:Int}(h:NuAt w V b sl)(h4:NumIs V (.agg #[.bool b4,.slice a4 n4 c4]) z):
 Below w.heap.size w ((V.setCell ⟨w.heap.size,0,none⟩ (.bool b4)).setCell ⟨w.heap.size,1,none⟩ (.slice a4 n4 c4))∧NumIs ((V.setCell ⟨w.heap.size,0,none⟩ (.bool b4)).setCell ⟨w.heap.size,1,none⟩ (.slice a4 n4 c4)) (.agg #[.bool b4,.slice a4 n4 c4]) z:=
 ⟨(h.bel.setCell (by simp) _).setCell (by simp) _,h4.store h.r _ _⟩
def NuPost (w:World)(l:List UInt8)(e:Ending)(w':World):Prop:=Below w.heap.size w w'∧∃(b:Bool) (a:Option Addr) (n c:Nat) (pt ok:Bool),e= .returned (.tuple #[.agg #[.bool b,.slice a n c],.bool pt,.bool ok])∧(match numR l with
 |none=>ok=false
 |some z=>ok=true∧pt=z.2∧NumIs w' (.agg #[.bool b,.slice a n c]) z.1)
theorem NuPost.no {w w':World}{l:List UInt8}{b:Bool}{a:Option Addr}{n c:Nat}{pt:Bool}(hb:Below w.heap.size w w')(h:numR l=none):NuPost w l (.returned (.tuple #[.agg #[.bool b,.slice a n c],.bool pt,.bool false])) w':=⟨hb,b,a,n,c,pt,false,rfl,by rw[h]⟩
theorem NuPost.yes {w w':World}{l:List UInt8}{b:Bool}{a:Option Addr}{n c:Nat}{z:Int}{pt:Bool}(hb:Below w.heap.size w w')(h:numR l=some (z,pt))(hv:NumIs w' (.agg #[.bool b,.slice a n c]) z):NuPost w l (.returned (.tuple #[.agg #[.bool b,.slice a n c],.bool pt,.bool true])) w':=⟨hb,b,a,n,c,pt,true,rfl,by rw[h];exact⟨rfl,rfl,hv⟩⟩
theorem len10 {X:Nat}{k:Nat}(h:lenD X≤k):lenD (X*10)≤k+1:=by
 have h1:=lenD_mul X 10
 have h2:lenD 10≤1:=lenD_small (by decide)
 omega
theorem natmul {X:Nat}:(X:Int)*10=((X*10:Nat):Int):=by omega
theorem Qw6{P:Prop}(h:P:=by
 obtain⟨wd,hwd⟩:∃wd,wp.drew=wd:=⟨_,rfl⟩
 have hbd:Below wp.heap.size wp wd:=by rw[←hwd];exact(Below.refl _ _).drew
 have HBD:=hide hbd
 have HY2:Hid (∀V,Below wd.heap.size wd V→V.cell? ⟨w.heap.size+1,0,none⟩=some (.bool false)∧V.cell? ⟨w.heap.size+1,1,none⟩=some (.slice a n c)):=hide fun V hV=>⟨bcell hV (bcell hbd y0),bcell hV (bcell hbd y1)⟩
 have HLT:=hide hlt
 clear hbd hlt
 go_wp2_with fail
 clear p1
 refine wp_region_noPanic ?_
 refine wp_region_held_drew (S:=fun _=>True) (by kernel_rfl) ?_ (fun hHeld=>?_)
 ·trivial
 rw[hwd]
 have HMONO:=hide (show ∀F∈[(fun v _=>v= .agg #[.bool false,.slice a n c]),NumD 10],∀v w w',F v w→Below w.heap.size w w'→F v w' from mono_cons (fun _ _ _ h _=>h)<|mono_cons (fun _ _ _ h hb=>h.below hb)<|mono_nil)
 refine wpAnyH_facts (Inv:=InvB wd.heap.size wd [(fun v _=>v= .agg #[.bool false,.slice a n c]),NumD 10] []) 2 [0,1] [some 85,some 86] [[],[]] [false,false] (by kernel_rfl) (fun _ _ _ _ _ h=>h) (by kernel_rfl) ?_ (InvB.start rfl rfl) ?_ ?_
 ·exact fun _ _ _ _=>trivial
 ·refine lt2 ?_ ?_
  ·rw[if_neg (by decide)]
   refine OneB.mk 0 ⟨some 85,_,_,_,_,_⟩ _ rfl rfl rfl rfl HMONO.out (Nat.le_refl _) ?_
   intro d u V hd hu hdep hF hbV hzV K hK
   obtain⟨x0,x1,rfl⟩:=len2 hu
   obtain⟨b0,b1,rfl⟩:=len2 hd
   obtain⟨f0,f1,_⟩:=hF
   clear hd hu hdep f0 f1 HMONO
   have HBV:=hide hbV
   have HZV:=hide hzV
   clear hbV hzV
   simp only[putAll,Act.put,List.setIfInBounds_toArray,List.set_cons_zero,List.set_cons_succ] at hK ⊢
   obtain⟨u0,u1⟩:=HY2.out V HBV.out
   go_simp
   (try go_wp2_with fail)
   refine hK.out _ _ (Below.refl _ _) rfl (fun h=>absurd h (by decide))
  ·rw[if_neg (by decide)]
   refine OneB.mk 1 ⟨some 86,_,_,_,_,_⟩ _ rfl rfl rfl rfl HMONO.out (Nat.le_refl _) ?_
   intro d u V hd hu hdep hF hbV hzV K hK
   obtain⟨x0,x1,rfl⟩:=len2 hu
   obtain⟨b0,b1,rfl⟩:=len2 hd
   obtain⟨f0,f1,_⟩:=hF
   clear hd hu hdep f0 f1 HMONO
   have HBV:=hide hbV
   have HZV:=hide hzV
   clear hbV hzV
   simp only[putAll,Act.put,List.setIfInBounds_toArray,List.set_cons_zero,List.set_cons_succ] at hK ⊢
   go_simp
   go_at_call 47
   (with_reducible refine(HO.out V).mono ?_)
   rintro e V1 ⟨⟨v1,rfl,hv1⟩,hb1⟩
   (try go_wp2_with fail)
   refine hK.out _ _ hb1 hv1 (fun h=>absurd h (by decide))
 ·intro u V hu hI
  obtain⟨x0,x1,rfl⟩:=len2 hu
  obtain⟨hbV,hzV,⟨f0,f1,_⟩,hDst⟩:=hI
  have f0:=f0 rfl
  have f1:=f1 rfl
  clear hu HMONO
  simp only[putAll,Act.put,List.setIfInBounds_toArray,List.set_cons_zero,List.set_cons_succ]
  (try dsimp only at f0)
  subst f0
  have HBV:=hide hbV
  have HM:=hide (mul_any (x:=((X*10^i:Nat):Int)) (y:=10) (HX.out.below (HBD.out.trans (hbV.mono HBD.out.size))) f1 (by have:=HLi.out;rw[Int.natAbs_natCast];omega) (by exact Nat.le_trans (lenD_small (by decide)) (by decide)))
  clear f1 hDst hbV
  have hHeld:True:=trivial
  refine wpAnyH_ready (rs:=[2]) (by kernel_rfl) (by simp) ?_
  refine AllReadyH.cons (o:=⟨some 87,_,_,_,_,_⟩) (rs:=[]) rfl (fun K hK=>?_) AllReadyH.nil
  go_simp
  go_at_call 127
  (with_reducible refine HM.out.mono ?_)
  rintro e V4 ⟨⟨v4,rfl,hv4⟩,hb4⟩
  rw[show((X*10^i:Nat):Int)*10=((X*10^(i+1):Nat):Int) by rw[Nat.pow_succ,←Nat.mul_assoc];omega] at hv4
  obtain⟨a4,n4,c4,rfl,hd4⟩:=hv4.nat
  have HM4:=hide (And.intro hv4 hb4)
  clear hv4 hb4 hd4
  try go_wp2_with fail
  clear hHeld
  refine hK.out _ _ ?_ (fun hHeld=>?_)
  ·trivial
  clear hK K
  try simp only[Act.put,List.setIfInBounds_toArray,List.set_cons_zero,List.set_cons_succ]
  have hb4:=HBD.out.trans ((HBV.out.trans (HM4.out.2.mono HBV.out.size)).mono HBD.out.size)
  have hA4:=HA.out.below hb4
  obtain⟨g0,g1,gf⟩:=two_cells' hA4.x
  have gf0:=gf 0
  have gf1:=gf 1
  have HNX:=hide (nu_next hA4 HM4.out.1)
  clear hb4 hA4 gf HM HM4
  refine wpAnyH_ready (rs:=[3]) (by kernel_rfl) (by simp) ?_
  refine AllReadyH.cons (o:=⟨none,_,_,_,_,_⟩) (rs:=[]) rfl (fun K hK=>?_) AllReadyH.nil
  go_simp
  try go_wp2_with fail
  clear hHeld
  refine hK.out _ _ ?_ (fun hHeld=>?_)
  ·trivial
  clear hK K
  try simp only[Act.put,List.setIfInBounds_toArray,List.set_cons_zero,List.set_cons_succ]
  refine wpAnyH_done (by kernel_rfl) ?_ _
  refine NoPanic.normal ?_
  go_wp2_with fail
  go_roundw
  case rel=>exact⟨i+1,a4,n4,c4,by first|rfl|(congr 1;omega)|congr 1,by have:=HLT.out;omega,hide ⟨HNX.out.1,HNX.out.2,by have:=len10 HLi.out;rw[Nat.mul_assoc,←Nat.pow_succ] at this;omega⟩⟩
  case measure=>have:=HLT.out;simp [intOf]<;>omega):P:=h
theorem Qw7{P:Prop}(h:P:=by
 go_wp2_with fail
 exact bodyPost_ret (v:= .tuple #[.agg #[.bool false,.slice a n c],.bool false,.bool false]) (by simp [results,Tryz.results211,go_sem, *]) rfl (NuPost.no HF.out.1 HNO.out)):P:=h
set_option maxRecDepth 100000 in
set_option maxHeartbeats 16000000 in
theorem rnumber_any {w:World}(s:ByteArray)(hs:s.size≤402):Calls Tryz.prog 211 #[.string s] w (NuPost w (dl s)):=by
 have HN0:=hide (nu_start w)
 obtain⟨W1,hW1⟩:∃W1,(w.alloc (.cells #[.bool false,.slice none 0 0] 79)).alloc (.cells #[.bool false,.slice none 0 0] 79)=W1:=⟨_,rfl⟩
 rw[hW1] at HN0
 have HW1:=hide hW1
 clear hW1
 have hO:∀V:World,Calls Tryz.prog 47 #[.int .i64 10] V (NmPost V 10):=fun V=>of_num _ (by decide) (by decide)
 have HO:=hide hO
 clear hO
 go_enter Tryz.func211,Tryz.ntmps211
 go_upto_region 2 with fail
 rw[HW1.out]
 obtain⟨hx0,hx1,_⟩:=two_cells' HN0.out.x
 obtain⟨ng,hng⟩:∃ng,decide ((dl s).head? =some 45)=ng:=⟨_,rfl⟩
 cases ng with
 |true=>
  have hh:=of_decide_eq_true hng
  have hsz:0<s.size:=by rcases Nat.eq_zero_or_pos s.size with h|h;(have:=dl_size s;rw[h] at this;rw[List.eq_nil_of_length_eq_zero this] at hh;cases hh);exact h
  have h45:s[0]=45:=by rw[dl_head hsz] at hh;exact Option.some.inj hh
  have d0:((s[0].toNat:Int)==45)=true:=by rw[h45];rfl
  obtain⟨b,hb⟩:∃b,(if(dl s).head? =some 45 then(dl s).tail else dl s)=b:=⟨_,rfl⟩
  have hbt:b=(dl s).tail:=by rw[←hb,if_pos hh]
  have HB:=hide hb
  have HBL:Hid (b.length=s.size - 1):=hide (by rw[hbt,List.length_tail,dl_size])
  have HB402:Hid (b.length≤402):=hide (by rw[HBL.out];omega)
  have HBG:Hid (∀j (hj:j<b.length) p (hp:p<s.size),p=1+j→b[j]=s[p]):=hide (fun j hj p hp e=>by subst e;subst hbt;have:=dl_get hp;rw[List.getElem_tail];rw[List.getElem?_eq_getElem (by rw[dl_size];omega)] at this;rw[←Option.some.inj this];congr 1;omega)
  have HSZ:Hid (1≤s.size):=hide hsz
  have HH:Hid (decide ((dl s).head? =some 45)=true):=hide hng
  clear hb hbt hh h45 hng
  go_upto_region 6 with fail
  have HNP:Hid (NumSt b 1 0 0 (-1)):=hide (NumSt.start b 1)
  go_loopw [6,7] (fun v6 v7 wr=>∃(p X:Nat) (pt:Int) (a:Option Addr) (n c:Nat),v6= .int .i64 (p:Int)∧v7= .int .i64 pt∧1≤p∧p≤s.size∧ -1≤pt∧pt≤(s.size:Int)∧Hid (NuAt w wr false (.slice a n c)∧NumIs wr (.agg #[.bool false,.slice a n c]) (X:Int)∧NumSt b 1 (p - 1) X pt)) (fun v6 _ _=>s.size - (intOf v6).toNat)
  case atStart=>exact⟨1,0,-1,none,0,0,rfl,rfl,Nat.le_refl _,HSZ.out,by omega,by omega,hide ⟨HN0.out,natIs (m:=0) (by rw[dg_zero];exact DgRd.nil _),HNP.out⟩⟩
  case round=>
   obtain⟨wo,rfl⟩:∃wo:World,wo=wr:=⟨_,rfl⟩
   obtain⟨p,X,pt,a,n,c,rfl,rfl,hfp,hps,hpt1,hpt2,hq⟩:=hrel
   obtain⟨hA,hX,hN⟩:=hq.out
   have HA:=hide hA
   have HX:=hide hX
   have HN:=hide hN
   obtain⟨y0,y1,yf⟩:=two_cells' hA.x
   obtain⟨z0,z1,zf⟩:=two_cells' hA.r
   have zf0:=zf 0
   have zf1:=zf 1
   have yf0:=yf 0
   have yf1:=yf 1
   clear zf yf hq hA hX hN
   by_cases hgo:p<s.size
   ·have p0:decide ((p:Int)<(s.size:Int))=true:=decide_eq_true (by omega)
    have q0:(0:Int)≤(p:Int):=by omega
    have q1:(p:Int)<(s.size:Int):=by omega
    have hjb:p - 1<b.length:=by rw[HBL.out];omega
    have hbj:b[p - 1]'hjb=s[p]:=HBG.out (p - 1) hjb p hgo (by omega)
    by_cases h46:s[p].toNat=46
    ·have d1:((s[p].toNat:Int)==46)=true:=beq_iff_eq.2 (by omega)
     have e46:s[p]=46:=u8_eq h46
     have hdg:digC s[p]=false:=by rw[e46];decide
     by_cases hpn:pt<0
     ·have d2:decide (pt<0)=true:=decide_eq_true hpn
      by_cases hpf:1<p
      ·have d3:decide ((1:Int)<(p:Int))=true:=decide_eq_true (by omega)
       have HN2:=hide (HN.out.point hjb (by rw[hbj];exact e46) hpn (by omega))
       clear hdg e46 hbj
       go_wp2_with fail
       go_roundw
       case rel=>exact⟨p+1,X,(p:Int),a,n,c,by go_num,rfl,by omega,by omega,by omega,by omega,hide ⟨HA.out,HX.out,by have:=HN2.out;rw[show p - 1+1=p+1 - 1 by omega,show((1+(p - 1):Nat):Int)=(p:Int) by omega] at this;exact this⟩⟩
       case measure=>simp [intOf]<;>omega
      ·have d3:decide ((1:Int)<(p:Int))=false:=decide_eq_false (by omega)
       have hbad:¬(s[p]=46∧pt<0∧0<p - 1):=fun h=>by have:=h.2.2;omega
       have d4:decide ((s[p].toNat:Int)<48)=true:=decide_eq_true (by omega)
       have HNO:=hide (NumSt.bad HB.out HN.out hjb (by rw[hbj];exact hdg) (by rw[hbj];exact hbad))
       have HF:=hide (nu_ret HA.out HX.out)
       clear hdg hbad hbj
       exact Qw7
     ·have d2:decide (pt<0)=false:=decide_eq_false hpn
      have hbad:¬(s[p]=46∧pt<0∧0<p - 1):=fun h=>by have:=h.2.1;omega
      have d4:decide ((s[p].toNat:Int)<48)=true:=decide_eq_true (by omega)
      have HNO:=hide (NumSt.bad HB.out HN.out hjb (by rw[hbj];exact hdg) (by rw[hbj];exact hbad))
      have HF:=hide (nu_ret HA.out HX.out)
      clear hdg hbad hbj
      exact Qw7
    ·have d1:((s[p].toNat:Int)==46)=false:=beq_eq_false_iff_ne.2 (by omega)
     have hbad:¬(s[p]=46∧pt<0∧0<p - 1):=fun h=>h46 (by rw[h.1];rfl)
     by_cases h48:s[p].toNat<48
     ·have hdg:digC s[p]=false:=by unfold digC;rw[decide_eq_false (by omega)];rfl
      have d4:decide ((s[p].toNat:Int)<48)=true:=decide_eq_true (by omega)
      have HNO:=hide (NumSt.bad HB.out HN.out hjb (by rw[hbj];exact hdg) (by rw[hbj];exact hbad))
      have HF:=hide (nu_ret HA.out HX.out)
      clear hdg hbad hbj
      exact Qw7
     ·have d4:decide ((s[p].toNat:Int)<48)=false:=decide_eq_false (by omega)
      by_cases h57:57<s[p].toNat
      ·have hdg:digC s[p]=false:=by unfold digC;rw[decide_eq_false (show ¬s[p].toNat≤57 by omega),Bool.and_false]
       have d5:decide ((57:Int)<(s[p].toNat:Int))=true:=decide_eq_true (by omega)
       have HNO:=hide (NumSt.bad HB.out HN.out hjb (by rw[hbj];exact hdg) (by rw[hbj];exact hbad))
       have HF:=hide (nu_ret HA.out HX.out)
       clear hdg hbad hbj
       exact Qw7
      ·have d5:decide ((57:Int)<(s[p].toNat:Int))=false:=decide_eq_false (by omega)
       have hdg:digC s[p]=true:=by unfold digC;rw[decide_eq_true (by omega),decide_eq_true (by omega)];rfl
       have HN2:=hide (HN.out.digit hjb (by rw[hbj];exact hdg))
       rw[hbj] at HN2
       obtain⟨dd,hdd⟩:∃dd,s[p].toNat - 48=dd:=⟨_,rfl⟩
       rw[hdd] at HN2
       have hd9:dd<10:=by omega
       have hw8:IntKind.u8.wrap ((s[p].toNat:Int) - 48)=(dd:Int):=by rw[show(s[p].toNat:Int) - 48=(dd:Int) by omega];simp [IntKind.wrap,IntKind.signed,IntKind.bits];omega
       have hw64:IntKind.i64.wrap (dd:Int)=(dd:Int):=IntWalk.i64_in _ (by omega)
       have HLX:=hide (HN.out.len HB402.out)
       have HD9:=hide hd9
       obtain⟨wd,hwd⟩:∃wd,wo.drew=wd:=⟨_,rfl⟩
       have hbd:Below wo.heap.size wo wd:=by rw[←hwd];exact(Below.refl _ _).drew
       have HBD:=hide hbd
       have HY:Hid (∀V,Below wd.heap.size wd V→V.cell? ⟨w.heap.size+1,0,none⟩=some (.bool false)∧V.cell? ⟨w.heap.size+1,1,none⟩=some (.slice a n c)):=hide fun V hV=>⟨bcell hV (bcell hbd y0),bcell hV (bcell hbd y1)⟩
       clear hbd hbad hbj hdg hdd hd9
       go_wp2_with fail
       refine wp_region_noPanic ?_
       refine wp_region_held_drew (S:=fun _=>True) (by kernel_rfl) ?_ (fun hHeld=>?_)
       ·trivial
       rw[hwd]
       refine wpAnyH_take (i:=3) (oi:=⟨some 57,_,_,_,_,_⟩) (v:=?_) rfl (by kernel_rfl) (by kernel_rfl) (by kernel_rfl) (fun _ _ _ h=>h) (Or.inl ⟨by rfl,?_⟩) (by assumption) ?_
       rotate_left
       ·(intro w hSw;(try dsimp only at hSw);(first|(go_simp;done)|(go_simp;with_reducible rfl)))
       try simp only[Act.put,List.setIfInBounds_toArray,List.set_cons_zero,List.set_cons_succ]
       refine wpAnyH_take (i:=4) (oi:=⟨some 58,_,_,_,_,_⟩) (v:=?_) rfl (by kernel_rfl) (by kernel_rfl) (by kernel_rfl) (fun _ _ _ h=>h) (Or.inl ⟨by rfl,?_⟩) (by assumption) ?_
       rotate_left
       ·(intro w hSw;(try dsimp only at hSw);(first|(go_simp;done)|(go_simp;with_reducible rfl)))
       try simp only[Act.put,List.setIfInBounds_toArray,List.set_cons_zero,List.set_cons_succ]
       refine wpAnyH_take (i:=5) (oi:=⟨some 59,_,_,_,_,_⟩) (v:=?_) rfl (by kernel_rfl) (by kernel_rfl) (by kernel_rfl) (fun _ _ _ h=>h) (Or.inl ⟨by rfl,?_⟩) (by assumption) ?_
       rotate_left
       ·(intro w hSw;(try dsimp only at hSw);(first|(go_simp;done)|(go_simp;with_reducible rfl)))
       try simp only[Act.put,List.setIfInBounds_toArray,List.set_cons_zero,List.set_cons_succ]
       refine wpAnyH_take (i:=6) (oi:=⟨some 60,_,_,_,_,_⟩) (v:=?_) rfl (by kernel_rfl) (by kernel_rfl) (by kernel_rfl) (fun _ _ _ h=>h) (Or.inl ⟨by rfl,?_⟩) (by assumption) ?_
       rotate_left
       ·(intro w hSw;(try dsimp only at hSw);(first|(go_simp;done)|(go_simp;with_reducible rfl)))
       try simp only[Act.put,List.setIfInBounds_toArray,List.set_cons_zero,List.set_cons_succ]
       refine wpAnyH_take (i:=7) (oi:=⟨some 61,_,_,_,_,_⟩) (v:=?_) rfl (by kernel_rfl) (by kernel_rfl) (by kernel_rfl) (fun _ _ _ h=>h) (Or.inl ⟨by rfl,?_⟩) (by assumption) ?_
       rotate_left
       ·(intro w hSw;(try dsimp only at hSw);(first|(go_simp;done)|(go_simp;with_reducible rfl)))
       try simp only[Act.put,List.setIfInBounds_toArray,List.set_cons_zero,List.set_cons_succ]
       have HMONO:=hide (show ∀F∈[(fun v _=>v= .agg #[.bool false,.slice a n c]),NumD 10],∀v w w',F v w→Below w.heap.size w w'→F v w' from mono_cons (fun _ _ _ h _=>h)<|mono_cons (fun _ _ _ h hb=>h.below hb)<|mono_nil)
       refine wpAnyH_facts (Inv:=InvB wd.heap.size wd [(fun v _=>v= .agg #[.bool false,.slice a n c]),NumD 10] []) 2 [0,1] [some 54,some 55] [[],[]] [false,false] (by kernel_rfl) (fun _ _ _ _ _ h=>h) (by kernel_rfl) ?_ (InvB.start rfl rfl) ?_ ?_
       ·exact fun _ _ _ _=>trivial
       ·refine lt2 ?_ ?_
        ·rw[if_neg (by decide)]
         refine OneB.mk 0 ⟨some 54,_,_,_,_,_⟩ _ rfl rfl rfl rfl HMONO.out (Nat.le_refl _) ?_
         intro d u V hd hu hdep hF hbV hzV K hK
         obtain⟨x0,x1,rfl⟩:=len2 hu
         obtain⟨b0,b1,rfl⟩:=len2 hd
         obtain⟨f0,f1,_⟩:=hF
         clear hd hu hdep f0 f1 HMONO
         have HBV:=hide hbV
         have HZV:=hide hzV
         clear hbV hzV
         simp only[putAll,Act.put,List.setIfInBounds_toArray,List.set_cons_zero,List.set_cons_succ] at hK ⊢
         obtain⟨u0,u1⟩:=HY.out V HBV.out
         go_simp
         (try go_wp2_with fail)
         refine hK.out _ _ (Below.refl _ _) rfl (fun h=>absurd h (by decide))
        ·rw[if_neg (by decide)]
         refine OneB.mk 1 ⟨some 55,_,_,_,_,_⟩ _ rfl rfl rfl rfl HMONO.out (Nat.le_refl _) ?_
         intro d u V hd hu hdep hF hbV hzV K hK
         obtain⟨x0,x1,rfl⟩:=len2 hu
         obtain⟨b0,b1,rfl⟩:=len2 hd
         obtain⟨f0,f1,_⟩:=hF
         clear hd hu hdep f0 f1 HMONO
         have HBV:=hide hbV
         have HZV:=hide hzV
         clear hbV hzV
         simp only[putAll,Act.put,List.setIfInBounds_toArray,List.set_cons_zero,List.set_cons_succ] at hK ⊢
         go_simp
         go_at_call 47
         (with_reducible refine(HO.out V).mono ?_)
         rintro e V1 ⟨⟨v1,rfl,hv1⟩,hb1⟩
         (try go_wp2_with fail)
         refine hK.out _ _ hb1 hv1 (fun h=>absurd h (by decide))
       ·intro u V hu hI
        obtain⟨x0,x1,rfl⟩:=len2 hu
        obtain⟨hbV,hzV,⟨f0,f1,_⟩,hDst⟩:=hI
        have f0:=f0 rfl
        have f1:=f1 rfl
        clear hu HMONO
        simp only[putAll,Act.put,List.setIfInBounds_toArray,List.set_cons_zero,List.set_cons_succ]
        (try dsimp only at f0)
        subst f0
        have HBV:=hide hbV
        have HM:=hide (mul_any (x:=(X:Int)) (y:=10) (HX.out.below (HBD.out.trans (hbV.mono HBD.out.size))) f1 (by have:=HLX.out;rw[Int.natAbs_natCast];omega) (by exact Nat.le_trans (lenD_small (by decide)) (by decide)))
        clear f1 hDst hbV
        have hHeld:True:=trivial
        refine wpAnyH_ready (rs:=[2]) (by kernel_rfl) (by simp) ?_
        refine AllReadyH.cons (o:=⟨some 56,_,_,_,_,_⟩) (rs:=[]) rfl (fun K hK=>?_) AllReadyH.nil
        go_simp
        go_at_call 127
        (with_reducible refine HM.out.mono ?_)
        rintro e V2 ⟨⟨v2,rfl,hv2⟩,hb2⟩
        have HM2:=hide (And.intro hv2 hb2)
        clear hv2 hb2
        try go_wp2_with fail
        clear hHeld
        refine hK.out _ _ ?_ (fun hHeld=>?_)
        ·trivial
        clear hK K
        try simp only[Act.put,List.setIfInBounds_toArray,List.set_cons_zero,List.set_cons_succ]
        have HO2:=hide (of_num (w:=V2) (dd:Int) (by omega) (by have:=HD9.out;omega))
        refine wpAnyH_ready (rs:=[8]) (by kernel_rfl) (by simp) ?_
        refine AllReadyH.cons (o:=⟨some 62,_,_,_,_,_⟩) (rs:=[]) rfl (fun K hK=>?_) AllReadyH.nil
        go_simp
        go_at_call 47
        (with_reducible refine HO2.out.mono ?_)
        rintro e V3 ⟨⟨v3,rfl,hv3⟩,hb3⟩
        have HM3:=hide (And.intro hv3 hb3)
        clear hv3 hb3
        try go_wp2_with fail
        clear hHeld
        refine hK.out _ _ ?_ (fun hHeld=>?_)
        ·trivial
        clear hK K
        try simp only[Act.put,List.setIfInBounds_toArray,List.set_cons_zero,List.set_cons_succ]
        have HA3:=hide (add_any (x:=(X:Int)*10) (y:=(dd:Int)) (HM2.out.1.below HM3.out.2) HM3.out.1 (by rw[natmul,Int.natAbs_natCast];exact Nat.le_trans (len10 HLX.out) (by decide)) (by rw[Int.natAbs_natCast];exact Nat.le_trans (lenD_small (by have:=HD9.out;omega)) (by decide)))
        refine wpAnyH_ready (rs:=[9]) (by kernel_rfl) (by simp) ?_
        refine AllReadyH.cons (o:=⟨some 63,_,_,_,_,_⟩) (rs:=[]) rfl (fun K hK=>?_) AllReadyH.nil
        go_simp
        go_at_call 191
        (with_reducible refine HA3.out.mono ?_)
        rintro e V4 ⟨⟨v4,rfl,hv4⟩,hb4⟩
        rw[show(X:Int)*10+(dd:Int)=((X*10+dd:Nat):Int) by omega] at hv4
        obtain⟨a4,n4,c4,rfl,hd4⟩:=hv4.nat
        have HM4:=hide (And.intro hv4 hb4)
        clear hv4 hb4 hd4
        try go_wp2_with fail
        clear hHeld
        refine hK.out _ _ ?_ (fun hHeld=>?_)
        ·trivial
        clear hK K
        try simp only[Act.put,List.setIfInBounds_toArray,List.set_cons_zero,List.set_cons_succ]
        have hb4:=HBD.out.trans ((HBV.out.trans ((HM2.out.2.trans ((HM3.out.2.trans (HM4.out.2.mono HM3.out.2.size)).mono HM2.out.2.size)).mono HBV.out.size)).mono HBD.out.size)
        have hA4:=HA.out.below hb4
        obtain⟨g0,g1,gf⟩:=two_cells' hA4.x
        have gf0:=gf 0
        have gf1:=gf 1
        have HNX:=hide (nu_next hA4 HM4.out.1)
        clear hb4 hA4 gf HM2 HM3 HA3 HM HO2 HM4
        refine wpAnyH_ready (rs:=[10]) (by kernel_rfl) (by simp) ?_
        refine AllReadyH.cons (o:=⟨none,_,_,_,_,_⟩) (rs:=[]) rfl (fun K hK=>?_) AllReadyH.nil
        go_simp
        try go_wp2_with fail
        clear hHeld
        refine hK.out _ _ ?_ (fun hHeld=>?_)
        ·trivial
        clear hK K
        try simp only[Act.put,List.setIfInBounds_toArray,List.set_cons_zero,List.set_cons_succ]
        refine wpAnyH_done (by kernel_rfl) ?_ _
        refine NoPanic.normal ?_
        go_wp2_with fail
        go_roundw
        case rel=>exact⟨p+1,X*10+dd,pt,a4,n4,c4,by go_num,rfl,by omega,by omega,by omega,by omega,hide ⟨HNX.out.1,HNX.out.2,by have:=HN2.out;rw[show p - 1+1=p+1 - 1 by omega] at this;exact this⟩⟩
        case measure=>simp [intOf]<;>omega
   ·obtain rfl:p=s.size:=by omega
    have p0:decide ((s.size:Int)<(s.size:Int))=false:=decide_eq_false (by omega)
    have hbs:s.size - 1=b.length:=HBL.out.symm
    rw[hbs] at HN
    by_cases hpn:pt<0
    ·have hpl:=NumSt.plain HB.out HN.out hpn
     rw[HH.out] at hpl
     have hhd:=(show ∀h:1<s.size,b.head? =some s[1] from fun h=>by rw[List.head?_eq_getElem?,List.getElem?_eq_getElem (by rw[HBL.out];omega),HBG.out 0 (by rw[HBL.out];omega) 1 h (by omega)])
     have HNOa:Hid (s.size=1→numR (dl s)=none):=hide fun h=>by rw[hpl,if_pos (Or.inl (List.eq_nil_of_length_eq_zero (by omega)))]
     have HNOb:Hid (∀h:1<s.size,s[1].toNat=48→2<s.size→numR (dl s)=none):=hide fun h h2 h3=>by rw[hpl,if_pos (Or.inr ⟨by omega,by rw[hhd h,u8_eq h2];rfl⟩)]
     have HY:Hid (s.size≠1→∀h:1<s.size,¬(s[1].toNat=48∧2<s.size)→numR (dl s)=some (sgn' true X,false)):=hide fun h1 h h2=>by
      rw[hpl,if_neg]
      rintro (q|⟨q1,q2⟩)
      ·have q0:b.length=0:=by rw[q];rfl
       omega
      ·rw[hhd h] at q2;exact h2 ⟨by rw[Option.some.inj q2];rfl,by omega⟩
     have d9:decide ((0:Int)≤pt)=false:=decide_eq_false (by omega)
     have hpn1:pt= -1:=by omega
     subst hpn1
     clear hpl hhd hbs hpn hgo
     go_upto_region 22 with fail
     by_cases h1:s.size=1
     ·have d1:((s.size:Int)==1)=true:=beq_iff_eq.2 (by omega)
      have HNO:=hide (HNOa.out h1)
      have HF:=hide (nu_ret HA.out HX.out)
      clear h1
      exact Qw7
     ·have hF:1<s.size:=by omega
      have d1:((s.size:Int)==1)=false:=beq_eq_false_iff_ne.2 (by omega)
      have q2:(1:Int)<(s.size:Int):=by omega
      by_cases h2:s[1].toNat=48
      ·have d2:((s[1].toNat:Int)==48)=true:=beq_iff_eq.2 (by omega)
       by_cases h3:2<s.size
       ·have d3:decide ((2:Int)<(s.size:Int))=true:=decide_eq_true (by omega)
        have d4:decide (2<s.size)=true:=decide_eq_true (by omega)
        have HNO:=hide (HNOb.out hF h2 h3)
        have HF:=hide (nu_ret HA.out HX.out)
        exact Qw7
       ·have d3:decide ((2:Int)<(s.size:Int))=false:=decide_eq_false (by omega)
        have d4:decide (2<s.size)=false:=decide_eq_false (by omega)
        have HYY:=hide (HY.out h1 hF (fun h=>h3 h.2))
        have HNG:=hide (neg_any HX.out)
        go_wp2_with fail
        (with_reducible refine HNG.out.mono ?_)
        rintro e V5 ⟨⟨v5,rfl,hv5⟩,hb5⟩
        obtain⟨b5,a5,n5,c5,rfl⟩:=hv5.parts
        have hA5:=HA.out.below hb5
        have HN5:=hide (nu_next hA5 hv5)
        obtain⟨g0,g1,gf⟩:=two_cells' hA5.x
        obtain⟨r0,r1,rf⟩:=two_cells' hA5.r
        have gf0:=gf 0
        have gf1:=gf 1
        have rf0:=rf 0
        have rf1:=rf 1
        have HF:=hide (nu_ret HN5.out.1 HN5.out.2)
        clear hv5 hb5 hA5 gf rf HNG y0 y1 z0 z1 zf0 zf1 yf0 yf1
        go_wp2_with fail
        exact bodyPost_ret (v:= .tuple #[.agg #[.bool b5,.slice a5 n5 c5],.bool false,.bool true]) (by simp [results,Tryz.results211,go_sem, *]) rfl (NuPost.yes HF.out.1 HYY.out HF.out.2)
      ·have d2:((s[1].toNat:Int)==48)=false:=beq_eq_false_iff_ne.2 (by omega)
       have HYY:=hide (HY.out h1 hF (fun h=>h2 h.1))
       have HNG:=hide (neg_any HX.out)
       go_wp2_with fail
       (with_reducible refine HNG.out.mono ?_)
       rintro e V5 ⟨⟨v5,rfl,hv5⟩,hb5⟩
       obtain⟨b5,a5,n5,c5,rfl⟩:=hv5.parts
       have hA5:=HA.out.below hb5
       have HN5:=hide (nu_next hA5 hv5)
       obtain⟨g0,g1,gf⟩:=two_cells' hA5.x
       obtain⟨r0,r1,rf⟩:=two_cells' hA5.r
       have gf0:=gf 0
       have gf1:=gf 1
       have rf0:=rf 0
       have rf1:=rf 1
       have HF:=hide (nu_ret HN5.out.1 HN5.out.2)
       clear hv5 hb5 hA5 gf rf HNG y0 y1 z0 z1 zf0 zf1 yf0 yf1
       go_wp2_with fail
       exact bodyPost_ret (v:= .tuple #[.agg #[.bool b5,.slice a5 n5 c5],.bool false,.bool true]) (by simp [results,Tryz.results211,go_sem, *]) rfl (NuPost.yes HF.out.1 HYY.out HF.out.2)
    ·obtain⟨q,rfl⟩:∃q:Nat,pt=(q:Int):=⟨pt.toNat,by omega⟩
     obtain⟨hpl,hk1,hk2⟩:=NumSt.pointed HB.out HN.out (by omega)
     rw[HH.out] at hpl
     have hhd:=(show ∀h:1<s.size,b.head? =some s[1] from fun h=>by rw[List.head?_eq_getElem?,List.getElem?_eq_getElem (by rw[HBL.out];omega),HBG.out 0 (by rw[HBL.out];omega) 1 h (by omega)])
     rw[show((q:Int) - (1:Nat)).toNat=q - 1 by omega] at hpl hk1 hk2
     rw[←hbs] at hpl hk2
     rw[show s.size - 1 - (q - 1+1)=s.size - q - 1 by omega] at hpl
     have hqs:q<s.size:=by omega
     have hqf:1<q:=by omega
     obtain⟨m,hm⟩:∃m,s.size - q - 1=m:=⟨_,rfl⟩
     rw[hm] at hpl
     have d9:decide ((0:Int)≤(q:Int))=true:=decide_eq_true (by omega)
     have hms:(s.size:Int) - (q:Int) - 1=(m:Int):=by omega
     have HLX:=hide (HN.out.len HB402.out)
     have HNOa:Hid (q=1→numR (dl s)=none):=hide fun h=>by omega
     have HNOb:Hid (∀h:1<s.size,s[1].toNat=48→2<q→numR (dl s)=none):=hide fun h h2 h3=>by rw[hpl,if_pos (Or.inr ⟨by omega,by rw[hhd h,u8_eq h2];rfl⟩)]
     have HY:Hid (1≤m→m≤4→q≠1→∀h:1<s.size,¬(s[1].toNat=48∧2<q)→numR (dl s)=some (sgn' true (X*10^(4 - m)),true)):=hide fun h8 h9 h1 h h2=>by
      rw[hpl,if_neg]
      rintro (q|⟨q1,q2⟩)
      ·omega
      ·rw[hhd h] at q2;exact h2 ⟨by rw[Option.some.inj q2];rfl,by omega⟩
     have HN1:Hid (m<1→numR (dl s)=none):=hide fun h=>by rw[hpl,if_pos (Or.inl (Or.inl h))]
     have HN4:Hid (4<m→numR (dl s)=none):=hide fun h=>by rw[hpl,if_pos (Or.inl (Or.inr h))]
     have HM9:=hide hms
     have hm402:m≤402:=by omega
     clear hpl hhd hbs hpn hgo hk1 hk2 hm
     go_upto_region 17 with fail
     (try rw[HM9.out])
     clear hms
     by_cases hm1:m<1
     ·have d1:decide ((m:Int)<1)=true:=decide_eq_true (by omega)
      have d1':decide (m<1)=true:=decide_eq_true hm1
      have HNO:=hide (HN1.out hm1)
      have HF:=hide (nu_ret HA.out HX.out)
      exact Qw7
     ·have d1:decide ((m:Int)<1)=false:=decide_eq_false (by omega)
      have d1':decide (m<1)=false:=decide_eq_false hm1
      by_cases hm4:4<m
      ·have d2:decide ((4:Int)<(m:Int))=true:=decide_eq_true (by omega)
       have d2':decide (4<m)=true:=decide_eq_true hm4
       have HNO:=hide (HN4.out hm4)
       have HF:=hide (nu_ret HA.out HX.out)
       exact Qw7
      ·have d2:decide ((4:Int)<(m:Int))=false:=decide_eq_false (by omega)
       have d2':decide (4<m)=false:=decide_eq_false hm4
       clear HN1 HN4
       go_upto_region 19 with fail
       go_loopw [11] (fun v11 wr=>∃(i:Nat) (a:Option Addr) (n c:Nat),v11= .int .i64 ((m:Int)+(i:Int))∧m+i≤4∧Hid (NuAt w wr false (.slice a n c)∧NumIs wr (.agg #[.bool false,.slice a n c]) ((X*10^i:Nat):Int)∧lenD (X*10^i)≤102+i)) (fun v11 _=>4 - (intOf v11).toNat)
       case atStart=>exact⟨0,a,n,c,by first|rfl|(congr 1;omega)|congr 1,by omega,hide ⟨HA.out,by rw[Nat.pow_zero,Nat.mul_one];exact HX.out,by rw[Nat.pow_zero,Nat.mul_one];exact HLX.out⟩⟩
       case round=>
        clear HA HX y0 y1 z0 z1 zf0 zf1 yf0 yf1
        obtain⟨wp,rfl⟩:∃wp:World,wp=wr:=⟨_,rfl⟩
        obtain⟨i,a,n,c,rfl,hi,hq⟩:=hrel
        obtain⟨hA,hX,hLi⟩:=hq.out
        have HA:=hide hA
        have HX:=hide hX
        have HLi:=hide hLi
        obtain⟨y0,y1,yf⟩:=two_cells' hA.x
        obtain⟨z0,z1,zf⟩:=two_cells' hA.r
        have zf0:=zf 0
        have zf1:=zf 1
        have yf0:=yf 0
        have yf1:=yf 1
        clear zf yf hq hA hX hLi
        by_cases hlt:m+i<4
        ·have p1:decide ((m:Int)+(i:Int)<4)=true:=decide_eq_true (by omega)
         exact Qw6
        ·have hi4:4 - m=i:=by omega
         rw[hi4] at HY
         have p1:decide ((m:Int)+(i:Int)<4)=false:=decide_eq_false (by omega)
         obtain⟨X2,hX2⟩:∃X2,X*10^i=X2:=⟨_,rfl⟩
         rw[hX2] at HX HY
         have HY:Hid (q≠1→∀h:1<s.size,¬(s[1].toNat=48∧2<q)→numR (dl s)=some (sgn' true X2,true)):=hide (HY.out (by omega) (by omega))
         clear hX2 HLi hi4 hlt
         go_upto_region 22 with fail
         by_cases h1:q=1
         ·have d1:((q:Int)==1)=true:=beq_iff_eq.2 (by omega)
          have HNO:=hide (HNOa.out h1)
          have HF:=hide (nu_ret HA.out HX.out)
          clear h1
          exact Qw7
         ·have hF:1<s.size:=by omega
          have d1:((q:Int)==1)=false:=beq_eq_false_iff_ne.2 (by omega)
          have q2:(1:Int)<(s.size:Int):=by omega
          by_cases h2:s[1].toNat=48
          ·have d2:((s[1].toNat:Int)==48)=true:=beq_iff_eq.2 (by omega)
           by_cases h3:2<q
           ·have d3:decide ((2:Int)<(q:Int))=true:=decide_eq_true (by omega)
            have d4:decide (2<q)=true:=decide_eq_true (by omega)
            have HNO:=hide (HNOb.out hF h2 h3)
            have HF:=hide (nu_ret HA.out HX.out)
            exact Qw7
           ·have d3:decide ((2:Int)<(q:Int))=false:=decide_eq_false (by omega)
            have d4:decide (2<q)=false:=decide_eq_false (by omega)
            have HYY:=hide (HY.out h1 hF (fun h=>h3 h.2))
            have HNG:=hide (neg_any HX.out)
            go_wp2_with fail
            (with_reducible refine HNG.out.mono ?_)
            rintro e V5 ⟨⟨v5,rfl,hv5⟩,hb5⟩
            obtain⟨b5,a5,n5,c5,rfl⟩:=hv5.parts
            have hA5:=HA.out.below hb5
            have HN5:=hide (nu_next hA5 hv5)
            obtain⟨g0,g1,gf⟩:=two_cells' hA5.x
            obtain⟨r0,r1,rf⟩:=two_cells' hA5.r
            have gf0:=gf 0
            have gf1:=gf 1
            have rf0:=rf 0
            have rf1:=rf 1
            have HF:=hide (nu_ret HN5.out.1 HN5.out.2)
            clear hv5 hb5 hA5 gf rf HNG y0 y1 z0 z1 zf0 zf1 yf0 yf1
            go_wp2_with fail
            exact bodyPost_ret (v:= .tuple #[.agg #[.bool b5,.slice a5 n5 c5],.bool true,.bool true]) (by simp [results,Tryz.results211,go_sem, *]) rfl (NuPost.yes HF.out.1 HYY.out HF.out.2)
          ·have d2:((s[1].toNat:Int)==48)=false:=beq_eq_false_iff_ne.2 (by omega)
           have HYY:=hide (HY.out h1 hF (fun h=>h2 h.1))
           have HNG:=hide (neg_any HX.out)
           go_wp2_with fail
           (with_reducible refine HNG.out.mono ?_)
           rintro e V5 ⟨⟨v5,rfl,hv5⟩,hb5⟩
           obtain⟨b5,a5,n5,c5,rfl⟩:=hv5.parts
           have hA5:=HA.out.below hb5
           have HN5:=hide (nu_next hA5 hv5)
           obtain⟨g0,g1,gf⟩:=two_cells' hA5.x
           obtain⟨r0,r1,rf⟩:=two_cells' hA5.r
           have gf0:=gf 0
           have gf1:=gf 1
           have rf0:=rf 0
           have rf1:=rf 1
           have HF:=hide (nu_ret HN5.out.1 HN5.out.2)
           clear hv5 hb5 hA5 gf rf HNG y0 y1 z0 z1 zf0 zf1 yf0 yf1
           go_wp2_with fail
           exact bodyPost_ret (v:= .tuple #[.agg #[.bool b5,.slice a5 n5 c5],.bool true,.bool true]) (by simp [results,Tryz.results211,go_sem, *]) rfl (NuPost.yes HF.out.1 HYY.out HF.out.2)
 |false=>
  have hh:=of_decide_eq_false hng
  obtain⟨b,hb⟩:∃b,(if(dl s).head? =some 45 then(dl s).tail else dl s)=b:=⟨_,rfl⟩
  have hbt:b=dl s:=by rw[←hb,if_neg hh]
  have HB:=hide hb
  have HBL:Hid (b.length=s.size - 0):=hide (by rw[hbt,dl_size];rfl)
  have HB402:Hid (b.length≤402):=hide (by rw[HBL.out];omega)
  have HBG:Hid (∀j (hj:j<b.length) p (hp:p<s.size),p=0+j→b[j]=s[p]):=hide (fun j hj p hp e=>by subst hbt;obtain rfl:p=j:=(by omega);have:=dl_get hp;rw[List.getElem?_eq_getElem hj] at this;exact Option.some.inj this)
  have HSZ:Hid (0≤s.size):=hide (Nat.zero_le _)
  have HH:Hid (decide ((dl s).head? =some 45)=false):=hide hng
  by_cases hsz:0<s.size
  ·have d0:((s[0].toNat:Int)==45)=false:=beq_eq_false_iff_ne.2 (fun e=>hh (by rw[dl_head hsz];congr 1;exact u8_eq (n:=45) (by omega)))
   clear hb hbt hh hng
   go_upto_region 6 with fail
   have HNP:Hid (NumSt b 0 0 0 (-1)):=hide (NumSt.start b 0)
   go_loopw [6,7] (fun v6 v7 wr=>∃(p X:Nat) (pt:Int) (a:Option Addr) (n c:Nat),v6= .int .i64 (p:Int)∧v7= .int .i64 pt∧0≤p∧p≤s.size∧ -1≤pt∧pt≤(s.size:Int)∧Hid (NuAt w wr false (.slice a n c)∧NumIs wr (.agg #[.bool false,.slice a n c]) (X:Int)∧NumSt b 0 (p - 0) X pt)) (fun v6 _ _=>s.size - (intOf v6).toNat)
   case atStart=>exact⟨0,0,-1,none,0,0,rfl,rfl,Nat.le_refl _,HSZ.out,by omega,by omega,hide ⟨HN0.out,natIs (m:=0) (by rw[dg_zero];exact DgRd.nil _),HNP.out⟩⟩
   case round=>
    obtain⟨wo,rfl⟩:∃wo:World,wo=wr:=⟨_,rfl⟩
    obtain⟨p,X,pt,a,n,c,rfl,rfl,hfp,hps,hpt1,hpt2,hq⟩:=hrel
    obtain⟨hA,hX,hN⟩:=hq.out
    have HA:=hide hA
    have HX:=hide hX
    have HN:=hide hN
    obtain⟨y0,y1,yf⟩:=two_cells' hA.x
    obtain⟨z0,z1,zf⟩:=two_cells' hA.r
    have zf0:=zf 0
    have zf1:=zf 1
    have yf0:=yf 0
    have yf1:=yf 1
    clear zf yf hq hA hX hN
    by_cases hgo:p<s.size
    ·have p0:decide ((p:Int)<(s.size:Int))=true:=decide_eq_true (by omega)
     have q0:(0:Int)≤(p:Int):=by omega
     have q1:(p:Int)<(s.size:Int):=by omega
     have hjb:p - 0<b.length:=by rw[HBL.out];omega
     have hbj:b[p - 0]'hjb=s[p]:=HBG.out (p - 0) hjb p hgo (by omega)
     by_cases h46:s[p].toNat=46
     ·have d1:((s[p].toNat:Int)==46)=true:=beq_iff_eq.2 (by omega)
      have e46:s[p]=46:=u8_eq h46
      have hdg:digC s[p]=false:=by rw[e46];decide
      by_cases hpn:pt<0
      ·have d2:decide (pt<0)=true:=decide_eq_true hpn
       by_cases hpf:0<p
       ·have d3:decide ((0:Int)<(p:Int))=true:=decide_eq_true (by omega)
        have HN2:=hide (HN.out.point hjb (by rw[hbj];exact e46) hpn (by omega))
        clear hdg e46 hbj
        go_wp2_with fail
        go_roundw
        case rel=>exact⟨p+1,X,(p:Int),a,n,c,by go_num,rfl,by omega,by omega,by omega,by omega,hide ⟨HA.out,HX.out,by have:=HN2.out;rw[show p - 0+1=p+1 - 0 by omega,show((0+(p - 0):Nat):Int)=(p:Int) by omega] at this;exact this⟩⟩
        case measure=>simp [intOf]<;>omega
       ·have d3:decide ((0:Int)<(p:Int))=false:=decide_eq_false (by omega)
        have hbad:¬(s[p]=46∧pt<0∧0<p - 0):=fun h=>by have:=h.2.2;omega
        have d4:decide ((s[p].toNat:Int)<48)=true:=decide_eq_true (by omega)
        have HNO:=hide (NumSt.bad HB.out HN.out hjb (by rw[hbj];exact hdg) (by rw[hbj];exact hbad))
        have HF:=hide (nu_ret HA.out HX.out)
        clear hdg hbad hbj
        exact Qw7
      ·have d2:decide (pt<0)=false:=decide_eq_false hpn
       have hbad:¬(s[p]=46∧pt<0∧0<p - 0):=fun h=>by have:=h.2.1;omega
       have d4:decide ((s[p].toNat:Int)<48)=true:=decide_eq_true (by omega)
       have HNO:=hide (NumSt.bad HB.out HN.out hjb (by rw[hbj];exact hdg) (by rw[hbj];exact hbad))
       have HF:=hide (nu_ret HA.out HX.out)
       clear hdg hbad hbj
       exact Qw7
     ·have d1:((s[p].toNat:Int)==46)=false:=beq_eq_false_iff_ne.2 (by omega)
      have hbad:¬(s[p]=46∧pt<0∧0<p - 0):=fun h=>h46 (by rw[h.1];rfl)
      by_cases h48:s[p].toNat<48
      ·have hdg:digC s[p]=false:=by unfold digC;rw[decide_eq_false (by omega)];rfl
       have d4:decide ((s[p].toNat:Int)<48)=true:=decide_eq_true (by omega)
       have HNO:=hide (NumSt.bad HB.out HN.out hjb (by rw[hbj];exact hdg) (by rw[hbj];exact hbad))
       have HF:=hide (nu_ret HA.out HX.out)
       clear hdg hbad hbj
       exact Qw7
      ·have d4:decide ((s[p].toNat:Int)<48)=false:=decide_eq_false (by omega)
       by_cases h57:57<s[p].toNat
       ·have hdg:digC s[p]=false:=by unfold digC;rw[decide_eq_false (show ¬s[p].toNat≤57 by omega),Bool.and_false]
        have d5:decide ((57:Int)<(s[p].toNat:Int))=true:=decide_eq_true (by omega)
        have HNO:=hide (NumSt.bad HB.out HN.out hjb (by rw[hbj];exact hdg) (by rw[hbj];exact hbad))
        have HF:=hide (nu_ret HA.out HX.out)
        clear hdg hbad hbj
        exact Qw7
       ·have d5:decide ((57:Int)<(s[p].toNat:Int))=false:=decide_eq_false (by omega)
        have hdg:digC s[p]=true:=by unfold digC;rw[decide_eq_true (by omega),decide_eq_true (by omega)];rfl
        have HN2:=hide (HN.out.digit hjb (by rw[hbj];exact hdg))
        rw[hbj] at HN2
        obtain⟨dd,hdd⟩:∃dd,s[p].toNat - 48=dd:=⟨_,rfl⟩
        rw[hdd] at HN2
        have hd9:dd<10:=by omega
        have hw8:IntKind.u8.wrap ((s[p].toNat:Int) - 48)=(dd:Int):=by rw[show(s[p].toNat:Int) - 48=(dd:Int) by omega];simp [IntKind.wrap,IntKind.signed,IntKind.bits];omega
        have hw64:IntKind.i64.wrap (dd:Int)=(dd:Int):=IntWalk.i64_in _ (by omega)
        have HLX:=hide (HN.out.len HB402.out)
        have HD9:=hide hd9
        obtain⟨wd,hwd⟩:∃wd,wo.drew=wd:=⟨_,rfl⟩
        have hbd:Below wo.heap.size wo wd:=by rw[←hwd];exact(Below.refl _ _).drew
        have HBD:=hide hbd
        have HY:Hid (∀V,Below wd.heap.size wd V→V.cell? ⟨w.heap.size+1,0,none⟩=some (.bool false)∧V.cell? ⟨w.heap.size+1,1,none⟩=some (.slice a n c)):=hide fun V hV=>⟨bcell hV (bcell hbd y0),bcell hV (bcell hbd y1)⟩
        clear hbd hbad hbj hdg hdd hd9
        go_wp2_with fail
        refine wp_region_noPanic ?_
        refine wp_region_held_drew (S:=fun _=>True) (by kernel_rfl) ?_ (fun hHeld=>?_)
        ·trivial
        rw[hwd]
        refine wpAnyH_take (i:=3) (oi:=⟨some 57,_,_,_,_,_⟩) (v:=?_) rfl (by kernel_rfl) (by kernel_rfl) (by kernel_rfl) (fun _ _ _ h=>h) (Or.inl ⟨by rfl,?_⟩) (by assumption) ?_
        rotate_left
        ·(intro w hSw;(try dsimp only at hSw);(first|(go_simp;done)|(go_simp;with_reducible rfl)))
        try simp only[Act.put,List.setIfInBounds_toArray,List.set_cons_zero,List.set_cons_succ]
        refine wpAnyH_take (i:=4) (oi:=⟨some 58,_,_,_,_,_⟩) (v:=?_) rfl (by kernel_rfl) (by kernel_rfl) (by kernel_rfl) (fun _ _ _ h=>h) (Or.inl ⟨by rfl,?_⟩) (by assumption) ?_
        rotate_left
        ·(intro w hSw;(try dsimp only at hSw);(first|(go_simp;done)|(go_simp;with_reducible rfl)))
        try simp only[Act.put,List.setIfInBounds_toArray,List.set_cons_zero,List.set_cons_succ]
        refine wpAnyH_take (i:=5) (oi:=⟨some 59,_,_,_,_,_⟩) (v:=?_) rfl (by kernel_rfl) (by kernel_rfl) (by kernel_rfl) (fun _ _ _ h=>h) (Or.inl ⟨by rfl,?_⟩) (by assumption) ?_
        rotate_left
        ·(intro w hSw;(try dsimp only at hSw);(first|(go_simp;done)|(go_simp;with_reducible rfl)))
        try simp only[Act.put,List.setIfInBounds_toArray,List.set_cons_zero,List.set_cons_succ]
        refine wpAnyH_take (i:=6) (oi:=⟨some 60,_,_,_,_,_⟩) (v:=?_) rfl (by kernel_rfl) (by kernel_rfl) (by kernel_rfl) (fun _ _ _ h=>h) (Or.inl ⟨by rfl,?_⟩) (by assumption) ?_
        rotate_left
        ·(intro w hSw;(try dsimp only at hSw);(first|(go_simp;done)|(go_simp;with_reducible rfl)))
        try simp only[Act.put,List.setIfInBounds_toArray,List.set_cons_zero,List.set_cons_succ]
        refine wpAnyH_take (i:=7) (oi:=⟨some 61,_,_,_,_,_⟩) (v:=?_) rfl (by kernel_rfl) (by kernel_rfl) (by kernel_rfl) (fun _ _ _ h=>h) (Or.inl ⟨by rfl,?_⟩) (by assumption) ?_
        rotate_left
        ·(intro w hSw;(try dsimp only at hSw);(first|(go_simp;done)|(go_simp;with_reducible rfl)))
        try simp only[Act.put,List.setIfInBounds_toArray,List.set_cons_zero,List.set_cons_succ]
        have HMONO:=hide (show ∀F∈[(fun v _=>v= .agg #[.bool false,.slice a n c]),NumD 10],∀v w w',F v w→Below w.heap.size w w'→F v w' from mono_cons (fun _ _ _ h _=>h)<|mono_cons (fun _ _ _ h hb=>h.below hb)<|mono_nil)
        refine wpAnyH_facts (Inv:=InvB wd.heap.size wd [(fun v _=>v= .agg #[.bool false,.slice a n c]),NumD 10] []) 2 [0,1] [some 54,some 55] [[],[]] [false,false] (by kernel_rfl) (fun _ _ _ _ _ h=>h) (by kernel_rfl) ?_ (InvB.start rfl rfl) ?_ ?_
        ·exact fun _ _ _ _=>trivial
        ·refine lt2 ?_ ?_
         ·rw[if_neg (by decide)]
          refine OneB.mk 0 ⟨some 54,_,_,_,_,_⟩ _ rfl rfl rfl rfl HMONO.out (Nat.le_refl _) ?_
          intro d u V hd hu hdep hF hbV hzV K hK
          obtain⟨x0,x1,rfl⟩:=len2 hu
          obtain⟨b0,b1,rfl⟩:=len2 hd
          obtain⟨f0,f1,_⟩:=hF
          clear hd hu hdep f0 f1 HMONO
          have HBV:=hide hbV
          have HZV:=hide hzV
          clear hbV hzV
          simp only[putAll,Act.put,List.setIfInBounds_toArray,List.set_cons_zero,List.set_cons_succ] at hK ⊢
          obtain⟨u0,u1⟩:=HY.out V HBV.out
          go_simp
          (try go_wp2_with fail)
          refine hK.out _ _ (Below.refl _ _) rfl (fun h=>absurd h (by decide))
         ·rw[if_neg (by decide)]
          refine OneB.mk 1 ⟨some 55,_,_,_,_,_⟩ _ rfl rfl rfl rfl HMONO.out (Nat.le_refl _) ?_
          intro d u V hd hu hdep hF hbV hzV K hK
          obtain⟨x0,x1,rfl⟩:=len2 hu
          obtain⟨b0,b1,rfl⟩:=len2 hd
          obtain⟨f0,f1,_⟩:=hF
          clear hd hu hdep f0 f1 HMONO
          have HBV:=hide hbV
          have HZV:=hide hzV
          clear hbV hzV
          simp only[putAll,Act.put,List.setIfInBounds_toArray,List.set_cons_zero,List.set_cons_succ] at hK ⊢
          go_simp
          go_at_call 47
          (with_reducible refine(HO.out V).mono ?_)
          rintro e V1 ⟨⟨v1,rfl,hv1⟩,hb1⟩
          (try go_wp2_with fail)
          refine hK.out _ _ hb1 hv1 (fun h=>absurd h (by decide))
        ·intro u V hu hI
         obtain⟨x0,x1,rfl⟩:=len2 hu
         obtain⟨hbV,hzV,⟨f0,f1,_⟩,hDst⟩:=hI
         have f0:=f0 rfl
         have f1:=f1 rfl
         clear hu HMONO
         simp only[putAll,Act.put,List.setIfInBounds_toArray,List.set_cons_zero,List.set_cons_succ]
         (try dsimp only at f0)
         subst f0
         have HBV:=hide hbV
         have HM:=hide (mul_any (x:=(X:Int)) (y:=10) (HX.out.below (HBD.out.trans (hbV.mono HBD.out.size))) f1 (by have:=HLX.out;rw[Int.natAbs_natCast];omega) (by exact Nat.le_trans (lenD_small (by decide)) (by decide)))
         clear f1 hDst hbV
         have hHeld:True:=trivial
         refine wpAnyH_ready (rs:=[2]) (by kernel_rfl) (by simp) ?_
         refine AllReadyH.cons (o:=⟨some 56,_,_,_,_,_⟩) (rs:=[]) rfl (fun K hK=>?_) AllReadyH.nil
         go_simp
         go_at_call 127
         (with_reducible refine HM.out.mono ?_)
         rintro e V2 ⟨⟨v2,rfl,hv2⟩,hb2⟩
         have HM2:=hide (And.intro hv2 hb2)
         clear hv2 hb2
         try go_wp2_with fail
         clear hHeld
         refine hK.out _ _ ?_ (fun hHeld=>?_)
         ·trivial
         clear hK K
         try simp only[Act.put,List.setIfInBounds_toArray,List.set_cons_zero,List.set_cons_succ]
         have HO2:=hide (of_num (w:=V2) (dd:Int) (by omega) (by have:=HD9.out;omega))
         refine wpAnyH_ready (rs:=[8]) (by kernel_rfl) (by simp) ?_
         refine AllReadyH.cons (o:=⟨some 62,_,_,_,_,_⟩) (rs:=[]) rfl (fun K hK=>?_) AllReadyH.nil
         go_simp
         go_at_call 47
         (with_reducible refine HO2.out.mono ?_)
         rintro e V3 ⟨⟨v3,rfl,hv3⟩,hb3⟩
         have HM3:=hide (And.intro hv3 hb3)
         clear hv3 hb3
         try go_wp2_with fail
         clear hHeld
         refine hK.out _ _ ?_ (fun hHeld=>?_)
         ·trivial
         clear hK K
         try simp only[Act.put,List.setIfInBounds_toArray,List.set_cons_zero,List.set_cons_succ]
         have HA3:=hide (add_any (x:=(X:Int)*10) (y:=(dd:Int)) (HM2.out.1.below HM3.out.2) HM3.out.1 (by rw[natmul,Int.natAbs_natCast];exact Nat.le_trans (len10 HLX.out) (by decide)) (by rw[Int.natAbs_natCast];exact Nat.le_trans (lenD_small (by have:=HD9.out;omega)) (by decide)))
         refine wpAnyH_ready (rs:=[9]) (by kernel_rfl) (by simp) ?_
         refine AllReadyH.cons (o:=⟨some 63,_,_,_,_,_⟩) (rs:=[]) rfl (fun K hK=>?_) AllReadyH.nil
         go_simp
         go_at_call 191
         (with_reducible refine HA3.out.mono ?_)
         rintro e V4 ⟨⟨v4,rfl,hv4⟩,hb4⟩
         rw[show(X:Int)*10+(dd:Int)=((X*10+dd:Nat):Int) by omega] at hv4
         obtain⟨a4,n4,c4,rfl,hd4⟩:=hv4.nat
         have HM4:=hide (And.intro hv4 hb4)
         clear hv4 hb4 hd4
         try go_wp2_with fail
         clear hHeld
         refine hK.out _ _ ?_ (fun hHeld=>?_)
         ·trivial
         clear hK K
         try simp only[Act.put,List.setIfInBounds_toArray,List.set_cons_zero,List.set_cons_succ]
         have hb4:=HBD.out.trans ((HBV.out.trans ((HM2.out.2.trans ((HM3.out.2.trans (HM4.out.2.mono HM3.out.2.size)).mono HM2.out.2.size)).mono HBV.out.size)).mono HBD.out.size)
         have hA4:=HA.out.below hb4
         obtain⟨g0,g1,gf⟩:=two_cells' hA4.x
         have gf0:=gf 0
         have gf1:=gf 1
         have HNX:=hide (nu_next hA4 HM4.out.1)
         clear hb4 hA4 gf HM2 HM3 HA3 HM HO2 HM4
         refine wpAnyH_ready (rs:=[10]) (by kernel_rfl) (by simp) ?_
         refine AllReadyH.cons (o:=⟨none,_,_,_,_,_⟩) (rs:=[]) rfl (fun K hK=>?_) AllReadyH.nil
         go_simp
         try go_wp2_with fail
         clear hHeld
         refine hK.out _ _ ?_ (fun hHeld=>?_)
         ·trivial
         clear hK K
         try simp only[Act.put,List.setIfInBounds_toArray,List.set_cons_zero,List.set_cons_succ]
         refine wpAnyH_done (by kernel_rfl) ?_ _
         refine NoPanic.normal ?_
         go_wp2_with fail
         go_roundw
         case rel=>exact⟨p+1,X*10+dd,pt,a4,n4,c4,by go_num,rfl,by omega,by omega,by omega,by omega,hide ⟨HNX.out.1,HNX.out.2,by have:=HN2.out;rw[show p - 0+1=p+1 - 0 by omega] at this;exact this⟩⟩
         case measure=>simp [intOf]<;>omega
    ·obtain rfl:p=s.size:=by omega
     have p0:decide ((s.size:Int)<(s.size:Int))=false:=decide_eq_false (by omega)
     have hbs:s.size - 0=b.length:=HBL.out.symm
     rw[hbs] at HN
     by_cases hpn:pt<0
     ·have hpl:=NumSt.plain HB.out HN.out hpn
      rw[HH.out] at hpl
      have hhd:=(show ∀h:0<s.size,b.head? =some s[0] from fun h=>by rw[List.head?_eq_getElem?,List.getElem?_eq_getElem (by rw[HBL.out];omega),HBG.out 0 (by rw[HBL.out];omega) 0 h (by omega)])
      have HNOa:Hid (s.size=0→numR (dl s)=none):=hide fun h=>by rw[hpl,if_pos (Or.inl (List.eq_nil_of_length_eq_zero (by omega)))]
      have HNOb:Hid (∀h:0<s.size,s[0].toNat=48→1<s.size→numR (dl s)=none):=hide fun h h2 h3=>by rw[hpl,if_pos (Or.inr ⟨by omega,by rw[hhd h,u8_eq h2];rfl⟩)]
      have HY:Hid (s.size≠0→∀h:0<s.size,¬(s[0].toNat=48∧1<s.size)→numR (dl s)=some (sgn' false X,false)):=hide fun h1 h h2=>by
       rw[hpl,if_neg]
       rintro (q|⟨q1,q2⟩)
       ·have q0:b.length=0:=by rw[q];rfl
        omega
       ·rw[hhd h] at q2;exact h2 ⟨by rw[Option.some.inj q2];rfl,by omega⟩
      have d9:decide ((0:Int)≤pt)=false:=decide_eq_false (by omega)
      have hpn1:pt= -1:=by omega
      subst hpn1
      clear hpl hhd hbs hpn hgo
      go_upto_region 22 with fail
      by_cases h1:s.size=0
      ·have d1:((s.size:Int)==0)=true:=beq_iff_eq.2 (by omega)
       have HNO:=hide (HNOa.out h1)
       have HF:=hide (nu_ret HA.out HX.out)
       clear h1
       exact Qw7
      ·have hF:0<s.size:=by omega
       have d1:((s.size:Int)==0)=false:=beq_eq_false_iff_ne.2 (by omega)
       have q2:(0:Int)<(s.size:Int):=by omega
       by_cases h2:s[0].toNat=48
       ·have d2:((s[0].toNat:Int)==48)=true:=beq_iff_eq.2 (by omega)
        by_cases h3:1<s.size
        ·have d3:decide ((1:Int)<(s.size:Int))=true:=decide_eq_true (by omega)
         have d4:decide (1<s.size)=true:=decide_eq_true (by omega)
         have HNO:=hide (HNOb.out hF h2 h3)
         have HF:=hide (nu_ret HA.out HX.out)
         exact Qw7
        ·have d3:decide ((1:Int)<(s.size:Int))=false:=decide_eq_false (by omega)
         have d4:decide (1<s.size)=false:=decide_eq_false (by omega)
         have HYY:=hide (HY.out h1 hF (fun h=>h3 h.2))
         have HF:=hide (nu_ret HA.out HX.out)
         go_wp2_with fail
         exact bodyPost_ret (v:= .tuple #[.agg #[.bool false,.slice a n c],.bool false,.bool true]) (by simp [results,Tryz.results211,go_sem, *]) rfl (NuPost.yes HF.out.1 HYY.out HF.out.2)
       ·have d2:((s[0].toNat:Int)==48)=false:=beq_eq_false_iff_ne.2 (by omega)
        have HYY:=hide (HY.out h1 hF (fun h=>h2 h.1))
        have HF:=hide (nu_ret HA.out HX.out)
        go_wp2_with fail
        exact bodyPost_ret (v:= .tuple #[.agg #[.bool false,.slice a n c],.bool false,.bool true]) (by simp [results,Tryz.results211,go_sem, *]) rfl (NuPost.yes HF.out.1 HYY.out HF.out.2)
     ·obtain⟨q,rfl⟩:∃q:Nat,pt=(q:Int):=⟨pt.toNat,by omega⟩
      obtain⟨hpl,hk1,hk2⟩:=NumSt.pointed HB.out HN.out (by omega)
      rw[HH.out] at hpl
      have hhd:=(show ∀h:0<s.size,b.head? =some s[0] from fun h=>by rw[List.head?_eq_getElem?,List.getElem?_eq_getElem (by rw[HBL.out];omega),HBG.out 0 (by rw[HBL.out];omega) 0 h (by omega)])
      rw[show((q:Int) - (0:Nat)).toNat=q - 0 by omega] at hpl hk1 hk2
      rw[←hbs] at hpl hk2
      rw[show s.size - 0 - (q - 0+1)=s.size - q - 1 by omega] at hpl
      have hqs:q<s.size:=by omega
      have hqf:0<q:=by omega
      obtain⟨m,hm⟩:∃m,s.size - q - 1=m:=⟨_,rfl⟩
      rw[hm] at hpl
      have d9:decide ((0:Int)≤(q:Int))=true:=decide_eq_true (by omega)
      have hms:(s.size:Int) - (q:Int) - 1=(m:Int):=by omega
      have HLX:=hide (HN.out.len HB402.out)
      have HNOa:Hid (q=0→numR (dl s)=none):=hide fun h=>by omega
      have HNOb:Hid (∀h:0<s.size,s[0].toNat=48→1<q→numR (dl s)=none):=hide fun h h2 h3=>by rw[hpl,if_pos (Or.inr ⟨by omega,by rw[hhd h,u8_eq h2];rfl⟩)]
      have HY:Hid (1≤m→m≤4→q≠0→∀h:0<s.size,¬(s[0].toNat=48∧1<q)→numR (dl s)=some (sgn' false (X*10^(4 - m)),true)):=hide fun h8 h9 h1 h h2=>by
       rw[hpl,if_neg]
       rintro (q|⟨q1,q2⟩)
       ·omega
       ·rw[hhd h] at q2;exact h2 ⟨by rw[Option.some.inj q2];rfl,by omega⟩
      have HN1:Hid (m<1→numR (dl s)=none):=hide fun h=>by rw[hpl,if_pos (Or.inl (Or.inl h))]
      have HN4:Hid (4<m→numR (dl s)=none):=hide fun h=>by rw[hpl,if_pos (Or.inl (Or.inr h))]
      have HM9:=hide hms
      have hm402:m≤402:=by omega
      clear hpl hhd hbs hpn hgo hk1 hk2 hm
      go_upto_region 17 with fail
      (try rw[HM9.out])
      clear hms
      by_cases hm1:m<1
      ·have d1:decide ((m:Int)<1)=true:=decide_eq_true (by omega)
       have d1':decide (m<1)=true:=decide_eq_true hm1
       have HNO:=hide (HN1.out hm1)
       have HF:=hide (nu_ret HA.out HX.out)
       exact Qw7
      ·have d1:decide ((m:Int)<1)=false:=decide_eq_false (by omega)
       have d1':decide (m<1)=false:=decide_eq_false hm1
       by_cases hm4:4<m
       ·have d2:decide ((4:Int)<(m:Int))=true:=decide_eq_true (by omega)
        have d2':decide (4<m)=true:=decide_eq_true hm4
        have HNO:=hide (HN4.out hm4)
        have HF:=hide (nu_ret HA.out HX.out)
        exact Qw7
       ·have d2:decide ((4:Int)<(m:Int))=false:=decide_eq_false (by omega)
        have d2':decide (4<m)=false:=decide_eq_false hm4
        clear HN1 HN4
        go_upto_region 19 with fail
        go_loopw [11] (fun v11 wr=>∃(i:Nat) (a:Option Addr) (n c:Nat),v11= .int .i64 ((m:Int)+(i:Int))∧m+i≤4∧Hid (NuAt w wr false (.slice a n c)∧NumIs wr (.agg #[.bool false,.slice a n c]) ((X*10^i:Nat):Int)∧lenD (X*10^i)≤102+i)) (fun v11 _=>4 - (intOf v11).toNat)
        case atStart=>exact⟨0,a,n,c,by first|rfl|(congr 1;omega)|congr 1,by omega,hide ⟨HA.out,by rw[Nat.pow_zero,Nat.mul_one];exact HX.out,by rw[Nat.pow_zero,Nat.mul_one];exact HLX.out⟩⟩
        case round=>
         clear HA HX y0 y1 z0 z1 zf0 zf1 yf0 yf1
         obtain⟨wp,rfl⟩:∃wp:World,wp=wr:=⟨_,rfl⟩
         obtain⟨i,a,n,c,rfl,hi,hq⟩:=hrel
         obtain⟨hA,hX,hLi⟩:=hq.out
         have HA:=hide hA
         have HX:=hide hX
         have HLi:=hide hLi
         obtain⟨y0,y1,yf⟩:=two_cells' hA.x
         obtain⟨z0,z1,zf⟩:=two_cells' hA.r
         have zf0:=zf 0
         have zf1:=zf 1
         have yf0:=yf 0
         have yf1:=yf 1
         clear zf yf hq hA hX hLi
         by_cases hlt:m+i<4
         ·have p1:decide ((m:Int)+(i:Int)<4)=true:=decide_eq_true (by omega)
          exact Qw6
         ·have hi4:4 - m=i:=by omega
          rw[hi4] at HY
          have p1:decide ((m:Int)+(i:Int)<4)=false:=decide_eq_false (by omega)
          obtain⟨X2,hX2⟩:∃X2,X*10^i=X2:=⟨_,rfl⟩
          rw[hX2] at HX HY
          have HY:Hid (q≠0→∀h:0<s.size,¬(s[0].toNat=48∧1<q)→numR (dl s)=some (sgn' false X2,true)):=hide (HY.out (by omega) (by omega))
          clear hX2 HLi hi4 hlt
          go_upto_region 22 with fail
          by_cases h1:q=0
          ·have d1:((q:Int)==0)=true:=beq_iff_eq.2 (by omega)
           have HNO:=hide (HNOa.out h1)
           have HF:=hide (nu_ret HA.out HX.out)
           clear h1
           exact Qw7
          ·have hF:0<s.size:=by omega
           have d1:((q:Int)==0)=false:=beq_eq_false_iff_ne.2 (by omega)
           have q2:(0:Int)<(s.size:Int):=by omega
           by_cases h2:s[0].toNat=48
           ·have d2:((s[0].toNat:Int)==48)=true:=beq_iff_eq.2 (by omega)
            by_cases h3:1<q
            ·have d3:decide ((1:Int)<(q:Int))=true:=decide_eq_true (by omega)
             have d4:decide (1<q)=true:=decide_eq_true (by omega)
             have HNO:=hide (HNOb.out hF h2 h3)
             have HF:=hide (nu_ret HA.out HX.out)
             exact Qw7
            ·have d3:decide ((1:Int)<(q:Int))=false:=decide_eq_false (by omega)
             have d4:decide (1<q)=false:=decide_eq_false (by omega)
             have HYY:=hide (HY.out h1 hF (fun h=>h3 h.2))
             have HF:=hide (nu_ret HA.out HX.out)
             go_wp2_with fail
             exact bodyPost_ret (v:= .tuple #[.agg #[.bool false,.slice a n c],.bool true,.bool true]) (by simp [results,Tryz.results211,go_sem, *]) rfl (NuPost.yes HF.out.1 HYY.out HF.out.2)
           ·have d2:((s[0].toNat:Int)==48)=false:=beq_eq_false_iff_ne.2 (by omega)
            have HYY:=hide (HY.out h1 hF (fun h=>h2 h.1))
            have HF:=hide (nu_ret HA.out HX.out)
            go_wp2_with fail
            exact bodyPost_ret (v:= .tuple #[.agg #[.bool false,.slice a n c],.bool true,.bool true]) (by simp [results,Tryz.results211,go_sem, *]) rfl (NuPost.yes HF.out.1 HYY.out HF.out.2)
  ·obtain rfl:s=⟨#[]⟩:=dl_inj (List.eq_nil_of_length_eq_zero (by rw[dl_size];omega))
   have HNO:=hide (show numR (dl (⟨#[]⟩:ByteArray))=none from rfl)
   have d0:decide (0<(⟨#[]⟩:ByteArray).size)=false:=by decide
   clear hb hbt hh hng hsz HB HBL HB402 HBG HSZ HH hs
   go_upto_region 6 with fail
   go_loopw [6,7] (fun v6 v7 wr=>v6= .int .i64 0∧v7= .int .i64 (-1)∧wr=W1) (fun _ _ _=>0)
   case atStart=>exact⟨rfl,rfl,rfl⟩
   case round=>
    obtain⟨rfl,rfl,rfl⟩:=hrel
    obtain⟨y0,y1,yf⟩:=two_cells' HN0.out.x
    obtain⟨z0,z1,zf⟩:=two_cells' HN0.out.r
    have zf0:=zf 0
    have zf1:=zf 1
    clear zf yf hx0 hx1
    have HF:=hide (nu_ret (z:=0) HN0.out (natIs (m:=0) (by rw[dg_zero];exact DgRd.nil _)))
    go_wp2_with fail
    exact bodyPost_ret (v:= .tuple #[.agg #[.bool false,.slice none 0 0],.bool false,.bool false]) (by simp [results,Tryz.results211,go_sem, *]) rfl (NuPost.no HF.out.1 HNO.out)
end Go.Proofs.YtgfakdobajgnfaaGreatDoor
