import Derived.Test.YtmpfilddeglgbaaGreatDoorQj18
import Derived.Test.YtmpfilddeglgbaaGreatDoorQj6
set_option maxRecDepth 100000
set_option maxHeartbeats 16000000
namespace Go.Proofs.YtmpfilddeglgbaaGreatDoor
open Go Go.RowKit Go.Lib
def Gh (w:World)(z:Int)(e:Ending)(w':World):Prop:=(∃v,e= .returned v/\Bn w' v z)/\Below w.heap.size w w'
theorem Bn.form {w:World}{v:Value}{z:Int}(h:Bn w v z):∃a c,v= .agg #[.bool (decide (z<0)),.slice a (Bw z.natAbs) c]/\Cp w (.slice a (Bw z.natAbs) c) (dg z.natAbs):=by
 obtain⟨s,h1,h2⟩:=h;obtain⟨a,c,rfl,_⟩:=h2.slice;exact⟨a,c,h1,h2⟩
theorem Iq {w:World}{sl:Value}{l:List Nat}(neg:Bool)(hs:Cp w sl l)(ho:okD l){z:Int}(hz:sgn neg (nv l)=z):Calls Tryz.prog 201 #[.bool neg,sl] w (Gh w z):=by
 rw[←hz];exact lB neg hs ho
theorem Bn.store {V:World}{r:Nat}{v:Value}{z:Int}{p:Bool}{a:Option Addr}{n c:Nat}{t:TypeId}(h:Bn V v z)(hr:V.heap[r]? =some (.cells #[.bool p,.slice a n c] t (0,0)))(u u':Value):Bn ((V.setCell ⟨r,0,none⟩ u).setCell ⟨r,1,none⟩ u') v z:=by
 obtain⟨s,rfl,h1,a0,c0,rfl,h3,h4⟩:=h;refine⟨_,rfl,h1,a0,c0,rfl,h3,fun i hi=>?_⟩;exact zyx
theorem P0 {w:World}{v:Value}{x:Int}(hx:Bn w v x):Calls Tryz.prog 187 #[v] w (Gh w (-x)):=by
 obtain⟨a,c,rfl,hs⟩:=hx.form;obtain⟨b,hb⟩:∃b,decide (x<0)=b:=⟨_,rfl⟩;rw[hb]
 have hz:sgn (!b) (nv (dg x.natAbs))= -x:=by
  rw[Fp,←hb];unfold sgn;by_cases h:x<0
  ·rw[Am h];simp;omega
  rw[An h];simp;omega
 obtain⟨n,hn⟩:∃n,Bw x.natAbs=n:=⟨_,rfl⟩;rw[hn] at hs ⊢;have HT:=fun V (hV:Below w.heap.size w V)=>Ax (Iq (!b) (hs.below hV) (G0 _) hz)
 have hB0:=Ax (((Aq _ w).alloc (Ak _) (.cells #[.bool b,.slice a n c] 208)).alloc tH (.cells #[.bool false,.slice none 0 0] 208));have hP0:=Ax (A1 (w.alloc (.cells #[.bool b,.slice a n c] 208)) (.cells #[.bool false,.slice none 0 0] 208));clear hx hs hz hb hn;go_enter Tryz.func187,Tryz.ntmps187;go_wp2_with fail;refine(HT _ hB0.out).out.mono ?_;rintro e V ⟨⟨v,rfl,hv⟩,hb⟩;obtain⟨a',c',rfl,_⟩:=hv.form;have hp:=(hb.block _ (Ay hP0.out)).trans hP0.out;rw[show(w.alloc (.cells #[.bool b,.slice a n c] 208)).heap.size=w.heap.size+1 by simp] at hp;obtain⟨x0,x1,xf⟩:=A0 hp;have xf0:=xf 0;have xf1:=xf 1;have HB:=Ax (((hB0.out.trans (hb.mono hB0.out.size)).setCell (p:=⟨w.heap.size+1,0,none⟩) tH (.bool (decide (-x<0)))).setCell (p:=⟨w.heap.size+1,1,none⟩) tH (.slice a' (Bw (-x).natAbs) c'));have HV:=Ax (hv.store hp (.bool (decide (-x<0))) (.slice a' (Bw (-x).natAbs) c'));obtain⟨nb,hnb⟩:∃nb,decide (-x<0)=nb:=⟨_,rfl⟩;obtain⟨k,hk⟩:∃k,Bw (-x).natAbs=k:=⟨_,rfl⟩;rw[hnb,hk] at HB HV ⊢;clear hv hb hp xf hB0 hP0 HT hnb hk;go_wp2_with fail;refine Au (v:= .agg #[.bool nb,.slice a' k c']) (by simp [results,Tryz.results187,go_sem, *]) rfl ⟨⟨_,rfl,HV.out⟩,HB.out⟩
theorem Xt (n:Nat):(dg n).length=Bw n:=rfl
theorem Xh {w:World}{vx vy:Value}{x y:Int}(hx:Bn w vx x)(hy:Bn w vy y)(hlx:Bw x.natAbs<=100000)(hly:Bw y.natAbs<=100000):Calls Tryz.prog 185 #[vx,vy] w (Gh w (x+y)):=by
 obtain⟨ax,cx,rfl,hsx⟩:=hx.form;obtain⟨ay,cy,rfl,hsy⟩:=hy.form;obtain⟨bx,hbx⟩:∃b,decide (x<0)=b:=⟨_,rfl⟩;obtain⟨by',hby⟩:∃b,decide (y<0)=b:=⟨_,rfl⟩;obtain⟨nx,hnx⟩:∃n,Bw x.natAbs=n:=⟨_,rfl⟩;obtain⟨ny,hny⟩:∃n,Bw y.natAbs=n:=⟨_,rfl⟩;have hxi:(bx=true↔x<0):=by rw[←hbx];simp
 have hyi:(by'=true↔y<0):=by rw[←hby];simp
 rw[hbx,hnx,hby,hny];rw[hnx] at hsx hlx;rw[hny] at hsy hly;have hb0:Below w.heap.size w (((w.alloc (.cells #[.bool bx,.slice ax nx cx] 208)).alloc (.cells #[.bool by',.slice ay ny cy] 208)).alloc (.cells #[.bool false,.slice none 0 0] 208)):=(((Aq _ w).alloc (Ak _) _).alloc tH _).alloc tL _
 have hpx:(((w.alloc (.cells #[.bool bx,.slice ax nx cx] 208)).alloc (.cells #[.bool by',.slice ay ny cy] 208)).alloc (.cells #[.bool false,.slice none 0 0] 208)).heap[w.heap.size]? =some (.cells #[.bool bx,.slice ax nx cx] 208 (0,0)):=by
  exact zya
 have hpy:(((w.alloc (.cells #[.bool bx,.slice ax nx cx] 208)).alloc (.cells #[.bool by',.slice ay ny cy] 208)).alloc (.cells #[.bool false,.slice none 0 0] 208)).heap[w.heap.size+1]? =some (.cells #[.bool by',.slice ay ny cy] 208 (0,0)):=by
  exact zyn
 have hpz:(((w.alloc (.cells #[.bool bx,.slice ax nx cx] 208)).alloc (.cells #[.bool by',.slice ay ny cy] 208)).alloc (.cells #[.bool false,.slice none 0 0] 208)).heap[w.heap.size+2]? =some (.cells #[.bool false,.slice none 0 0] 208 (0,0)):=by
  exact zye
 by_cases hs:bx=by'
 ·subst hs;obtain⟨W0,hW0⟩:∃W0,(((w.alloc (.cells #[.bool bx,.slice ax nx cx] 208)).alloc (.cells #[.bool bx,.slice ay ny cy] 208)).alloc (.cells #[.bool false,.slice none 0 0] 208)).drew=W0:=⟨_,rfl⟩;have hB0':Below w.heap.size w W0:=by rw[←hW0];exact hb0.drew
  have hX0:W0.heap[w.heap.size]? =some (.cells #[.bool bx,.slice ax nx cx] 208 (0,0)):=by rw[←hW0];exact hpx
  have hY0:W0.heap[w.heap.size+1]? =some (.cells #[.bool bx,.slice ay ny cy] 208 (0,0)):=by rw[←hW0];exact hpy
  have hZ0:W0.heap[w.heap.size+2]? =some (.cells #[.bool false,.slice none 0 0] 208 (0,0)):=by rw[←hW0];exact hpz
  have HU:=Ax (kC (hsx.below hB0') (hsy.below hB0') (G0 _) (G0 _) (by rw[Xt,hnx];exact hlx) (by rw[Xt,hny];exact hly))
  have HZ:Hid (∀n,n=nv (dg x.natAbs)+nv (dg y.natAbs)->sgn bx n=x+y):=Ax (fun n hn=>by
   rw[Fp,Fp] at hn;unfold sgn
   cases bx<;>simp at hxi hyi ⊢ <;>omega)
  obtain⟨m0,m1,_⟩:=A0 hX0;obtain⟨m2,m3,_⟩:=A0 hY0;have HPX:=Ax hX0;have HPY:=Ax hY0;have HPZ:=Ax hZ0;have HB0:=Ax hB0';have hne1:¬w.heap.size=w.heap.size+1+1:=by omega
  have hne2:¬w.heap.size+1+1=w.heap.size:=by omega
  clear hx hy hsx hsy hbx hby hnx hny hb0 hpx hpy hpz hX0 hY0 hZ0 hB0' hxi hyi;have f1:(bx==bx)=true:=by simp
  go_enter Tryz.func185,Tryz.ntmps185;go_wp2_with fail
  go_region_held3 (fun V=>V.cell? ⟨w.heap.size,0,none⟩=some (.bool bx)/\V.cell? ⟨w.heap.size,1,none⟩=some (.slice ax nx cx)/\V.cell? ⟨w.heap.size+1,0,none⟩=some (.bool bx)/\V.cell? ⟨w.heap.size+1,1,none⟩=some (.slice ay ny cy)) (go_keep)
   (first
    |(go_at_call 207;(with_reducible refine HU.out.mono ?_);rintro e V1 ⟨⟨v1,o,rfl,hd1,ho1,hv1,hl1⟩,hb1⟩;obtain⟨a1,c1,rfl,_⟩:=hd1.slice;obtain⟨k0,k1,_⟩:=A0 ((hb1.block _ (Ay HPX.out)).trans HPX.out);obtain⟨k2,k3,_⟩:=A0 ((hb1.block _ (Ay HPY.out)).trans HPY.out);have HB1:=Ax hb1;have HT:=Ax (Iq bx hd1 ho1 (HZ.out _ hv1));clear hb1 hd1 ho1 hv1)
    |(go_at_call 201;(with_reducible refine HT.out.mono ?_);rintro e V2 ⟨⟨v2,rfl,hv2⟩,hb2⟩;obtain⟨a2,c2,rfl,_⟩:=hv2.form;have hbb:=HB1.out.trans (hb2.mono HB1.out.size);obtain⟨l0,l1,_⟩:=A0 ((hbb.block _ (Ay HPX.out)).trans HPX.out);obtain⟨l2,l3,_⟩:=A0 ((hbb.block _ (Ay HPY.out)).trans HPY.out);have hpr:=((hbb.block _ (Ay HPZ.out)).trans HPZ.out);obtain⟨l4,l5,lf⟩:=A0 hpr;have lf0:=lf 0;have lf1:=lf 1;have HV:=Ax (hv2.store hpr (.bool (decide (x+y<0))) (.slice a2 (Bw (x+y).natAbs) c2));have HB2:=Ax (((HB0.out.trans (hbb.mono HB0.out.size)).setCell (p:=⟨w.heap.size+2,0,none⟩) tH (.bool (decide (x+y<0)))).setCell (p:=⟨w.heap.size+2,1,none⟩) tH (.slice a2 (Bw (x+y).natAbs) c2));clear hv2 hb2 hbb hpr lf))
  all_goals
   exact zyz
 skip
 obtain⟨W0,hW0⟩:∃W0,(((w.alloc (.cells #[.bool bx,.slice ax nx cx] 208)).alloc (.cells #[.bool by',.slice ay ny cy] 208)).alloc (.cells #[.bool false,.slice none 0 0] 208)).drew=W0:=⟨_,rfl⟩;have hB0':Below w.heap.size w W0:=by rw[←hW0];exact hb0.drew
 have hX0:W0.heap[w.heap.size]? =some (.cells #[.bool bx,.slice ax nx cx] 208 (0,0)):=by rw[←hW0];exact hpx
 have hY0:W0.heap[w.heap.size+1]? =some (.cells #[.bool by',.slice ay ny cy] 208 (0,0)):=by rw[←hW0];exact hpy
 have hZ0:W0.heap[w.heap.size+2]? =some (.cells #[.bool false,.slice none 0 0] 208 (0,0)):=by rw[←hW0];exact hpz
 have f1:(bx==by')=false:=by cases bx<;>cases by'<;>simp at hs ⊢
 have HY:=Ax (sB (hsx.below hb0) (hsy.below hb0) tE tE);by_cases hle:y.natAbs<=x.natAbs
 ·skip
  have hll:Bw y.natAbs<=Bw x.natAbs:=Fw hle;have HUV:=fun V (hV:Below w.heap.size w V)=>Ax (Z2 (hsx.below hV) (hsy.below hV) (G0 _) (G0 _) (by rw[Xt,hnx];exact hlx) (by rw[Xt,Xt];exact hll) (by rw[Fp,Fp];exact hle))
  have HZ:Hid (∀n,n=nv (dg x.natAbs) - nv (dg y.natAbs)->sgn bx n=x+y):=Ax (fun n hn=>by
   rw[Fp,Fp] at hn;unfold sgn
   cases bx<;>cases by'<;>simp at hs hxi hyi ⊢ <;>omega)
  have HLE:=Ax hle;have HPX0:=Ax hpx;have HPY0:=Ax hpy;have HPZ0:=Ax hpz;have HB00:=Ax hb0;clear hx hy hsx hsy hbx hby hnx hny hb0 hpx hpy hpz hX0 hY0 hZ0 hB0' hxi hyi hs hll hle hW0;go_enter Tryz.func185,Tryz.ntmps185;go_wp2_with fail;refine HY.out.mono ?_;rintro e VY ⟨⟨r,rfl,hr⟩,hbY⟩;obtain⟨r1,r2,r3,r4⟩:=hr;have f2:decide ((0:Int)<=r)=true:=by simp;have:=HLE.out;omega
  obtain⟨W9,hW9⟩:∃W9,VY.drew=W9:=⟨_,rfl⟩;have hb9:Below (((w.alloc (.cells #[.bool bx,.slice ax nx cx] 208)).alloc (.cells #[.bool by',.slice ay ny cy] 208)).alloc (.cells #[.bool false,.slice none 0 0] 208)).heap.size (((w.alloc (.cells #[.bool bx,.slice ax nx cx] 208)).alloc (.cells #[.bool by',.slice ay ny cy] 208)).alloc (.cells #[.bool false,.slice none 0 0] 208)) W9:=by rw[←hW9];exact hbY.drew
  have hX0:=(hb9.block _ (Ay HPX0.out)).trans HPX0.out;have hY0:=(hb9.block _ (Ay HPY0.out)).trans HPY0.out;have hZ0:=(hb9.block _ (Ay HPZ0.out)).trans HPZ0.out;have hXY:=(hbY.block _ (Ay HPX0.out)).trans HPX0.out;have hYY:=(hbY.block _ (Ay HPY0.out)).trans HPY0.out;have hB0':=HB00.out.trans (hb9.mono HB00.out.size);have HU:=HUV _ hB0';obtain⟨g0,g1,_⟩:=A0 hXY;obtain⟨g2,g3,_⟩:=A0 hYY;obtain⟨m0,m1,_⟩:=A0 hX0;obtain⟨m2,m3,_⟩:=A0 hY0;have HPX:=Ax hX0;have HPY:=Ax hY0;have HPZ:=Ax hZ0;have HB0:=Ax hB0';have hne1:¬w.heap.size=w.heap.size+1+1:=by omega
  have hne2:¬w.heap.size+1+1=w.heap.size:=by omega
  clear hbY hb9 hX0 hY0 hZ0 hXY hYY hB0' HUV HY r1 r2 HPX0 HPY0 HPZ0 HB00;go_wp2_with fail
  go_region_held3 (fun V=>V.cell? ⟨w.heap.size,0,none⟩=some (.bool bx)/\V.cell? ⟨w.heap.size,1,none⟩=some (.slice ax nx cx)/\V.cell? ⟨w.heap.size+1,0,none⟩=some (.bool by')/\V.cell? ⟨w.heap.size+1,1,none⟩=some (.slice ay ny cy)) (go_keep)
   (first
    |(go_at_call 209;(with_reducible refine HU.out.mono ?_);rintro e V1 ⟨⟨v1,o,rfl,hd1,ho1,hv1,hl1⟩,hb1⟩;obtain⟨a1,c1,rfl,_⟩:=hd1.slice;obtain⟨k0,k1,_⟩:=A0 ((hb1.block _ (Ay HPX.out)).trans HPX.out);obtain⟨k2,k3,_⟩:=A0 ((hb1.block _ (Ay HPY.out)).trans HPY.out);have HB1:=Ax hb1;have HT:=Ax (Iq bx hd1 ho1 (HZ.out _ hv1));clear hb1 hd1 ho1 hv1)
    |(go_at_call 201;(with_reducible refine HT.out.mono ?_);rintro e V2 ⟨⟨v2,rfl,hv2⟩,hb2⟩;obtain⟨a2,c2,rfl,_⟩:=hv2.form;have hbb:=HB1.out.trans (hb2.mono HB1.out.size);obtain⟨l0,l1,_⟩:=A0 ((hbb.block _ (Ay HPX.out)).trans HPX.out);obtain⟨l2,l3,_⟩:=A0 ((hbb.block _ (Ay HPY.out)).trans HPY.out);have hpr:=((hbb.block _ (Ay HPZ.out)).trans HPZ.out);obtain⟨l4,l5,lf⟩:=A0 hpr;have lf0:=lf 0;have lf1:=lf 1;have HV:=Ax (hv2.store hpr (.bool (decide (x+y<0))) (.slice a2 (Bw (x+y).natAbs) c2));have HB2:=Ax (((HB0.out.trans (hbb.mono HB0.out.size)).setCell (p:=⟨w.heap.size+2,0,none⟩) tH (.bool (decide (x+y<0)))).setCell (p:=⟨w.heap.size+2,1,none⟩) tH (.slice a2 (Bw (x+y).natAbs) c2));clear hv2 hb2 hbb hpr lf))
  all_goals
   exact zyz
 have hll:Bw x.natAbs<=Bw y.natAbs:=Fw tE;have HUV:=fun V (hV:Below w.heap.size w V)=>Ax (Z2 (hsy.below hV) (hsx.below hV) (G0 _) (G0 _) (by rw[Xt,hny];exact hly) (by rw[Xt,Xt];exact hll) (by rw[Fp,Fp];omega))
 have HZ:Hid (∀n,n=nv (dg y.natAbs) - nv (dg x.natAbs)->sgn by' n=x+y):=Ax (fun n hn=>by
  rw[Fp,Fp] at hn;unfold sgn
  cases bx<;>cases by'<;>simp at hs hxi hyi ⊢ <;>omega)
 have HLE:=Ax hle;have HPX0:=Ax hpx;have HPY0:=Ax hpy;have HPZ0:=Ax hpz;have HB00:=Ax hb0;clear hx hy hsx hsy hbx hby hnx hny hb0 hpx hpy hpz hX0 hY0 hZ0 hB0' hxi hyi hs hll hle hW0;go_enter Tryz.func185,Tryz.ntmps185;go_wp2_with fail;refine HY.out.mono ?_;rintro e VY ⟨⟨r,rfl,hr⟩,hbY⟩;obtain⟨r1,r2,r3,r4⟩:=hr;have f2:decide ((0:Int)<=r)=false:=by simp;have:=HLE.out;omega
 obtain⟨W9,hW9⟩:∃W9,VY.drew=W9:=⟨_,rfl⟩;have hb9:Below (((w.alloc (.cells #[.bool bx,.slice ax nx cx] 208)).alloc (.cells #[.bool by',.slice ay ny cy] 208)).alloc (.cells #[.bool false,.slice none 0 0] 208)).heap.size (((w.alloc (.cells #[.bool bx,.slice ax nx cx] 208)).alloc (.cells #[.bool by',.slice ay ny cy] 208)).alloc (.cells #[.bool false,.slice none 0 0] 208)) W9:=by rw[←hW9];exact hbY.drew
 have hX0:=(hb9.block _ (Ay HPX0.out)).trans HPX0.out;have hY0:=(hb9.block _ (Ay HPY0.out)).trans HPY0.out;have hZ0:=(hb9.block _ (Ay HPZ0.out)).trans HPZ0.out;have hXY:=(hbY.block _ (Ay HPX0.out)).trans HPX0.out;have hYY:=(hbY.block _ (Ay HPY0.out)).trans HPY0.out;have hB0':=HB00.out.trans (hb9.mono HB00.out.size);have HU:=HUV _ hB0';obtain⟨g0,g1,_⟩:=A0 hXY;obtain⟨g2,g3,_⟩:=A0 hYY;obtain⟨m0,m1,_⟩:=A0 hX0;obtain⟨m2,m3,_⟩:=A0 hY0;have HPX:=Ax hX0;have HPY:=Ax hY0;have HPZ:=Ax hZ0;have HB0:=Ax hB0';have hne1:¬w.heap.size=w.heap.size+1+1:=by omega
 have hne2:¬w.heap.size+1+1=w.heap.size:=by omega
 clear hbY hb9 hX0 hY0 hZ0 hXY hYY hB0' HUV HY r1 r2 HPX0 HPY0 HPZ0 HB00;go_wp2_with fail
 go_region_held3 (fun V=>V.cell? ⟨w.heap.size,0,none⟩=some (.bool bx)/\V.cell? ⟨w.heap.size,1,none⟩=some (.slice ax nx cx)/\V.cell? ⟨w.heap.size+1,0,none⟩=some (.bool by')/\V.cell? ⟨w.heap.size+1,1,none⟩=some (.slice ay ny cy)) (go_keep)
  (first
   |(go_at_call 209;(with_reducible refine HU.out.mono ?_);rintro e V1 ⟨⟨v1,o,rfl,hd1,ho1,hv1,hl1⟩,hb1⟩;obtain⟨a1,c1,rfl,_⟩:=hd1.slice;obtain⟨k0,k1,_⟩:=A0 ((hb1.block _ (Ay HPX.out)).trans HPX.out);obtain⟨k2,k3,_⟩:=A0 ((hb1.block _ (Ay HPY.out)).trans HPY.out);have HB1:=Ax hb1;have HT:=Ax (Iq by' hd1 ho1 (HZ.out _ hv1));clear hb1 hd1 ho1 hv1)
   |(go_at_call 201;(with_reducible refine HT.out.mono ?_);rintro e V2 ⟨⟨v2,rfl,hv2⟩,hb2⟩;obtain⟨a2,c2,rfl,_⟩:=hv2.form;have hbb:=HB1.out.trans (hb2.mono HB1.out.size);obtain⟨l0,l1,_⟩:=A0 ((hbb.block _ (Ay HPX.out)).trans HPX.out);obtain⟨l2,l3,_⟩:=A0 ((hbb.block _ (Ay HPY.out)).trans HPY.out);have hpr:=((hbb.block _ (Ay HPZ.out)).trans HPZ.out);obtain⟨l4,l5,lf⟩:=A0 hpr;have lf0:=lf 0;have lf1:=lf 1;have HV:=Ax (hv2.store hpr (.bool (decide (x+y<0))) (.slice a2 (Bw (x+y).natAbs) c2));have HB2:=Ax (((HB0.out.trans (hbb.mono HB0.out.size)).setCell (p:=⟨w.heap.size+2,0,none⟩) tH (.bool (decide (x+y<0)))).setCell (p:=⟨w.heap.size+2,1,none⟩) tH (.slice a2 (Bw (x+y).natAbs) c2));clear hv2 hb2 hbb hpr lf))
 all_goals
  exact zyz
theorem dL {w:World}{vx vy:Value}{x y:Int}(hx:Bn w vx x)(hy:Bn w vy y)(hlx:Bw x.natAbs<=100000)(hly:Bw y.natAbs<=100000):Calls Tryz.prog 202 #[vx,vy] w (Gh w (x - y)):=by
 have HXN:=Ax hx;have HYN:=Ax hy;obtain⟨ax,cx,rfl,hsx⟩:=hx.form;obtain⟨ay,cy,rfl,hsy⟩:=hy.form;obtain⟨bx,hbx⟩:∃b,decide (x<0)=b:=⟨_,rfl⟩;obtain⟨by',hby⟩:∃b,decide (y<0)=b:=⟨_,rfl⟩;obtain⟨nx,hnx⟩:∃n,Bw x.natAbs=n:=⟨_,rfl⟩;obtain⟨ny,hny⟩:∃n,Bw y.natAbs=n:=⟨_,rfl⟩;have hxi:(bx=true↔x<0):=by rw[←hbx];simp
 have hyi:(by'=true↔y<0):=by rw[←hby];simp
 rw[hbx,hnx,hby,hny];rw[hnx] at hsx hlx;rw[hny] at hsy hly;have hb0:Below w.heap.size w (((w.alloc (.cells #[.bool bx,.slice ax nx cx] 208)).alloc (.cells #[.bool by',.slice ay ny cy] 208)).alloc (.cells #[.bool false,.slice none 0 0] 208)):=(((Aq _ w).alloc (Ak _) _).alloc tH _).alloc tL _
 have hpx:(((w.alloc (.cells #[.bool bx,.slice ax nx cx] 208)).alloc (.cells #[.bool by',.slice ay ny cy] 208)).alloc (.cells #[.bool false,.slice none 0 0] 208)).heap[w.heap.size]? =some (.cells #[.bool bx,.slice ax nx cx] 208 (0,0)):=by
  exact zya
 have hpy:(((w.alloc (.cells #[.bool bx,.slice ax nx cx] 208)).alloc (.cells #[.bool by',.slice ay ny cy] 208)).alloc (.cells #[.bool false,.slice none 0 0] 208)).heap[w.heap.size+1]? =some (.cells #[.bool by',.slice ay ny cy] 208 (0,0)):=by
  exact zyn
 have hpz:(((w.alloc (.cells #[.bool bx,.slice ax nx cx] 208)).alloc (.cells #[.bool by',.slice ay ny cy] 208)).alloc (.cells #[.bool false,.slice none 0 0] 208)).heap[w.heap.size+2]? =some (.cells #[.bool false,.slice none 0 0] 208 (0,0)):=by
  exact zye
 obtain⟨W0,hW0⟩:∃W0,(((w.alloc (.cells #[.bool bx,.slice ax nx cx] 208)).alloc (.cells #[.bool by',.slice ay ny cy] 208)).alloc (.cells #[.bool false,.slice none 0 0] 208)).drew=W0:=⟨_,rfl⟩;have hB0':Below w.heap.size w W0:=by rw[←hW0];exact hb0.drew
 have hX0:W0.heap[w.heap.size]? =some (.cells #[.bool bx,.slice ax nx cx] 208 (0,0)):=by rw[←hW0];exact hpx
 have hY0:W0.heap[w.heap.size+1]? =some (.cells #[.bool by',.slice ay ny cy] 208 (0,0)):=by rw[←hW0];exact hpy
 have hZ0:W0.heap[w.heap.size+2]? =some (.cells #[.bool false,.slice none 0 0] 208 (0,0)):=by rw[←hW0];exact hpz
 have HXV:=Ax (HXN.out.below hB0');have HYV:=Ax (HYN.out.below hB0');rw[show x.natAbs=x.natAbs from rfl] at HXV;obtain⟨_,_,eX,_⟩:=HXN.out.form;have hXV:Bn W0 (.agg #[.bool bx,.slice ax nx cx]) x:=by have:=HXV.out;rw[hbx,hnx] at this;exact this
 have hYV:Bn W0 (.agg #[.bool by',.slice ay ny cy]) y:=by have:=HYV.out;rw[hby,hny] at this;exact this
 obtain⟨my,hmy⟩:∃m,-y=m:=⟨_,rfl⟩;have hng:=P0 hYV;rw[hmy] at hng;have HNG:=Ax hng;have HMY:Hid (x+my=x - y):=Ax tE;have HXW:=Ax hXV;have hlx':Bw x.natAbs<=100000:=by rw[hnx];exact hlx
 have hly':Bw my.natAbs<=100000:=by rw[←hmy,Int.natAbs_neg,hny];exact hly
 have HL:=Ax (And.intro hlx' hly');obtain⟨m0,m1,_⟩:=A0 hX0;obtain⟨m2,m3,_⟩:=A0 hY0;have HPX:=Ax hX0;have HPY:=Ax hY0;have HPZ:=Ax hZ0;have HB0:=Ax hB0';have hne1:¬w.heap.size=w.heap.size+1+1:=by omega
 have hne2:¬w.heap.size+1+1=w.heap.size:=by omega
 clear hx hy hsx hsy hbx hby hnx hny hb0 hpx hpy hpz hX0 hY0 hZ0 hB0' hxi hyi hXV hYV HXV HYV HXN HYN eX hlx' hly' hng hmy;go_enter Tryz.func202,Tryz.ntmps202;go_wp2_with fail
 go_region_held3 (fun V=>V.cell? ⟨w.heap.size,0,none⟩=some (.bool bx)/\V.cell? ⟨w.heap.size,1,none⟩=some (.slice ax nx cx)/\V.cell? ⟨w.heap.size+1,0,none⟩=some (.bool by')/\V.cell? ⟨w.heap.size+1,1,none⟩=some (.slice ay ny cy)) (go_keep)
  (first
   |(go_at_call 187;(with_reducible refine HNG.out.mono ?_);rintro e V1 ⟨⟨v1,rfl,hv1⟩,hb1⟩;obtain⟨k0,k1,_⟩:=A0 ((hb1.block _ (Ay HPX.out)).trans HPX.out);obtain⟨k2,k3,_⟩:=A0 ((hb1.block _ (Ay HPY.out)).trans HPY.out);have HB1:=Ax hb1;have HT:=Ax (Xh (HXW.out.below hb1) hv1 HL.out.1 HL.out.2);obtain⟨a1,c1,rfl,_⟩:=hv1.form;clear hb1 hv1)
   |(go_at_call 185;(with_reducible refine HT.out.mono ?_);rintro e V2 ⟨⟨v2,rfl,hv2⟩,hb2⟩;rw[HMY.out] at hv2;obtain⟨a2,c2,rfl,_⟩:=hv2.form;have hbb:=HB1.out.trans (hb2.mono HB1.out.size);obtain⟨l0,l1,_⟩:=A0 ((hbb.block _ (Ay HPX.out)).trans HPX.out);obtain⟨l2,l3,_⟩:=A0 ((hbb.block _ (Ay HPY.out)).trans HPY.out);have hpr:=((hbb.block _ (Ay HPZ.out)).trans HPZ.out);obtain⟨l4,l5,lf⟩:=A0 hpr;have lf0:=lf 0;have lf1:=lf 1;have HV:=Ax (hv2.store hpr (.bool (decide (x - y<0))) (.slice a2 (Bw (x - y).natAbs) c2));have HB2:=Ax (((HB0.out.trans (hbb.mono HB0.out.size)).setCell (p:=⟨w.heap.size+2,0,none⟩) tH (.bool (decide (x - y<0)))).setCell (p:=⟨w.heap.size+2,1,none⟩) tH (.slice a2 (Bw (x - y).natAbs) c2));clear hv2 hb2 hbb hpr lf))
 all_goals
  obtain⟨nb,hnb⟩:∃nb,decide (x - y<0)=nb:=⟨_,rfl⟩;obtain⟨kk,hkk⟩:∃k,Bw (x - y).natAbs=k:=⟨_,rfl⟩;rw[hnb,hkk] at HB2 HV ⊢;clear hnb hkk;go_wp2_with fail;refine Au (v:= .agg #[.bool nb,.slice a2 kk c2]) (by simp [results,Tryz.results202,go_sem, *]) rfl ⟨⟨_,rfl,HV.out⟩,HB2.out⟩
def Ku (x y:Int):Int:=if x<y then -1 else if x=y then 0 else 1
theorem T6 {w:World}{vx vy:Value}{x y:Int}(hx:Bn w vx x)(hy:Bn w vy y)(hlx:Bw x.natAbs<=100000)(hly:Bw y.natAbs<=100000):Calls Tryz.prog 188 #[vx,vy] w fun e w'=>e= .returned (.int .i64 (Ku x y))/\Below w.heap.size w w':=by
 have HXN:=Ax hx;have HYN:=Ax hy;obtain⟨ax,cx,rfl,hsx⟩:=hx.form;obtain⟨ay,cy,rfl,hsy⟩:=hy.form;obtain⟨bx,hbx⟩:∃b,decide (x<0)=b:=⟨_,rfl⟩;obtain⟨by',hby⟩:∃b,decide (y<0)=b:=⟨_,rfl⟩;obtain⟨nx,hnx⟩:∃n,Bw x.natAbs=n:=⟨_,rfl⟩;obtain⟨ny,hny⟩:∃n,Bw y.natAbs=n:=⟨_,rfl⟩;have hxi:(bx=true↔x<0):=by rw[←hbx];simp
 have hyi:(by'=true↔y<0):=by rw[←hby];simp
 rw[hbx,hnx,hby,hny];rw[hnx] at hsx hlx;rw[hny] at hsy hly;have hb0:Below w.heap.size w ((w.alloc (.cells #[.bool bx,.slice ax nx cx] 208)).alloc (.cells #[.bool by',.slice ay ny cy] 208)):=((Aq _ w).alloc (Ak _) _).alloc tH _;have hXV:Bn ((w.alloc (.cells #[.bool bx,.slice ax nx cx] 208)).alloc (.cells #[.bool by',.slice ay ny cy] 208)) (.agg #[.bool bx,.slice ax nx cx]) x:=by have:=HXN.out.below hb0;rw[hbx,hnx] at this;exact this
 have hYV:Bn ((w.alloc (.cells #[.bool bx,.slice ax nx cx] 208)).alloc (.cells #[.bool by',.slice ay ny cy] 208)) (.agg #[.bool by',.slice ay ny cy]) y:=by have:=HYN.out.below hb0;rw[hby,hny] at this;exact this
 have HS:=Ax (dL hXV hYV (by rw[hnx];exact hlx) (by rw[hny];exact hly));have HB0:=Ax hb0;clear hx hy hsx hsy hbx hby hnx hny hb0 hxi hyi hXV hYV HXN HYN hlx hly;go_enter Tryz.func188,Tryz.ntmps188;go_wp2_with fail;refine HS.out.mono ?_;rintro e V ⟨⟨v,rfl,hv⟩,hb⟩;obtain⟨a,c,rfl,_⟩:=hv.form;have HB:=Ax (HB0.out.trans (hb.mono HB0.out.size));clear hv hb HS HB0;by_cases h1:x<y
 ·have hz:Ku x y= -1:=by unfold Ku;rw[Ap h1]
  rw[show decide (x - y<0)=true by simp;omega];have Hz:=Ax hz;clear h1 hz;exact zw6
 rw[show decide (x - y<0)=false by simp;omega];by_cases h2:x=y
 ·have hz:Ku x y=0:=by unfold Ku;rw[Ao h1,Ap h2]
  have hl:Bw (x - y).natAbs=0:=by rw[show x - y=0 by omega];unfold Bw;rw[show(0:Int).natAbs=0 from rfl,Ed];rfl
  rw[hl];have Hz:=Ax hz;clear h1 h2 hz hl;exact zw6
 have hz:Ku x y=1:=by unfold Ku;rw[Ao h1,Ao h2]
 have hl:0<Bw (x - y).natAbs:=by unfold Bw;rw[Kx tE];simp
 obtain⟨n,hn⟩:∃n,Bw (x - y).natAbs=n:=⟨_,rfl⟩;rw[hn] at hl ⊢;have Hz:=Ax hz;have f1:decide ((0:Int)<(n:Int))=true:=Am tE;clear h1 h2 hz hn;exact zw6
open Go Go.RowKit Go.Lib
structure Xc (w wr:World)(n:Int)(i:Nat)(m:Int)(v:Value)(o:List Nat):Prop where
 row:wr.ownsRow (w.heap.size+1) 3 1 v i (Dd o)
 len:o.length=i
 ok:okD o
 val:dg n.natAbs=o++dg m.natAbs
 on:Below (w.heap.size+1) (w.alloc (.cells #[.bool false,.slice none 0 0] 208)) wr
theorem Xc.bel {w wr:World}{n:Int}{i:Nat}{m:Int}{v:Value}{o:List Nat}(h:Xc w wr n i m v o):Below w.heap.size w wr:=
 ((Aq _ w).alloc (Ak _) _).trans (h.on.mono tE)
theorem Xc.box {w wr:World}{n:Int}{i:Nat}{m:Int}{v:Value}{o:List Nat}(h:Xc w wr n i m v o):wr.heap[w.heap.size]? =some (.cells #[.bool false,.slice none 0 0] 208 (0,0)):=
 (h.on.block _ tE).trans (A1 w _)
theorem Mu {n:Nat}(h:n<=9223372036854775808):(dg n).length<=5:=by
 have:n<10000^5:=by omega
 exact I5 this
theorem Kv {w:World}(n:Int)(h0: -9223372036854775808<=n)(h1:n<=9223372036854775807):Calls Tryz.prog 134 #[.int .i64 n] w (Gh w n):=by
 have hlen:=Mu (n:=n.natAbs) tE;have HS:Hid (Xc w (w.alloc (.cells #[.bool false,.slice none 0 0] 208)) n 0 n (.slice none 0 0) []):=Ax ⟨World.ownsRow_nil _ _ _ _,rfl,fun _ h=>by(cases h),rfl,Aq _ _⟩;have HN:=Ax (And.intro h0 h1);have HLN:=Ax hlen;obtain⟨ng,hng⟩:∃b,decide (n<0)=b:=⟨_,rfl⟩;have Hng:=Ax hng;clear h0 h1 hlen;go_enter Tryz.func134,Tryz.ntmps134;go_wp2_with fail;clear hng
 go_loopw [0,4] (fun v0 v4 wr=>∃(i:Nat) (m:Int) (o:List Nat) (oa:Option Addr) (oc:Nat),i<=5/\v0= .int .i64 m/\v4= .slice oa i oc/\Hid (Xc w wr n i m (.slice oa i oc) o/\m.natAbs<=n.natAbs/\ -9223372036854775808<=m/\m<=9223372036854775807)) (fun v0 _ _=>(intOf v0).natAbs)
 case atStart=>exact⟨0,n,[],none,0,by omega,rfl,rfl,Ax ⟨HS.out,Ak _,HN.out.1,HN.out.2⟩⟩
 obtain⟨i,m,o,oa,oc,hi,rfl,rfl,hq⟩:=hrel;obtain⟨hU,hm1,hm2,hm3⟩:=hq.out;by_cases hm0:m=0
 ·subst hm0;have hv:o=dg n.natAbs:=by rw[hU.val];simp [Ed]
  have hd:Cp wr (.slice oa i oc) (dg n.natAbs):=by
   have:=HLN.out
   rw[←hv] at this ⊢;exact Cp.of_row tE hU.len.symm hU.row
  have hN:Bn wr (.agg #[.bool ng,.slice oa i oc]) n:=⟨_,by rw[Hng.out],hd⟩;obtain⟨x0,x1,xf⟩:=A0 hU.box;have xf0:=xf 0;have xf1:=xf 1;have HV:=Ax (hN.store hU.box (.bool ng) (.slice oa i oc));have HB:=Ax ((hU.bel.setCell (p:=⟨w.heap.size,0,none⟩) (Ak _) (.bool ng)).setCell (p:=⟨w.heap.size,1,none⟩) (Ak _) (.slice oa i oc));clear hq hU hv hd hN xf HS hm1 hm2 hm3;go_wp2_with fail;refine Au (v:= .agg #[.bool ng,.slice oa i oc]) (by simp [results,Tryz.results134,go_sem, *]) rfl ⟨⟨_,rfl,HV.out⟩,HB.out⟩
 have p1:(m !=0)=true:=by simpa using hm0
 have hi5:i+1<=5:=by
  have h2:=HLN.out;rw[hU.val,Ab,hU.len,Kx tE] at h2;simp only[Aa] at h2;omega
 rcases Int.lt_or_le m 0 with hneg|hneg
 ·obtain⟨k,rfl⟩:∃k:Nat,m= -(k:Int):=⟨m.natAbs,by omega⟩;rcases Nat.eq_zero_or_pos (k % 10000) with hxx|hxx
  ·have hk0:k≠0:=by omega
   have hdg:=Kx hk0;obtain⟨x,hx⟩:∃x,k % 10000=x:=⟨_,rfl⟩;obtain⟨y,hy⟩:∃y,k/10000=y:=⟨_,rfl⟩;have hxl:x<10000:=by omega
   have hyk:y<k:=by omega
   rw[hx,hy] at hdg;have hz:(-(k:Int)).tmod 10000= -(x:Int):=by rw[Int.neg_tmod,Int.tmod_eq_emod_of_nonneg tE];omega
   have hd:(-(k:Int)).tdiv 10000= -(y:Int):=by rw[Int.neg_tdiv,Int.tdiv_eq_ediv_of_nonneg tE];omega
   have hx0:x=0:=by omega
   subst hx0;have p2:decide (-((0:Nat):Int)<0)=false:=by decide
   have p3:decide ((0:Int)<0)=false:=by decide
   skip
   skip
   have Hrow1:=Ax (hU.row.alloc (.cells #[.int .i64 0] 3));have HN1:=Ax (A1 wr (.cells #[.int .i64 0] 3));have HZ:Hid ((wr.alloc (.cells #[.int .i64 0] 3)).heap.size=wr.heap.size+1):=Ax tH;have hsr:=hU.bel.size;have Hown:=Ax (C9 hU.row);have hB0:=hU.box;have hV:=hU.val;have ho1:okD (o++[0]):=Fy hU.ok tE;have hV2:dg n.natAbs=(o++[0])++dg (-(y:Int)).natAbs:=by rw[hV,show(-(k:Int)).natAbs=k by omega,hdg,show(-(y:Int)).natAbs=y by omega];simp
   have HV2:=Ax hV2;have Ho1:=Ax ho1;have HU:=Ax hU;have hle:(-(y:Int)).natAbs<=n.natAbs:=by omega
   have HLE:=Ax hle;obtain⟨i0,hi0,hz0,hz1,hz2⟩:=Cq;have Hi0:=Ax hi0;have Hy0:=Ax hz0;have Hy1:=Ax hz1;have Hy2:=Ax hz2;have HYK:=Ax hyk;clear hq hU hi0 hz0 hz1 hz2 hdg hx hy hV hV2 ho1 hle HS hB0 HYK;go_wp2_with ((refine wpList_append_lies _ rfl (.tmp 16) (.tmp 18) _ rfl (w.heap.size+1) 3 i0 (.int .i64 0) 1 8 Tryz.underlying36 Hi0.out Hy0.out Hy1.out Hy2.out rfl tG (.slice oa i oc) i (Dd o) rfl Hrow1.out ⟨wr.heap.size,0,none⟩ 1 1 [.int .i64 0] rfl rfl (World.news_of_block (cs:= #[.int .i64 0]) HN1.out) tS tG tQ tE tV (wr.heap.size+1) HZ.out ?_;intro g6 cap w6 hown6 hgrow6 hat6 hlt6));have hB6:=Cr (v:= .slice oa i oc) (HU.out.on.alloc wB (.cells #[.int .i64 0] 3)) hgrow6 Hown.out vG;rw[show(0:Int)=((0:Nat):Int) from rfl,←Df] at hown6;have HR6:Hid (Xc w w6 n (i+1) (-(y:Int)) (.slice (some ⟨g6,0,none⟩) (i+1) cap) (o++[0])):=Ax ⟨hown6,by rw[Ab,HU.out.len];rfl,Ho1.out,HV2.out,hB6⟩;clear hown6 hgrow6 hat6 hlt6 hB6 Hrow1 HN1 HZ hsr Hown HU;go_wp2_with fail;go_roundw
   case rel=>exact⟨i+1,-(y:Int),o++[0],some ⟨g6,0,none⟩,cap,hi5,rfl,by go_num,Ax ⟨HR6.out,HLE.out,by omega,by omega⟩⟩
   case measure=>simp [intOf];omega
  have hk0:k≠0:=by omega
  have hdg:=Kx hk0;obtain⟨x,hx⟩:∃x,k % 10000=x:=⟨_,rfl⟩;obtain⟨y,hy⟩:∃y,k/10000=y:=⟨_,rfl⟩;have hxl:x<10000:=by omega
  have hyk:y<k:=by omega
  rw[hx,hy] at hdg;have hz:(-(k:Int)).tmod 10000= -(x:Int):=by rw[Int.neg_tmod,Int.tmod_eq_emod_of_nonneg tE];omega
  have hd:(-(k:Int)).tdiv 10000= -(y:Int):=by rw[Int.neg_tdiv,Int.tdiv_eq_ediv_of_nonneg tE];omega
  have hx0:0<x:=by omega
  have p2:decide (-(x:Int)<0)=true:=Am tE;have q0: -(9223372036854775807:Int)<=(x:Int):=by omega
  have hr1:(-9223372036854775808:Int)<=(x:Int):=by omega
  have hr2:(x:Int)<=9223372036854775807:=by omega
  have Hrow1:=Ax (hU.row.alloc (.cells #[.int .i64 (x:Int)] 3));have HN1:=Ax (A1 wr (.cells #[.int .i64 (x:Int)] 3));have HZ:Hid ((wr.alloc (.cells #[.int .i64 (x:Int)] 3)).heap.size=wr.heap.size+1):=Ax tH;have hsr:=hU.bel.size;have Hown:=Ax (C9 hU.row);have hB0:=hU.box;have hV:=hU.val;have ho1:okD (o++[x]):=Fy hU.ok tE;have hV2:dg n.natAbs=(o++[x])++dg (-(y:Int)).natAbs:=by rw[hV,show(-(k:Int)).natAbs=k by omega,hdg,show(-(y:Int)).natAbs=y by omega];simp
  have HV2:=Ax hV2;have Ho1:=Ax ho1;have HU:=Ax hU;have hle:(-(y:Int)).natAbs<=n.natAbs:=by omega
  have HLE:=Ax hle;obtain⟨i0,hi0,hz0,hz1,hz2⟩:=Cq;have Hi0:=Ax hi0;have Hy0:=Ax hz0;have Hy1:=Ax hz1;have Hy2:=Ax hz2;have HYK:=Ax hyk;clear hq hU hi0 hz0 hz1 hz2 hdg hx hy hV hV2 ho1 hle HS hB0 HYK;go_wp2_with ((refine wpList_append_lies _ rfl (.tmp 16) (.tmp 18) _ rfl (w.heap.size+1) 3 i0 (.int .i64 0) 1 8 Tryz.underlying36 Hi0.out Hy0.out Hy1.out Hy2.out rfl tG (.slice oa i oc) i (Dd o) rfl Hrow1.out ⟨wr.heap.size,0,none⟩ 1 1 [.int .i64 (x:Int)] rfl rfl (World.news_of_block (cs:= #[.int .i64 (x:Int)]) HN1.out) tS tG tQ tE tV (wr.heap.size+1) HZ.out ?_;intro g6 cap w6 hown6 hgrow6 hat6 hlt6));have hB6:=Cr (v:= .slice oa i oc) (HU.out.on.alloc wB (.cells #[.int .i64 (x:Int)] 3)) hgrow6 Hown.out vG;rw[←Df] at hown6;have HR6:Hid (Xc w w6 n (i+1) (-(y:Int)) (.slice (some ⟨g6,0,none⟩) (i+1) cap) (o++[x])):=Ax ⟨hown6,by rw[Ab,HU.out.len];rfl,Ho1.out,HV2.out,hB6⟩;clear hown6 hgrow6 hat6 hlt6 hB6 Hrow1 HN1 HZ hsr Hown HU;go_wp2_with fail;go_roundw
  case rel=>exact⟨i+1,-(y:Int),o++[x],some ⟨g6,0,none⟩,cap,hi5,rfl,by go_num,Ax ⟨HR6.out,HLE.out,by omega,by omega⟩⟩
  case measure=>simp [intOf];omega
 obtain⟨k,rfl⟩:∃k:Nat,m=(k:Int):=⟨m.toNat,by omega⟩;have hk0:k≠0:=by omega
 have hdg:=Kx hk0;obtain⟨x,hx⟩:∃x,k % 10000=x:=⟨_,rfl⟩;obtain⟨y,hy⟩:∃y,k/10000=y:=⟨_,rfl⟩;have hxl:x<10000:=by omega
 have hyk:y<k:=by omega
 rw[hx,hy] at hdg;have hz:(k:Int) % 10000=(x:Int):=by omega
 have hd:(k:Int)/10000=(y:Int):=by omega
 have p2:decide ((x:Int)<0)=false:=by simp
 have hr1:(-9223372036854775808:Int)<=(x:Int):=by omega
 have hr2:(x:Int)<=9223372036854775807:=by omega
 have Hrow1:=Ax (hU.row.alloc (.cells #[.int .i64 (x:Int)] 3));have HN1:=Ax (A1 wr (.cells #[.int .i64 (x:Int)] 3));have HZ:Hid ((wr.alloc (.cells #[.int .i64 (x:Int)] 3)).heap.size=wr.heap.size+1):=Ax tH;have hsr:=hU.bel.size;have Hown:=Ax (C9 hU.row);have hB0:=hU.box;have hV:=hU.val;have ho1:okD (o++[x]):=Fy hU.ok tE;have hV2:dg n.natAbs=(o++[x])++dg ((y:Int)).natAbs:=by rw[hV,show((k:Int)).natAbs=k by omega,hdg,show((y:Int)).natAbs=y by omega];simp
 have HV2:=Ax hV2;have Ho1:=Ax ho1;have HU:=Ax hU;have hle:((y:Int)).natAbs<=n.natAbs:=by omega
 have HLE:=Ax hle;obtain⟨i0,hi0,hz0,hz1,hz2⟩:=Cq;have Hi0:=Ax hi0;have Hy0:=Ax hz0;have Hy1:=Ax hz1;have Hy2:=Ax hz2;have HYK:=Ax hyk;clear hq hU hi0 hz0 hz1 hz2 hdg hx hy hV hV2 ho1 hle HS hB0 HYK;go_wp2_with ((refine wpList_append_lies _ rfl (.tmp 16) (.tmp 18) _ rfl (w.heap.size+1) 3 i0 (.int .i64 0) 1 8 Tryz.underlying36 Hi0.out Hy0.out Hy1.out Hy2.out rfl tG (.slice oa i oc) i (Dd o) rfl Hrow1.out ⟨wr.heap.size,0,none⟩ 1 1 [.int .i64 (x:Int)] rfl rfl (World.news_of_block (cs:= #[.int .i64 (x:Int)]) HN1.out) tS tG tQ tE tV (wr.heap.size+1) HZ.out ?_;intro g6 cap w6 hown6 hgrow6 hat6 hlt6));have hB6:=Cr (v:= .slice oa i oc) (HU.out.on.alloc wB (.cells #[.int .i64 (x:Int)] 3)) hgrow6 Hown.out vG;rw[←Df] at hown6;have HR6:Hid (Xc w w6 n (i+1) ((y:Int)) (.slice (some ⟨g6,0,none⟩) (i+1) cap) (o++[x])):=Ax ⟨hown6,by rw[Ab,HU.out.len];rfl,Ho1.out,HV2.out,hB6⟩;clear hown6 hgrow6 hat6 hlt6 hB6 Hrow1 HN1 HZ hsr Hown HU;go_wp2_with fail;go_roundw
 case rel=>exact⟨i+1,(y:Int),o++[x],some ⟨g6,0,none⟩,cap,hi5,rfl,by go_num,Ax ⟨HR6.out,HLE.out,by omega,by omega⟩⟩
 case measure=>simp [intOf];omega
open Go Go.RowKit Go.Lib
def Pf (s:ByteArray)(k:Nat):Nat:=(s.data.toList.getD k 0).toNat
theorem Sd {s:ByteArray}{k:Nat}(h:k<s.size):Pf s k=s[k].toNat:=by
 have h':k<s.data.toList.length:=by simpa using h
 unfold Pf;rw[List.getD_eq_getElem?_getD,Ag h'];rfl
theorem P9 (p:Nat->Bool)(s:ByteArray):(s.data.toList.any fun b=>p b.toNat)=false↔ ∀k,k<s.size->p (Pf s k)=false:=by
 rw[List.any_eq_false];constructor
 ·intro h k hk;have h':k<s.data.toList.length:=by simpa using hk
  have:=h _ (List.getElem_mem h')
  unfold Pf;rw[List.getD_eq_getElem?_getD,Ag h'];simpa using this
 intro h b hb;obtain⟨k,hk,rfl⟩:=List.getElem_of_mem hb
 have:=h k (by simpa using hk)
 unfold Pf at this;rw[List.getD_eq_getElem?_getD,Ag hk] at this;simpa using this
def Ur (s:ByteArray)(k:Nat):Bool:=Et (Pf s k)||(decide (0<k) && J9 (Pf s k))
theorem fP {s:ByteArray}(h0:0<s.size)(h1:s.size<=12)(h:∀k,k<s.size->Ur s k=true):Ih s=true:=by
 rw[Qe h0,Am h1];have hl:=h 0 h0;simp only[Ur,Nat.lt_irrefl,decide_false,Bool.false_and,Bool.or_false,Sd h0] at hl;rw[hl]
 have:(s.data.toList.any fun b=>I9 b.toNat)=false:=(P9 I9 s).2 fun k hk=>by
  have:=h k hk
  simp only[Ur,Bool.or_eq_true,Bool.and_eq_true] at this;unfold I9;rcases this with q|⟨_,q⟩<;>simp [q]
 rw[this];rfl
theorem Nm {s:ByteArray}{k:Nat}(hk:k<s.size)(h:Ur s k=false):Ih s=false:=by
 have h0:0<s.size:=by omega
 rw[Qe h0];simp only[Ur,Bool.or_eq_false_iff,Bool.and_eq_false_iff] at h;obtain⟨h1,h2⟩:=h;by_cases hz:k=0
 ·subst hz;rw[Sd h0] at h1;rw[h1];simp
 have hd:J9 (Pf s k)=false:=by
  rcases h2 with q|q
  ·simp at q;omega
  exact q
 have:(s.data.toList.any fun b=>I9 b.toNat)=true:=by
  cases hq:(s.data.toList.any fun b=>I9 b.toNat)
  ·have:=(P9 I9 s).1 hq k hk
   simp [I9,h1,hd] at this
  rfl
 rw[this];simp
theorem iO (s:ByteArray)(hs:s.size<=9223372036854775807)(w:World):
 Calls Tryz.prog 176 #[.string s] w fun e w'=>e= .returned (.bool (Ih s))/\w=w':=by
 by_cases h0:s.size=0
 ·have d0:(s.size:Int)<1:=by omega
  rw[Tk h0];clear h0;go_enter Tryz.func176,Tryz.ntmps176
  go_wp2
  exact zyr
 have d0:1<=(s.size:Int):=by omega
 by_cases h12:12<s.size
 ·have d12:12<(s.size:Int):=by omega
  have hq:Ih s=false:=by rw[Qe tE,An tE];rfl
  rw[hq];clear h12 h0 hq;go_enter Tryz.func176,Tryz.ntmps176
  go_wp2
  exact zyr
 have d12:(s.size:Int)<=12:=by omega
 clear h12 h0;go_enter Tryz.func176,Tryz.ntmps176
 go_wp2
 go_loop [3] (fun vi=>∃k:Nat,k<=s.size/\vi= .int .i64 k/\Hid (∀j,j<k->Ur s j=true)) (fun i=>s.size - (intOf i).toNat)
 case atStart=>exact⟨0,Nat.zero_le _,rfl,fun j hj=>absurd hj tE⟩
 obtain⟨k,hk,rfl,hq⟩:=hrel;by_cases hlk:k<s.size
 ·have hby:=Sd hlk;obtain⟨c,hc⟩:∃c,Pf s k=c:=⟨_,rfl⟩;have hok:Ur s k=(Et c||(decide (0<k) && J9 c)):=by unfold Ur;rw[hc]
  rw[hc] at hby;have Hok:=Ax hok;clear hok hc
  have yes:Ur s k=true->∀j,j<k+1->Ur s j=true:=fun h j hj=>by
   rcases Nat.lt_or_ge j k with q|q
   ·exact hq.out j q
   obtain rfl:j=k:=by omega
   exact h
  have Yes:=Ax yes;clear yes;by_cases hlo:c<97
  ·have d1:(s[k].toNat:Int)<97:=by omega
   by_cases hk0:k=0
   ·have hno:=Nm hlk (by rw[Hok.out];simp [Et,hk0];omega);have Hno:=Ax hno;subst hk0;clear hno hby hlo;exact zxj
   have e0:((k:Int)==0)=false:=by simp;omega
   by_cases h48:c<48
   ·have d2:(s[k].toNat:Int)<48:=by omega
    have hno:=Nm hlk vK;have Hno:=Ax hno;clear hno hby hlo h48 hk0;exact zxj
   have d2:48<=(s[k].toNat:Int):=by omega
   by_cases h57:57<c
   ·have d3:57<(s[k].toNat:Int):=by omega
    have hno:=Nm hlk vK;have Hno:=Ax hno;clear hno hby hlo h48 hk0 h57;exact zxj
   have d3:(s[k].toNat:Int)<=57:=by omega
   have hyes:=Yes.out vK;have Hyes:=Ax hyes;clear hyes hby hlo h48 hk0 h57;exact zxs
  have d1:97<=(s[k].toNat:Int):=by omega
  by_cases hhi:122<c
  ·have d2:122<(s[k].toNat:Int):=by omega
   have d5:decide ((s[k].toNat:Int)<=122)=false:=by simp;omega
   have hno:=Nm hlk vK;have Hno:=Ax hno;have d3:48<=(s[k].toNat:Int):=by omega
   have d4:57<(s[k].toNat:Int):=by omega
   by_cases hk0:k=0
   ·subst hk0;clear hno hby hlo hhi;exact zxj
   have e0:((k:Int)==0)=false:=by simp;omega
   clear hno hby hlo hhi hk0;exact zxj
  have d2:(s[k].toNat:Int)<=122:=by omega
  have hyes:=Yes.out (by rw[Hok.out];simp [Et];omega);have Hyes:=Ax hyes;clear hyes hby hlo hhi;exact zxs
 obtain rfl:k=s.size:=by omega
 go_wp2
 go_ret;exact⟨by rw[fP tE tE hq.out];rfl,rfl⟩
theorem Vs {s:ByteArray}{k:Nat}(hk:k<s.size)(h:Js (Pf s k)=true):L9 s=false:=by
 have:(s.data.toList.any fun b=>Js b.toNat)=true:=by
  cases hq:(s.data.toList.any fun b=>Js b.toNat)
  ·have:=(P9 Js s).1 hq k hk
   rw[h] at this;cases this
  rfl
 unfold L9;rw[this];simp
theorem gP {s:ByteArray}(h:∀k,k<s.size->Js (Pf s k)=false):L9 s=decide (s.size<=200):=by
 unfold L9;rw[(P9 Js s).2 h];simp
theorem kK (n:Int)(s:ByteArray)(hs:s.size<=9223372036854775807)(w:World):Calls Tryz.prog 133 #[.agg #[.int .u8 3,.int .i64 n,.string s]] w (F9 w (decide (n=0) && L9 s)):=by
 have HB:=Ax ((Aq w.heap.size w).alloc (Ak _) (.cells #[.int .u8 3,.int .i64 n,.string s] 35));go_enter Tryz.func133,Tryz.ntmps133
 go_wp2
 go_loop [3] (fun vi=>∃k:Nat,k<=s.size/\vi= .int .i64 k/\Hid (∀j,j<k->Js (Pf s j)=false)) (fun i=>s.size - (intOf i).toNat)
 case atStart=>exact⟨0,Nat.zero_le _,rfl,fun j hj=>absurd hj tE⟩
 obtain⟨k,hk,rfl,hq⟩:=hrel;by_cases hlk:k<s.size
 ·have hby:=Sd hlk;obtain⟨c,hc⟩:∃c,Pf s k=c:=⟨_,rfl⟩;rw[hc] at hby;by_cases h32:c<32
  ·have d1:(s[k].toNat:Int)<32:=by omega
   have Hno:=Ax (Vs hlk (by rw[hc];simp [Js];omega));clear hby hc h32
   go_wp2
   go_ret;exact⟨by rw[Hno.out,Bool.and_false];rfl,HB.out⟩
  have d1:32<=(s[k].toNat:Int):=by omega
  by_cases h126:126<c
  ·have d2:126<(s[k].toNat:Int):=by omega
   have Hno:=Ax (Vs hlk (by rw[hc];simp [Js];omega));clear hby hc h32 h126
   go_wp2
   go_ret;exact⟨by rw[Hno.out,Bool.and_false];rfl,HB.out⟩
  have d2:(s[k].toNat:Int)<=126:=by omega
  have Hyes:Hid (∀j,j<k+1->Js (Pf s j)=false):=fun j hj=>by
   rcases Nat.lt_or_ge j k with q|q
   ·exact hq.out j q
   obtain rfl:j=k:=by omega
   rw[hc];simp [Js];omega
  clear hby hc h32 h126;exact zxs
 obtain rfl:k=s.size:=by omega
 have Ht:=Ax (gP hq.out);by_cases hn:n=0
 ·subst hn;by_cases h200:s.size<=200
  ·have d1:(s.size:Int)<=200:=by omega
   have Hd:=Ax (Am h200);clear h200
   go_wp2
   go_ret;exact⟨by rw[Ht.out,Hd.out];rfl,HB.out⟩
  have d1:200<(s.size:Int):=by omega
  have d2:decide ((s.size:Int)<=200)=false:=by simp;omega
  have Hd:=Ax (An h200);clear h200
  go_wp2
  go_ret;exact⟨by rw[Ht.out,Hd.out];rfl,HB.out⟩
 have h0:(n==0)=false:=by simpa using hn
 have Hd:=Ax (An hn);clear hn
 go_wp2
 go_ret;exact⟨by rw[Hd.out];rfl,HB.out⟩
theorem gM (n:Int)(s:ByteArray)(w:World):Calls Tryz.prog 133 #[.agg #[.int .u8 0,.int .i64 n,.string s]] w (F9 w (decide (n=0) && decide (s.size=0))):=by
 have HB:=Ax ((Aq w.heap.size w).alloc (Ak _) (.cells #[.int .u8 0,.int .i64 n,.string s] 35));obtain⟨q,hq⟩:∃q,decide (s.size=0)=q:=⟨_,rfl⟩;obtain⟨he1,he2,he3⟩:=El s hq;rw[hq];clear hq;by_cases hn:n=0
 ·subst hn;cases q
  ·have he:=he3 rfl;clear he2 he3;go_enter Tryz.func133,Tryz.ntmps133;exact zzh
  have he:=he2 rfl;clear he2 he3;go_enter Tryz.func133,Tryz.ntmps133;exact zzh
 have h0:(n==0)=false:=by simpa using hn
 rw[An hn];cases q
 ·have he:=he3 rfl;clear he2 he3;go_enter Tryz.func133,Tryz.ntmps133;exact zzh
 have he:=he2 rfl;clear he2 he3;go_enter Tryz.func133,Tryz.ntmps133;exact zzh
theorem kF (k n:Int)(s:ByteArray)(w:World)(hk:k=1\/k=2):Calls Tryz.prog 133 #[.agg #[.int .u8 k,.int .i64 n,.string s]] w (F9 w (decide (s.size=0))):=by
 have HB:=Ax ((Aq w.heap.size w).alloc (Ak _) (.cells #[.int .u8 k,.int .i64 n,.string s] 35));obtain⟨q,hq⟩:∃q,decide (s.size=0)=q:=⟨_,rfl⟩;obtain⟨he1,he2,he3⟩:=El s hq;rw[hq];clear hq;rcases hk with rfl|rfl
 all_goals
  cases q
  ·have he:=he3 rfl;clear he2 he3;go_enter Tryz.func133,Tryz.ntmps133;exact zzh
  have he:=he2 rfl;clear he2 he3;go_enter Tryz.func133,Tryz.ntmps133;exact zzh
theorem nC (n:Int)(s:ByteArray)(hs:s.size<=9223372036854775807)(w:World):Calls Tryz.prog 133 #[.agg #[.int .u8 5,.int .i64 n,.string s]] w (F9 w (decide (n=0) && Ih s)):=by
 have HB:=Ax ((Aq w.heap.size w).alloc (Ak _) (.cells #[.int .u8 5,.int .i64 n,.string s] 35));have hc:=iO s hs (w.alloc (.cells #[.int .u8 5,.int .i64 n,.string s] 35));obtain⟨b,hb⟩:∃b,Ih s=b:=⟨_,rfl⟩;rw[hb] at hc ⊢;have Hc:=Ax hc;clear hc hb;by_cases hn:n=0
 ·subst hn;go_enter Tryz.func133,Tryz.ntmps133;go_wp2_with fail;refine Hc.out.mono ?_;rintro e w1 ⟨rfl,rfl⟩
  go_wp2
  go_ret;exact⟨Ju tH,HB.out⟩
 have h0:(n==0)=false:=by simpa using hn
 rw[An hn];clear hn;go_enter Tryz.func133,Tryz.ntmps133;exact zzh
theorem iS (n:Int)(s:ByteArray)(w:World):Calls Tryz.prog 133 #[.agg #[.int .u8 4,.int .i64 n,.string s]] w (F9 w (decide (s.size=0) && decide (n=0\/n=1))):=by
 have HB:=Ax ((Aq w.heap.size w).alloc (Ak _) (.cells #[.int .u8 4,.int .i64 n,.string s] 35));obtain⟨q,hq⟩:∃q,decide (s.size=0)=q:=⟨_,rfl⟩;obtain⟨he1,he2,he3⟩:=El s hq;rw[hq];clear hq;cases q
 ·have he:=he3 rfl;clear he2 he3;go_enter Tryz.func133,Tryz.ntmps133;exact zzh
 have he:=he2 rfl;clear he2 he3;by_cases h0:n=0
 ·subst h0;go_enter Tryz.func133,Tryz.ntmps133;exact zzh
 by_cases h1:n=1
 ·subst h1;go_enter Tryz.func133,Tryz.ntmps133;exact zzh
 have e0:(n==0)=false:=by simpa using h0
 have e1:(n==1)=false:=by simpa using h1
 rw[An tE];clear h0 h1;go_enter Tryz.func133,Tryz.ntmps133;exact zzh
theorem aT (k n:Int)(s:ByteArray)(w:World)(hk:k<0\/5<k):Calls Tryz.prog 133 #[.agg #[.int .u8 k,.int .i64 n,.string s]] w (F9 w false):=by
 have HB:=Ax ((Aq w.heap.size w).alloc (Ak _) (.cells #[.int .u8 k,.int .i64 n,.string s] 35));have e0:(k==0)=false:=by simp;omega
 have e1:(k==1)=false:=by simp;omega
 have e2:(k==2)=false:=by simp;omega
 have e3:(k==3)=false:=by simp;omega
 have e4:(k==4)=false:=by simp;omega
 have e5:(k==5)=false:=by simp;omega
 clear hk;go_enter Tryz.func133,Tryz.ntmps133;exact zzh
theorem Ij (v:Vl)(hv:v.s.size<=9223372036854775807)(w:World):
 Calls Tryz.prog 133 #[.agg #[.int .u8 v.k,.int .i64 v.n,.string v.s]] w fun e w'=>e= .returned (.bool (eZ v))/\Below w.heap.size w w':=by
 obtain⟨k,n,s⟩:=v;simp only at hv;unfold eZ;simp only;by_cases k0:k=0
 ·subst k0;rw[Ap rfl];exact gM n s w
 rw[Ao k0];by_cases k1:k=1\/k=2
 ·rw[Ap k1];exact kF k n s w k1
 rw[Ao k1];by_cases k3:k=3
 ·subst k3;rw[Ap rfl];exact kK n s hv w
 rw[Ao k3];by_cases k4:k=4
 ·subst k4;rw[Ap rfl];exact iS n s w
 rw[Ao k4];by_cases k5:k=5
 ·subst k5;rw[Ap rfl];exact nC n s hv w
 rw[Ao k5];exact aT k n s w tE
end Go.Proofs.YtmpfilddeglgbaaGreatDoor
