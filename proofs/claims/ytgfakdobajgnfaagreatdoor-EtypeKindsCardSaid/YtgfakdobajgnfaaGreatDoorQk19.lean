import Derived.Test.YtgfakdobajgnfaaGreatDoorQk18
import Derived.Test.YtgfakdobajgnfaaGreatDoorQk6
set_option maxRecDepth 100000
set_option maxHeartbeats 16000000
namespace Go.Proofs.YtgfakdobajgnfaaGreatDoor
open Go Go.RowKit Go.Lib
def Fv (w:World)(z:Int)(e:Ending)(w':World):Prop:=(∃v,e= .returned v/\Bm w' v z)/\Below w.heap.size w w'
theorem Bm.form {w:World}{v:Value}{z:Int}(h:Bm w v z):∃a c,v= .agg #[.bool (decide (z<0)),.slice a (Br z.natAbs) c]/\Ck w (.slice a (Br z.natAbs) c) (dg z.natAbs):=by
 obtain⟨s,e,d⟩:=h;obtain⟨a,c,rfl,_⟩:=d.slice;exact⟨a,c,e,d⟩
theorem G4 {w:World}{d:Value}{l:List Nat}(c:Bool)(e:Ck w d l)(f:okD l){z:Int}(g:sgn c (nv l)=z):Calls Tryz.prog 125 #[.bool c,d] w (Fv w z):=by
 rw[←g];exact kM c e f
theorem Bm.store {V:World}{r:Nat}{v:Value}{z:Int}{p:Bool}{a:Option Addr}{n c:Nat}{t:TypeId}(h:Bm V v z)(hr:V.heap[r]? =some (.cells #[.bool p,.slice a n c] t (0,0)))(u u':Value):Bm ((V.setCell ⟨r,0,none⟩ u).setCell ⟨r,1,none⟩ u') v z:=by
 obtain⟨s,rfl,d,f,g,rfl,j,h4⟩:=h;refine⟨_,rfl,d,f,g,rfl,j,fun i hi=>?_⟩;exact zyp
theorem Ol {w:World}{v:Value}{x:Int}(A:Bm w v x):Calls Tryz.prog 192 #[v] w (Fv w (-x)):=by
 obtain⟨a,c,rfl,m⟩:=A.form;obtain⟨b,f⟩:∃b,decide (x<0)=b:=⟨_,rfl⟩;rw[f]
 have C:sgn (!b) (nv (dg x.natAbs))= -x:=by
  rw[Fb,←f];unfold sgn;by_cases h:x<0
  ·rw[Am h];simp;omega
  rw[An h];simp;omega
 obtain⟨n,D⟩:∃n,Br x.natAbs=n:=⟨_,rfl⟩;rw[D] at m ⊢;have E:=fun V (hV:Below w.heap.size w V)=>Ax (G4 (!b) (m.below hV) (Gb _) C)
 have d:=Ax (((Aq _ w).alloc (Ak _) (.cells #[.bool b,.slice a n c] 79)).alloc rI (.cells #[.bool false,.slice none 0 0] 79));have g:=Ax (Az (w.alloc (.cells #[.bool b,.slice a n c] 79)) (.cells #[.bool false,.slice none 0 0] 79));clear A m C f D;go_enter Tryz.func192,Tryz.ntmps192;go_wp2_with fail;refine(E _ d.out).out.mono ?_;rintro e V ⟨⟨v,rfl,o⟩,f⟩;obtain⟨q,r,rfl,_⟩:=o.form;have j:=(f.block _ (Ay g.out)).trans g.out;rw[show(w.alloc (.cells #[.bool b,.slice a n c] 79)).heap.size=w.heap.size+1 by simp] at j;obtain⟨N,O,u⟩:=A1 j;have L:=u 0;have M:=u 1;have F:=Ax (((d.out.trans (f.mono d.out.size)).setCell (p:=⟨w.heap.size+1,0,none⟩) rI (.bool (decide (-x<0)))).setCell (p:=⟨w.heap.size+1,1,none⟩) rI (.slice q (Br (-x).natAbs) r));have G:=Ax (o.store j (.bool (decide (-x<0))) (.slice q (Br (-x).natAbs) r));obtain⟨y,i⟩:∃y,decide (-x<0)=y:=⟨_,rfl⟩;obtain⟨k,I⟩:∃k,Br (-x).natAbs=k:=⟨_,rfl⟩;rw[i,I] at F G ⊢;clear o f j u d g E i I;go_wp2_with fail;refine Au (v:= .agg #[.bool y,.slice q k r]) (by simp [results,Tryz.results192,go_sem, *]) rfl ⟨⟨_,rfl,G.out⟩,F.out⟩
theorem Vp (n:Nat):(dg n).length=Br n:=rfl
theorem U3 {w:World}{vx vy:Value}{x y:Int}(hx:Bm w vx x)(hy:Bm w vy y)(p8:Br x.natAbs<=100000)(r7:Br y.natAbs<=100000):Calls Tryz.prog 191 #[vx,vy] w (Fv w (x+y)):=by
 obtain⟨ax,cx,rfl,N⟩:=hx.form;obtain⟨ay,cy,rfl,O⟩:=hy.form;obtain⟨bx,f9⟩:∃b,decide (x<0)=b:=⟨_,rfl⟩;obtain⟨by',i6⟩:∃b,decide (y<0)=b:=⟨_,rfl⟩;obtain⟨nx,Z⟩:∃n,Br x.natAbs=n:=⟨_,rfl⟩;obtain⟨ny,a8⟩:∃n,Br y.natAbs=n:=⟨_,rfl⟩;have f7:(bx=true↔x<0):=by rw[←f9];simp
 have f8:(by'=true↔y<0):=by rw[←i6];simp
 rw[f9,Z,i6,a8];rw[Z] at N p8;rw[a8] at O r7;have L:Below w.heap.size w (((w.alloc (.cells #[.bool bx,.slice ax nx cx] 79)).alloc (.cells #[.bool by',.slice ay ny cy] 79)).alloc (.cells #[.bool false,.slice none 0 0] 79)):=(((Aq _ w).alloc (Ak _) _).alloc rI _).alloc rM _
 have b7:(((w.alloc (.cells #[.bool bx,.slice ax nx cx] 79)).alloc (.cells #[.bool by',.slice ay ny cy] 79)).alloc (.cells #[.bool false,.slice none 0 0] 79)).heap[w.heap.size]? =some (.cells #[.bool bx,.slice ax nx cx] 79 (0,0)):=by
  exact zxs
 have b8:(((w.alloc (.cells #[.bool bx,.slice ax nx cx] 79)).alloc (.cells #[.bool by',.slice ay ny cy] 79)).alloc (.cells #[.bool false,.slice none 0 0] 79)).heap[w.heap.size+1]? =some (.cells #[.bool by',.slice ay ny cy] 79 (0,0)):=by
  exact zyd
 have d8:(((w.alloc (.cells #[.bool bx,.slice ax nx cx] 79)).alloc (.cells #[.bool by',.slice ay ny cy] 79)).alloc (.cells #[.bool false,.slice none 0 0] 79)).heap[w.heap.size+2]? =some (.cells #[.bool false,.slice none 0 0] 79 (0,0)):=by
  exact zx0
 by_cases hs:bx=by'
 ·subst hs;obtain⟨W0,u⟩:∃W0,(((w.alloc (.cells #[.bool bx,.slice ax nx cx] 79)).alloc (.cells #[.bool bx,.slice ay ny cy] 79)).alloc (.cells #[.bool false,.slice none 0 0] 79)).drew=W0:=⟨_,rfl⟩;have c:Below w.heap.size w W0:=by rw[←u];exact L.drew
  have h:W0.heap[w.heap.size]? =some (.cells #[.bool bx,.slice ax nx cx] 79 (0,0)):=by rw[←u];exact b7
  have i:W0.heap[w.heap.size+1]? =some (.cells #[.bool bx,.slice ay ny cy] 79 (0,0)):=by rw[←u];exact b8
  have A:W0.heap[w.heap.size+2]? =some (.cells #[.bool false,.slice none 0 0] 79 (0,0)):=by rw[←u];exact d8
  have HU:=Ax (lX (N.below c) (O.below c) (Gb _) (Gb _) (by rw[Vp,Z];exact p8) (by rw[Vp,a8];exact r7))
  have HZ:Hid (∀n,n=nv (dg x.natAbs)+nv (dg y.natAbs)->sgn bx n=x+y):=Ax (fun n hn=>by
   rw[Fb,Fb] at hn;unfold sgn
   cases bx<;>simp at f7 f8 ⊢ <;>omega)
  obtain⟨m0,m1,_⟩:=A1 h;obtain⟨m2,m3,_⟩:=A1 i;have j:=Ax h;have m:=Ax i;have R:=Ax A;have T:=Ax c;have l7:¬w.heap.size=w.heap.size+1+1:=by omega
  have n9:¬w.heap.size+1+1=w.heap.size:=by omega
  clear hx hy N O f9 i6 Z a8 L b7 b8 d8 h i A c f7 f8;have f1:(bx==bx)=true:=by simp
  go_enter Tryz.func191,Tryz.ntmps191;go_wp2_with fail
  go_region_held3 (fun V=>V.cell? ⟨w.heap.size,0,none⟩=some (.bool bx)/\V.cell? ⟨w.heap.size,1,none⟩=some (.slice ax nx cx)/\V.cell? ⟨w.heap.size+1,0,none⟩=some (.bool bx)/\V.cell? ⟨w.heap.size+1,1,none⟩=some (.slice ay ny cy)) (go_keep)
   (first
    |(go_at_call 190;(with_reducible refine HU.out.mono ?_);rintro e V1 ⟨⟨v1,o,rfl,C,U,W,s7⟩,q⟩;obtain⟨a1,c1,rfl,_⟩:=C.slice;obtain⟨k0,k1,_⟩:=A1 ((q.block _ (Ay j.out)).trans j.out);obtain⟨k2,k3,_⟩:=A1 ((q.block _ (Ay m.out)).trans m.out);have X:=Ax q;have HT:=Ax (G4 bx C U (HZ.out _ W));clear q C U W)
    |(go_at_call 125;(with_reducible refine HT.out.mono ?_);rintro e V2 ⟨⟨v2,rfl,D⟩,Y⟩;obtain⟨a2,c2,rfl,_⟩:=D.form;have d:=X.out.trans (Y.mono X.out.size);obtain⟨l0,l1,_⟩:=A1 ((d.block _ (Ay j.out)).trans j.out);obtain⟨l2,l3,_⟩:=A1 ((d.block _ (Ay m.out)).trans m.out);have E:=((d.block _ (Ay R.out)).trans R.out);obtain⟨l4,l5,lf⟩:=A1 E;have s8:=lf 0;have s9:=lf 1;have HV:=Ax (D.store E (.bool (decide (x+y<0))) (.slice a2 (Br (x+y).natAbs) c2));have HB2:=Ax (((T.out.trans (d.mono T.out.size)).setCell (p:=⟨w.heap.size+2,0,none⟩) rI (.bool (decide (x+y<0)))).setCell (p:=⟨w.heap.size+2,1,none⟩) rI (.slice a2 (Br (x+y).natAbs) c2));clear D Y d E lf))
  all_goals
   exact zyr
 skip
 obtain⟨W0,u⟩:∃W0,(((w.alloc (.cells #[.bool bx,.slice ax nx cx] 79)).alloc (.cells #[.bool by',.slice ay ny cy] 79)).alloc (.cells #[.bool false,.slice none 0 0] 79)).drew=W0:=⟨_,rfl⟩;have c:Below w.heap.size w W0:=by rw[←u];exact L.drew
 have h:W0.heap[w.heap.size]? =some (.cells #[.bool bx,.slice ax nx cx] 79 (0,0)):=by rw[←u];exact b7
 have i:W0.heap[w.heap.size+1]? =some (.cells #[.bool by',.slice ay ny cy] 79 (0,0)):=by rw[←u];exact b8
 have A:W0.heap[w.heap.size+2]? =some (.cells #[.bool false,.slice none 0 0] 79 (0,0)):=by rw[←u];exact d8
 have f1:(bx==by')=false:=by cases bx<;>cases by'<;>simp at hs ⊢
 have HY:=Ax (qB (N.below L) (O.below L) rF rF);by_cases hle:y.natAbs<=x.natAbs
 ·skip
  have i7:Br y.natAbs<=Br x.natAbs:=Fh hle;have j8:=fun V (hV:Below w.heap.size w V)=>Ax (Xg (N.below hV) (O.below hV) (Gb _) (Gb _) (by rw[Vp,Z];exact p8) (by rw[Vp,Vp];exact i7) (by rw[Fb,Fb];exact hle))
  have HZ:Hid (∀n,n=nv (dg x.natAbs) - nv (dg y.natAbs)->sgn bx n=x+y):=Ax (fun n hn=>by
   rw[Fb,Fb] at hn;unfold sgn
   cases bx<;>cases by'<;>simp at hs f7 f8 ⊢ <;>omega)
  have r8:=Ax hle;have f:=Ax b7;have g:=Ax b8;have F:=Ax d8;have G:=Ax L;clear hx hy N O f9 i6 Z a8 L b7 b8 d8 h i A c f7 f8 hs i7 hle u;go_enter Tryz.func191,Tryz.ntmps191;go_wp2_with fail;refine HY.out.mono ?_;rintro e VY ⟨⟨r,rfl,hr⟩,M⟩;obtain⟨r1,r2,r3,r4⟩:=hr;have f2:decide ((0:Int)<=r)=true:=by simp;have:=r8.out;omega
  obtain⟨W9,r9⟩:∃W9,VY.drew=W9:=⟨_,rfl⟩;have I:Below (((w.alloc (.cells #[.bool bx,.slice ax nx cx] 79)).alloc (.cells #[.bool by',.slice ay ny cy] 79)).alloc (.cells #[.bool false,.slice none 0 0] 79)).heap.size (((w.alloc (.cells #[.bool bx,.slice ax nx cx] 79)).alloc (.cells #[.bool by',.slice ay ny cy] 79)).alloc (.cells #[.bool false,.slice none 0 0] 79)) W9:=by rw[←r9];exact M.drew
  have h:=(I.block _ (Ay f.out)).trans f.out;have i:=(I.block _ (Ay g.out)).trans g.out;have A:=(I.block _ (Ay F.out)).trans F.out;have j9:=(M.block _ (Ay f.out)).trans f.out;have k8:=(M.block _ (Ay g.out)).trans g.out;have c:=G.out.trans (I.mono G.out.size);have HU:=j8 _ c;obtain⟨g0,g1,_⟩:=A1 j9;obtain⟨g2,g3,_⟩:=A1 k8;obtain⟨m0,m1,_⟩:=A1 h;obtain⟨m2,m3,_⟩:=A1 i;have j:=Ax h;have m:=Ax i;have R:=Ax A;have T:=Ax c;have l7:¬w.heap.size=w.heap.size+1+1:=by omega
  have n9:¬w.heap.size+1+1=w.heap.size:=by omega
  clear M I h i A j9 k8 c j8 HY r1 r2 f g F G;go_wp2_with fail
  go_region_held3 (fun V=>V.cell? ⟨w.heap.size,0,none⟩=some (.bool bx)/\V.cell? ⟨w.heap.size,1,none⟩=some (.slice ax nx cx)/\V.cell? ⟨w.heap.size+1,0,none⟩=some (.bool by')/\V.cell? ⟨w.heap.size+1,1,none⟩=some (.slice ay ny cy)) (go_keep)
   (first
    |(go_at_call 231;(with_reducible refine HU.out.mono ?_);rintro e V1 ⟨⟨v1,o,rfl,C,U,W,s7⟩,q⟩;obtain⟨a1,c1,rfl,_⟩:=C.slice;obtain⟨k0,k1,_⟩:=A1 ((q.block _ (Ay j.out)).trans j.out);obtain⟨k2,k3,_⟩:=A1 ((q.block _ (Ay m.out)).trans m.out);have X:=Ax q;have HT:=Ax (G4 bx C U (HZ.out _ W));clear q C U W)
    |(go_at_call 125;(with_reducible refine HT.out.mono ?_);rintro e V2 ⟨⟨v2,rfl,D⟩,Y⟩;obtain⟨a2,c2,rfl,_⟩:=D.form;have d:=X.out.trans (Y.mono X.out.size);obtain⟨l0,l1,_⟩:=A1 ((d.block _ (Ay j.out)).trans j.out);obtain⟨l2,l3,_⟩:=A1 ((d.block _ (Ay m.out)).trans m.out);have E:=((d.block _ (Ay R.out)).trans R.out);obtain⟨l4,l5,lf⟩:=A1 E;have s8:=lf 0;have s9:=lf 1;have HV:=Ax (D.store E (.bool (decide (x+y<0))) (.slice a2 (Br (x+y).natAbs) c2));have HB2:=Ax (((T.out.trans (d.mono T.out.size)).setCell (p:=⟨w.heap.size+2,0,none⟩) rI (.bool (decide (x+y<0)))).setCell (p:=⟨w.heap.size+2,1,none⟩) rI (.slice a2 (Br (x+y).natAbs) c2));clear D Y d E lf))
  all_goals
   exact zyr
 have i7:Br x.natAbs<=Br y.natAbs:=Fh rF;have j8:=fun V (hV:Below w.heap.size w V)=>Ax (Xg (O.below hV) (N.below hV) (Gb _) (Gb _) (by rw[Vp,a8];exact r7) (by rw[Vp,Vp];exact i7) (by rw[Fb,Fb];omega))
 have HZ:Hid (∀n,n=nv (dg y.natAbs) - nv (dg x.natAbs)->sgn by' n=x+y):=Ax (fun n hn=>by
  rw[Fb,Fb] at hn;unfold sgn
  cases bx<;>cases by'<;>simp at hs f7 f8 ⊢ <;>omega)
 have r8:=Ax hle;have f:=Ax b7;have g:=Ax b8;have F:=Ax d8;have G:=Ax L;clear hx hy N O f9 i6 Z a8 L b7 b8 d8 h i A c f7 f8 hs i7 hle u;go_enter Tryz.func191,Tryz.ntmps191;go_wp2_with fail;refine HY.out.mono ?_;rintro e VY ⟨⟨r,rfl,hr⟩,M⟩;obtain⟨r1,r2,r3,r4⟩:=hr;have f2:decide ((0:Int)<=r)=false:=by simp;have:=r8.out;omega
 obtain⟨W9,r9⟩:∃W9,VY.drew=W9:=⟨_,rfl⟩;have I:Below (((w.alloc (.cells #[.bool bx,.slice ax nx cx] 79)).alloc (.cells #[.bool by',.slice ay ny cy] 79)).alloc (.cells #[.bool false,.slice none 0 0] 79)).heap.size (((w.alloc (.cells #[.bool bx,.slice ax nx cx] 79)).alloc (.cells #[.bool by',.slice ay ny cy] 79)).alloc (.cells #[.bool false,.slice none 0 0] 79)) W9:=by rw[←r9];exact M.drew
 have h:=(I.block _ (Ay f.out)).trans f.out;have i:=(I.block _ (Ay g.out)).trans g.out;have A:=(I.block _ (Ay F.out)).trans F.out;have j9:=(M.block _ (Ay f.out)).trans f.out;have k8:=(M.block _ (Ay g.out)).trans g.out;have c:=G.out.trans (I.mono G.out.size);have HU:=j8 _ c;obtain⟨g0,g1,_⟩:=A1 j9;obtain⟨g2,g3,_⟩:=A1 k8;obtain⟨m0,m1,_⟩:=A1 h;obtain⟨m2,m3,_⟩:=A1 i;have j:=Ax h;have m:=Ax i;have R:=Ax A;have T:=Ax c;have l7:¬w.heap.size=w.heap.size+1+1:=by omega
 have n9:¬w.heap.size+1+1=w.heap.size:=by omega
 clear M I h i A j9 k8 c j8 HY r1 r2 f g F G;go_wp2_with fail
 go_region_held3 (fun V=>V.cell? ⟨w.heap.size,0,none⟩=some (.bool bx)/\V.cell? ⟨w.heap.size,1,none⟩=some (.slice ax nx cx)/\V.cell? ⟨w.heap.size+1,0,none⟩=some (.bool by')/\V.cell? ⟨w.heap.size+1,1,none⟩=some (.slice ay ny cy)) (go_keep)
  (first
   |(go_at_call 231;(with_reducible refine HU.out.mono ?_);rintro e V1 ⟨⟨v1,o,rfl,C,U,W,s7⟩,q⟩;obtain⟨a1,c1,rfl,_⟩:=C.slice;obtain⟨k0,k1,_⟩:=A1 ((q.block _ (Ay j.out)).trans j.out);obtain⟨k2,k3,_⟩:=A1 ((q.block _ (Ay m.out)).trans m.out);have X:=Ax q;have HT:=Ax (G4 by' C U (HZ.out _ W));clear q C U W)
   |(go_at_call 125;(with_reducible refine HT.out.mono ?_);rintro e V2 ⟨⟨v2,rfl,D⟩,Y⟩;obtain⟨a2,c2,rfl,_⟩:=D.form;have d:=X.out.trans (Y.mono X.out.size);obtain⟨l0,l1,_⟩:=A1 ((d.block _ (Ay j.out)).trans j.out);obtain⟨l2,l3,_⟩:=A1 ((d.block _ (Ay m.out)).trans m.out);have E:=((d.block _ (Ay R.out)).trans R.out);obtain⟨l4,l5,lf⟩:=A1 E;have s8:=lf 0;have s9:=lf 1;have HV:=Ax (D.store E (.bool (decide (x+y<0))) (.slice a2 (Br (x+y).natAbs) c2));have HB2:=Ax (((T.out.trans (d.mono T.out.size)).setCell (p:=⟨w.heap.size+2,0,none⟩) rI (.bool (decide (x+y<0)))).setCell (p:=⟨w.heap.size+2,1,none⟩) rI (.slice a2 (Br (x+y).natAbs) c2));clear D Y d E lf))
 all_goals
  exact zyr
theorem bX {w:World}{vx vy:Value}{x y:Int}(hx:Bm w vx x)(hy:Bm w vy y)(R:Br x.natAbs<=100000)(T:Br y.natAbs<=100000):Calls Tryz.prog 128 #[vx,vy] w (Fv w (x - y)):=by
 have E:=Ax hx;have U:=Ax hy;obtain⟨ax,cx,rfl,W⟩:=hx.form;obtain⟨ay,cy,rfl,X⟩:=hy.form;obtain⟨bx,i⟩:∃b,decide (x<0)=b:=⟨_,rfl⟩;obtain⟨by',j⟩:∃b,decide (y<0)=b:=⟨_,rfl⟩;obtain⟨nx,d⟩:∃n,Br x.natAbs=n:=⟨_,rfl⟩;obtain⟨ny,f⟩:∃n,Br y.natAbs=n:=⟨_,rfl⟩;have n9:(bx=true↔x<0):=by rw[←i];simp
 have p8:(by'=true↔y<0):=by rw[←j];simp
 rw[i,d,j,f];rw[d] at W R;rw[f] at X T;have Y:Below w.heap.size w (((w.alloc (.cells #[.bool bx,.slice ax nx cx] 79)).alloc (.cells #[.bool by',.slice ay ny cy] 79)).alloc (.cells #[.bool false,.slice none 0 0] 79)):=(((Aq _ w).alloc (Ak _) _).alloc rI _).alloc rM _
 have Z:(((w.alloc (.cells #[.bool bx,.slice ax nx cx] 79)).alloc (.cells #[.bool by',.slice ay ny cy] 79)).alloc (.cells #[.bool false,.slice none 0 0] 79)).heap[w.heap.size]? =some (.cells #[.bool bx,.slice ax nx cx] 79 (0,0)):=by
  exact zxs
 have a8:(((w.alloc (.cells #[.bool bx,.slice ax nx cx] 79)).alloc (.cells #[.bool by',.slice ay ny cy] 79)).alloc (.cells #[.bool false,.slice none 0 0] 79)).heap[w.heap.size+1]? =some (.cells #[.bool by',.slice ay ny cy] 79 (0,0)):=by
  exact zyd
 have b7:(((w.alloc (.cells #[.bool bx,.slice ax nx cx] 79)).alloc (.cells #[.bool by',.slice ay ny cy] 79)).alloc (.cells #[.bool false,.slice none 0 0] 79)).heap[w.heap.size+2]? =some (.cells #[.bool false,.slice none 0 0] 79 (0,0)):=by
  exact zx0
 obtain⟨A,o⟩:∃A,(((w.alloc (.cells #[.bool bx,.slice ax nx cx] 79)).alloc (.cells #[.bool by',.slice ay ny cy] 79)).alloc (.cells #[.bool false,.slice none 0 0] 79)).drew=A:=⟨_,rfl⟩;have c:Below w.heap.size w A:=by rw[←o];exact Y.drew
 have F:A.heap[w.heap.size]? =some (.cells #[.bool bx,.slice ax nx cx] 79 (0,0)):=by rw[←o];exact Z
 have G:A.heap[w.heap.size+1]? =some (.cells #[.bool by',.slice ay ny cy] 79 (0,0)):=by rw[←o];exact a8
 have b8:A.heap[w.heap.size+2]? =some (.cells #[.bool false,.slice none 0 0] 79 (0,0)):=by rw[←o];exact b7
 have I:=Ax (E.out.below c);have d8:=Ax (U.out.below c);rw[show x.natAbs=x.natAbs from rfl] at I;obtain⟨_,_,eX,_⟩:=E.out.form;have f7:Bm A (.agg #[.bool bx,.slice ax nx cx]) x:=by have:=I.out;rw[i,d] at this;exact this
 have f8:Bm A (.agg #[.bool by',.slice ay ny cy]) y:=by have:=d8.out;rw[j,f] at this;exact this
 obtain⟨my,L⟩:∃m,-y=m:=⟨_,rfl⟩;have M:=Ol f8;rw[L] at M;have r7:=Ax M;have r8:Hid (x+my=x - y):=Ax rF;have r9:=Ax f7;have C:Br x.natAbs<=100000:=by rw[d];exact R
 have D:Br my.natAbs<=100000:=by rw[←L,Int.natAbs_neg,f];exact T
 have HL:=Ax (And.intro C D);obtain⟨m0,m1,_⟩:=A1 F;obtain⟨m2,m3,_⟩:=A1 G;have q:=Ax F;have r:=Ax G;have f9:=Ax b8;have i6:=Ax c;have s7:¬w.heap.size=w.heap.size+1+1:=by omega
 have s8:¬w.heap.size+1+1=w.heap.size:=by omega
 clear hx hy W X i j d f Y Z a8 b7 F G b8 c n9 p8 f7 f8 I d8 E U eX C D M L;go_enter Tryz.func128,Tryz.ntmps128;go_wp2_with fail
 go_region_held3 (fun V=>V.cell? ⟨w.heap.size,0,none⟩=some (.bool bx)/\V.cell? ⟨w.heap.size,1,none⟩=some (.slice ax nx cx)/\V.cell? ⟨w.heap.size+1,0,none⟩=some (.bool by')/\V.cell? ⟨w.heap.size+1,1,none⟩=some (.slice ay ny cy)) (go_keep)
  (first
   |(go_at_call 192;(with_reducible refine r7.out.mono ?_);rintro e V1 ⟨⟨v1,rfl,N⟩,g⟩;obtain⟨k0,k1,_⟩:=A1 ((g.block _ (Ay q.out)).trans q.out);obtain⟨k2,k3,_⟩:=A1 ((g.block _ (Ay r.out)).trans r.out);have i7:=Ax g;have HT:=Ax (U3 (r9.out.below g) N HL.out.1 HL.out.2);obtain⟨a1,c1,rfl,_⟩:=N.form;clear g N)
   |(go_at_call 191;(with_reducible refine HT.out.mono ?_);rintro e V2 ⟨⟨v2,rfl,u⟩,j8⟩;rw[r8.out] at u;obtain⟨a2,c2,rfl,_⟩:=u.form;have h:=i7.out.trans (j8.mono i7.out.size);obtain⟨l0,l1,_⟩:=A1 ((h.block _ (Ay q.out)).trans q.out);obtain⟨l2,l3,_⟩:=A1 ((h.block _ (Ay r.out)).trans r.out);have O:=((h.block _ (Ay f9.out)).trans f9.out);obtain⟨l4,l5,lf⟩:=A1 O;have s9:=lf 0;have w7:=lf 1;have HV:=Ax (u.store O (.bool (decide (x - y<0))) (.slice a2 (Br (x - y).natAbs) c2));have j9:=Ax (((i6.out.trans (h.mono i6.out.size)).setCell (p:=⟨w.heap.size+2,0,none⟩) rI (.bool (decide (x - y<0)))).setCell (p:=⟨w.heap.size+2,1,none⟩) rI (.slice a2 (Br (x - y).natAbs) c2));clear u j8 h O lf))
 all_goals
  obtain⟨nb,k8⟩:∃nb,decide (x - y<0)=nb:=⟨_,rfl⟩;obtain⟨kk,l7⟩:∃k,Br (x - y).natAbs=k:=⟨_,rfl⟩;rw[k8,l7] at j9 HV ⊢;clear k8 l7;go_wp2_with fail;refine Au (v:= .agg #[.bool nb,.slice a2 kk c2]) (by simp [results,Tryz.results128,go_sem, *]) rfl ⟨⟨_,rfl,HV.out⟩,j9.out⟩
def J2 (x y:Int):Int:=if x<y then -1 else if x=y then 0 else 1
theorem R8 {w:World}{X Y:Value}{x y:Int}(R:Bm w X x)(T:Bm w Y y)(m:Br x.natAbs<=100000)(o:Br y.natAbs<=100000):Calls Tryz.prog 126 #[X,Y] w fun e w'=>e= .returned (.int .i64 (J2 x y))/\Below w.heap.size w w':=by
 have q:=Ax R;have r:=Ax T;obtain⟨F,G,rfl,u⟩:=R.form;obtain⟨I,L,rfl,A⟩:=T.form;obtain⟨C,h⟩:∃b,decide (x<0)=b:=⟨_,rfl⟩;obtain⟨d,i⟩:∃b,decide (y<0)=b:=⟨_,rfl⟩;obtain⟨M,f⟩:∃n,Br x.natAbs=n:=⟨_,rfl⟩;obtain⟨N,g⟩:∃n,Br y.natAbs=n:=⟨_,rfl⟩;have U:(C=true↔x<0):=by rw[←h];simp
 have W:(d=true↔y<0):=by rw[←i];simp
 rw[h,f,i,g];rw[f] at u m;rw[g] at A o;have j:Below w.heap.size w ((w.alloc (.cells #[.bool C,.slice F M G] 79)).alloc (.cells #[.bool d,.slice I N L] 79)):=((Aq _ w).alloc (Ak _) _).alloc rI _;have D:Bm ((w.alloc (.cells #[.bool C,.slice F M G] 79)).alloc (.cells #[.bool d,.slice I N L] 79)) (.agg #[.bool C,.slice F M G]) x:=by have:=q.out.below j;rw[h,f] at this;exact this
 have E:Bm ((w.alloc (.cells #[.bool C,.slice F M G] 79)).alloc (.cells #[.bool d,.slice I N L] 79)) (.agg #[.bool d,.slice I N L]) y:=by have:=r.out.below j;rw[i,g] at this;exact this
 have Z:=Ax (bX D E (by rw[f];exact m) (by rw[g];exact o));have p:=Ax j;clear R T u A h i f g j U W D E q r m o;go_enter Tryz.func126,Tryz.ntmps126;go_wp2_with fail;refine Z.out.mono ?_;rintro e V ⟨⟨v,rfl,hv⟩,hb⟩;obtain⟨a,c,rfl,_⟩:=hv.form;have HB:=Ax (p.out.trans (hb.mono p.out.size));clear hv hb Z p;by_cases h1:x<y
 ·have k:J2 x y= -1:=by unfold J2;rw[Ap h1]
  rw[show decide (x - y<0)=true by simp;omega];have Hz:=Ax k;clear h1 k;exact zwl
 rw[show decide (x - y<0)=false by simp;omega];by_cases h2:x=y
 ·have k:J2 x y=0:=by unfold J2;rw[Ao h1,Ap h2]
  have O:Br (x - y).natAbs=0:=by rw[show x - y=0 by omega];unfold Br;rw[show(0:Int).natAbs=0 from rfl,D1];rfl
  rw[O];have Hz:=Ax k;clear h1 h2 k O;exact zwl
 have k:J2 x y=1:=by unfold J2;rw[Ao h1,Ao h2]
 have O:0<Br (x - y).natAbs:=by unfold Br;rw[J0 rF];simp
 obtain⟨n,hn⟩:∃n,Br (x - y).natAbs=n:=⟨_,rfl⟩;rw[hn] at O ⊢;have Hz:=Ax k;have f1:decide ((0:Int)<(n:Int))=true:=Am rF;clear h1 h2 k hn;exact zwl
open Go Go.RowKit Go.Lib
structure Vc (w wr:World)(n:Int)(i:Nat)(m:Int)(v:Value)(o:List Nat):Prop where
 row:wr.ownsRow (w.heap.size+1) 3 1 v i (De o)
 len:o.length=i
 ok:okD o
 val:dg n.natAbs=o++dg m.natAbs
 on:Below (w.heap.size+1) (w.alloc (.cells #[.bool false,.slice none 0 0] 79)) wr
theorem Vc.bel {w wr:World}{n:Int}{i:Nat}{m:Int}{v:Value}{o:List Nat}(h:Vc w wr n i m v o):Below w.heap.size w wr:=
 ((Aq _ w).alloc (Ak _) _).trans (h.on.mono rF)
theorem Vc.box {w wr:World}{n:Int}{i:Nat}{m:Int}{v:Value}{o:List Nat}(h:Vc w wr n i m v o):wr.heap[w.heap.size]? =some (.cells #[.bool false,.slice none 0 0] 79 (0,0)):=
 (h.on.block _ rF).trans (Az w _)
theorem Lo {n:Nat}(h:n<=9223372036854775808):(dg n).length<=5:=by
 have:n<10000^5:=by omega
 exact Im this
theorem J5 {w:World}(n:Int)(h0: -9223372036854775808<=n)(h1:n<=9223372036854775807):Calls Tryz.prog 47 #[.int .i64 n] w (Fv w n):=by
 have f8:=Lo (n:=n.natAbs) rF;have HS:Hid (Vc w (w.alloc (.cells #[.bool false,.slice none 0 0] 79)) n 0 n (.slice none 0 0) []):=Ax ⟨World.ownsRow_nil _ _ _ _,rfl,fun _ h=>by(cases h),rfl,Aq _ _⟩;have HN:=Ax (And.intro h0 h1);have i6:=Ax f8;obtain⟨ng,i7⟩:∃b,decide (n<0)=b:=⟨_,rfl⟩;have l7:=Ax i7;clear h0 h1 f8;go_enter Tryz.func47,Tryz.ntmps47;go_wp2_with fail;clear i7
 go_loopw [0,4] (fun v0 v4 wr=>∃(i:Nat) (m:Int) (o:List Nat) (N:Option Addr) (O:Nat),i<=5/\v0= .int .i64 m/\v4= .slice N i O/\Hid (Vc w wr n i m (.slice N i O) o/\m.natAbs<=n.natAbs/\ -9223372036854775808<=m/\m<=9223372036854775807)) (fun v0 _ _=>(intOf v0).natAbs)
 case atStart=>exact⟨0,n,[],none,0,by omega,rfl,rfl,Ax ⟨HS.out,Ak _,HN.out.1,HN.out.2⟩⟩
 obtain⟨i,m,o,N,O,hi,rfl,rfl,hq⟩:=hrel;obtain⟨f,n9,p8,r7⟩:=hq.out;by_cases hm0:m=0
 ·subst hm0;have hv:o=dg n.natAbs:=by rw[f.val];simp [D1]
  have hd:Ck wr (.slice N i O) (dg n.natAbs):=by
   have:=i6.out
   rw[←hv] at this ⊢;exact Ck.of_row rF f.len.symm f.row
  have hN:Bm wr (.agg #[.bool ng,.slice N i O]) n:=⟨_,by rw[l7.out],hd⟩;obtain⟨x0,x1,xf⟩:=A1 f.box;have s8:=xf 0;have s9:=xf 1;have HV:=Ax (hN.store f.box (.bool ng) (.slice N i O));have HB:=Ax ((f.bel.setCell (p:=⟨w.heap.size,0,none⟩) (Ak _) (.bool ng)).setCell (p:=⟨w.heap.size,1,none⟩) (Ak _) (.slice N i O));clear hq f hv hd hN xf HS n9 p8 r7;go_wp2_with fail;refine Au (v:= .agg #[.bool ng,.slice N i O]) (by simp [results,Tryz.results47,go_sem, *]) rfl ⟨⟨_,rfl,HV.out⟩,HB.out⟩
 have p1:(m !=0)=true:=by simpa using hm0
 have f9:i+1<=5:=by
  have h2:=i6.out;rw[f.val,Ab,f.len,J0 rF] at h2;simp only[Aa] at h2;omega
 rcases Int.lt_or_le m 0 with j8|j8
 ·obtain⟨k,rfl⟩:∃k:Nat,m= -(k:Int):=⟨m.natAbs,by omega⟩;rcases Nat.eq_zero_or_pos (k % 10000) with r8|r8
  ·have R:k≠0:=by omega
   have j:=J0 R;obtain⟨x,hx⟩:∃x,k % 10000=x:=⟨_,rfl⟩;obtain⟨y,hy⟩:∃y,k/10000=y:=⟨_,rfl⟩;have j9:x<10000:=by omega
   have T:y<k:=by omega
   rw[hx,hy] at j;have hz:(-(k:Int)).tmod 10000= -(x:Int):=by rw[Int.neg_tmod,Int.tmod_eq_emod_of_nonneg rF];omega
   have hd:(-(k:Int)).tdiv 10000= -(y:Int):=by rw[Int.neg_tdiv,Int.tdiv_eq_ediv_of_nonneg rF];omega
   have k8:x=0:=by omega
   subst k8;have p2:decide (-((0:Nat):Int)<0)=false:=by decide
   have p3:decide ((0:Int)<0)=false:=by decide
   skip
   skip
   have e:=Ax (f.row.alloc (.cells #[.int .i64 0] 3));have q:=Ax (Az wr (.cells #[.int .i64 0] 3));have HZ:Hid ((wr.alloc (.cells #[.int .i64 0] 3)).heap.size=wr.heap.size+1):=Ax rI;have U:=f.bel.size;have g:=Ax (Co f.row);have V:=f.box;have hV:=f.val;have r:okD (o++[0]):=Ff f.ok rF;have u:dg n.natAbs=(o++[0])++dg (-(y:Int)).natAbs:=by rw[hV,show(-(k:Int)).natAbs=k by omega,j,show(-(y:Int)).natAbs=y by omega];simp
   have W:=Ax u;have X:=Ax r;have HU:=Ax f;have A:(-(y:Int)).natAbs<=n.natAbs:=by omega
   have Y:=Ax A;obtain⟨i0,C,D,E,F⟩:=Cj;have Z:=Ax C;have a8:=Ax D;have b7:=Ax E;have b8:=Ax F;have d8:=Ax T;clear hq f C D E F j hx hy hV u r A HS V d8;go_wp2_with ((refine wpList_append_lies _ rfl (.tmp 16) (.tmp 18) _ rfl (w.heap.size+1) 3 i0 (.int .i64 0) 1 8 Tryz.underlying41 Z.out a8.out b7.out b8.out rfl rH (.slice N i O) i (De o) rfl e.out ⟨wr.heap.size,0,none⟩ 1 1 [.int .i64 0] rfl rfl (World.news_of_block (cs:= #[.int .i64 0]) q.out) rS rH rP rF rW (wr.heap.size+1) HZ.out ?_;intro g6 G w6 c d I L));have M:=Cq (v:= .slice N i O) (HU.out.on.alloc uG (.cells #[.int .i64 0] 3)) d g.out tJ;rw[show(0:Int)=((0:Nat):Int) from rfl,←Dg] at c;have f7:Hid (Vc w w6 n (i+1) (-(y:Int)) (.slice (some ⟨g6,0,none⟩) (i+1) G) (o++[0])):=Ax ⟨c,by rw[Ab,HU.out.len];rfl,X.out,W.out,M⟩;clear c d I L M e q HZ U g HU;go_wp2_with fail;go_roundw
   case rel=>exact⟨i+1,-(y:Int),o++[0],some ⟨g6,0,none⟩,G,f9,rfl,by go_num,Ax ⟨f7.out,Y.out,by omega,by omega⟩⟩
   case measure=>simp [intOf];omega
  have R:k≠0:=by omega
  have j:=J0 R;obtain⟨x,hx⟩:∃x,k % 10000=x:=⟨_,rfl⟩;obtain⟨y,hy⟩:∃y,k/10000=y:=⟨_,rfl⟩;have j9:x<10000:=by omega
  have T:y<k:=by omega
  rw[hx,hy] at j;have hz:(-(k:Int)).tmod 10000= -(x:Int):=by rw[Int.neg_tmod,Int.tmod_eq_emod_of_nonneg rF];omega
  have hd:(-(k:Int)).tdiv 10000= -(y:Int):=by rw[Int.neg_tdiv,Int.tdiv_eq_ediv_of_nonneg rF];omega
  have k8:0<x:=by omega
  have p2:decide (-(x:Int)<0)=true:=Am rF;have q0: -(9223372036854775807:Int)<=(x:Int):=by omega
  have r9:(-9223372036854775808:Int)<=(x:Int):=by omega
  have s7:(x:Int)<=9223372036854775807:=by omega
  have e:=Ax (f.row.alloc (.cells #[.int .i64 (x:Int)] 3));have q:=Ax (Az wr (.cells #[.int .i64 (x:Int)] 3));have HZ:Hid ((wr.alloc (.cells #[.int .i64 (x:Int)] 3)).heap.size=wr.heap.size+1):=Ax rI;have U:=f.bel.size;have g:=Ax (Co f.row);have V:=f.box;have hV:=f.val;have r:okD (o++[x]):=Ff f.ok rF;have u:dg n.natAbs=(o++[x])++dg (-(y:Int)).natAbs:=by rw[hV,show(-(k:Int)).natAbs=k by omega,j,show(-(y:Int)).natAbs=y by omega];simp
  have W:=Ax u;have X:=Ax r;have HU:=Ax f;have A:(-(y:Int)).natAbs<=n.natAbs:=by omega
  have Y:=Ax A;obtain⟨i0,C,D,E,F⟩:=Cj;have Z:=Ax C;have a8:=Ax D;have b7:=Ax E;have b8:=Ax F;have d8:=Ax T;clear hq f C D E F j hx hy hV u r A HS V d8;go_wp2_with ((refine wpList_append_lies _ rfl (.tmp 16) (.tmp 18) _ rfl (w.heap.size+1) 3 i0 (.int .i64 0) 1 8 Tryz.underlying41 Z.out a8.out b7.out b8.out rfl rH (.slice N i O) i (De o) rfl e.out ⟨wr.heap.size,0,none⟩ 1 1 [.int .i64 (x:Int)] rfl rfl (World.news_of_block (cs:= #[.int .i64 (x:Int)]) q.out) rS rH rP rF rW (wr.heap.size+1) HZ.out ?_;intro g6 G w6 c d I L));have M:=Cq (v:= .slice N i O) (HU.out.on.alloc uG (.cells #[.int .i64 (x:Int)] 3)) d g.out tJ;rw[←Dg] at c;have f7:Hid (Vc w w6 n (i+1) (-(y:Int)) (.slice (some ⟨g6,0,none⟩) (i+1) G) (o++[x])):=Ax ⟨c,by rw[Ab,HU.out.len];rfl,X.out,W.out,M⟩;clear c d I L M e q HZ U g HU;go_wp2_with fail;go_roundw
  case rel=>exact⟨i+1,-(y:Int),o++[x],some ⟨g6,0,none⟩,G,f9,rfl,by go_num,Ax ⟨f7.out,Y.out,by omega,by omega⟩⟩
  case measure=>simp [intOf];omega
 obtain⟨k,rfl⟩:∃k:Nat,m=(k:Int):=⟨m.toNat,by omega⟩;have R:k≠0:=by omega
 have j:=J0 R;obtain⟨x,hx⟩:∃x,k % 10000=x:=⟨_,rfl⟩;obtain⟨y,hy⟩:∃y,k/10000=y:=⟨_,rfl⟩;have j9:x<10000:=by omega
 have T:y<k:=by omega
 rw[hx,hy] at j;have hz:(k:Int) % 10000=(x:Int):=by omega
 have hd:(k:Int)/10000=(y:Int):=by omega
 have p2:decide ((x:Int)<0)=false:=by simp
 have r9:(-9223372036854775808:Int)<=(x:Int):=by omega
 have s7:(x:Int)<=9223372036854775807:=by omega
 have e:=Ax (f.row.alloc (.cells #[.int .i64 (x:Int)] 3));have q:=Ax (Az wr (.cells #[.int .i64 (x:Int)] 3));have HZ:Hid ((wr.alloc (.cells #[.int .i64 (x:Int)] 3)).heap.size=wr.heap.size+1):=Ax rI;have U:=f.bel.size;have g:=Ax (Co f.row);have V:=f.box;have hV:=f.val;have r:okD (o++[x]):=Ff f.ok rF;have u:dg n.natAbs=(o++[x])++dg ((y:Int)).natAbs:=by rw[hV,show((k:Int)).natAbs=k by omega,j,show((y:Int)).natAbs=y by omega];simp
 have W:=Ax u;have X:=Ax r;have HU:=Ax f;have A:((y:Int)).natAbs<=n.natAbs:=by omega
 have Y:=Ax A;obtain⟨i0,C,D,E,F⟩:=Cj;have Z:=Ax C;have a8:=Ax D;have b7:=Ax E;have b8:=Ax F;have d8:=Ax T;clear hq f C D E F j hx hy hV u r A HS V d8;go_wp2_with ((refine wpList_append_lies _ rfl (.tmp 16) (.tmp 18) _ rfl (w.heap.size+1) 3 i0 (.int .i64 0) 1 8 Tryz.underlying41 Z.out a8.out b7.out b8.out rfl rH (.slice N i O) i (De o) rfl e.out ⟨wr.heap.size,0,none⟩ 1 1 [.int .i64 (x:Int)] rfl rfl (World.news_of_block (cs:= #[.int .i64 (x:Int)]) q.out) rS rH rP rF rW (wr.heap.size+1) HZ.out ?_;intro g6 G w6 c d I L));have M:=Cq (v:= .slice N i O) (HU.out.on.alloc uG (.cells #[.int .i64 (x:Int)] 3)) d g.out tJ;rw[←Dg] at c;have f7:Hid (Vc w w6 n (i+1) ((y:Int)) (.slice (some ⟨g6,0,none⟩) (i+1) G) (o++[x])):=Ax ⟨c,by rw[Ab,HU.out.len];rfl,X.out,W.out,M⟩;clear c d I L M e q HZ U g HU;go_wp2_with fail;go_roundw
 case rel=>exact⟨i+1,(y:Int),o++[x],some ⟨g6,0,none⟩,G,f9,rfl,by go_num,Ax ⟨f7.out,Y.out,by omega,by omega⟩⟩
 case measure=>simp [intOf];omega
open Go Go.RowKit Go.Lib
def O8 (s:ByteArray)(k:Nat):Nat:=(s.data.toList.getD k 0).toNat
theorem Q3 {s:ByteArray}{k:Nat}(h:k<s.size):O8 s k=s[k].toNat:=by
 have c:k<s.data.toList.length:=by simpa using h
 unfold O8;rw[List.getD_eq_getElem?_getD,Ag c];rfl
theorem N8 (p:Nat->Bool)(s:ByteArray):(s.data.toList.any fun b=>p b.toNat)=false↔ ∀k,k<s.size->p (O8 s k)=false:=by
 rw[List.any_eq_false];constructor
 ·intro h k c;have d:k<s.data.toList.length:=by simpa using c
  have:=h _ (List.getElem_mem d)
  unfold O8;rw[List.getD_eq_getElem?_getD,Ag d];simpa using this
 intro h b e;obtain⟨k,c,rfl⟩:=List.getElem_of_mem e
 have:=h k (by simpa using c)
 unfold O8 at this;rw[List.getD_eq_getElem?_getD,Ag c] at this;simpa using this
def Sv (s:ByteArray)(k:Nat):Bool:=Ef (O8 s k)||(decide (0<k) && Jd (O8 s k))
theorem eY {s:ByteArray}(c:0<s.size)(e:s.size<=12)(h:∀k,k<s.size->Sv s k=true):G9 s=true:=by
 rw[Oy c,Am e];have d:=h 0 c;simp only[Sv,Nat.lt_irrefl,decide_false,Bool.false_and,Bool.or_false,Q3 c] at d;rw[d]
 have:(s.data.toList.any fun b=>Ij b.toNat)=false:=(N8 Ij s).2 fun k f=>by
  have:=h k f
  simp only[Sv,Bool.or_eq_true,Bool.and_eq_true] at this;unfold Ij;rcases this with q|⟨_,q⟩<;>simp [q]
 rw[this];rfl
theorem L7 {s:ByteArray}{k:Nat}(e:k<s.size)(h:Sv s k=false):G9 s=false:=by
 have d:0<s.size:=by omega
 rw[Oy d];simp only[Sv,Bool.or_eq_false_iff,Bool.and_eq_false_iff] at h;obtain⟨c,f⟩:=h;by_cases hz:k=0
 ·subst hz;rw[Q3 d] at c;rw[c];simp
 have hd:Jd (O8 s k)=false:=by
  rcases f with q|q
  ·simp at q;omega
  exact q
 have:(s.data.toList.any fun b=>Ij b.toNat)=true:=by
  cases hq:(s.data.toList.any fun b=>Ij b.toNat)
  ·have:=(N8 Ij s).1 hq k e
   simp [Ij,c,hd] at this
  rfl
 rw[this];simp
theorem eM (s:ByteArray)(E:s.size<=9223372036854775807)(w:World):
 Calls Tryz.prog 49 #[.string s] w fun e w'=>e= .returned (.bool (G9 s))/\w=w':=by
 by_cases h0:s.size=0
 ·have y:(s.size:Int)<1:=by omega
  rw[Rp h0];clear h0;go_enter Tryz.func49,Tryz.ntmps49
  go_wp2
  exact zyn
 have y:1<=(s.size:Int):=by omega
 by_cases h12:12<s.size
 ·have p:12<(s.size:Int):=by omega
  have m:G9 s=false:=by rw[Oy rF,An rF];rfl
  rw[m];clear h12 h0 m;go_enter Tryz.func49,Tryz.ntmps49
  go_wp2
  exact zyn
 have p:(s.size:Int)<=12:=by omega
 clear h12 h0;go_enter Tryz.func49,Tryz.ntmps49
 go_wp2
 go_loop [3] (fun A=>∃k:Nat,k<=s.size/\A= .int .i64 k/\Hid (∀j,j<k->Sv s j=true)) (fun i=>s.size - (intOf i).toNat)
 case atStart=>exact⟨0,Nat.zero_le _,rfl,fun j v=>absurd v rF⟩
 obtain⟨k,F,rfl,m⟩:=hrel;by_cases hlk:k<s.size
 ·have f:=Q3 hlk;obtain⟨c,r⟩:∃c,O8 s k=c:=⟨_,rfl⟩;have n:Sv s k=(Ef c||(decide (0<k) && Jd c)):=by unfold Sv;rw[r]
  rw[r] at f;have Hok:=Ax n;clear n r
  have yes:Sv s k=true->∀j,j<k+1->Sv s j=true:=fun h j v=>by
   rcases Nat.lt_or_ge j k with q|q
   ·exact m.out j q
   obtain rfl:j=k:=by omega
   exact h
  have o:=Ax yes;clear yes;by_cases hlo:c<97
  ·have C:(s[k].toNat:Int)<97:=by omega
   by_cases hk0:k=0
   ·have d:=L7 hlk (by rw[Hok.out];simp [Ef,hk0];omega);have Hno:=Ax d;subst hk0;clear d f hlo;exact zw3
   have D:((k:Int)==0)=false:=by simp;omega
   by_cases h48:c<48
   ·have u:(s[k].toNat:Int)<48:=by omega
    have d:=L7 hlk tO;have Hno:=Ax d;clear d f hlo h48 hk0;exact zw3
   have u:48<=(s[k].toNat:Int):=by omega
   by_cases h57:57<c
   ·have x:57<(s[k].toNat:Int):=by omega
    have d:=L7 hlk tO;have Hno:=Ax d;clear d f hlo h48 hk0 h57;exact zw3
   have x:(s[k].toNat:Int)<=57:=by omega
   have g:=o.out tO;have Hyes:=Ax g;clear g f hlo h48 hk0 h57;exact zxc
  have C:97<=(s[k].toNat:Int):=by omega
  by_cases hhi:122<c
  ·have u:122<(s[k].toNat:Int):=by omega
   have G:decide ((s[k].toNat:Int)<=122)=false:=by simp;omega
   have d:=L7 hlk tO;have Hno:=Ax d;have x:48<=(s[k].toNat:Int):=by omega
   have I:57<(s[k].toNat:Int):=by omega
   by_cases hk0:k=0
   ·subst hk0;clear d f hlo hhi;exact zw3
   have D:((k:Int)==0)=false:=by simp;omega
   clear d f hlo hhi hk0;exact zw3
  have u:(s[k].toNat:Int)<=122:=by omega
  have g:=o.out (by rw[Hok.out];simp [Ef];omega);have Hyes:=Ax g;clear g f hlo hhi;exact zxc
 obtain rfl:k=s.size:=by omega
 go_wp2
 go_ret;exact⟨by rw[eY rF rF m.out];rfl,rfl⟩
theorem Tp {s:ByteArray}{k:Nat}(c:k<s.size)(h:I8 (O8 s k)=true):K4 s=false:=by
 have:(s.data.toList.any fun b=>I8 b.toNat)=true:=by
  cases hq:(s.data.toList.any fun b=>I8 b.toNat)
  ·have:=(N8 I8 s).1 hq k c
   rw[h] at this;cases this
  rfl
 unfold K4;rw[this];simp
theorem gG {s:ByteArray}(h:∀k,k<s.size->I8 (O8 s k)=false):K4 s=decide (s.size<=200):=by
 unfold K4;rw[(N8 I8 s).2 h];simp
theorem gT (n:Int)(s:ByteArray)(v:s.size<=9223372036854775807)(w:World):Calls Tryz.prog 17 #[.agg #[.int .u8 3,.int .i64 n,.string s]] w (Fp w (decide (n=0) && K4 s)):=by
 have g:=Ax ((Aq w.heap.size w).alloc (Ak _) (.cells #[.int .u8 3,.int .i64 n,.string s] 23));go_enter Tryz.func17,Tryz.ntmps17
 go_wp2
 go_loop [3] (fun u=>∃k:Nat,k<=s.size/\u= .int .i64 k/\Hid (∀j,j<k->I8 (O8 s j)=false)) (fun i=>s.size - (intOf i).toNat)
 case atStart=>exact⟨0,Nat.zero_le _,rfl,fun j m=>absurd m rF⟩
 obtain⟨k,x,rfl,o⟩:=hrel;by_cases hlk:k<s.size
 ·have d:=Q3 hlk;obtain⟨c,e⟩:∃c,O8 s k=c:=⟨_,rfl⟩;rw[e] at d;by_cases h32:c<32
  ·have h:(s[k].toNat:Int)<32:=by omega
   have f:=Ax (Tp hlk (by rw[e];simp [I8];omega));clear d e h32
   go_wp2
   go_ret;exact⟨by rw[f.out,Bool.and_false];rfl,g.out⟩
  have h:32<=(s[k].toNat:Int):=by omega
  by_cases h126:126<c
  ·have p:126<(s[k].toNat:Int):=by omega
   have f:=Ax (Tp hlk (by rw[e];simp [I8];omega));clear d e h32 h126
   go_wp2
   go_ret;exact⟨by rw[f.out,Bool.and_false];rfl,g.out⟩
  have p:(s[k].toNat:Int)<=126:=by omega
  have Hyes:Hid (∀j,j<k+1->I8 (O8 s j)=false):=fun j m=>by
   rcases Nat.lt_or_ge j k with q|q
   ·exact o.out j q
   obtain rfl:j=k:=by omega
   rw[e];simp [I8];omega
  clear d e h32 h126;exact zxc
 obtain rfl:k=s.size:=by omega
 have r:=Ax (gG o.out);by_cases hn:n=0
 ·subst hn;by_cases h200:s.size<=200
  ·have h:(s.size:Int)<=200:=by omega
   have Hd:=Ax (Am h200);clear h200
   go_wp2
   go_ret;exact⟨by rw[r.out,Hd.out];rfl,g.out⟩
  have h:200<(s.size:Int):=by omega
  have p:decide ((s.size:Int)<=200)=false:=by simp;omega
  have Hd:=Ax (An h200);clear h200
  go_wp2
  go_ret;exact⟨by rw[r.out,Hd.out];rfl,g.out⟩
 have y:(n==0)=false:=by simpa using hn
 have Hd:=Ax (An hn);clear hn
 go_wp2
 go_ret;exact⟨by rw[Hd.out];rfl,g.out⟩
theorem gA (n:Int)(s:ByteArray)(w:World):Calls Tryz.prog 17 #[.agg #[.int .u8 0,.int .i64 n,.string s]] w (Fp w (decide (n=0) && decide (s.size=0))):=by
 have HB:=Ax ((Aq w.heap.size w).alloc (Ak _) (.cells #[.int .u8 0,.int .i64 n,.string s] 23));obtain⟨q,e⟩:∃q,decide (s.size=0)=q:=⟨_,rfl⟩;obtain⟨g,c,d⟩:=D9 s e;rw[e];clear e;by_cases hn:n=0
 ·subst hn;cases q
  ·have f:=d rfl;clear c d;go_enter Tryz.func17,Tryz.ntmps17;exact zzf
  have f:=c rfl;clear c d;go_enter Tryz.func17,Tryz.ntmps17;exact zzf
 have h:(n==0)=false:=by simpa using hn
 rw[An hn];cases q
 ·have f:=d rfl;clear c d;go_enter Tryz.func17,Tryz.ntmps17;exact zzf
 have f:=c rfl;clear c d;go_enter Tryz.func17,Tryz.ntmps17;exact zzf
theorem jO (k n:Int)(s:ByteArray)(w:World)(f:k=1\/k=2):Calls Tryz.prog 17 #[.agg #[.int .u8 k,.int .i64 n,.string s]] w (Fp w (decide (s.size=0))):=by
 have HB:=Ax ((Aq w.heap.size w).alloc (Ak _) (.cells #[.int .u8 k,.int .i64 n,.string s] 23));obtain⟨q,e⟩:∃q,decide (s.size=0)=q:=⟨_,rfl⟩;obtain⟨g,c,d⟩:=D9 s e;rw[e];clear e;rcases f with rfl|rfl
 all_goals
  cases q
  ·have h:=d rfl;clear c d;go_enter Tryz.func17,Tryz.ntmps17;exact zzf
  have h:=c rfl;clear c d;go_enter Tryz.func17,Tryz.ntmps17;exact zzf
theorem hH (n:Int)(s:ByteArray)(f:s.size<=9223372036854775807)(w:World):Calls Tryz.prog 17 #[.agg #[.int .u8 5,.int .i64 n,.string s]] w (Fp w (decide (n=0) && G9 s)):=by
 have HB:=Ax ((Aq w.heap.size w).alloc (Ak _) (.cells #[.int .u8 5,.int .i64 n,.string s] 23));have c:=eM s f (w.alloc (.cells #[.int .u8 5,.int .i64 n,.string s] 23));obtain⟨b,d⟩:∃b,G9 s=b:=⟨_,rfl⟩;rw[d] at c ⊢;have g:=Ax c;clear c d;by_cases hn:n=0
 ·subst hn;go_enter Tryz.func17,Tryz.ntmps17;go_wp2_with fail;refine g.out.mono ?_;rintro e h ⟨rfl,rfl⟩
  go_wp2
  go_ret;exact⟨Iz rI,HB.out⟩
 have i:(n==0)=false:=by simpa using hn
 rw[An hn];clear hn;go_enter Tryz.func17,Tryz.ntmps17;exact zzf
theorem fT (n:Int)(s:ByteArray)(w:World):Calls Tryz.prog 17 #[.agg #[.int .u8 4,.int .i64 n,.string s]] w (Fp w (decide (s.size=0) && decide (n=0\/n=1))):=by
 have HB:=Ax ((Aq w.heap.size w).alloc (Ak _) (.cells #[.int .u8 4,.int .i64 n,.string s] 23));obtain⟨q,e⟩:∃q,decide (s.size=0)=q:=⟨_,rfl⟩;obtain⟨f,c,d⟩:=D9 s e;rw[e];clear e;cases q
 ·have g:=d rfl;clear c d;go_enter Tryz.func17,Tryz.ntmps17;exact zzf
 have g:=c rfl;clear c d;by_cases h0:n=0
 ·subst h0;go_enter Tryz.func17,Tryz.ntmps17;exact zzf
 by_cases h1:n=1
 ·subst h1;go_enter Tryz.func17,Tryz.ntmps17;exact zzf
 have h:(n==0)=false:=by simpa using h0
 have i:(n==1)=false:=by simpa using h1
 rw[An rF];clear h0 h1;go_enter Tryz.func17,Tryz.ntmps17;exact zzf
theorem aC (k n:Int)(s:ByteArray)(w:World)(c:k<0\/5<k):Calls Tryz.prog 17 #[.agg #[.int .u8 k,.int .i64 n,.string s]] w (Fp w false):=by
 have HB:=Ax ((Aq w.heap.size w).alloc (Ak _) (.cells #[.int .u8 k,.int .i64 n,.string s] 23));have d:(k==0)=false:=by simp;omega
 have e:(k==1)=false:=by simp;omega
 have f:(k==2)=false:=by simp;omega
 have g:(k==3)=false:=by simp;omega
 have h:(k==4)=false:=by simp;omega
 have i:(k==5)=false:=by simp;omega
 clear c;go_enter Tryz.func17,Tryz.ntmps17;exact zzf
theorem Hy (v:Vl)(c:v.s.size<=9223372036854775807)(w:World):
 Calls Tryz.prog 17 #[.agg #[.int .u8 v.k,.int .i64 v.n,.string v.s]] w fun e w'=>e= .returned (.bool (cZ v))/\Below w.heap.size w w':=by
 obtain⟨k,n,s⟩:=v;simp only at c;unfold cZ;simp only;by_cases k0:k=0
 ·subst k0;rw[Ap rfl];exact gA n s w
 rw[Ao k0];by_cases k1:k=1\/k=2
 ·rw[Ap k1];exact jO k n s w k1
 rw[Ao k1];by_cases k3:k=3
 ·subst k3;rw[Ap rfl];exact gT n s c w
 rw[Ao k3];by_cases k4:k=4
 ·subst k4;rw[Ap rfl];exact fT n s w
 rw[Ao k4];by_cases k5:k=5
 ·subst k5;rw[Ap rfl];exact hH n s c w
 rw[Ao k5];exact aC k n s w rF
end Go.Proofs.YtgfakdobajgnfaaGreatDoor
