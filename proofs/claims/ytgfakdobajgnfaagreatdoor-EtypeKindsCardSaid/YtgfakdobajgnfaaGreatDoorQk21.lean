import Derived.Test.YtgfakdobajgnfaaGreatDoorQk20
set_option maxRecDepth 100000
set_option maxHeartbeats 16000000
namespace Go.Proofs.YtgfakdobajgnfaaGreatDoor
open Go Go.RowKit Go.Lib
theorem Ck.some_slice {w:World}{v:Value}{l:List Nat}(h:Ck w v l):∃a n c,v= .slice a n c:=by
 obtain⟨a,c,h,_⟩:=h.slice;exact⟨a,_,c,h⟩
theorem Ck.set {V:World}{a:Option Addr}{n c M:Nat}{l:List Nat}(h:Ck V (.slice a n c) l)(d:∀b off,a=some ⟨b,off,none⟩->M<b)(i:Nat)(u:Value):Ck (V.setCell ⟨M,i,none⟩ u) (.slice a n c) l:=by
 obtain⟨f,p,q,e,g,k⟩:=h;injection e with e1 e2 e3;subst e1;subst e2;subst e3;refine⟨f,a,c,rfl,g,fun j m=>?_⟩;obtain⟨b,off,e,o⟩:=k j m;refine⟨b,off,e,?_⟩
 have:=d b off e
 rw[←o];exact World.cell?_of_block (Below.heap_setCell _ _ _ _ rM)
theorem bF {w:World}{B n m:Nat}{a:Option Addr}{c:Nat}{d:List Value}(h:w.ownsRow B 3 1 (.slice a n c) m d):∀b off,a=some ⟨b,off,none⟩->B<=b:=fun b off e=>by
 subst e;exact Co h b rfl
theorem Bm.natk {w:World}{b:Bool}{a:Option Addr}{k c m:Nat}(h:Bm w (.agg #[.bool b,.slice a k c]) (sgn false m)):b=false/\Ck w (.slice a k c) (dg m):=by
 have d:Bm w (.agg #[.bool b,.slice a k c]) (m:Int):=h;obtain⟨s,e,hd⟩:=d;simp at e;obtain⟨f,g⟩:=e;subst g;exact⟨by rw[f];simp,by simpa using hd⟩
theorem Bm.parts {w:World}{v:Value}{z:Int}(h:Bm w v z):∃b a n c,v= .agg #[.bool b,.slice a n c]:=by
 obtain⟨a,c,e,_⟩:=h.form;exact⟨_,_,_,_,e⟩
theorem Bm.store2 {V:World}{r t:Nat}{v:Value}{z:Int}(h:Bm V v z)(e:V.heap[r]? =some (.cells #[.bool false,.slice none 0 0] 79 (0,0)))(f:V.heap[t]? =some (.cells #[.bool false,.slice none 0 0] 79 (0,0)))(d:t≠r)(u1 u2 u3 u4:Value):
 Bm ((((V.setCell ⟨r,0,none⟩ u1).setCell ⟨r,1,none⟩ u2).setCell ⟨t,0,none⟩ u3).setCell ⟨t,1,none⟩ u4) v z:=by
 have g:=h.store e u1 u2;refine g.store (p:=false) (a:=none) (n:=0) (c:=0) (t:=79) ?_ u3 u4;rw[Below.heap_setCell _ _ _ _ (by simpa using d),Below.heap_setCell _ _ _ _ (by simpa using d)];exact f
theorem Yg {x:Nat}{l:List Nat}(c:x<10000)(h:okD l):okD (x::l):=fun d hd=>by
 rcases List.mem_cons.1 hd with rfl|hd
 ·exact c
 exact h d hd
theorem P6.a {w W:World}{f c:Bool}{d e:Value}(g:((((((w.alloc (.cells #[.bool f,d] 79)).alloc (.cells #[.bool c,e] 79)).alloc (.cells #[.bool false,.slice none 0 0] 79)).alloc (.cells #[.bool false,.slice none 0 0] 79)).alloc (.cells #[.bool false,d] 79)).alloc (.cells #[.bool false,e] 79)).drew=W):P6 w W f c d e (w.heap.size+1+1+1+1) (w.heap.size+1+1+1+1+1):=by
 obtain⟨h,i,j,k,m,n,_,o⟩:=Ts w _ _ _ _ _ _ _ _ _ _ _ _ _ W g;exact⟨h,i,j,k,m,n,o⟩
theorem P6.b {w W:World}{f c:Bool}{d e:Value}(g:((((((w.alloc (.cells #[.bool f,d] 79)).alloc (.cells #[.bool c,e] 79)).alloc (.cells #[.bool false,.slice none 0 0] 79)).alloc (.cells #[.bool false,.slice none 0 0] 79)).alloc (.cells #[.bool false,e] 79)).alloc (.cells #[.bool false,d] 79)).drew=W):P6 w W f c d e (w.heap.size+1+1+1+1+1) (w.heap.size+1+1+1+1):=by
 obtain⟨h,i,j,k,m,n,_,o⟩:=Ts w _ _ _ _ _ _ _ _ _ _ _ _ _ W g;exact⟨h,i,j,k,n,m,o⟩
theorem Zb {w:World}{sx sy:Value}{X Y:Nat}(bx Z:Bool)(hx:Ck w sx (dg X))(hy:Ck w sy (dg Y))(hY:0<Y)(wY:Br X<=10000)(wZ:Br Y<=10000):Calls Tryz.prog 77 #[.agg #[.bool bx,sx],.agg #[.bool Z,sy]] w fun e w'=>(∃v1 v2,e= .returned (.tuple #[v1,v2])/\Bm w' v1 (sgn (bx !=Z) (X/Y))/\Bm w' v2 (sgn bx (X % Y)))/\Below w.heap.size w w':=by
 obtain⟨ax,cx,rfl,_⟩:=hx.slice;obtain⟨ay,cy,rfl,_⟩:=hy.slice;have xA:(dg X).length<=10000:=wY;have vS:=Gb X;have vT:=Fb X;obtain⟨xs,xB⟩:∃l,dg X=l:=⟨_,rfl⟩;rw[xB] at hx xA vS vT ⊢;obtain⟨ny,xC⟩:∃n,(dg Y).length=n:=⟨_,rfl⟩;rw[xC] at hy ⊢;have xD:∀V,Below w.heap.size w V->Bm V (.agg #[.bool false,.slice ay ny cy]) (Y:Int):=fun V hV=>⟨_,by rw[An rF],by simpa using hy.below hV⟩
 have xE:=Ax xD;have HX:=Ax hx;have yQ:=Ax vS;have xF:=Ax vT;have s8:=Ax wZ;have xG:=Ax hY;clear hx hy xB xC vS vT wZ xD hY wY;go_enter Tryz.func77,Tryz.ntmps77;go_wp2_with fail;go_region
 all_goals
  first
   |(obtain⟨W1,k8⟩:∃W1,((((((w.alloc (.cells #[.bool bx,.slice ax xs.length cx] 79)).alloc (.cells #[.bool Z,.slice ay ny cy] 79)).alloc (.cells #[.bool false,.slice none 0 0] 79)).alloc (.cells #[.bool false,.slice none 0 0] 79)).alloc (.cells #[.bool false,.slice ax xs.length cx] 79)).alloc (.cells #[.bool false,.slice ay ny cy] 79)).drew=W1:=⟨_,rfl⟩
     rw[k8];have hP:=P6.a k8;obtain⟨q,h5⟩:∃q,w.heap.size+1+1+1+1+1=q:=⟨_,rfl⟩;rw[h5] at hP ⊢;obtain⟨p,h4⟩:∃q,w.heap.size+1+1+1+1=q:=⟨_,rfl⟩;rw[h4] at hP ⊢
     clear k8 h4 h5)
   |(obtain⟨W1,k8⟩:∃W1,((((((w.alloc (.cells #[.bool bx,.slice ax xs.length cx] 79)).alloc (.cells #[.bool Z,.slice ay ny cy] 79)).alloc (.cells #[.bool false,.slice none 0 0] 79)).alloc (.cells #[.bool false,.slice none 0 0] 79)).alloc (.cells #[.bool false,.slice ay ny cy] 79)).alloc (.cells #[.bool false,.slice ax xs.length cx] 79)).drew=W1:=⟨_,rfl⟩
     rw[k8];have hP:=P6.b k8;obtain⟨p,h5⟩:∃q,w.heap.size+1+1+1+1+1=q:=⟨_,rfl⟩;rw[h5] at hP ⊢;obtain⟨q,h4⟩:∃q,w.heap.size+1+1+1+1=q:=⟨_,rfl⟩;rw[h4] at hP ⊢
     clear k8 h4 h5)
  obtain⟨W2,xH,vU,vQ⟩:=Zs xs.length rF W1;have vG:=hP.at vU vQ;obtain⟨m0,m1,_⟩:=A1 hP.x;obtain⟨m2,m3,_⟩:=A1 hP.y;obtain⟨m4,m5,_⟩:=A1 hP.pa;obtain⟨m6,m7,_⟩:=A1 ((vU.block _ (Ay hP.pa)).trans hP.pa);obtain⟨m8,m9,_⟩:=A1 vG.pa;obtain⟨M,hM⟩:∃M,W1.heap.size=M:=⟨_,rfl⟩;rw[hM] at xH vG;have HS:=Ax (And.intro vG (Jl.zero xs Y));clear hP vU vQ vG hM;go_wp2_with fail;obtain⟨R,hR⟩:∃R,W2.heap.size=R:=⟨_,rfl⟩;rw[hR] at HS ⊢;clear hR
  go_loopw [10] (fun v10 wr=>∃(j r:Nat) (qs:List Nat) (ra:Option Addr) (rn rc:Nat),v10= .int .i64 ((j:Int) - 1)/\j<=xs.length/\Hid (O2 w wr bx Z (.slice ax xs.length cx) (.slice ay ny cy) p q M R qs (.slice ra rn rc)/\Ck wr (.slice ra rn rc) (dg r)/\Jl xs Y j r qs)) (fun v10 _=>(intOf v10+1).toNat)
  case atStart=>exact⟨xs.length,0,_,none,0,0,rfl,Ak _,Ax ⟨HS.out.1,by rw[D1];exact Ck.nil _,HS.out.2⟩⟩
  clear HS xH m0 m1 m2 m3 m4 m5 m6 m7 m8 m9;obtain⟨wo,rfl⟩:∃wo:World,wo=wr:=⟨_,rfl⟩;obtain⟨j,r,qs,ra,rn,rc,rfl,hj,hq⟩:=hrel;obtain⟨hQ,hD,hL⟩:=hq.out;rcases j with _|m
  ·have p0:decide ((0:Int)<= -1)=false:=by decide
   have yR:(((0:Nat):Int) - 1)= -1:=rfl;rw[yR];obtain⟨N,vV⟩:∃N,wo.drew=N:=⟨_,rfl⟩;have l7:Below wo.heap.size wo N:=by rw[←vV];exact(Aq _ _).drew
   have u:=hQ.below l7;have uS:=hD.below l7;have vH:=hL.len;obtain⟨xI,xJ,xK⟩:=hL.done;have vW:=(u.digits rF).2;rw[vH] at vW;obtain⟨sg,vI⟩:∃sg,(bx !=Z)=sg:=⟨_,rfl⟩;have zE:((!bx)==Z)=sg:=by rw[←vI];cases bx<;>cases Z<;>rfl
   have zF:(!(bx==Z))=sg:=vI;have xL:Hid (∀V,Below N.heap.size N V->Calls Tryz.prog 125 #[.bool sg,.slice (some ⟨M,0,none⟩) xs.length xs.length] V (Fv V (sgn sg (X/Y)))):=Ax (fun V hV=>G4 sg (vW.below hV) xI (by rw[xJ,xF.out]));have xM:Hid (∀V,Below N.heap.size N V->Calls Tryz.prog 125 #[.bool bx,.slice ra rn rc] V (Fv V (sgn bx (X % Y)))):=Ax (fun V hV=>G4 bx (uS.below hV) (Gb _) (by rw[Fb,xK,xF.out]));have yS:=Ax vI;obtain⟨m0,m1,_⟩:=A1 u.x;obtain⟨m2,m3,_⟩:=A1 u.y;obtain⟨m8,m9,_⟩:=A1 u.rb;have n1:¬w.heap.size=w.heap.size+1+1:=by omega
   have n2:¬w.heap.size+1+1=w.heap.size:=by omega
   have n3:¬w.heap.size=w.heap.size+1+1+1:=by omega
   have n4:¬w.heap.size+1+1+1=w.heap.size:=by omega
   have n5:¬w.heap.size+1+1=R:=by have:=u.zM;have:=u.MR;omega
   have n6:¬w.heap.size+1+1+1=R:=by have:=u.zM;have:=u.MR;omega
   have n7:¬R=w.heap.size+1+1:=fun h=>n5 h.symm
   have n8:¬R=w.heap.size+1+1+1:=fun h=>n6 h.symm
   have HQ:=Ax u;clear hq hQ hD hL l7 u uS vH xI xJ xK vW vI hj;go_wp2_with fail
   go_region_held3 (fun V=>V.cell? ⟨w.heap.size,0,none⟩=some (.bool bx)/\V.cell? ⟨w.heap.size+1,0,none⟩=some (.bool Z)/\V.cell? ⟨R,1,none⟩=some (.slice ra rn rc)) (go_keep)
    (first
     |(go_at_call 125;(with_reducible refine Calls.mono (xL.out _ ?_) ?_);(first|exact Aq _ _|exact s9.out);rintro e V1 ⟨⟨v1,rfl,n9⟩,C⟩;have w7:Hid (Below N.heap.size N V1):=(by first|exact C|exact s9.out.trans (C.mono s9.out.size));obtain⟨t1,a1,k1,c1,rfl⟩:=n9.parts;have g:=HQ.out.below w7.out;obtain⟨e0,_,_⟩:=A1 g.x;obtain⟨e1,_,_⟩:=A1 g.y;obtain⟨_,e2,_⟩:=A1 g.rb;obtain⟨e3,e4,ef⟩:=A1 g.z1;obtain⟨e5,e6,eg⟩:=A1 g.z2;have vX:=ef 0;have vY:=ef 1;have zI:=eg 0;have zJ:=eg 1;have vZ:=Ax n9;have xN:=Ax C;clear n9 C g ef eg)
     |(go_at_call 125;(with_reducible refine Calls.mono (xM.out _ ?_) ?_);(first|exact Aq _ _|exact w7.out);rintro e V2 ⟨⟨v2,rfl,a8⟩,W⟩;have s9:Hid (Below N.heap.size N V2):=(by first|exact W|exact w7.out.trans (W.mono w7.out.size));obtain⟨t2,a2,k2,c2,rfl⟩:=a8.parts;have D:=HQ.out.below s9.out;obtain⟨g0,_,_⟩:=A1 D.x;obtain⟨g1,_,_⟩:=A1 D.y;obtain⟨_,g2,_⟩:=A1 D.rb;obtain⟨g3,g4,gf⟩:=A1 D.z1;obtain⟨g5,g6,gg⟩:=A1 D.z2;have zK:=gf 0;have zL:=gf 1;have zN:=gg 0;have zO:=gg 1;have wA:=Ax a8;have xO:=Ax W;clear a8 W D gf gg))
   all_goals
    first
     |(have H1:=Ax (vZ.out.below xO.out);have H2:=Ax wA.out;have H3:=Ax (HQ.out.below s9.out))
     |(have H1:=Ax vZ.out;have H2:=Ax (wA.out.below xN.out);have H3:=Ax (HQ.out.below w7.out))
    clear vZ wA xN xO w7 s9 xL xM;go_wp2_with fail;refine Au (v:= .tuple #[.agg #[.bool t1,.slice a1 k1 c1],.agg #[.bool t2,.slice a2 k2 c2]]) (by simp [results,Tryz.results77,go_sem, *]) rfl ⟨⟨_,_,rfl,?_,?_⟩,?_⟩
    ·rw[yS.out]
     first|exact H1.out.store2 H3.out.z1 H3.out.z2 rF _ _ _ _|exact H1.out.store2 H3.out.z2 H3.out.z1 rF _ _ _ _
    ·first|exact H2.out.store2 H3.out.z1 H3.out.z2 rF _ _ _ _|exact H2.out.store2 H3.out.z2 H3.out.z1 rF _ _ _ _
    exact(((H3.out.bel.setCell rM _).setCell rM _).setCell rM _).setCell rM _
  have ej:((m+1:Nat):Int) - 1=(m:Int):=by omega
  have hm:m<xs.length:=by omega
  have p0:decide ((0:Int)<=(m:Int))=true:=Am rF;obtain⟨N,vV⟩:∃N,wo.drew=N:=⟨_,rfl⟩;have l7:Below wo.heap.size wo N:=by rw[←vV];exact(Aq _ _).drew
  have u:=hQ.below l7;have uS:=hD.below l7;obtain⟨w8,wB,yT,w9⟩:=HX.out.at hm;subst yT;have yU:w8<w.heap.size:=Bn w9;have w9:=A4 u.bel w9;have yV:=u.pM;have yW:=u.MR;have yX:=u.zM;have n1:¬R=p:=by omega
  have n2:¬p=R:=by omega
  have n3:¬R=w8:=by omega
  have n4:¬w8=R:=by omega
  clear yU yV yW yX;have wC:=yQ.out _ (List.getElem_mem hm);obtain⟨x,hx⟩:∃x,xs[m]=x:=⟨_,rfl⟩;rw[hx] at w9 wC;have wD:=Ax hx;obtain⟨m4,m5,_⟩:=A1 u.pa;obtain⟨m8,m9,_⟩:=A1 u.rb;have p1:(m:Int)<(xs.length:Int):=by omega
  have q0:(0:Int)<=(m:Int):=by omega
  have wE:=hL.lt xG.out;have xP:(dg r).length<=10000:=Al (Fh (Nat.le_of_lt wE)) s8.out;have wF:Hid (M<N.heap.size):=Ax (Ay u.row);have uT:Hid ((N.alloc (.cells #[.int .i64 (x:Int)] 3)).ownsRow N.heap.size 3 1 (.slice (some ⟨N.heap.size,0,none⟩) 1 1) 1 [.int .i64 (x:Int)]):=Ax (World.ownsRow_lit N #[.int .i64 (x:Int)] 1 (Ak _) rH rfl);have wG:=Ax (uS.below ((Aq N.heap.size N).alloc (Ak _) (.cells #[.int .i64 (x:Int)] 3)));have vJ:=Ax ((Aq N.heap.size N).alloc (Ak _) (.cells #[.int .i64 (x:Int)] 3));have yY:=A4 vJ.out m9;have uU:Hid ((N.alloc (.cells #[.int .i64 (x:Int)] 3)).heap.size=N.heap.size+1):=Ax rI;have HQ:=Ax u;have uV:=Ax w9;have HL:=Ax hL;have vK:=Ax xP;have wH:=Ax wC;have yZ:=Ax wE;obtain⟨i0,xQ,xR,xS,xT⟩:=Cj;have xU:=Ax xQ;have xV:=Ax xR;have xW:=Ax xS;have xX:=Ax xT;obtain⟨r2,wI⟩:∃r2,x+10000*r=r2:=⟨_,rfl⟩;have vL:=Ax wI;have wJ:Hid (nv (x::dg r)=r2):=Ax (by rw[nv,Fb];exact wI);clear hq hQ hD hL l7 u uS wC wE xP xQ xR xS xT wI hx;rw[ej];clear ej;go_wp2_with fail;refine wp_region_noPanic ?_;refine wp_region_held_drew (S:=fun V=>V.cell? ⟨p,1,none⟩=some (.slice (some ⟨w8,wB,none⟩) xs.length cx)/\V.cell? ⟨w8,wB+m,none⟩=some (.int .i64 (x:Int))) rG ?_ (fun hHeld=>?_)
  ·(try dsimp only);go_keep
  refine QH 0 ⟨some 33,_,_,_,_,_⟩ (h:=?_)
  try simp only[Act.put,Ac,Ad,Ae]
  refine QH 1 ⟨some 34,_,_,_,_,_⟩ (h:=?_)
  try simp only[Act.put,Ac,Ad,Ae]
  refine QH 2 ⟨some 35,_,_,_,_,_⟩ (h:=?_)
  try simp only[Act.put,Ac,Ad,Ae]
  refine QH 3 ⟨some 36,_,_,_,_,_⟩ (h:=?_)
  try simp only[Act.put,Ac,Ad,Ae]
  refine QH 4 ⟨some 37,_,_,_,_,_⟩ (h:=?_)
  try simp only[Act.put,Ac,Ad,Ae]
  refine QH 6 ⟨some 39,_,_,_,_,_⟩ (h:=?_)
  try simp only[Act.put,Ac,Ad,Ae]
  refine wpAnyH_ready (rs:=[5,7]) rG rI ?_;refine AllReadyH.cons (o:=⟨some 38,_,_,_,_,_⟩) (rs:=[7]) rfl (fun K c=>?_) (AllReadyH.cons (o:=⟨some 40,_,_,_,_,_⟩) (rs:=[]) rfl (fun K c=>?_) AllReadyH.nil)
  case' _=>
   go_simp
   try go_wp2_with fail
   clear hHeld;refine c.out _ _ ?_ (fun hHeld=>?_)
   ·(try dsimp only);go_keep
   clear c K
   try simp only[Act.put,Ac,Ad,Ae]
   refine wpAnyH_ready (rs:=[7]) rG rI ?_;refine AllReadyH.cons (o:=⟨some 40,_,_,_,_,_⟩) (rs:=[]) rfl (fun K c=>?_) AllReadyH.nil
   case' _=>
    go_simp
    try go_wp2_with fail
    clear hHeld;refine c.out _ _ ?_ (fun hHeld=>?_)
    ·(try dsimp only);go_keep
    clear c K
    try simp only[Act.put,Ac,Ad,Ae]
    refine wpAnyH_ready (rs:=[8]) rG rI ?_;refine AllReadyH.cons (o:=⟨some 41,_,_,_,_,_⟩) (rs:=[]) rfl (fun K c=>?_) AllReadyH.nil
    case' _=>
     refine Lm rfl (.tmp 38) (.tmp 40) 41 rfl N.heap.size i0 Tryz.underlying41 xU.out xV.out xW.out xX.out (.slice (some ⟨N.heap.size,0,none⟩) 1 1) 1 [.int .i64 (x:Int)] ?_ uT.out (.slice ra rn rc) (dg r) ?_ wG.out (by have:=vK.out;omega) (by rw[uU.out];omega) ?_;(focus (simp [Act.eval];done));(focus (simp [Act.eval];done));intro v1 w1 b7 hg;have C:=vJ.out.grown hg (by rw[uU.out];omega) (fun k e=>by simp only[Value.ownBlock,Option.some.injEq] at e;omega);have p8:=Ck.of_row (l:=x::dg r) (by have:=vK.out;simp only[Aa];omega) rZ b7;obtain⟨a1,n1,c1,rfl⟩:=p8.some_slice;have uW:=Ax (fun b off e=>Nat.lt_of_lt_of_le wF.out (bF b7 b off e));have g:=HQ.out.below C;obtain⟨_,k5,_⟩:=A1 g.pa;obtain⟨_,k9,_⟩:=A1 g.rb;have xY:=A4 C uV.out;have f9:=Ax g;have x8:=Ax C;have HT:=Ax (Ms false p8 (Yg wH.out (Gb r)));clear b7 hg C p8 g
     try go_wp2_with fail
     clear hHeld;refine c.out _ _ ?_ (fun hHeld=>?_)
     ·(try dsimp only);go_keep
     clear c K
     try simp only[Act.put,Ac,Ad,Ae]
     refine wpAnyH_ready (rs:=[9]) rG rI ?_;refine AllReadyH.cons (o:=⟨some 42,_,_,_,_,_⟩) (rs:=[]) rfl (fun K c=>?_) AllReadyH.nil
     case' _=>
      go_simp
      go_at_call 125;(with_reducible refine HT.out.mono ?_);rintro e V2 ⟨⟨k2,b2,rfl,a8⟩,W⟩;rw[wJ.out] at a8;obtain⟨rfl,uX⟩:=Bm.natk a8;have D:=f9.out.below W;obtain⟨_,l5,_⟩:=A1 D.pa;obtain⟨l8,l9,lf⟩:=A1 D.rb;have xZ:=A4 (x8.out.trans (W.mono x8.out.size)) uV.out;have yA:=lf 0;have yB:=lf 1;have uY:=Ax (D.store (.slice a1 k2 c1));have uZ:=Ax (uX.store ⟨_,_,_,rfl⟩ D.rb (.bool false) (.slice a1 k2 c1));clear a8 W uX D lf
      try go_wp2_with fail
      clear hHeld;refine c.out _ _ ?_ (fun hHeld=>?_)
      ·(try dsimp only);go_keep
      clear c K
      try simp only[Act.put,Ac,Ad,Ae]
      refine wpAnyH_ready (rs:=[10]) rG rI ?_;refine AllReadyH.cons (o:=⟨none,_,_,_,_,_⟩) (rs:=[]) rfl (fun K c=>?_) AllReadyH.nil
      case' _=>
       go_simp
       try go_wp2_with fail
       clear hHeld;refine c.out _ _ ?_ (fun hHeld=>?_)
       ·(try dsimp only);go_keep
       clear c K
       try simp only[Act.put,Ac,Ad,Ae]
       refine wpAnyH_done rG ?_ _;refine NoPanic.normal ?_
  rotate_left
  case' _=>
   go_simp
   try go_wp2_with fail
   clear hHeld;refine c.out _ _ ?_ (fun hHeld=>?_)
   ·(try dsimp only);go_keep
   clear c K
   try simp only[Act.put,Ac,Ad,Ae]
   refine wpAnyH_ready (rs:=[5]) rG rI ?_;refine AllReadyH.cons (o:=⟨some 38,_,_,_,_,_⟩) (rs:=[]) rfl (fun K c=>?_) AllReadyH.nil
   case' _=>
    go_simp
    try go_wp2_with fail
    clear hHeld;refine c.out _ _ ?_ (fun hHeld=>?_)
    ·(try dsimp only);go_keep
    clear c K
    try simp only[Act.put,Ac,Ad,Ae]
    refine wpAnyH_ready (rs:=[8]) rG rI ?_;refine AllReadyH.cons (o:=⟨some 41,_,_,_,_,_⟩) (rs:=[]) rfl (fun K c=>?_) AllReadyH.nil
    case' _=>
     refine Lm rfl (.tmp 38) (.tmp 40) 41 rfl N.heap.size i0 Tryz.underlying41 xU.out xV.out xW.out xX.out (.slice (some ⟨N.heap.size,0,none⟩) 1 1) 1 [.int .i64 (x:Int)] ?_ uT.out (.slice ra rn rc) (dg r) ?_ wG.out (by have:=vK.out;omega) (by rw[uU.out];omega) ?_;(focus (simp [Act.eval];done));(focus (simp [Act.eval];done));intro v1 w1 b7 hg;have C:=vJ.out.grown hg (by rw[uU.out];omega) (fun k e=>by simp only[Value.ownBlock,Option.some.injEq] at e;omega);have p8:=Ck.of_row (l:=x::dg r) (by have:=vK.out;simp only[Aa];omega) rZ b7;obtain⟨a1,n1,c1,rfl⟩:=p8.some_slice;have uW:=Ax (fun b off e=>Nat.lt_of_lt_of_le wF.out (bF b7 b off e));have g:=HQ.out.below C;obtain⟨_,k5,_⟩:=A1 g.pa;obtain⟨_,k9,_⟩:=A1 g.rb;have xY:=A4 C uV.out;have f9:=Ax g;have x8:=Ax C;have HT:=Ax (Ms false p8 (Yg wH.out (Gb r)));clear b7 hg C p8 g
     try go_wp2_with fail
     clear hHeld;refine c.out _ _ ?_ (fun hHeld=>?_)
     ·(try dsimp only);go_keep
     clear c K
     try simp only[Act.put,Ac,Ad,Ae]
     refine wpAnyH_ready (rs:=[9]) rG rI ?_;refine AllReadyH.cons (o:=⟨some 42,_,_,_,_,_⟩) (rs:=[]) rfl (fun K c=>?_) AllReadyH.nil
     case' _=>
      go_simp
      go_at_call 125;(with_reducible refine HT.out.mono ?_);rintro e V2 ⟨⟨k2,b2,rfl,a8⟩,W⟩;rw[wJ.out] at a8;obtain⟨rfl,uX⟩:=Bm.natk a8;have D:=f9.out.below W;obtain⟨_,l5,_⟩:=A1 D.pa;obtain⟨l8,l9,lf⟩:=A1 D.rb;have xZ:=A4 (x8.out.trans (W.mono x8.out.size)) uV.out;have yA:=lf 0;have yB:=lf 1;have uY:=Ax (D.store (.slice a1 k2 c1));have uZ:=Ax (uX.store ⟨_,_,_,rfl⟩ D.rb (.bool false) (.slice a1 k2 c1));clear a8 W uX D lf
      try go_wp2_with fail
      clear hHeld;refine c.out _ _ ?_ (fun hHeld=>?_)
      ·(try dsimp only);go_keep
      clear c K
      try simp only[Act.put,Ac,Ad,Ae]
      refine wpAnyH_ready (rs:=[10]) rG rI ?_;refine AllReadyH.cons (o:=⟨none,_,_,_,_,_⟩) (rs:=[]) rfl (fun K c=>?_) AllReadyH.nil
      case' _=>
       go_simp
       try go_wp2_with fail
       clear hHeld;refine c.out _ _ ?_ (fun hHeld=>?_)
       ·(try dsimp only);go_keep
       clear c K
       try simp only[Act.put,Ac,Ad,Ae]
       refine wpAnyH_done rG ?_ _;refine NoPanic.normal ?_
  all_goals
   clear HT f9 x8 uT wG vJ uU HQ uV wJ yY wF;obtain⟨W7,yC⟩:∃W7,(V2.setCell ⟨R,0,none⟩ (.bool false)).setCell ⟨R,1,none⟩ (.slice a1 k2 c1)=W7:=⟨_,rfl⟩;rw[yC] at uY uZ ⊢;clear yC yA yB l5 l8 l9 xZ k5 k9 xY m4 m5 m8 m9 w9;have yE:Hid (Bm W7 (.agg #[.bool false,.slice a1 k2 c1]) (r2:Int)):=Ax ⟨_,by rw[An rF],by simpa using uZ.out⟩
   have wK:r2<(9999+1)*Y:=by
    have h1:=yZ.out;have h2:=wH.out;have h3:=vL.out;have h4:10000*r+10000<=10000*Y:=by omega
    omega
   have zA:=Ax wK
   have yF:Br r2<=10002:=by
    have h1:=Fh (Nat.le_of_lt wK);have h2:=Lh (9999+1) Y;have h3:Br (9999+1)<=2:=Im rH;have h4:=s8.out;omega
   have yG:=Ax yF;clear wK yF;go_wp2_with fail
   go_loopw [11,12] (fun v11 v12 wi=>∃I hi:Nat,v11= .int .i64 I/\v12= .int .i64 hi/\I<=hi/\hi<=9999/\Hid (I*Y<=r2/\r2<(hi+1)*Y/\Below W7.heap.size W7 wi)) (fun v11 v12 _=>(intOf v12 - intOf v11).toNat)
   case atStart=>exact⟨0,9999,rfl,rfl,by omega,by omega,Ax ⟨by omega,zA.out,Aq _ _⟩⟩
   obtain⟨wi,rfl⟩:∃wi:World,wi=wr:=⟨_,rfl⟩;obtain⟨I,hi,rfl,rfl,zP,hh,hq⟩:=hrel;obtain⟨vM,vN,vA⟩:=hq.out;by_cases hlt:I<hi
   ·obtain⟨f,zG⟩:∃f,(I+hi+1)/2=f:=⟨_,rfl⟩;have t0:decide ((I:Int)<(hi:Int))=true:=Am rF;have zQ:((I:Int)+(hi:Int)+1)/2=(f:Int):=by omega
    have t1:(0:Int)<=(I:Int):=by omega
    have t2:(I:Int)<=9999:=by omega
    have t3:(0:Int)<=(hi:Int):=by omega
    have t4:(hi:Int)<=9999:=by omega
    have t5:I<f:=by omega
    have t6:f<=hi:=by omega
    have t7:(0:Int)<=(f:Int):=by omega
    have t8:(f:Int)<=9999:=by omega
    obtain⟨wj,zB⟩:∃wj,wi.drew=wj:=⟨_,rfl⟩;have vB:Below W7.heap.size W7 wj:=by rw[←zB];exact vA.drew
    have x9:=uY.out.below vB;obtain⟨d0,d1,_⟩:=A1 x9.qb;obtain⟨d2,d3,_⟩:=A1 x9.rb;obtain⟨cz,wL⟩:∃cz,J2 (((f*Y:Nat)):Int) (r2:Int)=cz:=⟨_,rfl⟩
    have vR:cz<=0↔f*Y<=r2:=by
     rw[←wL];unfold J2
     split
     ·simp;omega
     split
     ·simp;omega
     simp;omega
    have vC:(f:Int)*(Y:Int)=((f*Y:Nat):Int):=(Int.natCast_mul f Y).symm;have zC:Br f<=1:=D0 rF
    have wM:Br (f*Y)<=10001:=by
     have h1:=Lh f Y;have h4:=s8.out;omega
    have r7:=Ax (J5 (w:=wj) (f:Int) rF rF)
    have b8:Hid (∀V v,Below wj.heap.size wj V->Bm V v (f:Int)->Calls Tryz.prog 127 #[v,.agg #[.bool false,.slice ay ny cy]] V (Fv V ((f*Y:Nat):Int))):=Ax (fun V v hV hv=>by
     rw[←vC]
     exact L6 hv (xE.out V (x9.bel.trans (hV.mono x9.bel.size))) rM (by have:=s8.out;simp;omega))
    have vD:Hid (∀V v,Below wj.heap.size wj V->Bm V v ((f*Y:Nat):Int)->Calls Tryz.prog 126 #[v,.agg #[.bool false,.slice a1 k2 c1]] V (fun e w'=>e= .returned (.int .i64 cz)/\Below V.heap.size V w')):=Ax (fun V v hV hv=>by
     rw[←wL]
     exact R8 hv (yE.out.below (vB.trans (hV.mono vB.size))) (by rw[Int.natAbs_natCast];omega) (by have:=yG.out;simp;omega))
    have y8:=Ax vB;have wN:=Ax x9;have r8:=Ax vR;have wO:=Ax vM;have wP:=Ax vN;clear hq vM vN vA vB x9 wL vR vC zC wM;go_wp2_with fail
    go_region_held3 (fun V=>V.cell? ⟨q,0,none⟩=some (.bool false)/\V.cell? ⟨q,1,none⟩=some (.slice ay ny cy)/\V.cell? ⟨R,0,none⟩=some (.bool false)/\V.cell? ⟨R,1,none⟩=some (.slice a1 k2 c1)) (go_keep)
     (first
      |(go_at_call 47;(with_reducible refine r7.out.mono ?_);rintro e V1 ⟨⟨v1,rfl,n9⟩,C⟩;obtain⟨a3,n3,c3,rfl,_⟩:=n9.nat;have g:=wN.out.below C;obtain⟨e0,e1,_⟩:=A1 g.qb;obtain⟨e2,e3,_⟩:=A1 g.rb;have f9:=Ax g;have r9:=Ax C;have wQ:=Ax (b8.out _ _ C n9);clear n9 C g)
      |(go_at_call 127;(with_reducible refine wQ.out.mono ?_);rintro e V3 ⟨⟨v3,rfl,d8⟩,T⟩;obtain⟨a4,n4,c4,rfl,_⟩:=d8.nat;have O:=f9.out.below T;obtain⟨e4,e5,_⟩:=A1 O.qb;obtain⟨e6,e7,_⟩:=A1 O.rb;have vE:=r9.out.trans (T.mono r9.out.size);have f8:=Ax O;have A:=Ax vE;have wR:=Ax (vD.out _ _ vE d8);clear d8 T O vE)
      |(go_at_call 126;(with_reducible refine wR.out.mono ?_);rintro e V4 ⟨rfl,L⟩;have E:=f8.out.below L;obtain⟨e8,e9,_⟩:=A1 E.qb;obtain⟨wS,wT,_⟩:=A1 E.rb;have U:=Ax (A.out.trans (L.mono A.out.size));clear L E))
    all_goals
     by_cases hc:cz<=0
     ·have c0:decide (cz<=0)=true:=Am hc;have wU:=Ax (And.intro (r8.out.1 hc) (And.intro wP.out (y8.out.trans (U.out.mono y8.out.size))));clear r7 b8 vD y8 wN r8 wO wP f9 r9 wQ f8 A wR U;go_wp2_with fail;go_roundw
      case rel=>exact⟨f,hi,rfl,rfl,t6,hh,wU⟩
      case measure=>simp [intOf];omega
     have c0:decide (cz<=0)=false:=An hc;have yH:f - 1+1=f:=by omega
     have wU:=Ax (And.intro wO.out (And.intro (show r2<(f - 1+1)*Y by rw[yH];exact Nat.lt_of_not_le fun h=>hc (r8.out.2 h)) (y8.out.trans (U.out.mono y8.out.size))));clear r7 b8 vD y8 wN r8 wO wP f9 r9 wQ f8 A wR U yH;go_wp2_with fail;go_roundw
     case rel=>exact⟨I,f - 1,rfl,by go_num,by omega,by omega,wU⟩
     case measure=>simp [intOf];omega
   obtain rfl:I=hi:=by omega
   have t0:decide ((I:Int)<(I:Int))=false:=An rF;have t1:(0:Int)<=(I:Int):=by omega
   have t2:(I:Int)<=9999:=by omega
   have wV:=uY.out.below vA;have vH:=HL.out.len;obtain⟨fz,dq⟩:=wV.digits rF;obtain⟨gb,go,ge,gc⟩:=dq.at (i:=m) rF;injection ge with ge;injection ge with ge1 ge2;subst ge1 ge2;rw[Nat.zero_add] at gc;have gf:=fz m;obtain⟨gv,yI⟩:∃v,Value.int .i64 ((qs[m]' rF:Nat):Int)=v:=⟨_,rfl⟩;rw[yI] at gc;have zH:((dg X).length:Int)=(xs.length:Int)\/True:= .inr trivial;have wW:Br I<=1:=D0 rF;have vC:(I:Int)*(Y:Int)=((I*Y:Nat):Int):=(Int.natCast_mul I Y).symm
   have wM:Br (I*Y)<=10001:=by
    have h1:=Lh I Y;have h4:=s8.out;omega
   obtain⟨W8,yJ⟩:∃W8,(wi.setCell ⟨M,m,none⟩ (.int .i64 (I:Int))).drew=W8:=⟨_,rfl⟩
   have i6:O2 w W8 bx Z (.slice (some ⟨w8,wB,none⟩) xs.length cx) (.slice ay ny cy) p q M R (qs.set m I) (.slice a1 k2 c1):=by
    rw[←yJ];exact(wV.set m I).below (Aq _ _).drew
   have yK:Ck W8 (.slice a1 k2 c1) (dg r2):=by
    rw[←yJ];exact((uZ.out.below vA).set uW.out m _).below (Aq _ _).drew
   have yL:Bm W8 (.agg #[.bool false,.slice a1 k2 c1]) (r2:Int):=⟨_,by rw[An rF],by simpa using yK⟩;obtain⟨r3,yM⟩:∃r3,r2 - I*Y=r3:=⟨_,rfl⟩;have yN:(r2:Int) - ((I*Y:Nat):Int)=(r3:Int):=by omega
   obtain⟨d0,d1,_⟩:=A1 i6.qb;obtain⟨d2,d3,_⟩:=A1 i6.rb;have yO:=J5 (w:=W8) (I:Int) rF rF;have r7:=Ax yO
   have b8:Hid (∀V v,Below W8.heap.size W8 V->Bm V v (I:Int)->Calls Tryz.prog 127 #[v,.agg #[.bool false,.slice ay ny cy]] V (Fv V ((I*Y:Nat):Int))):=Ax (fun V v hV hv=>by
    rw[←vC]
    exact L6 hv (xE.out V (i6.bel.trans (hV.mono i6.bel.size))) rM (by have:=s8.out;simp;omega))
   have s7:Hid (∀V v,Below W8.heap.size W8 V->Bm V v ((I*Y:Nat):Int)->Calls Tryz.prog 128 #[.agg #[.bool false,.slice a1 k2 c1],v] V (Fv V (r3:Int))):=Ax (fun V v hV hv=>by
    rw[←yN]
    exact bX (yL.below hV) hv (by have:=yG.out;simp;omega) (by rw[Int.natAbs_natCast];omega))
   have wX:=Ax i6
   have yP:Hid (Jl xs Y m r3 (qs.set m I)):=Ax (by
    have h1:=HL.out.step (d:=I) xG.out hm rF (by rw[wD.out,vL.out];exact vM) (by rw[wD.out,vL.out];exact vN);rw[wD.out,vL.out,yM] at h1
    exact h1)
   have zD:¬R=q:=by
    have h1:=i6.qM;have h2:=i6.MR;omega
   have zR:¬q=R:=fun h=>zD h.symm
   clear hq vM vN wV fz dq yI vA vH wW vC wM i6 yK yL yO yN yM;go_wp2_with fail;refine wp_region_noPanic ?_;refine wp_region_held_drew (S:=fun V=>V.cell? ⟨q,0,none⟩=some (.bool false)/\V.cell? ⟨q,1,none⟩=some (.slice ay ny cy)) rG ?_ (fun hHeld=>?_)
   ·(try dsimp only);go_keep
   refine QH 1 ⟨some 66,_,_,_,_,_⟩ (h:=?_)
   try simp only[Act.put,Ac,Ad,Ae]
   refine QH 3 ⟨some 68,_,_,_,_,_⟩ (h:=?_)
   try simp only[Act.put,Ac,Ad,Ae]
   refine wpAnyH_ready (rs:=[0,2]) rG rI ?_;refine AllReadyH.cons (o:=⟨some 65,_,_,_,_,_⟩) (rs:=[2]) rfl (fun K c=>?_) (AllReadyH.cons (o:=⟨some 67,_,_,_,_,_⟩) (rs:=[]) rfl (fun K c=>?_) AllReadyH.nil)
   case' _=>
    go_simp
    try go_wp2_with fail
    clear hHeld;refine c.out _ _ ?_ (fun hHeld=>?_)
    ·(try dsimp only);go_keep
    clear c K
    try simp only[Act.put,Ac,Ad,Ae]
    refine wpAnyH_ready (rs:=[2]) rG rI ?_;refine AllReadyH.cons (o:=⟨some 67,_,_,_,_,_⟩) (rs:=[]) rfl (fun K c=>?_) AllReadyH.nil
    case' _=>
     go_simp
     go_at_call 47;(with_reducible refine r7.out.mono ?_);rintro e V3 ⟨⟨v3,rfl,d8⟩,T⟩;obtain⟨a3,n3,c3,rfl,_⟩:=d8.nat;have O:=wX.out.below T;obtain⟨e0,e1,_⟩:=A1 O.qb;obtain⟨e2,e3,_⟩:=A1 O.rb;have f8:=Ax O;have A:=Ax T;have vF:=Ax (b8.out _ _ T d8);clear d8 T O
     try go_wp2_with fail
     clear hHeld;refine c.out _ _ ?_ (fun hHeld=>?_)
     ·(try dsimp only);go_keep
     clear c K
     try simp only[Act.put,Ac,Ad,Ae]
     refine wpAnyH_ready (rs:=[4]) rG rI ?_;refine AllReadyH.cons (o:=⟨some 69,_,_,_,_,_⟩) (rs:=[]) rfl (fun K c=>?_) AllReadyH.nil
     case' _=>
      go_simp
      go_at_call 127;(with_reducible refine vF.out.mono ?_);rintro e V4 ⟨⟨v4,rfl,f7⟩,L⟩;obtain⟨a4,n4,c4,rfl,_⟩:=f7.nat;have E:=f8.out.below L;obtain⟨e4,e5,_⟩:=A1 E.qb;obtain⟨e6,e7,_⟩:=A1 E.rb;have F:=A.out.trans (L.mono A.out.size);have y9:=Ax E;have U:=Ax F;have uR:=Ax (s7.out _ _ F f7);clear f7 L E F
      try go_wp2_with fail
      clear hHeld;refine c.out _ _ ?_ (fun hHeld=>?_)
      ·(try dsimp only);go_keep
      clear c K
      try simp only[Act.put,Ac,Ad,Ae]
      refine wpAnyH_ready (rs:=[5]) rG rI ?_;refine AllReadyH.cons (o:=⟨some 70,_,_,_,_,_⟩) (rs:=[]) rfl (fun K c=>?_) AllReadyH.nil
      case' _=>
       go_simp
       go_at_call 128;(with_reducible refine uR.out.mono ?_);rintro e V5 ⟨⟨v5,rfl,i7⟩,j8⟩;obtain⟨a5,n5,c5,rfl,j9⟩:=i7.nat;have G:=y9.out.below j8;obtain⟨e8,e9,_⟩:=A1 G.qb;obtain⟨wS,wT,ef⟩:=A1 G.rb;have vX:=ef 0;have vY:=ef 1;have vO:=Ax (G.store (.slice a5 n5 c5));have vP:=Ax (j9.store ⟨_,_,_,rfl⟩ G.rb (.bool false) (.slice a5 n5 c5));clear i7 j8 j9 G ef
       try go_wp2_with fail
       clear hHeld;refine c.out _ _ ?_ (fun hHeld=>?_)
       ·(try dsimp only);go_keep
       clear c K
       try simp only[Act.put,Ac,Ad,Ae]
       refine wpAnyH_ready (rs:=[6]) rG rI ?_;refine AllReadyH.cons (o:=⟨none,_,_,_,_,_⟩) (rs:=[]) rfl (fun K c=>?_) AllReadyH.nil
       case' _=>
        go_simp
        try go_wp2_with fail
        clear hHeld;refine c.out _ _ ?_ (fun hHeld=>?_)
        ·(try dsimp only);go_keep
        clear c K
        try simp only[Act.put,Ac,Ad,Ae]
        refine wpAnyH_done rG ?_ _;refine NoPanic.normal ?_
   rotate_left
   case' _=>
    go_simp
    go_at_call 47;(with_reducible refine r7.out.mono ?_);rintro e V3 ⟨⟨v3,rfl,d8⟩,T⟩;obtain⟨a3,n3,c3,rfl,_⟩:=d8.nat;have O:=wX.out.below T;obtain⟨e0,e1,_⟩:=A1 O.qb;obtain⟨e2,e3,_⟩:=A1 O.rb;have f8:=Ax O;have A:=Ax T;have vF:=Ax (b8.out _ _ T d8);clear d8 T O
    try go_wp2_with fail
    clear hHeld;refine c.out _ _ ?_ (fun hHeld=>?_)
    ·(try dsimp only);go_keep
    clear c K
    try simp only[Act.put,Ac,Ad,Ae]
    refine wpAnyH_ready (rs:=[0,4]) rG rI ?_;refine AllReadyH.cons (o:=⟨some 65,_,_,_,_,_⟩) (rs:=[4]) rfl (fun K c=>?_) (AllReadyH.cons (o:=⟨some 69,_,_,_,_,_⟩) (rs:=[]) rfl (fun K c=>?_) AllReadyH.nil)
    case' _=>
     go_simp
     try go_wp2_with fail
     clear hHeld;refine c.out _ _ ?_ (fun hHeld=>?_)
     ·(try dsimp only);go_keep
     clear c K
     try simp only[Act.put,Ac,Ad,Ae]
     refine wpAnyH_ready (rs:=[4]) rG rI ?_;refine AllReadyH.cons (o:=⟨some 69,_,_,_,_,_⟩) (rs:=[]) rfl (fun K c=>?_) AllReadyH.nil
     case' _=>
      go_simp
      go_at_call 127;(with_reducible refine vF.out.mono ?_);rintro e V4 ⟨⟨v4,rfl,f7⟩,L⟩;obtain⟨a4,n4,c4,rfl,_⟩:=f7.nat;have E:=f8.out.below L;obtain⟨e4,e5,_⟩:=A1 E.qb;obtain⟨e6,e7,_⟩:=A1 E.rb;have F:=A.out.trans (L.mono A.out.size);have y9:=Ax E;have U:=Ax F;have uR:=Ax (s7.out _ _ F f7);clear f7 L E F
      try go_wp2_with fail
      clear hHeld;refine c.out _ _ ?_ (fun hHeld=>?_)
      ·(try dsimp only);go_keep
      clear c K
      try simp only[Act.put,Ac,Ad,Ae]
      refine wpAnyH_ready (rs:=[5]) rG rI ?_;refine AllReadyH.cons (o:=⟨some 70,_,_,_,_,_⟩) (rs:=[]) rfl (fun K c=>?_) AllReadyH.nil
      case' _=>
       go_simp
       go_at_call 128;(with_reducible refine uR.out.mono ?_);rintro e V5 ⟨⟨v5,rfl,i7⟩,j8⟩;obtain⟨a5,n5,c5,rfl,j9⟩:=i7.nat;have G:=y9.out.below j8;obtain⟨e8,e9,_⟩:=A1 G.qb;obtain⟨wS,wT,ef⟩:=A1 G.rb;have vX:=ef 0;have vY:=ef 1;have vO:=Ax (G.store (.slice a5 n5 c5));have vP:=Ax (j9.store ⟨_,_,_,rfl⟩ G.rb (.bool false) (.slice a5 n5 c5));clear i7 j8 j9 G ef
       try go_wp2_with fail
       clear hHeld;refine c.out _ _ ?_ (fun hHeld=>?_)
       ·(try dsimp only);go_keep
       clear c K
       try simp only[Act.put,Ac,Ad,Ae]
       refine wpAnyH_ready (rs:=[6]) rG rI ?_;refine AllReadyH.cons (o:=⟨none,_,_,_,_,_⟩) (rs:=[]) rfl (fun K c=>?_) AllReadyH.nil
       case' _=>
        go_simp
        try go_wp2_with fail
        clear hHeld;refine c.out _ _ ?_ (fun hHeld=>?_)
        ·(try dsimp only);go_keep
        clear c K
        try simp only[Act.put,Ac,Ad,Ae]
        refine wpAnyH_done rG ?_ _;refine NoPanic.normal ?_
    rotate_left
    case' _=>
     go_simp
     go_at_call 127;(with_reducible refine vF.out.mono ?_);rintro e V4 ⟨⟨v4,rfl,f7⟩,L⟩;obtain⟨a4,n4,c4,rfl,_⟩:=f7.nat;have E:=f8.out.below L;obtain⟨e4,e5,_⟩:=A1 E.qb;obtain⟨e6,e7,_⟩:=A1 E.rb;have F:=A.out.trans (L.mono A.out.size);have y9:=Ax E;have U:=Ax F;have uR:=Ax (s7.out _ _ F f7);clear f7 L E F
     try go_wp2_with fail
     clear hHeld;refine c.out _ _ ?_ (fun hHeld=>?_)
     ·(try dsimp only);go_keep
     clear c K
     try simp only[Act.put,Ac,Ad,Ae]
     refine wpAnyH_ready (rs:=[0]) rG rI ?_;refine AllReadyH.cons (o:=⟨some 65,_,_,_,_,_⟩) (rs:=[]) rfl (fun K c=>?_) AllReadyH.nil
     case' _=>
      go_simp
      try go_wp2_with fail
      clear hHeld;refine c.out _ _ ?_ (fun hHeld=>?_)
      ·(try dsimp only);go_keep
      clear c K
      try simp only[Act.put,Ac,Ad,Ae]
      refine wpAnyH_ready (rs:=[5]) rG rI ?_;refine AllReadyH.cons (o:=⟨some 70,_,_,_,_,_⟩) (rs:=[]) rfl (fun K c=>?_) AllReadyH.nil
      case' _=>
       go_simp
       go_at_call 128;(with_reducible refine uR.out.mono ?_);rintro e V5 ⟨⟨v5,rfl,i7⟩,j8⟩;obtain⟨a5,n5,c5,rfl,j9⟩:=i7.nat;have G:=y9.out.below j8;obtain⟨e8,e9,_⟩:=A1 G.qb;obtain⟨wS,wT,ef⟩:=A1 G.rb;have vX:=ef 0;have vY:=ef 1;have vO:=Ax (G.store (.slice a5 n5 c5));have vP:=Ax (j9.store ⟨_,_,_,rfl⟩ G.rb (.bool false) (.slice a5 n5 c5));clear i7 j8 j9 G ef
       try go_wp2_with fail
       clear hHeld;refine c.out _ _ ?_ (fun hHeld=>?_)
       ·(try dsimp only);go_keep
       clear c K
       try simp only[Act.put,Ac,Ad,Ae]
       refine wpAnyH_ready (rs:=[6]) rG rI ?_;refine AllReadyH.cons (o:=⟨none,_,_,_,_,_⟩) (rs:=[]) rfl (fun K c=>?_) AllReadyH.nil
       case' _=>
        go_simp
        try go_wp2_with fail
        clear hHeld;refine c.out _ _ ?_ (fun hHeld=>?_)
        ·(try dsimp only);go_keep
        clear c K
        try simp only[Act.put,Ac,Ad,Ae]
        refine wpAnyH_done rG ?_ _;refine NoPanic.normal ?_
   all_goals
    have HF:=Ax (And.intro vO.out (And.intro vP.out yP.out));clear r7 b8 s7 wX f8 A vF y9 U uR vO vP yP HL uW yE uY uZ;go_wp2_with fail;go_roundw
    case rel=>exact⟨m,r3,_,a5,n5,c5,by go_num,by omega,HF⟩
    case measure=>simp [intOf]<;>omega
theorem cE {w:World}{h i:Value}{X Y:Nat}(j:Bm w h (X:Int))(k:Bm w i (Y:Int))(m:0<Y)(c:Br X<=10000)(d:Br Y<=10000):Calls Tryz.prog 77 #[h,i] w fun e w'=>(∃v1 v2,e= .returned (.tuple #[v1,v2])/\Bm w' v1 ((X/Y:Nat):Int)/\Bm w' v2 ((X % Y:Nat):Int))/\Below w.heap.size w w':=by
 obtain⟨n,o,p,rfl,f⟩:=j.nat;obtain⟨q,r,u,rfl,g⟩:=k.nat;exact Zb false false f g m c d
open Go Go.Lib
def F7 (n k:Nat):List UInt8:=if n=0 then List.replicate k 48 else List.replicate (k - (decDigits n).length) 48++decDigits n
theorem dE:F7 0 0=[]:=rfl
theorem S5 (n:Nat):1<=(decDigits n).length:=by
 have:=Kr n
 cases h:decDigits n with
 |nil=>exact absurd h this
 |cons=>simp
theorem fY {n k:Nat}(h:0<n\/0<k):F7 n k=F7 (n/10) (k - 1)++[UInt8.ofNat (48+n % 10)]:=by
 by_cases hn:n=0
 ·subst hn;obtain⟨m,rfl⟩:∃m,k=m+1:=⟨k - 1,by omega⟩;simp only[F7,if_true,Nat.zero_div,Nat.add_sub_cancel,Nat.zero_mod,Nat.add_zero];rw[List.replicate_succ'];rfl
 by_cases h10:n<10
 ·have c:n/10=0:=by omega
  have d:n % 10=n:=by omega
  rw[F7,Ao hn,c,d,F7,Ap rfl,Dr h10];rfl
 have c:n/10≠0:=by omega
 rw[F7,Ao hn,F7,Ao c,G0 h10,Ab,←List.append_assoc];simp only[Aa,List.length_nil];rw[show k - ((decDigits (n/10)).length+(0+1))=k - 1 - (decDigits (n/10)).length by omega]
theorem iC (n:Nat):F7 n 1=decDigits n:=by
 unfold F7
 split
 ·next h=>subst h;rw[Dr rF];rfl
 have:=S5 n
 rw[show 1 - (decDigits n).length=0 by omega];rfl
theorem eQ (n:Nat):F7 n 5=Ky (decDigits n):=by
 unfold F7 Ky
 split
 ·next h=>subst h;rw[Dr rF];rfl
 rfl
theorem iY (n k:Nat):(F7 n k).length<=k+(decDigits n).length:=by
 unfold F7
 split
 ·simp
 simp<;>omega
theorem dH {n k:Nat}{s D:List UInt8}(h:D=F7 n k++s)(c:0<n\/0<k):D=F7 (n/10) (k - 1)++(UInt8.ofNat (48+n % 10)::s)/\s.length+1<=D.length:=by
 rw[fY c,List.append_assoc] at h;refine⟨h,?_⟩;rw[h];simp
end Go.Proofs.YtgfakdobajgnfaaGreatDoor
