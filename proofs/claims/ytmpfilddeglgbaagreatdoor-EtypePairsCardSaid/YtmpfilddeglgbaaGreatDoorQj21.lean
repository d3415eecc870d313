import Derived.Test.YtmpfilddeglgbaaGreatDoorQj7
import Derived.Test.YtmpfilddeglgbaaGreatDoorQj20
set_option maxRecDepth 100000
set_option maxHeartbeats 16000000
namespace Go.Proofs.YtmpfilddeglgbaaGreatDoor
open Go Go.RowKit Go.Lib
theorem Cp.some_slice {w:World}{v:Value}{l:List Nat}(h:Cp w v l):∃a n c,v= .slice a n c:=by
 obtain⟨a,c,h,_⟩:=h.slice;exact⟨a,_,c,h⟩
theorem Cp.set {V:World}{a:Option Addr}{n c M:Nat}{l:List Nat}(h:Cp V (.slice a n c) l)(hM:∀b off,a=some ⟨b,off,none⟩->M<b)(i:Nat)(u:Value):Cp (V.setCell ⟨M,i,none⟩ u) (.slice a n c) l:=by
 obtain⟨h1,a0,c0,e,h3,h4⟩:=h;injection e with e1 e2 e3;subst e1;subst e2;subst e3;refine⟨h1,a,c,rfl,h3,fun j hj=>?_⟩;obtain⟨b,off,e,hc⟩:=h4 j hj;refine⟨b,off,e,?_⟩
 have:=hM b off e
 rw[←hc];exact World.cell?_of_block (Below.heap_setCell _ _ _ _ tL)
theorem dM {w:World}{B n m:Nat}{a:Option Addr}{c:Nat}{xs:List Value}(h:w.ownsRow B 3 1 (.slice a n c) m xs):∀b off,a=some ⟨b,off,none⟩->B<=b:=fun b off e=>by
 subst e;exact C9 h b rfl
theorem Bn.natk {w:World}{b:Bool}{a:Option Addr}{k c m:Nat}(h:Bn w (.agg #[.bool b,.slice a k c]) (sgn false m)):b=false/\Cp w (.slice a k c) (dg m):=by
 have h':Bn w (.agg #[.bool b,.slice a k c]) (m:Int):=h;obtain⟨s,e,hd⟩:=h';simp at e;obtain⟨e1,e2⟩:=e;subst e2;exact⟨by rw[e1];simp,by simpa using hd⟩
theorem Bn.parts {w:World}{v:Value}{z:Int}(h:Bn w v z):∃b a n c,v= .agg #[.bool b,.slice a n c]:=by
 obtain⟨a,c,e,_⟩:=h.form;exact⟨_,_,_,_,e⟩
theorem Bn.store2 {V:World}{r t:Nat}{v:Value}{z:Int}(h:Bn V v z)(hr:V.heap[r]? =some (.cells #[.bool false,.slice none 0 0] 208 (0,0)))(ht:V.heap[t]? =some (.cells #[.bool false,.slice none 0 0] 208 (0,0)))(hne:t≠r)(u1 u2 u3 u4:Value):
 Bn ((((V.setCell ⟨r,0,none⟩ u1).setCell ⟨r,1,none⟩ u2).setCell ⟨t,0,none⟩ u3).setCell ⟨t,1,none⟩ u4) v z:=by
 have h1:=h.store hr u1 u2;refine h1.store (p:=false) (a:=none) (n:=0) (c:=0) (t:=208) ?_ u3 u4;rw[Below.heap_setCell _ _ _ _ (by simpa using hne),Below.heap_setCell _ _ _ _ (by simpa using hne)];exact ht
theorem aD {x:Nat}{l:List Nat}(hx:x<10000)(h:okD l):okD (x::l):=fun d hd=>by
 rcases List.mem_cons.1 hd with rfl|hd
 ·exact hx
 exact h d hd
theorem Rf.a {w W:World}{bx by':Bool}{sx sy:Value}(hW:((((((w.alloc (.cells #[.bool bx,sx] 208)).alloc (.cells #[.bool by',sy] 208)).alloc (.cells #[.bool false,.slice none 0 0] 208)).alloc (.cells #[.bool false,.slice none 0 0] 208)).alloc (.cells #[.bool false,sx] 208)).alloc (.cells #[.bool false,sy] 208)).drew=W):Rf w W bx by' sx sy (w.heap.size+1+1+1+1) (w.heap.size+1+1+1+1+1):=by
 obtain⟨h1,h2,h3,h4,h5,h6,_,h7⟩:=Uv w _ _ _ _ _ _ _ _ _ _ _ _ _ W hW;exact⟨h1,h2,h3,h4,h5,h6,h7⟩
theorem Rf.b {w W:World}{bx by':Bool}{sx sy:Value}(hW:((((((w.alloc (.cells #[.bool bx,sx] 208)).alloc (.cells #[.bool by',sy] 208)).alloc (.cells #[.bool false,.slice none 0 0] 208)).alloc (.cells #[.bool false,.slice none 0 0] 208)).alloc (.cells #[.bool false,sy] 208)).alloc (.cells #[.bool false,sx] 208)).drew=W):Rf w W bx by' sx sy (w.heap.size+1+1+1+1+1) (w.heap.size+1+1+1+1):=by
 obtain⟨h1,h2,h3,h4,h5,h6,_,h7⟩:=Uv w _ _ _ _ _ _ _ _ _ _ _ _ _ W hW;exact⟨h1,h2,h3,h4,h6,h5,h7⟩
theorem bE {w:World}{sx sy:Value}{X Y:Nat}(bx by':Bool)(hx:Cp w sx (dg X))(hy:Cp w sy (dg Y))(hY:0<Y)(hlx:Bw X<=10000)(hly:Bw Y<=10000):Calls Tryz.prog 177 #[.agg #[.bool bx,sx],.agg #[.bool by',sy]] w fun e w'=>(∃v1 v2,e= .returned (.tuple #[v1,v2])/\Bn w' v1 (sgn (bx !=by') (X/Y))/\Bn w' v2 (sgn bx (X % Y)))/\Below w.heap.size w w':=by
 obtain⟨ax,cx,rfl,_⟩:=hx.slice;obtain⟨ay,cy,rfl,_⟩:=hy.slice;have hlx2:(dg X).length<=10000:=hlx;have hox:=G0 X;have hnx:=Fp X;obtain⟨xs,hxs⟩:∃l,dg X=l:=⟨_,rfl⟩;rw[hxs] at hx hlx2 hox hnx ⊢;obtain⟨ny,hny⟩:∃n,(dg Y).length=n:=⟨_,rfl⟩;rw[hny] at hy ⊢;have hyb:∀V,Below w.heap.size w V->Bn V (.agg #[.bool false,.slice ay ny cy]) (Y:Int):=fun V hV=>⟨_,by rw[An tE],by simpa using hy.below hV⟩
 have HYB:=Ax hyb;have HX:=Ax hx;have HOX:=Ax hox;have HNX:=Ax hnx;have HLY:=Ax hly;have HYP:=Ax hY;clear hx hy hxs hny hox hnx hly hyb hY hlx;go_enter Tryz.func177,Tryz.ntmps177;go_wp2_with fail;go_region
 all_goals
  first
   |(obtain⟨W1,hW1⟩:∃W1,((((((w.alloc (.cells #[.bool bx,.slice ax xs.length cx] 208)).alloc (.cells #[.bool by',.slice ay ny cy] 208)).alloc (.cells #[.bool false,.slice none 0 0] 208)).alloc (.cells #[.bool false,.slice none 0 0] 208)).alloc (.cells #[.bool false,.slice ax xs.length cx] 208)).alloc (.cells #[.bool false,.slice ay ny cy] 208)).drew=W1:=⟨_,rfl⟩
     rw[hW1];have hP:=Rf.a hW1;obtain⟨q,h5⟩:∃q,w.heap.size+1+1+1+1+1=q:=⟨_,rfl⟩;rw[h5] at hP ⊢;obtain⟨p,h4⟩:∃q,w.heap.size+1+1+1+1=q:=⟨_,rfl⟩;rw[h4] at hP ⊢
     clear hW1 h4 h5)
   |(obtain⟨W1,hW1⟩:∃W1,((((((w.alloc (.cells #[.bool bx,.slice ax xs.length cx] 208)).alloc (.cells #[.bool by',.slice ay ny cy] 208)).alloc (.cells #[.bool false,.slice none 0 0] 208)).alloc (.cells #[.bool false,.slice none 0 0] 208)).alloc (.cells #[.bool false,.slice ay ny cy] 208)).alloc (.cells #[.bool false,.slice ax xs.length cx] 208)).drew=W1:=⟨_,rfl⟩
     rw[hW1];have hP:=Rf.b hW1;obtain⟨p,h5⟩:∃q,w.heap.size+1+1+1+1+1=q:=⟨_,rfl⟩;rw[h5] at hP ⊢;obtain⟨q,h4⟩:∃q,w.heap.size+1+1+1+1=q:=⟨_,rfl⟩;rw[h4] at hP ⊢
     clear hW1 h4 h5)
  obtain⟨W2,hmk,hbm,hrow⟩:=cM xs.length tE W1;have hQ0:=hP.at hbm hrow;obtain⟨m0,m1,_⟩:=A0 hP.x;obtain⟨m2,m3,_⟩:=A0 hP.y;obtain⟨m4,m5,_⟩:=A0 hP.pa;obtain⟨m6,m7,_⟩:=A0 ((hbm.block _ (Ay hP.pa)).trans hP.pa);obtain⟨m8,m9,_⟩:=A0 hQ0.pa;obtain⟨M,hM⟩:∃M,W1.heap.size=M:=⟨_,rfl⟩;rw[hM] at hmk hQ0;have HS:=Ax (And.intro hQ0 (Ki.zero xs Y));clear hP hbm hrow hQ0 hM;go_wp2_with fail;obtain⟨R,hR⟩:∃R,W2.heap.size=R:=⟨_,rfl⟩;rw[hR] at HS ⊢;clear hR
  go_loopw [10] (fun v10 wr=>∃(j r:Nat) (qs:List Nat) (ra:Option Addr) (rn rc:Nat),v10= .int .i64 ((j:Int) - 1)/\j<=xs.length/\Hid (Pc w wr bx by' (.slice ax xs.length cx) (.slice ay ny cy) p q M R qs (.slice ra rn rc)/\Cp wr (.slice ra rn rc) (dg r)/\Ki xs Y j r qs)) (fun v10 _=>(intOf v10+1).toNat)
  case atStart=>exact⟨xs.length,0,_,none,0,0,rfl,Ak _,Ax ⟨HS.out.1,by rw[Ed];exact Cp.nil _,HS.out.2⟩⟩
  clear HS hmk m0 m1 m2 m3 m4 m5 m6 m7 m8 m9;obtain⟨wo,rfl⟩:∃wo:World,wo=wr:=⟨_,rfl⟩;obtain⟨j,r,qs,ra,rn,rc,rfl,hj,hq⟩:=hrel;obtain⟨hQ,hD,hL⟩:=hq.out;rcases j with _|m
  ·have p0:decide ((0:Int)<= -1)=false:=by decide
   have hj0:(((0:Nat):Int) - 1)= -1:=rfl;rw[hj0];obtain⟨wd,hwd⟩:∃wd,wo.drew=wd:=⟨_,rfl⟩;have hbd:Below wo.heap.size wo wd:=by rw[←hwd];exact(Aq _ _).drew
   have hQd:=hQ.below hbd;have hDd:=hD.below hbd;have hlq:=hL.len;obtain⟨hqo,hqv,hrv⟩:=hL.done;have hqd:=(hQd.digits tE).2;rw[hlq] at hqd;obtain⟨sg,hsg⟩:∃sg,(bx !=by')=sg:=⟨_,rfl⟩;have hsg2:((!bx)==by')=sg:=by rw[←hsg];cases bx<;>cases by'<;>rfl
   have hsg3:(!(bx==by'))=sg:=hsg;have HTq:Hid (∀V,Below wd.heap.size wd V->Calls Tryz.prog 201 #[.bool sg,.slice (some ⟨M,0,none⟩) xs.length xs.length] V (Gh V (sgn sg (X/Y)))):=Ax (fun V hV=>Iq sg (hqd.below hV) hqo (by rw[hqv,HNX.out]));have HTr:Hid (∀V,Below wd.heap.size wd V->Calls Tryz.prog 201 #[.bool bx,.slice ra rn rc] V (Gh V (sgn bx (X % Y)))):=Ax (fun V hV=>Iq bx (hDd.below hV) (G0 _) (by rw[Fp,hrv,HNX.out]));have HSG:=Ax hsg;obtain⟨m0,m1,_⟩:=A0 hQd.x;obtain⟨m2,m3,_⟩:=A0 hQd.y;obtain⟨m8,m9,_⟩:=A0 hQd.rb;have n1:¬w.heap.size=w.heap.size+1+1:=by omega
   have n2:¬w.heap.size+1+1=w.heap.size:=by omega
   have n3:¬w.heap.size=w.heap.size+1+1+1:=by omega
   have n4:¬w.heap.size+1+1+1=w.heap.size:=by omega
   have n5:¬w.heap.size+1+1=R:=by have:=hQd.zM;have:=hQd.MR;omega
   have n6:¬w.heap.size+1+1+1=R:=by have:=hQd.zM;have:=hQd.MR;omega
   have n7:¬R=w.heap.size+1+1:=fun h=>n5 h.symm
   have n8:¬R=w.heap.size+1+1+1:=fun h=>n6 h.symm
   have HQ:=Ax hQd;clear hq hQ hD hL hbd hQd hDd hlq hqo hqv hrv hqd hsg hj;go_wp2_with fail
   go_region_held3 (fun V=>V.cell? ⟨w.heap.size,0,none⟩=some (.bool bx)/\V.cell? ⟨w.heap.size+1,0,none⟩=some (.bool by')/\V.cell? ⟨R,1,none⟩=some (.slice ra rn rc)) (go_keep)
    (first
     |(go_at_call 201;(with_reducible refine Calls.mono (HTq.out _ ?_) ?_);(first|exact Aq _ _|exact HBr.out);rintro e V1 ⟨⟨v1,rfl,hv1⟩,hb1⟩;have HBq:Hid (Below wd.heap.size wd V1):=(by first|exact hb1|exact HBr.out.trans (hb1.mono HBr.out.size));obtain⟨t1,a1,k1,c1,rfl⟩:=hv1.parts;have hQ1:=HQ.out.below HBq.out;obtain⟨e0,_,_⟩:=A0 hQ1.x;obtain⟨e1,_,_⟩:=A0 hQ1.y;obtain⟨_,e2,_⟩:=A0 hQ1.rb;obtain⟨e3,e4,ef⟩:=A0 hQ1.z1;obtain⟨e5,e6,eg⟩:=A0 hQ1.z2;have ef0:=ef 0;have ef1:=ef 1;have eg0:=eg 0;have eg1:=eg 1;have HVq:=Ax hv1;have HNq:=Ax hb1;clear hv1 hb1 hQ1 ef eg)
     |(go_at_call 201;(with_reducible refine Calls.mono (HTr.out _ ?_) ?_);(first|exact Aq _ _|exact HBq.out);rintro e V2 ⟨⟨v2,rfl,hv2⟩,hb2⟩;have HBr:Hid (Below wd.heap.size wd V2):=(by first|exact hb2|exact HBq.out.trans (hb2.mono HBq.out.size));obtain⟨t2,a2,k2,c2,rfl⟩:=hv2.parts;have hQ2:=HQ.out.below HBr.out;obtain⟨g0,_,_⟩:=A0 hQ2.x;obtain⟨g1,_,_⟩:=A0 hQ2.y;obtain⟨_,g2,_⟩:=A0 hQ2.rb;obtain⟨g3,g4,gf⟩:=A0 hQ2.z1;obtain⟨g5,g6,gg⟩:=A0 hQ2.z2;have gf0:=gf 0;have gf1:=gf 1;have gg0:=gg 0;have gg1:=gg 1;have HVr:=Ax hv2;have HNr:=Ax hb2;clear hv2 hb2 hQ2 gf gg))
   all_goals
    first
     |(have H1:=Ax (HVq.out.below HNr.out);have H2:=Ax HVr.out;have H3:=Ax (HQ.out.below HBr.out))
     |(have H1:=Ax HVq.out;have H2:=Ax (HVr.out.below HNq.out);have H3:=Ax (HQ.out.below HBq.out))
    clear HVq HVr HNq HNr HBq HBr HTq HTr;go_wp2_with fail;refine Au (v:= .tuple #[.agg #[.bool t1,.slice a1 k1 c1],.agg #[.bool t2,.slice a2 k2 c2]]) (by simp [results,Tryz.results177,go_sem, *]) rfl ⟨⟨_,_,rfl,?_,?_⟩,?_⟩
    ·rw[HSG.out]
     first|exact H1.out.store2 H3.out.z1 H3.out.z2 tE _ _ _ _|exact H1.out.store2 H3.out.z2 H3.out.z1 tE _ _ _ _
    ·first|exact H2.out.store2 H3.out.z1 H3.out.z2 tE _ _ _ _|exact H2.out.store2 H3.out.z2 H3.out.z1 tE _ _ _ _
    exact(((H3.out.bel.setCell tL _).setCell tL _).setCell tL _).setCell tL _
  have ej:((m+1:Nat):Int) - 1=(m:Int):=by omega
  have hm:m<xs.length:=by omega
  have p0:decide ((0:Int)<=(m:Int))=true:=Am tE;obtain⟨wd,hwd⟩:∃wd,wo.drew=wd:=⟨_,rfl⟩;have hbd:Below wo.heap.size wo wd:=by rw[←hwd];exact(Aq _ _).drew
  have hQd:=hQ.below hbd;have hDd:=hD.below hbd;obtain⟨bxx,fxx,hax,hcx⟩:=HX.out.at hm;subst hax;have hbw:bxx<w.heap.size:=Ca hcx;have hcx:=Ba hQd.bel hcx;have hpM:=hQd.pM;have hMR:=hQd.MR;have hzM:=hQd.zM;have n1:¬R=p:=by omega
  have n2:¬p=R:=by omega
  have n3:¬R=bxx:=by omega
  have n4:¬bxx=R:=by omega
  clear hbw hpM hMR hzM;have hxl:=HOX.out _ (List.getElem_mem hm);obtain⟨x,hx⟩:∃x,xs[m]=x:=⟨_,rfl⟩;rw[hx] at hcx hxl;have HXM:=Ax hx;obtain⟨m4,m5,_⟩:=A0 hQd.pa;obtain⟨m8,m9,_⟩:=A0 hQd.rb;have p1:(m:Int)<(xs.length:Int):=by omega
  have q0:(0:Int)<=(m:Int):=by omega
  have hrY:=hL.lt HYP.out;have hrl:(dg r).length<=10000:=Al (Fw (Nat.le_of_lt hrY)) HLY.out;have HMW:Hid (M<wd.heap.size):=Ax (Ay hQd.row);have HLit:Hid ((wd.alloc (.cells #[.int .i64 (x:Int)] 3)).ownsRow wd.heap.size 3 1 (.slice (some ⟨wd.heap.size,0,none⟩) 1 1) 1 [.int .i64 (x:Int)]):=Ax (World.ownsRow_lit wd #[.int .i64 (x:Int)] 1 (Ak _) tG rfl);have HDA:=Ax (hDd.below ((Aq wd.heap.size wd).alloc (Ak _) (.cells #[.int .i64 (x:Int)] 3)));have HBA:=Ax ((Aq wd.heap.size wd).alloc (Ak _) (.cells #[.int .i64 (x:Int)] 3));have m9a:=Ba HBA.out m9;have HSZ:Hid ((wd.alloc (.cells #[.int .i64 (x:Int)] 3)).heap.size=wd.heap.size+1):=Ax tH;have HQ:=Ax hQd;have HCX:=Ax hcx;have HL:=Ax hL;have HRL:=Ax hrl;have HXL:=Ax hxl;have HRY:=Ax hrY;obtain⟨i0,hi0,hz0,hz1,hz2⟩:=Cq;have Hi0:=Ax hi0;have Hy0:=Ax hz0;have Hy1:=Ax hz1;have Hy2:=Ax hz2;obtain⟨r2,hr2⟩:∃r2,x+10000*r=r2:=⟨_,rfl⟩;have HR2:=Ax hr2;have HNV:Hid (nv (x::dg r)=r2):=Ax (by rw[nv,Fp];exact hr2);clear hq hQ hD hL hbd hQd hDd hxl hrY hrl hi0 hz0 hz1 hz2 hr2 hx;rw[ej];clear ej;go_wp2_with fail;refine wp_region_noPanic ?_;refine wp_region_held_drew (S:=fun V=>V.cell? ⟨p,1,none⟩=some (.slice (some ⟨bxx,fxx,none⟩) xs.length cx)/\V.cell? ⟨bxx,fxx+m,none⟩=some (.int .i64 (x:Int))) tF ?_ (fun hHeld=>?_)
  ·(try dsimp only);go_keep
  refine QH 0 ⟨some 33,_,_,_,_,_⟩ (h:=?_)
  try simp only[Act.put,Ac,Ad,Ae]
  refine QH 1 ⟨some 34,_,_,_,_,_⟩ (h:=?_)
  try simp only[Act.put,Ac,Ad,Ae]
  refine QH 2 ⟨some 35,_,_,_,_,_⟩ (h:=?_)
  try simp only[Act.put,Ac,Ad,Ae]
  refine QH 3 ⟨some 36,_,_,_,_,_⟩ (h:=?_)
  try simp only[Act.put,Ac,Ad,Ae]
  refine QH 4 ⟨some 37,_,_,_,_,_⟩ (h:=?_)
  try simp only[Act.put,Ac,Ad,Ae]
  refine QH 6 ⟨some 39,_,_,_,_,_⟩ (h:=?_)
  try simp only[Act.put,Ac,Ad,Ae]
  refine wpAnyH_ready (rs:=[5,7]) tF tH ?_;refine AllReadyH.cons (o:=⟨some 38,_,_,_,_,_⟩) (rs:=[7]) rfl (fun K hK=>?_) (AllReadyH.cons (o:=⟨some 40,_,_,_,_,_⟩) (rs:=[]) rfl (fun K hK=>?_) AllReadyH.nil)
  case' _=>
   go_simp
   try go_wp2_with fail
   clear hHeld;refine hK.out _ _ ?_ (fun hHeld=>?_)
   ·(try dsimp only);go_keep
   clear hK K
   try simp only[Act.put,Ac,Ad,Ae]
   refine wpAnyH_ready (rs:=[7]) tF tH ?_;refine AllReadyH.cons (o:=⟨some 40,_,_,_,_,_⟩) (rs:=[]) rfl (fun K hK=>?_) AllReadyH.nil
   case' _=>
    go_simp
    try go_wp2_with fail
    clear hHeld;refine hK.out _ _ ?_ (fun hHeld=>?_)
    ·(try dsimp only);go_keep
    clear hK K
    try simp only[Act.put,Ac,Ad,Ae]
    refine wpAnyH_ready (rs:=[8]) tF tH ?_;refine AllReadyH.cons (o:=⟨some 41,_,_,_,_,_⟩) (rs:=[]) rfl (fun K hK=>?_) AllReadyH.nil
    case' _=>
     refine Ni rfl (.tmp 38) (.tmp 40) 36 rfl wd.heap.size i0 Tryz.underlying36 Hi0.out Hy0.out Hy1.out Hy2.out (.slice (some ⟨wd.heap.size,0,none⟩) 1 1) 1 [.int .i64 (x:Int)] ?_ HLit.out (.slice ra rn rc) (dg r) ?_ HDA.out (by have:=HRL.out;omega) (by rw[HSZ.out];omega) ?_;(focus (simp [Act.eval];done));(focus (simp [Act.eval];done));intro v1 w1 hown hg;have hb1:=HBA.out.grown hg (by rw[HSZ.out];omega) (fun k e=>by simp only[Value.ownBlock,Option.some.injEq] at e;omega);have hd1:=Cp.of_row (l:=x::dg r) (by have:=HRL.out;simp only[Aa];omega) tZ hown;obtain⟨a1,n1,c1,rfl⟩:=hd1.some_slice;have HFar:=Ax (fun b off e=>Nat.lt_of_lt_of_le HMW.out (dM hown b off e));have hQ1:=HQ.out.below hb1;obtain⟨_,k5,_⟩:=A0 hQ1.pa;obtain⟨_,k9,_⟩:=A0 hQ1.rb;have k10:=Ba hb1 HCX.out;have HQ1:=Ax hQ1;have HB1:=Ax hb1;have HT:=Ax (O6 false hd1 (aD HXL.out (G0 r)));clear hown hg hb1 hd1 hQ1
     try go_wp2_with fail
     clear hHeld;refine hK.out _ _ ?_ (fun hHeld=>?_)
     ·(try dsimp only);go_keep
     clear hK K
     try simp only[Act.put,Ac,Ad,Ae]
     refine wpAnyH_ready (rs:=[9]) tF tH ?_;refine AllReadyH.cons (o:=⟨some 42,_,_,_,_,_⟩) (rs:=[]) rfl (fun K hK=>?_) AllReadyH.nil
     case' _=>
      go_simp
      go_at_call 201;(with_reducible refine HT.out.mono ?_);rintro e V2 ⟨⟨k2,b2,rfl,hv2⟩,hb2⟩;rw[HNV.out] at hv2;obtain⟨rfl,hd2⟩:=Bn.natk hv2;have hQ2:=HQ1.out.below hb2;obtain⟨_,l5,_⟩:=A0 hQ2.pa;obtain⟨l8,l9,lf⟩:=A0 hQ2.rb;have l10:=Ba (HB1.out.trans (hb2.mono HB1.out.size)) HCX.out;have lf0:=lf 0;have lf1:=lf 1;have HQ2:=Ax (hQ2.store (.slice a1 k2 c1));have HD2:=Ax (hd2.store ⟨_,_,_,rfl⟩ hQ2.rb (.bool false) (.slice a1 k2 c1));clear hv2 hb2 hd2 hQ2 lf
      try go_wp2_with fail
      clear hHeld;refine hK.out _ _ ?_ (fun hHeld=>?_)
      ·(try dsimp only);go_keep
      clear hK K
      try simp only[Act.put,Ac,Ad,Ae]
      refine wpAnyH_ready (rs:=[10]) tF tH ?_;refine AllReadyH.cons (o:=⟨none,_,_,_,_,_⟩) (rs:=[]) rfl (fun K hK=>?_) AllReadyH.nil
      case' _=>
       go_simp
       try go_wp2_with fail
       clear hHeld;refine hK.out _ _ ?_ (fun hHeld=>?_)
       ·(try dsimp only);go_keep
       clear hK K
       try simp only[Act.put,Ac,Ad,Ae]
       refine wpAnyH_done tF ?_ _;refine NoPanic.normal ?_
  rotate_left
  case' _=>
   go_simp
   try go_wp2_with fail
   clear hHeld;refine hK.out _ _ ?_ (fun hHeld=>?_)
   ·(try dsimp only);go_keep
   clear hK K
   try simp only[Act.put,Ac,Ad,Ae]
   refine wpAnyH_ready (rs:=[5]) tF tH ?_;refine AllReadyH.cons (o:=⟨some 38,_,_,_,_,_⟩) (rs:=[]) rfl (fun K hK=>?_) AllReadyH.nil
   case' _=>
    go_simp
    try go_wp2_with fail
    clear hHeld;refine hK.out _ _ ?_ (fun hHeld=>?_)
    ·(try dsimp only);go_keep
    clear hK K
    try simp only[Act.put,Ac,Ad,Ae]
    refine wpAnyH_ready (rs:=[8]) tF tH ?_;refine AllReadyH.cons (o:=⟨some 41,_,_,_,_,_⟩) (rs:=[]) rfl (fun K hK=>?_) AllReadyH.nil
    case' _=>
     refine Ni rfl (.tmp 38) (.tmp 40) 36 rfl wd.heap.size i0 Tryz.underlying36 Hi0.out Hy0.out Hy1.out Hy2.out (.slice (some ⟨wd.heap.size,0,none⟩) 1 1) 1 [.int .i64 (x:Int)] ?_ HLit.out (.slice ra rn rc) (dg r) ?_ HDA.out (by have:=HRL.out;omega) (by rw[HSZ.out];omega) ?_;(focus (simp [Act.eval];done));(focus (simp [Act.eval];done));intro v1 w1 hown hg;have hb1:=HBA.out.grown hg (by rw[HSZ.out];omega) (fun k e=>by simp only[Value.ownBlock,Option.some.injEq] at e;omega);have hd1:=Cp.of_row (l:=x::dg r) (by have:=HRL.out;simp only[Aa];omega) tZ hown;obtain⟨a1,n1,c1,rfl⟩:=hd1.some_slice;have HFar:=Ax (fun b off e=>Nat.lt_of_lt_of_le HMW.out (dM hown b off e));have hQ1:=HQ.out.below hb1;obtain⟨_,k5,_⟩:=A0 hQ1.pa;obtain⟨_,k9,_⟩:=A0 hQ1.rb;have k10:=Ba hb1 HCX.out;have HQ1:=Ax hQ1;have HB1:=Ax hb1;have HT:=Ax (O6 false hd1 (aD HXL.out (G0 r)));clear hown hg hb1 hd1 hQ1
     try go_wp2_with fail
     clear hHeld;refine hK.out _ _ ?_ (fun hHeld=>?_)
     ·(try dsimp only);go_keep
     clear hK K
     try simp only[Act.put,Ac,Ad,Ae]
     refine wpAnyH_ready (rs:=[9]) tF tH ?_;refine AllReadyH.cons (o:=⟨some 42,_,_,_,_,_⟩) (rs:=[]) rfl (fun K hK=>?_) AllReadyH.nil
     case' _=>
      go_simp
      go_at_call 201;(with_reducible refine HT.out.mono ?_);rintro e V2 ⟨⟨k2,b2,rfl,hv2⟩,hb2⟩;rw[HNV.out] at hv2;obtain⟨rfl,hd2⟩:=Bn.natk hv2;have hQ2:=HQ1.out.below hb2;obtain⟨_,l5,_⟩:=A0 hQ2.pa;obtain⟨l8,l9,lf⟩:=A0 hQ2.rb;have l10:=Ba (HB1.out.trans (hb2.mono HB1.out.size)) HCX.out;have lf0:=lf 0;have lf1:=lf 1;have HQ2:=Ax (hQ2.store (.slice a1 k2 c1));have HD2:=Ax (hd2.store ⟨_,_,_,rfl⟩ hQ2.rb (.bool false) (.slice a1 k2 c1));clear hv2 hb2 hd2 hQ2 lf
      try go_wp2_with fail
      clear hHeld;refine hK.out _ _ ?_ (fun hHeld=>?_)
      ·(try dsimp only);go_keep
      clear hK K
      try simp only[Act.put,Ac,Ad,Ae]
      refine wpAnyH_ready (rs:=[10]) tF tH ?_;refine AllReadyH.cons (o:=⟨none,_,_,_,_,_⟩) (rs:=[]) rfl (fun K hK=>?_) AllReadyH.nil
      case' _=>
       go_simp
       try go_wp2_with fail
       clear hHeld;refine hK.out _ _ ?_ (fun hHeld=>?_)
       ·(try dsimp only);go_keep
       clear hK K
       try simp only[Act.put,Ac,Ad,Ae]
       refine wpAnyH_done tF ?_ _;refine NoPanic.normal ?_
  all_goals
   clear HT HQ1 HB1 HLit HDA HBA HSZ HQ HCX HNV m9a HMW;obtain⟨W7,hW7⟩:∃W7,(V2.setCell ⟨R,0,none⟩ (.bool false)).setCell ⟨R,1,none⟩ (.slice a1 k2 c1)=W7:=⟨_,rfl⟩;rw[hW7] at HQ2 HD2 ⊢;clear hW7 lf0 lf1 l5 l8 l9 l10 k5 k9 k10 m4 m5 m8 m9 hcx;have HN7:Hid (Bn W7 (.agg #[.bool false,.slice a1 k2 c1]) (r2:Int)):=Ax ⟨_,by rw[An tE],by simpa using HD2.out⟩
   have hst:r2<(9999+1)*Y:=by
    have h1:=HRY.out;have h2:=HXL.out;have h3:=HR2.out;have h4:10000*r+10000<=10000*Y:=by omega
    omega
   have HST:=Ax hst
   have hlr:Bw r2<=10002:=by
    have h1:=Fw (Nat.le_of_lt hst);have h2:=Nb (9999+1) Y;have h3:Bw (9999+1)<=2:=I5 tG;have h4:=HLY.out;omega
   have HLR:=Ax hlr;clear hst hlr;go_wp2_with fail
   go_loopw [11,12] (fun v11 v12 wi=>∃lo hi:Nat,v11= .int .i64 lo/\v12= .int .i64 hi/\lo<=hi/\hi<=9999/\Hid (lo*Y<=r2/\r2<(hi+1)*Y/\Below W7.heap.size W7 wi)) (fun v11 v12 _=>(intOf v12 - intOf v11).toNat)
   case atStart=>exact⟨0,9999,rfl,rfl,by omega,by omega,Ax ⟨by omega,HST.out,Aq _ _⟩⟩
   obtain⟨wi,rfl⟩:∃wi:World,wi=wr:=⟨_,rfl⟩;obtain⟨lo,hi,rfl,rfl,hlh,hh,hq⟩:=hrel;obtain⟨hq1,hq2,hbi⟩:=hq.out;by_cases hlt:lo<hi
   ·obtain⟨mid,hmid⟩:∃mid,(lo+hi+1)/2=mid:=⟨_,rfl⟩;have t0:decide ((lo:Int)<(hi:Int))=true:=Am tE;have hdm:((lo:Int)+(hi:Int)+1)/2=(mid:Int):=by omega
    have t1:(0:Int)<=(lo:Int):=by omega
    have t2:(lo:Int)<=9999:=by omega
    have t3:(0:Int)<=(hi:Int):=by omega
    have t4:(hi:Int)<=9999:=by omega
    have t5:lo<mid:=by omega
    have t6:mid<=hi:=by omega
    have t7:(0:Int)<=(mid:Int):=by omega
    have t8:(mid:Int)<=9999:=by omega
    obtain⟨wj,hwj⟩:∃wj,wi.drew=wj:=⟨_,rfl⟩;have hbj:Below W7.heap.size W7 wj:=by rw[←hwj];exact hbi.drew
    have hQj:=HQ2.out.below hbj;obtain⟨d0,d1,_⟩:=A0 hQj.qb;obtain⟨d2,d3,_⟩:=A0 hQj.rb;obtain⟨cz,hcz⟩:∃cz,Ku (((mid*Y:Nat)):Int) (r2:Int)=cz:=⟨_,rfl⟩
    have hcz2:cz<=0↔mid*Y<=r2:=by
     rw[←hcz];unfold Ku
     split
     ·simp;omega
     split
     ·simp;omega
     simp;omega
    have hpm:(mid:Int)*(Y:Int)=((mid*Y:Nat):Int):=(Int.natCast_mul mid Y).symm;have hlm:Bw mid<=1:=D7 tE
    have hlp:Bw (mid*Y)<=10001:=by
     have h1:=Nb mid Y;have h4:=HLY.out;omega
    have HOf:=Ax (Kv (w:=wj) (mid:Int) tE tE)
    have HMul:Hid (∀V v,Below wj.heap.size wj V->Bn V v (mid:Int)->Calls Tryz.prog 186 #[v,.agg #[.bool false,.slice ay ny cy]] V (Gh V ((mid*Y:Nat):Int))):=Ax (fun V v hV hv=>by
     rw[←hpm]
     exact Ny hv (HYB.out V (hQj.bel.trans (hV.mono hQj.bel.size))) tL (by have:=HLY.out;simp;omega))
    have HCmp:Hid (∀V v,Below wj.heap.size wj V->Bn V v ((mid*Y:Nat):Int)->Calls Tryz.prog 188 #[v,.agg #[.bool false,.slice a1 k2 c1]] V (fun e w'=>e= .returned (.int .i64 cz)/\Below V.heap.size V w')):=Ax (fun V v hV hv=>by
     rw[←hcz]
     exact T6 hv (HN7.out.below (hbj.trans (hV.mono hbj.size))) (by rw[Int.natAbs_natCast];omega) (by have:=HLR.out;simp;omega))
    have HBJ:=Ax hbj;have HQJ:=Ax hQj;have Hcz2:=Ax hcz2;have Hq1:=Ax hq1;have Hq2:=Ax hq2;clear hq hq1 hq2 hbi hbj hQj hcz hcz2 hpm hlm hlp;go_wp2_with fail
    go_region_held3 (fun V=>V.cell? ⟨q,0,none⟩=some (.bool false)/\V.cell? ⟨q,1,none⟩=some (.slice ay ny cy)/\V.cell? ⟨R,0,none⟩=some (.bool false)/\V.cell? ⟨R,1,none⟩=some (.slice a1 k2 c1)) (go_keep)
     (first
      |(go_at_call 134;(with_reducible refine HOf.out.mono ?_);rintro e V1 ⟨⟨v1,rfl,hv1⟩,hb1⟩;obtain⟨a3,n3,c3,rfl,_⟩:=hv1.nat;have hQ1:=HQJ.out.below hb1;obtain⟨e0,e1,_⟩:=A0 hQ1.qb;obtain⟨e2,e3,_⟩:=A0 hQ1.rb;have HQ1:=Ax hQ1;have HBB1:=Ax hb1;have HM1:=Ax (HMul.out _ _ hb1 hv1);clear hv1 hb1 hQ1)
      |(go_at_call 186;(with_reducible refine HM1.out.mono ?_);rintro e V3 ⟨⟨v3,rfl,hv3⟩,hb3⟩;obtain⟨a4,n4,c4,rfl,_⟩:=hv3.nat;have hQ3:=HQ1.out.below hb3;obtain⟨e4,e5,_⟩:=A0 hQ3.qb;obtain⟨e6,e7,_⟩:=A0 hQ3.rb;have hb13:=HBB1.out.trans (hb3.mono HBB1.out.size);have HQ3:=Ax hQ3;have HBB3:=Ax hb13;have HC1:=Ax (HCmp.out _ _ hb13 hv3);clear hv3 hb3 hQ3 hb13)
      |(go_at_call 188;(with_reducible refine HC1.out.mono ?_);rintro e V4 ⟨rfl,hb4⟩;have hQ4:=HQ3.out.below hb4;obtain⟨e8,e9,_⟩:=A0 hQ4.qb;obtain⟨e10,e11,_⟩:=A0 hQ4.rb;have HBB4:=Ax (HBB3.out.trans (hb4.mono HBB3.out.size));clear hb4 hQ4))
    all_goals
     by_cases hc:cz<=0
     ·have c0:decide (cz<=0)=true:=Am hc;have HNB:=Ax (And.intro (Hcz2.out.1 hc) (And.intro Hq2.out (HBJ.out.trans (HBB4.out.mono HBJ.out.size))));clear HOf HMul HCmp HBJ HQJ Hcz2 Hq1 Hq2 HQ1 HBB1 HM1 HQ3 HBB3 HC1 HBB4;go_wp2_with fail;go_roundw
      case rel=>exact⟨mid,hi,rfl,rfl,t6,hh,HNB⟩
      case measure=>simp [intOf];omega
     have c0:decide (cz<=0)=false:=An hc;have hmz:mid - 1+1=mid:=by omega
     have HNB:=Ax (And.intro Hq1.out (And.intro (show r2<(mid - 1+1)*Y by rw[hmz];exact Nat.lt_of_not_le fun h=>hc (Hcz2.out.2 h)) (HBJ.out.trans (HBB4.out.mono HBJ.out.size))));clear HOf HMul HCmp HBJ HQJ Hcz2 Hq1 Hq2 HQ1 HBB1 HM1 HQ3 HBB3 HC1 HBB4 hmz;go_wp2_with fail;go_roundw
     case rel=>exact⟨lo,mid - 1,rfl,by go_num,by omega,by omega,HNB⟩
     case measure=>simp [intOf];omega
   obtain rfl:lo=hi:=by omega
   have t0:decide ((lo:Int)<(lo:Int))=false:=An tE;have t1:(0:Int)<=(lo:Int):=by omega
   have t2:(lo:Int)<=9999:=by omega
   have hQi:=HQ2.out.below hbi;have hlq:=HL.out.len;obtain⟨fz,dq⟩:=hQi.digits tE;obtain⟨gb,go,ge,gc⟩:=dq.at (i:=m) tE;injection ge with ge;injection ge with ge1 ge2;subst ge1 ge2;rw[Nat.zero_add] at gc;have gf:=fz m;obtain⟨gv,hgv⟩:∃v,Value.int .i64 ((qs[m]' tE:Nat):Int)=v:=⟨_,rfl⟩;rw[hgv] at gc;have hlxs:((dg X).length:Int)=(xs.length:Int)\/True:= .inr trivial;have hlen1:Bw lo<=1:=D7 tE;have hpm:(lo:Int)*(Y:Int)=((lo*Y:Nat):Int):=(Int.natCast_mul lo Y).symm
   have hlp:Bw (lo*Y)<=10001:=by
    have h1:=Nb lo Y;have h4:=HLY.out;omega
   obtain⟨W8,hW8⟩:∃W8,(wi.setCell ⟨M,m,none⟩ (.int .i64 (lo:Int))).drew=W8:=⟨_,rfl⟩
   have hQ8:Pc w W8 bx by' (.slice (some ⟨bxx,fxx,none⟩) xs.length cx) (.slice ay ny cy) p q M R (qs.set m lo) (.slice a1 k2 c1):=by
    rw[←hW8];exact(hQi.set m lo).below (Aq _ _).drew
   have hD8:Cp W8 (.slice a1 k2 c1) (dg r2):=by
    rw[←hW8];exact((HD2.out.below hbi).set HFar.out m _).below (Aq _ _).drew
   have hN8:Bn W8 (.agg #[.bool false,.slice a1 k2 c1]) (r2:Int):=⟨_,by rw[An tE],by simpa using hD8⟩;obtain⟨r3,hr3⟩:∃r3,r2 - lo*Y=r3:=⟨_,rfl⟩;have hz3:(r2:Int) - ((lo*Y:Nat):Int)=(r3:Int):=by omega
   obtain⟨d0,d1,_⟩:=A0 hQ8.qb;obtain⟨d2,d3,_⟩:=A0 hQ8.rb;have hOf:=Kv (w:=W8) (lo:Int) tE tE;have HOf:=Ax hOf
   have HMul:Hid (∀V v,Below W8.heap.size W8 V->Bn V v (lo:Int)->Calls Tryz.prog 186 #[v,.agg #[.bool false,.slice ay ny cy]] V (Gh V ((lo*Y:Nat):Int))):=Ax (fun V v hV hv=>by
    rw[←hpm]
    exact Ny hv (HYB.out V (hQ8.bel.trans (hV.mono hQ8.bel.size))) tL (by have:=HLY.out;simp;omega))
   have HSub:Hid (∀V v,Below W8.heap.size W8 V->Bn V v ((lo*Y:Nat):Int)->Calls Tryz.prog 202 #[.agg #[.bool false,.slice a1 k2 c1],v] V (Gh V (r3:Int))):=Ax (fun V v hV hv=>by
    rw[←hz3]
    exact dL (hN8.below hV) hv (by have:=HLR.out;simp;omega) (by rw[Int.natAbs_natCast];omega))
   have HQ8:=Ax hQ8
   have HR3:Hid (Ki xs Y m r3 (qs.set m lo)):=Ax (by
    have h1:=HL.out.step (d:=lo) HYP.out hm tE (by rw[HXM.out,HR2.out];exact hq1) (by rw[HXM.out,HR2.out];exact hq2);rw[HXM.out,HR2.out,hr3] at h1
    exact h1)
   have hpR:¬R=q:=by
    have h1:=hQ8.qM;have h2:=hQ8.MR;omega
   have hqR:¬q=R:=fun h=>hpR h.symm
   clear hq hq1 hq2 hQi fz dq hgv hbi hlq hlen1 hpm hlp hQ8 hD8 hN8 hOf hz3 hr3;go_wp2_with fail;refine wp_region_noPanic ?_;refine wp_region_held_drew (S:=fun V=>V.cell? ⟨q,0,none⟩=some (.bool false)/\V.cell? ⟨q,1,none⟩=some (.slice ay ny cy)) tF ?_ (fun hHeld=>?_)
   ·(try dsimp only);go_keep
   refine QH 1 ⟨some 66,_,_,_,_,_⟩ (h:=?_)
   try simp only[Act.put,Ac,Ad,Ae]
   refine QH 3 ⟨some 68,_,_,_,_,_⟩ (h:=?_)
   try simp only[Act.put,Ac,Ad,Ae]
   refine wpAnyH_ready (rs:=[0,2]) tF tH ?_;refine AllReadyH.cons (o:=⟨some 65,_,_,_,_,_⟩) (rs:=[2]) rfl (fun K hK=>?_) (AllReadyH.cons (o:=⟨some 67,_,_,_,_,_⟩) (rs:=[]) rfl (fun K hK=>?_) AllReadyH.nil)
   case' _=>
    go_simp
    try go_wp2_with fail
    clear hHeld;refine hK.out _ _ ?_ (fun hHeld=>?_)
    ·(try dsimp only);go_keep
    clear hK K
    try simp only[Act.put,Ac,Ad,Ae]
    refine wpAnyH_ready (rs:=[2]) tF tH ?_;refine AllReadyH.cons (o:=⟨some 67,_,_,_,_,_⟩) (rs:=[]) rfl (fun K hK=>?_) AllReadyH.nil
    case' _=>
     go_simp
     go_at_call 134;(with_reducible refine HOf.out.mono ?_);rintro e V3 ⟨⟨v3,rfl,hv3⟩,hb3⟩;obtain⟨a3,n3,c3,rfl,_⟩:=hv3.nat;have hQ3:=HQ8.out.below hb3;obtain⟨e0,e1,_⟩:=A0 hQ3.qb;obtain⟨e2,e3,_⟩:=A0 hQ3.rb;have HQ3:=Ax hQ3;have HBB3:=Ax hb3;have HM3:=Ax (HMul.out _ _ hb3 hv3);clear hv3 hb3 hQ3
     try go_wp2_with fail
     clear hHeld;refine hK.out _ _ ?_ (fun hHeld=>?_)
     ·(try dsimp only);go_keep
     clear hK K
     try simp only[Act.put,Ac,Ad,Ae]
     refine wpAnyH_ready (rs:=[4]) tF tH ?_;refine AllReadyH.cons (o:=⟨some 69,_,_,_,_,_⟩) (rs:=[]) rfl (fun K hK=>?_) AllReadyH.nil
     case' _=>
      go_simp
      go_at_call 186;(with_reducible refine HM3.out.mono ?_);rintro e V4 ⟨⟨v4,rfl,hv4⟩,hb4⟩;obtain⟨a4,n4,c4,rfl,_⟩:=hv4.nat;have hQ4:=HQ3.out.below hb4;obtain⟨e4,e5,_⟩:=A0 hQ4.qb;obtain⟨e6,e7,_⟩:=A0 hQ4.rb;have hb34:=HBB3.out.trans (hb4.mono HBB3.out.size);have HQ4:=Ax hQ4;have HBB4:=Ax hb34;have HS4:=Ax (HSub.out _ _ hb34 hv4);clear hv4 hb4 hQ4 hb34
      try go_wp2_with fail
      clear hHeld;refine hK.out _ _ ?_ (fun hHeld=>?_)
      ·(try dsimp only);go_keep
      clear hK K
      try simp only[Act.put,Ac,Ad,Ae]
      refine wpAnyH_ready (rs:=[5]) tF tH ?_;refine AllReadyH.cons (o:=⟨some 70,_,_,_,_,_⟩) (rs:=[]) rfl (fun K hK=>?_) AllReadyH.nil
      case' _=>
       go_simp
       go_at_call 202;(with_reducible refine HS4.out.mono ?_);rintro e V5 ⟨⟨v5,rfl,hv5⟩,hb5⟩;obtain⟨a5,n5,c5,rfl,hd5⟩:=hv5.nat;have hQ5:=HQ4.out.below hb5;obtain⟨e8,e9,_⟩:=A0 hQ5.qb;obtain⟨e10,e11,ef⟩:=A0 hQ5.rb;have ef0:=ef 0;have ef1:=ef 1;have HQ5:=Ax (hQ5.store (.slice a5 n5 c5));have HD5:=Ax (hd5.store ⟨_,_,_,rfl⟩ hQ5.rb (.bool false) (.slice a5 n5 c5));clear hv5 hb5 hd5 hQ5 ef
       try go_wp2_with fail
       clear hHeld;refine hK.out _ _ ?_ (fun hHeld=>?_)
       ·(try dsimp only);go_keep
       clear hK K
       try simp only[Act.put,Ac,Ad,Ae]
       refine wpAnyH_ready (rs:=[6]) tF tH ?_;refine AllReadyH.cons (o:=⟨none,_,_,_,_,_⟩) (rs:=[]) rfl (fun K hK=>?_) AllReadyH.nil
       case' _=>
        go_simp
        try go_wp2_with fail
        clear hHeld;refine hK.out _ _ ?_ (fun hHeld=>?_)
        ·(try dsimp only);go_keep
        clear hK K
        try simp only[Act.put,Ac,Ad,Ae]
        refine wpAnyH_done tF ?_ _;refine NoPanic.normal ?_
   rotate_left
   case' _=>
    go_simp
    go_at_call 134;(with_reducible refine HOf.out.mono ?_);rintro e V3 ⟨⟨v3,rfl,hv3⟩,hb3⟩;obtain⟨a3,n3,c3,rfl,_⟩:=hv3.nat;have hQ3:=HQ8.out.below hb3;obtain⟨e0,e1,_⟩:=A0 hQ3.qb;obtain⟨e2,e3,_⟩:=A0 hQ3.rb;have HQ3:=Ax hQ3;have HBB3:=Ax hb3;have HM3:=Ax (HMul.out _ _ hb3 hv3);clear hv3 hb3 hQ3
    try go_wp2_with fail
    clear hHeld;refine hK.out _ _ ?_ (fun hHeld=>?_)
    ·(try dsimp only);go_keep
    clear hK K
    try simp only[Act.put,Ac,Ad,Ae]
    refine wpAnyH_ready (rs:=[0,4]) tF tH ?_;refine AllReadyH.cons (o:=⟨some 65,_,_,_,_,_⟩) (rs:=[4]) rfl (fun K hK=>?_) (AllReadyH.cons (o:=⟨some 69,_,_,_,_,_⟩) (rs:=[]) rfl (fun K hK=>?_) AllReadyH.nil)
    case' _=>
     go_simp
     try go_wp2_with fail
     clear hHeld;refine hK.out _ _ ?_ (fun hHeld=>?_)
     ·(try dsimp only);go_keep
     clear hK K
     try simp only[Act.put,Ac,Ad,Ae]
     refine wpAnyH_ready (rs:=[4]) tF tH ?_;refine AllReadyH.cons (o:=⟨some 69,_,_,_,_,_⟩) (rs:=[]) rfl (fun K hK=>?_) AllReadyH.nil
     case' _=>
      go_simp
      go_at_call 186;(with_reducible refine HM3.out.mono ?_);rintro e V4 ⟨⟨v4,rfl,hv4⟩,hb4⟩;obtain⟨a4,n4,c4,rfl,_⟩:=hv4.nat;have hQ4:=HQ3.out.below hb4;obtain⟨e4,e5,_⟩:=A0 hQ4.qb;obtain⟨e6,e7,_⟩:=A0 hQ4.rb;have hb34:=HBB3.out.trans (hb4.mono HBB3.out.size);have HQ4:=Ax hQ4;have HBB4:=Ax hb34;have HS4:=Ax (HSub.out _ _ hb34 hv4);clear hv4 hb4 hQ4 hb34
      try go_wp2_with fail
      clear hHeld;refine hK.out _ _ ?_ (fun hHeld=>?_)
      ·(try dsimp only);go_keep
      clear hK K
      try simp only[Act.put,Ac,Ad,Ae]
      refine wpAnyH_ready (rs:=[5]) tF tH ?_;refine AllReadyH.cons (o:=⟨some 70,_,_,_,_,_⟩) (rs:=[]) rfl (fun K hK=>?_) AllReadyH.nil
      case' _=>
       go_simp
       go_at_call 202;(with_reducible refine HS4.out.mono ?_);rintro e V5 ⟨⟨v5,rfl,hv5⟩,hb5⟩;obtain⟨a5,n5,c5,rfl,hd5⟩:=hv5.nat;have hQ5:=HQ4.out.below hb5;obtain⟨e8,e9,_⟩:=A0 hQ5.qb;obtain⟨e10,e11,ef⟩:=A0 hQ5.rb;have ef0:=ef 0;have ef1:=ef 1;have HQ5:=Ax (hQ5.store (.slice a5 n5 c5));have HD5:=Ax (hd5.store ⟨_,_,_,rfl⟩ hQ5.rb (.bool false) (.slice a5 n5 c5));clear hv5 hb5 hd5 hQ5 ef
       try go_wp2_with fail
       clear hHeld;refine hK.out _ _ ?_ (fun hHeld=>?_)
       ·(try dsimp only);go_keep
       clear hK K
       try simp only[Act.put,Ac,Ad,Ae]
       refine wpAnyH_ready (rs:=[6]) tF tH ?_;refine AllReadyH.cons (o:=⟨none,_,_,_,_,_⟩) (rs:=[]) rfl (fun K hK=>?_) AllReadyH.nil
       case' _=>
        go_simp
        try go_wp2_with fail
        clear hHeld;refine hK.out _ _ ?_ (fun hHeld=>?_)
        ·(try dsimp only);go_keep
        clear hK K
        try simp only[Act.put,Ac,Ad,Ae]
        refine wpAnyH_done tF ?_ _;refine NoPanic.normal ?_
    rotate_left
    case' _=>
     go_simp
     go_at_call 186;(with_reducible refine HM3.out.mono ?_);rintro e V4 ⟨⟨v4,rfl,hv4⟩,hb4⟩;obtain⟨a4,n4,c4,rfl,_⟩:=hv4.nat;have hQ4:=HQ3.out.below hb4;obtain⟨e4,e5,_⟩:=A0 hQ4.qb;obtain⟨e6,e7,_⟩:=A0 hQ4.rb;have hb34:=HBB3.out.trans (hb4.mono HBB3.out.size);have HQ4:=Ax hQ4;have HBB4:=Ax hb34;have HS4:=Ax (HSub.out _ _ hb34 hv4);clear hv4 hb4 hQ4 hb34
     try go_wp2_with fail
     clear hHeld;refine hK.out _ _ ?_ (fun hHeld=>?_)
     ·(try dsimp only);go_keep
     clear hK K
     try simp only[Act.put,Ac,Ad,Ae]
     refine wpAnyH_ready (rs:=[0]) tF tH ?_;refine AllReadyH.cons (o:=⟨some 65,_,_,_,_,_⟩) (rs:=[]) rfl (fun K hK=>?_) AllReadyH.nil
     case' _=>
      go_simp
      try go_wp2_with fail
      clear hHeld;refine hK.out _ _ ?_ (fun hHeld=>?_)
      ·(try dsimp only);go_keep
      clear hK K
      try simp only[Act.put,Ac,Ad,Ae]
      refine wpAnyH_ready (rs:=[5]) tF tH ?_;refine AllReadyH.cons (o:=⟨some 70,_,_,_,_,_⟩) (rs:=[]) rfl (fun K hK=>?_) AllReadyH.nil
      case' _=>
       go_simp
       go_at_call 202;(with_reducible refine HS4.out.mono ?_);rintro e V5 ⟨⟨v5,rfl,hv5⟩,hb5⟩;obtain⟨a5,n5,c5,rfl,hd5⟩:=hv5.nat;have hQ5:=HQ4.out.below hb5;obtain⟨e8,e9,_⟩:=A0 hQ5.qb;obtain⟨e10,e11,ef⟩:=A0 hQ5.rb;have ef0:=ef 0;have ef1:=ef 1;have HQ5:=Ax (hQ5.store (.slice a5 n5 c5));have HD5:=Ax (hd5.store ⟨_,_,_,rfl⟩ hQ5.rb (.bool false) (.slice a5 n5 c5));clear hv5 hb5 hd5 hQ5 ef
       try go_wp2_with fail
       clear hHeld;refine hK.out _ _ ?_ (fun hHeld=>?_)
       ·(try dsimp only);go_keep
       clear hK K
       try simp only[Act.put,Ac,Ad,Ae]
       refine wpAnyH_ready (rs:=[6]) tF tH ?_;refine AllReadyH.cons (o:=⟨none,_,_,_,_,_⟩) (rs:=[]) rfl (fun K hK=>?_) AllReadyH.nil
       case' _=>
        go_simp
        try go_wp2_with fail
        clear hHeld;refine hK.out _ _ ?_ (fun hHeld=>?_)
        ·(try dsimp only);go_keep
        clear hK K
        try simp only[Act.put,Ac,Ad,Ae]
        refine wpAnyH_done tF ?_ _;refine NoPanic.normal ?_
   all_goals
    have HF:=Ax (And.intro HQ5.out (And.intro HD5.out HR3.out));clear HOf HMul HSub HQ8 HQ3 HBB3 HM3 HQ4 HBB4 HS4 HQ5 HD5 HR3 HL HFar HN7 HQ2 HD2;go_wp2_with fail;go_roundw
    case rel=>exact⟨m,r3,_,a5,n5,c5,by go_num,by omega,HF⟩
    case measure=>simp [intOf]<;>omega
theorem dZ {w:World}{vx vy:Value}{X Y:Nat}(hx:Bn w vx (X:Int))(hy:Bn w vy (Y:Int))(hY:0<Y)(hlx:Bw X<=10000)(hly:Bw Y<=10000):Calls Tryz.prog 177 #[vx,vy] w fun e w'=>(∃v1 v2,e= .returned (.tuple #[v1,v2])/\Bn w' v1 ((X/Y:Nat):Int)/\Bn w' v2 ((X % Y:Nat):Int))/\Below w.heap.size w w':=by
 obtain⟨ax,nx,cx,rfl,hdx⟩:=hx.nat;obtain⟨ay,ny,cy,rfl,hdy⟩:=hy.nat;exact bE false false hdx hdy hY hlx hly
open Go Go.Lib
def Gz (n k:Nat):List UInt8:=if n=0 then List.replicate k 48 else List.replicate (k - (decDigits n).length) 48++decDigits n
theorem iB:Gz 0 0=[]:=rfl
theorem Up (n:Nat):1<=(decDigits n).length:=by
 have:=Lw n
 cases h:decDigits n with
 |nil=>exact absurd h this
 |cons=>simp
theorem iA {n k:Nat}(h:0<n\/0<k):Gz n k=Gz (n/10) (k - 1)++[UInt8.ofNat (48+n % 10)]:=by
 by_cases hn:n=0
 ·subst hn;obtain⟨m,rfl⟩:∃m,k=m+1:=⟨k - 1,by omega⟩;simp only[Gz,if_true,Nat.zero_div,Nat.add_sub_cancel,Nat.zero_mod,Nat.add_zero];rw[List.replicate_succ'];rfl
 by_cases h10:n<10
 ·have e1:n/10=0:=by omega
  have e2:n % 10=n:=by omega
  rw[Gz,Ao hn,e1,e2,Gz,Ap rfl,Dv h10];rfl
 have e1:n/10≠0:=by omega
 rw[Gz,Ao hn,Gz,Ao e1,Ig h10,Ab,←List.append_assoc];simp only[Aa,List.length_nil];rw[show k - ((decDigits (n/10)).length+(0+1))=k - 1 - (decDigits (n/10)).length by omega]
theorem lG (n:Nat):Gz n 1=decDigits n:=by
 unfold Gz
 split
 ·next h=>subst h;rw[Dv tE];rfl
 have:=Up n
 rw[show 1 - (decDigits n).length=0 by omega];rfl
theorem iM (n:Nat):Gz n 5=Oh (decDigits n):=by
 unfold Gz Oh
 split
 ·next h=>subst h;rw[Dv tE];rfl
 rfl
theorem lM (n k:Nat):(Gz n k).length<=k+(decDigits n).length:=by
 unfold Gz
 split
 ·simp
 simp<;>omega
theorem iW {n k:Nat}{s D:List UInt8}(h:D=Gz n k++s)(hp:0<n\/0<k):D=Gz (n/10) (k - 1)++(UInt8.ofNat (48+n % 10)::s)/\s.length+1<=D.length:=by
 rw[iA hp,List.append_assoc] at h;refine⟨h,?_⟩;rw[h];simp
end Go.Proofs.YtmpfilddeglgbaaGreatDoor
