import Derived.Test.YtgfakdobajgnfaaGreatDoorQk3
set_option maxRecDepth 100000
set_option maxHeartbeats 16000000
namespace Go.Proofs.YtgfakdobajgnfaaGreatDoor
open Go Go.RowKit
theorem Gf {w:World}{b:Nat}{c d e f g i j:Value}{t:TypeId}(h:w.heap[b]? =some (.cells #[c,d,e,f,g,i,j] t (0,0))):
 w.cell? ⟨b,0,none⟩=some c/\w.cell? ⟨b,1,none⟩=some d/\w.cell? ⟨b,2,none⟩=some e/\w.cell? ⟨b,3,none⟩=some f/\w.cell? ⟨b,4,none⟩=some g/\w.cell? ⟨b,5,none⟩=some i/\w.cell? ⟨b,6,none⟩=some j:=
 ⟨by simp only[World.cell?,h];rfl,by simp only[World.cell?,h];rfl,by simp only[World.cell?,h];rfl,by simp only[World.cell?,h];rfl,by simp only[World.cell?,h];rfl,by simp only[World.cell?,h];rfl,by simp only[World.cell?,h];rfl⟩
theorem A6 {w:World}{b:Nat}{c d e f g j k m:Value}{t:TypeId}(h:w.heap[b]? =some (.cells #[c,d,e,f,g,j,k,m] t (0,0))):
 w.cell? ⟨b,0,none⟩=some c/\w.cell? ⟨b,1,none⟩=some d/\w.cell? ⟨b,2,none⟩=some e/\w.cell? ⟨b,3,none⟩=some f/\w.cell? ⟨b,4,none⟩=some g/\w.cell? ⟨b,5,none⟩=some j/\w.cell? ⟨b,6,none⟩=some k/\w.cell? ⟨b,7,none⟩=some m/\∀i,w.frozen? ⟨b,i,none⟩=false:=
 ⟨by simp only[World.cell?,h];rfl,by simp only[World.cell?,h];rfl,by simp only[World.cell?,h];rfl,by simp only[World.cell?,h];rfl,by simp only[World.cell?,h];rfl,by simp only[World.cell?,h];rfl,by simp only[World.cell?,h];rfl,by simp only[World.cell?,h];rfl,fun i=>by simp only[World.frozen?,h];simp⟩
theorem Kd {w g:World}{B b d p:Nat}{X:List Nat}{r i:Value}{ts q:List Tkn}{t:Tkn}{c:List Nd}(C:B<=w.heap.size)(j:Below w.heap.size w g)(u:Cy w B X b r ts (t::q) d i c){h:Hd}
 (f:g.heap[p]? =some (.cells #[.int .u8 h.op,.int .u8 h.v.1,.int .i64 h.v.2.1,.string ⟨h.v.2.2.toArray⟩,.string ⟨h.name.toArray⟩,.slice none 0 0,.int .i64 h.line,.int .i64 h.col] 43 (0,0))):
 (g.setCell ⟨b,1,none⟩ (.int .i64 (((ts.length - (q.length+1):Nat):Int)+1))).heap[p]? =some (.cells #[.int .u8 h.op,.int .u8 h.v.1,.int .i64 h.v.2.1,.string ⟨h.v.2.2.toArray⟩,.string ⟨h.name.toArray⟩,.slice none 0 0,.int .i64 h.line,.int .i64 h.col] 43 (0,0))/\
 Calls Tryz.prog 209 #[.pointer (some ⟨b,0,none⟩),.agg #[.int .u8 h.op,.int .u8 h.v.1,.int .i64 h.v.2.1,.string ⟨h.v.2.2.toArray⟩,.string ⟨h.name.toArray⟩,.slice none 0 0,.int .i64 h.line,.int .i64 h.col],.slice none 0 0]
  (g.setCell ⟨b,1,none⟩ (.int .i64 (((ts.length - (q.length+1):Nat):Int)+1))) (fun e w'=>e= .returned (.int .i64 (c.length:Int))/\∃o,Cy w' B X b r ts q d o (c++(Ex.mk h []).flat c.length)/\Rch b w i w' o):=by
 have k:=u.below j;have y:=A3 g b 1 (.int .i64 (((ts.length - (q.length+1):Nat):Int)+1));have m:Rch b w i (g.setCell ⟨b,1,none⟩ (.int .i64 (((ts.length - (q.length+1):Nat):Int)+1))) i:=(Rch.of_below i j).trans (Rch.of_only i y);have n:=u.few;simp only[Aa] at n;refine⟨y.cells_of f fun A=>?_,?_⟩
 ·simp at A;subst A;rw[k.blk] at f;injection f with f;injection f with _ f;exact absurd f rH
 refine(N9 k.step rF (Al C m.only.size) h [] none 0 (World.ownsRow_nil _ _ _ _) (fun x e=>by cases e)).mono ?_;rintro e w' ⟨rfl,o,D,E⟩;exact⟨rfl,o,D,m.trans E⟩
theorem iP {k B b:Nat}{X:List Nat}{vl:Value}{ts:List Tkn}(ih:K5 k B b vl ts){d:Nat}{r:List Tkn}{w:World}{N:Value}{y:List Nd}(hk:Bu (.lvl 7) r<=k)(h:Cy w B X b vl ts r d N y)(hB:B<=w.heap.size):
 Calls Tryz.prog 155 #[.pointer (some ⟨b,0,none⟩)] w (B5 w B X b vl ts d N y (Bc 7 d r)):=by
 obtain⟨c0,c1,c2,c3,W⟩:=Dn h.blk;have hl:=h.suf.len;have wY:=h.big;have vL:=Ay h.blk;cases r with
 |nil=>
  obtain⟨va,vc,rfl⟩:=h.toks.form;have i0:(ts.length:Int)<=(((ts.length - ([]:List Tkn).length:Nat):Int)):=by simp
  have i1:decide ((ts.length:Int)<=(((ts.length - ([]:List Tkn).length:Nat):Int)))=true:=by simp
  have H:=Ax h
  have wN:=fun nq=>Ax (show B5 w B X b (.slice va ts.length vc) ts d N y (Bc 7 d []) (D2 4) (w.drewN nq) from by
   rw[B3];have hb:=A8 (Aq w.heap.size w) nq
   exact⟨rfl,(H.out.below hb).err,Bb.of_below hb _⟩)
  clear h hl W;go_enter Tryz.func155,Tryz.ntmps155;go_wp2_with fail;go_quiet (fail);go_wp2_with fail;exact⟨rfl,(wN _).out⟩
 |cons t q=>
  obtain⟨g,c,rfl,hg,wO,t0,t1,t2,t3,t4,t5,t6⟩:=h.head;obtain⟨n,hn⟩:∃n,ts.length - (t::q).length=n:=⟨_,rfl⟩;rw[hn] at c1 wO t0 t1 t2 t3 t4 t5 t6;have i0:(n:Int)<(ts.length:Int):=by omega
  have i1:decide ((ts.length:Int)<=(n:Int))=false:=by simp;omega
  have i2:(0:Int)<=(n:Int):=by omega
  have H:=Ax h;have Hn:=Ax hn;clear h hl hn W;go_enter Tryz.func155,Tryz.ntmps155;go_wp2_with fail;go_quiet (fail);go_wp2_with fail;obtain⟨V,hV⟩:∃V,w.drewN nq=V:=⟨_,rfl⟩;have uY:Below w.heap.size w V:=by rw[←hV];exact A8 (Aq _ w) nq
  have hr:=H.out.below uY;rw[hV];clear c0 c1 c2 c3 t0 t1 t2 t3 t4 t5 t6 hV;obtain⟨c0,c1,c2,c3,W⟩:=Dn hr.blk;obtain⟨g',c',e,uZ,_,t0,t1,t2,t3,t4,t5,t6⟩:=hr.head;injection e with e1 _ e3;injection e1 with e1;injection e1 with e1;subst e1;subst e3;rw[Hn.out] at c1 t0 t1 t2 t3 t4 t5 t6;have vL:b<V.drew.heap.size:=Ay hr.blk;have wP:g<V.drew.heap.size:=uZ;have vM:b<V.heap.size:=Ay hr.blk;have vN:g<V.heap.size:=uZ;obtain⟨⟨O,tt,f,i,j⟩,o,u⟩:=t;simp only at t0 t1 t2 t3 t4 t5 t6;have HR:=Ax hr;have HB:=Ax uY;clear hr uY W hg uZ;go_region;obtain⟨W1,j9⟩:∃W1,(V.alloc (.cells #[.int .u8 O,.string ⟨tt.toArray⟩,.int .u8 f,.int .i64 i,.string ⟨j.toArray⟩,.int .i64 o,.int .i64 u] 94)).drew=W1:=⟨_,rfl⟩;have vA:Below V.heap.size V W1:=by rw[←j9];exact((Aq _ V).alloc (Ak _) _).drew
  have vO:W1.heap.size=V.heap.size+1:=by rw[←j9];show(V.alloc _).heap.size=_;simp
  have w9:W1.heap[V.heap.size]? =some (.cells #[.int .u8 O,.string ⟨tt.toArray⟩,.int .u8 f,.int .i64 i,.string ⟨j.toArray⟩,.int .i64 o,.int .i64 u] 94 (0,0)):=by rw[←j9];exact Az V _
  rw[j9];obtain⟨_,_,_,_,_,u5,u6⟩:=Gf w9;have x8:=Az W1 (.cells #[.int .u8 0,.int .u8 0,.int .i64 0,.string ⟨#[]⟩,.string ⟨#[]⟩,.slice none 0 0,.int .i64 o,.int .i64 u] 43);have x9:Below W1.heap.size W1 (W1.alloc (.cells #[.int .u8 0,.int .u8 0,.int .i64 0,.string ⟨#[]⟩,.string ⟨#[]⟩,.slice none 0 0,.int .i64 o,.int .i64 u] 43)):=(Aq _ W1).alloc (Ak _) _;obtain⟨W2,vP⟩:∃W2,W1.alloc (.cells #[.int .u8 0,.int .u8 0,.int .i64 0,.string ⟨#[]⟩,.string ⟨#[]⟩,.slice none 0 0,.int .i64 o,.int .i64 u] 43)=W2:=⟨_,rfl⟩;rw[vP] at x8 x9;rw[vO] at x8;have xA:w.heap.size<=V.heap.size:=HB.out.size;have xB:W2.heap.size=V.heap.size+2:=by rw[←vP];simp [vO]
  have vQ:=(x9.block _ (Ay w9)).trans w9;have vB:=HB.out.trans ((vA.trans (x9.mono vA.size)).mono HB.out.size);have vC:=Ax (H.out.below vB);have R:=Ax vB;have f9:=Ax vQ;have HN2:=Ax x8;clear vA w9 x8 x9 vQ vB HR HB j9 c0 c1 c2 c3 t0 t1 t2 t3 t4 t5 t6 vL wP vM vN i0 i1 i2;obtain⟨f0,f1,f2,f3,f4,f5,f6⟩:=Gf f9.out;obtain⟨n0,n1,n2,n3,n4,n5,n6,n7,nf⟩:=A6 HN2.out;have vR:=nf 0;have vS:=nf 1;have vT:=nf 2;have vU:=nf 3;have wQ:=nf 4;clear nf;by_cases hk4:O=4\/O=5\/O=6
  ·rcases hk4 with rfl|rfl|rfl
   ·go_wp2_with fail;go_region;obtain⟨D,hW3⟩:∃D,((((W2.setCell ⟨V.heap.size+1,0,none⟩ (.int .u8 1)).setCell ⟨V.heap.size+1,1,none⟩ (.int .u8 f)).setCell ⟨V.heap.size+1,2,none⟩ (.int .i64 i)).setCell ⟨V.heap.size+1,3,none⟩ (.string ⟨j.toArray⟩)).drew=D:=⟨_,rfl⟩
    have E:Bb [V.heap.size+1] W2 D:=by
     exact zxi
    have F:D.heap[V.heap.size+1]? =some (.cells #[.int .u8 1,.int .u8 f,.int .i64 i,.string ⟨j.toArray⟩,.string ⟨#[]⟩,.slice none 0 0,.int .i64 o,.int .i64 u] 43 (0,0)):=by
     exact zxq
    rw[hW3];have x:Below w.heap.size w D:=Bq R.out E rM rF;have A:=H.out.below x;obtain⟨c0,c1,c2,c3,W⟩:=Dn A.blk;have k8:=W 1;obtain⟨C,v⟩:=Kd hB x H.out (h:=⟨1,(f,i,j),[],o,u⟩) F;obtain⟨W4,G⟩:∃W4,D.setCell ⟨b,1,none⟩ (.int .i64 (((ts.length - (q.length+1):Nat):Int)+1))=W4:=⟨_,rfl⟩;rw[G] at C v;simp only[List.toArray] at v;obtain⟨m0,m1,m2,m3,m4,m5,m6,m7,_⟩:=A6 C;have I:=Ax v;have HX:Hid (Bc 7 d (⟨⟨4,tt,f,i,j⟩,o,u⟩::q)= .ok (.mk ⟨1,(f,i,j),[],o,u⟩ [],q)):=Ax tF;clear C v F E x A W hW3;go_wp2_with fail;refine I.out.mono ?_;rintro e Y ⟨rfl,v6,hr6,hch6⟩
    have HE:Hid (B5 w B X b (.slice (some ⟨g,0,none⟩) ts.length c) ts d N y (Bc 7 d (⟨⟨4,tt,f,i,j⟩,o,u⟩::q)) (.returned (.int .i64 (y.length:Int))) Y):=Ax (by
     exact zw0)
    clear hr6 hch6 I HX G;exact zy9
   ·go_wp2_with fail;go_region;obtain⟨D,hW3⟩:∃D,((((W2.setCell ⟨V.heap.size+1,0,none⟩ (.int .u8 1)).setCell ⟨V.heap.size+1,1,none⟩ (.int .u8 f)).setCell ⟨V.heap.size+1,2,none⟩ (.int .i64 i)).setCell ⟨V.heap.size+1,3,none⟩ (.string ⟨j.toArray⟩)).drew=D:=⟨_,rfl⟩
    have E:Bb [V.heap.size+1] W2 D:=by
     exact zxi
    have F:D.heap[V.heap.size+1]? =some (.cells #[.int .u8 1,.int .u8 f,.int .i64 i,.string ⟨j.toArray⟩,.string ⟨#[]⟩,.slice none 0 0,.int .i64 o,.int .i64 u] 43 (0,0)):=by
     exact zxq
    rw[hW3];have x:Below w.heap.size w D:=Bq R.out E rM rF;have A:=H.out.below x;obtain⟨c0,c1,c2,c3,W⟩:=Dn A.blk;have k8:=W 1;obtain⟨C,v⟩:=Kd hB x H.out (h:=⟨1,(f,i,j),[],o,u⟩) F;obtain⟨W4,G⟩:∃W4,D.setCell ⟨b,1,none⟩ (.int .i64 (((ts.length - (q.length+1):Nat):Int)+1))=W4:=⟨_,rfl⟩;rw[G] at C v;simp only[List.toArray] at v;obtain⟨m0,m1,m2,m3,m4,m5,m6,m7,_⟩:=A6 C;have I:=Ax v;have HX:Hid (Bc 7 d (⟨⟨5,tt,f,i,j⟩,o,u⟩::q)= .ok (.mk ⟨1,(f,i,j),[],o,u⟩ [],q)):=Ax tF;clear C v F E x A W hW3;go_wp2_with fail;refine I.out.mono ?_;rintro e Y ⟨rfl,v6,hr6,hch6⟩
    have HE:Hid (B5 w B X b (.slice (some ⟨g,0,none⟩) ts.length c) ts d N y (Bc 7 d (⟨⟨5,tt,f,i,j⟩,o,u⟩::q)) (.returned (.int .i64 (y.length:Int))) Y):=Ax (by
     exact zw0)
    clear hr6 hch6 I HX G;exact zy9
   go_wp2_with fail;go_region;obtain⟨D,hW3⟩:∃D,((((W2.setCell ⟨V.heap.size+1,0,none⟩ (.int .u8 1)).setCell ⟨V.heap.size+1,1,none⟩ (.int .u8 f)).setCell ⟨V.heap.size+1,2,none⟩ (.int .i64 i)).setCell ⟨V.heap.size+1,3,none⟩ (.string ⟨j.toArray⟩)).drew=D:=⟨_,rfl⟩
   have E:Bb [V.heap.size+1] W2 D:=by
    exact zxi
   have F:D.heap[V.heap.size+1]? =some (.cells #[.int .u8 1,.int .u8 f,.int .i64 i,.string ⟨j.toArray⟩,.string ⟨#[]⟩,.slice none 0 0,.int .i64 o,.int .i64 u] 43 (0,0)):=by
    exact zxq
   rw[hW3];have x:Below w.heap.size w D:=Bq R.out E rM rF;have A:=H.out.below x;obtain⟨c0,c1,c2,c3,W⟩:=Dn A.blk;have k8:=W 1;obtain⟨C,v⟩:=Kd hB x H.out (h:=⟨1,(f,i,j),[],o,u⟩) F;obtain⟨W4,G⟩:∃W4,D.setCell ⟨b,1,none⟩ (.int .i64 (((ts.length - (q.length+1):Nat):Int)+1))=W4:=⟨_,rfl⟩;rw[G] at C v;simp only[List.toArray] at v;obtain⟨m0,m1,m2,m3,m4,m5,m6,m7,_⟩:=A6 C;have I:=Ax v;have HX:Hid (Bc 7 d (⟨⟨6,tt,f,i,j⟩,o,u⟩::q)= .ok (.mk ⟨1,(f,i,j),[],o,u⟩ [],q)):=Ax tF;clear C v F E x A W hW3;go_wp2_with fail;refine I.out.mono ?_;rintro e Y ⟨rfl,v6,hr6,hch6⟩
   have HE:Hid (B5 w B X b (.slice (some ⟨g,0,none⟩) ts.length c) ts d N y (Bc 7 d (⟨⟨6,tt,f,i,j⟩,o,u⟩::q)) (.returned (.int .i64 (y.length:Int))) Y):=Ax (by
    exact zw0)
   clear hr6 hch6 I HX G;exact zy9
  by_cases hk2:O=2
  ·subst hk2;clear hk4;go_wp2_with fail;go_region;obtain⟨D,hW3⟩:∃D,((W2.setCell ⟨V.heap.size+1,0,none⟩ (.int .u8 2)).setCell ⟨V.heap.size+1,4,none⟩ (.string ⟨tt.toArray⟩)).drew=D:=⟨_,rfl⟩
   have E:Bb [V.heap.size+1] W2 D:=by
    rw[←hW3];exact Bb.drew ((A3 W2 _ _ _).setCell (.inl rI) _)
   have F:D.heap[V.heap.size+1]? =some (.cells #[.int .u8 2,.int .u8 0,.int .i64 0,.string ⟨#[]⟩,.string ⟨tt.toArray⟩,.slice none 0 0,.int .i64 o,.int .i64 u] 43 (0,0)):=by
    rw[←hW3]
    show(World.setCell _ _ _).heap[_]? =_
    rw[A2 (A2 HN2.out)];rfl
   rw[hW3];have x:Below w.heap.size w D:=Bq R.out E rM rF;have A:=H.out.below x;obtain⟨c0,c1,c2,c3,W⟩:=Dn A.blk;have k8:=W 1;obtain⟨C,v⟩:=Kd hB x H.out (h:=⟨2,v0,tt,o,u⟩) F;obtain⟨W4,G⟩:∃W4,D.setCell ⟨b,1,none⟩ (.int .i64 (((ts.length - (q.length+1):Nat):Int)+1))=W4:=⟨_,rfl⟩;rw[G] at C v;simp only[List.toArray] at v;obtain⟨m0,m1,m2,m3,m4,m5,m6,m7,_⟩:=A6 C;have I:=Ax v;have HX:Hid (Bc 7 d (⟨⟨2,tt,f,i,j⟩,o,u⟩::q)= .ok (.mk ⟨2,v0,tt,o,u⟩ [],q)):=Ax tF;clear C v F E x A W hW3;go_wp2_with fail;refine I.out.mono ?_;rintro e Y ⟨rfl,v6,hr6,hch6⟩
   have HE:Hid (B5 w B X b (.slice (some ⟨g,0,none⟩) ts.length c) ts d N y (Bc 7 d (⟨⟨2,tt,f,i,j⟩,o,u⟩::q)) (.returned (.int .i64 (y.length:Int))) Y):=Ax (by
    exact zw0)
   clear hr6 hch6 I HX G;exact zy9
  by_cases hk3:O=3
  ·subst hk3;clear hk4 hk2;obtain⟨D,hW3⟩:∃D,W2.setCell ⟨V.heap.size+1,0,none⟩ (.int .u8 3)=D:=⟨_,rfl⟩
   have E:Bb [V.heap.size+1] W2 D:=by
    rw[←hW3];exact A3 W2 _ _ _
   have F:D.heap[V.heap.size+1]? =some (.cells #[.int .u8 3,.int .u8 0,.int .i64 0,.string ⟨#[]⟩,.string ⟨#[]⟩,.slice none 0 0,.int .i64 o,.int .i64 u] 43 (0,0)):=by
    rw[←hW3];rw[A2 HN2.out];rfl
   have x:Below w.heap.size w D:=Bq R.out E rM rF;have A:=H.out.below x;obtain⟨c0,c1,c2,c3,W⟩:=Dn A.blk;have k8:=W 1;obtain⟨C,v⟩:=Kd hB x H.out (h:=⟨3,v0,[],o,u⟩) F;obtain⟨W4,G⟩:∃W4,D.setCell ⟨b,1,none⟩ (.int .i64 (((ts.length - (q.length+1):Nat):Int)+1))=W4:=⟨_,rfl⟩;rw[G] at C v;simp only[List.toArray] at v;obtain⟨m0,m1,m2,m3,m4,m5,m6,m7,_⟩:=A6 C;have I:=Ax v;have HX:Hid (Bc 7 d (⟨⟨3,tt,f,i,j⟩,o,u⟩::q)= .ok (.mk ⟨3,v0,[],o,u⟩ [],q)):=Ax tF;clear C v F E x A W;go_wp2_with fail;refine I.out.mono ?_;rintro e Y ⟨rfl,v6,hr6,hch6⟩
   have HE:Hid (B5 w B X b (.slice (some ⟨g,0,none⟩) ts.length c) ts d N y (Bc 7 d (⟨⟨3,tt,f,i,j⟩,o,u⟩::q)) (.returned (.int .i64 (y.length:Int))) Y):=Ax (by
    exact zw0)
   clear hr6 hch6 I HX G;exact zy9
  by_cases hk1:O=1
  ·subst hk1;clear hk4 hk2 hk3;have uS:=Yf tt W2;have uT:=Ax uS;clear uS;go_wp2_with fail;refine uT.out.mono ?_;rintro e V3 ⟨rfl,a8⟩;obtain⟨b7,b8,d8,l7⟩:∃a b c,(K7 tt).getD v0=(a,b,c):=⟨_,_,_,rfl⟩;rw[l7];simp only[mJ];obtain⟨vV,n9⟩:∃z,(K7 tt).isSome=z:=⟨_,rfl⟩;rw[n9];have p8:=(Aq V3.heap.size V3).alloc (Ak _) (.cells #[.int .u8 b7,.int .i64 b8,.string ⟨d8.toArray⟩] 23);have h5:=Az V3 (.cells #[.int .u8 b7,.int .i64 b8,.string ⟨d8.toArray⟩] 23);obtain⟨V4,vW⟩:∃V4,V3.alloc (.cells #[.int .u8 b7,.int .i64 b8,.string ⟨d8.toArray⟩] 23)=V4:=⟨_,rfl⟩;rw[vW] at p8 h5;have xC:¬V3.heap.size=V.heap.size+1:=by have:=a8.size;omega
   have xD:¬V.heap.size+1=V3.heap.size:=by have:=a8.size;omega
   have xE:V4.heap.size=V3.heap.size+1:=by rw[←vW];simp
   have i6:=a8.trans (p8.mono a8.size);have vX:=fR tt V4;have vY:=Ax vX;obtain⟨_,u1,_⟩:=Gf ((i6.block _ (Ay f9.out)).trans f9.out);have vD:=Ax i6;have H5:=Ax h5;have vE:=Ax l7;have y8:=Ax n9;clear a8 p8 h5 i6 vX uT l7 n9;go_wp2_with fail;refine vY.out.mono ?_;rintro e V5 ⟨rfl,vF⟩;obtain⟨o1,o2,o3,y9⟩:∃a b c,(Di tt).getD (0,0,0)=(a,b,c):=⟨_,_,_,rfl⟩;rw[y9];simp only[cT];have r7:=(Aq V5.heap.size V5).alloc (Ak _) (.cells #[.int .u8 o1,.int .i64 (o2:Int),.int .i64 (o3:Int)] 233);have h7:=Az V5 (.cells #[.int .u8 o1,.int .i64 (o2:Int),.int .i64 (o3:Int)] 233);obtain⟨Y,wR⟩:∃Y,V5.alloc (.cells #[.int .u8 o1,.int .i64 (o2:Int),.int .i64 (o3:Int)] 233)=Y:=⟨_,rfl⟩;rw[wR] at r7 h7;have r8:=vF.trans (r7.mono vF.size);have f7:=vD.out.trans (r8.mono vD.out.size);have vZ:=R.out.trans (f7.mono R.out.size);have wA:=(f7.block _ (Ay f9.out)).trans f9.out;have vG:=(f7.block _ (Ay HN2.out)).trans HN2.out;have wB:=(r8.block _ (Ay H5.out)).trans H5.out;have xF:V.heap.size+2<=Y.heap.size:=by have:=f7.size;omega
   have f8:=Ax vZ;have wS:=Ax vG;obtain⟨_,_,_,_,_,t5,t6⟩:=Gf wA;obtain⟨n0,n1,n2,n3,n4,n5,n6,n7,nf⟩:=A6 vG;have vR:=nf 0;have vS:=nf 1;have vT:=nf 2;have vU:=nf 3;obtain⟨l0,l1,l2,_⟩:=Km wB;obtain⟨k0,k1,k2,_⟩:=Km h7;clear vF r7 h7 r8 f7 vZ wA vG wB vD H5 vY HN2 f9 R vC nf u5 u6 u1 f0 f1 f2 f3 f4 f5 f6;cases hcc:Di tt with
   |some cx=>
    rw[hcc] at y9;simp only[Option.getD_some] at y9;subst y9;have M:Eh ⟨⟨1,tt,f,i,j⟩,o,u⟩=some ⟨o1,o2,o3,o,u⟩:=by simp [Eh,hcc]
    have T:Dk ⟨⟨1,tt,f,i,j⟩,o,u⟩=none:=by simp [Dk,hcc]
    have r9:=Xk hcc;have wC:Calls Tryz.prog 205 #[.pointer (some ⟨b,0,none⟩),.agg #[.int .u8 o1,.int .i64 (o2:Int),.int .i64 (o3:Int)],.agg #[.int .i64 o,.int .i64 u]] Y _:=jX ih hk (H.out.below f8.out) (Al hB f8.out.size) ⟨o1,o2,o3,o,u⟩ (by show 1<=o3;have:=r9;simp only at this;omega) (by show o3<=8;have:=r9;simp only at this;omega);have wT:=Ax wC;have HX:Hid (Bc 7 d (⟨⟨1,tt,f,i,j⟩,o,u⟩::q)=Cc d q fun q'=>Gj ⟨o1,o2,o3,o,u⟩ [] (d+1) q'):=Ax (by rw[B3];simp only[T,M]);simp only[Option.isSome_some];clear hcc M T r9 wC ih;go_wp2_with fail;refine wT.out.mono ?_;rintro e V7 i7;rw[←HX.out] at i7;cases hq7:Bc 7 d (⟨⟨1,tt,f,i,j⟩,o,u⟩::q) with
    |error p7=>
     obtain⟨er,q7⟩:=p7;rw[hq7] at i7
     have HE:Hid (B5 w B X b (.slice (some ⟨g,0,none⟩) ts.length c) ts d N y (.error (er,q7)) (D2 er) V7):=Ax (by
      exact⟨rfl,i7.2.1,(Rch.of_below N f8.out).err i7.2.2⟩)
     obtain⟨rfl,_,_⟩:=i7;clear hq7 HX;exact zzh
    |ok p7=>
     obtain⟨a7,q7⟩:=p7;rw[hq7] at i7;obtain⟨rfl,v7,j8,uU⟩:=i7
     have HE:Hid (B5 w B X b (.slice (some ⟨g,0,none⟩) ts.length c) ts d N y (Bc 7 d (⟨⟨1,tt,f,i,j⟩,o,u⟩::q)) (.returned (.int .i64 ((y.length+a7.size - 1:Nat):Int))) V7):=Ax (by
      rw[hq7]
      exact⟨rfl,v7,j8,(Rch.of_below N f8.out).trans uU⟩)
     clear j8 uU hq7 HX;exact zy9
   |none=>
    simp only[Option.isSome_none];have M:Eh ⟨⟨1,tt,f,i,j⟩,o,u⟩=none:=by simp [Eh,hcc]
    cases hll:K7 tt with
    |none=>
     have T:Dk ⟨⟨1,tt,f,i,j⟩,o,u⟩=none:=by simp [Dk,hcc,hll]
     have uV:(⟨⟨1,tt,f,i,j⟩,o,u⟩:Tkn)∈ts:=by
      have:=H.out.suf.at_drop
      exact List.mem_of_mem_drop (this▸Ai)
     have uW:tt≠[40]:=H.out.nam _ uV rfl;have uX:isH [40] (⟨⟨1,tt,f,i,j⟩,o,u⟩::q)=false:=by simp [isH,uW]
     have HE:Hid (B5 w B X b (.slice (some ⟨g,0,none⟩) ts.length c) ts d N y (Bc 7 d (⟨⟨1,tt,f,i,j⟩,o,u⟩::q)) (D2 4) Y):=Ax (by
      rw[B3];simp only[T,M];unfold Cc;rw[uX]
      exact⟨rfl,(H.out.below f8.out).err,Bb.of_below f8.out _⟩)
     have vH:vV=false:=by rw[←y8.out,hll];rfl
     subst vH;clear T uV uW uX M hcc hll ih hk H vE y8;exact zzh
    |some lv=>
     have T:Dk ⟨⟨1,tt,f,i,j⟩,o,u⟩=some ⟨1,lv,[],o,u⟩:=by simp [Dk,hcc,hll]
     have vH:vV=true:=by rw[←y8.out,hll];rfl
     subst vH;have l7:lv=(b7,b8,d8):=by rw[←vE.out,hll];rfl
     subst l7;have wU:=Ax T;have R:=f8;have HN2:=wS;clear T M hcc hll ih vE y8;go_wp2_with fail;go_region;obtain⟨D,hW3⟩:∃D,((((Y.setCell ⟨V.heap.size+1,0,none⟩ (.int .u8 1)).setCell ⟨V.heap.size+1,1,none⟩ (.int .u8 b7)).setCell ⟨V.heap.size+1,2,none⟩ (.int .i64 b8)).setCell ⟨V.heap.size+1,3,none⟩ (.string ⟨d8.toArray⟩)).drew=D:=⟨_,rfl⟩
     have E:Bb [V.heap.size+1] Y D:=by
      rw[←hW3];exact Bb.drew ((((A3 Y _ _ _).setCell (.inl rI) _).setCell (.inl rI) _).setCell (.inl rI) _)
     have F:D.heap[V.heap.size+1]? =some (.cells #[.int .u8 1,.int .u8 b7,.int .i64 b8,.string ⟨d8.toArray⟩,.string ⟨#[]⟩,.slice none 0 0,.int .i64 o,.int .i64 u] 43 (0,0)):=by
      exact zxq
     rw[hW3];have x:Below w.heap.size w D:=Bq f8.out E rM rF;have A:=H.out.below x;obtain⟨c0,c1,c2,c3,W⟩:=Dn A.blk;have k8:=W 1;obtain⟨C,v⟩:=Kd hB x H.out (h:=⟨1,(b7,b8,d8),[],o,u⟩) F;obtain⟨W4,G⟩:∃W4,D.setCell ⟨b,1,none⟩ (.int .i64 (((ts.length - (q.length+1):Nat):Int)+1))=W4:=⟨_,rfl⟩;rw[G] at C v;simp only[List.toArray] at v;obtain⟨m0,m1,m2,m3,m4,m5,m6,m7,_⟩:=A6 C;have I:=Ax v;have HX:Hid (Bc 7 d (⟨⟨1,tt,f,i,j⟩,o,u⟩::q)= .ok (.mk ⟨1,(b7,b8,d8),[],o,u⟩ [],q)):=Ax (by rw[B3];simp only[wU.out]);clear C v F E x A W hW3;go_wp2_with fail;refine I.out.mono ?_;rintro e Y ⟨rfl,v6,hr6,hch6⟩
     have HE:Hid (B5 w B X b (.slice (some ⟨g,0,none⟩) ts.length c) ts d N y (Bc 7 d (⟨⟨1,tt,f,i,j⟩,o,u⟩::q)) (.returned (.int .i64 (y.length:Int))) Y):=Ax (by
      exact zw0)
     clear hr6 hch6 I HX G;exact zy9
  have T:Dk ⟨⟨O,tt,f,i,j⟩,o,u⟩=none:=by simp [Dk,hk4,hk2,hk3,hk1]
  have M:Eh ⟨⟨O,tt,f,i,j⟩,o,u⟩=none:=by simp [Eh,hk1]
  have HX:Hid (Bc 7 d (⟨⟨O,tt,f,i,j⟩,o,u⟩::q)=Cc d (⟨⟨O,tt,f,i,j⟩,o,u⟩::q) fun q'=>(Bc 0 (d+1) q').next D4):=Ax (by rw[B3];simp only[T,M]);have j4:(O==4)=false:=by simp at hk4 ⊢;omega
  have j5:(O==5)=false:=by simp at hk4 ⊢;omega
  have j6:(O==6)=false:=by simp at hk4 ⊢;omega
  have j2:(O==2)=false:=by simpa using hk2
  have j3:(O==3)=false:=by simpa using hk3
  have j1:(O==1)=false:=by simpa using hk1
  have wD:=Lp vC.out [40];have wE:=Ax wD;have HI:=Ax ih;clear hk4 hk2 hk3 hk1 T M wD ih n0 n1 n2 n3 n4 n5 n6 n7 vR vS vT vU wQ HN2 f1 f2 f3 f4 f5 f6 f9;go_wp2_with fail;refine wE.out.mono ?_;rintro e V3 ⟨rfl,a8⟩;have x:=R.out.trans (a8.mono R.out.size);have A:=H.out.below x;have s7:=Ax x;clear a8 x wE vC R f0 u5 u6;by_cases ho:isH [40] (⟨⟨O,tt,f,i,j⟩,o,u⟩::q)=true
  ·rw[ho];by_cases hd:d=12
   ·have s8:=Ax (Px (hd▸A))
    have HE:Hid (B5 w B X b (.slice (some ⟨g,0,none⟩) ts.length c) ts d N y (Bc 7 d (⟨⟨O,tt,f,i,j⟩,o,u⟩::q)) (D2 12) V3):=Ax (by
     rw[HX.out];unfold Cc;rw[Ap ho,Ap hd]
     exact⟨rfl,A.err,Bb.of_below s7.out _⟩)
    clear A HX s7 hd ho;go_wp2_with fail;refine s8.out.mono ?_;rintro e V4 ⟨rfl,rfl⟩;clear s8;exact zzh
   have s8:=Ax (Re A hd);have hx:=HX.out;unfold Cc at hx;rw[Ap ho,Ao hd,List.tail_cons] at hx;have s9:=Ax hx;have HO:=Ax ho;have wZ:=H.out.hd;clear A HX hx ho;go_wp2_with fail;refine s8.out.mono ?_;rintro e V4 ⟨rfl,wF,wG⟩;have L:=I3 wF [40];rw[HO.out] at L;simp only[if_true,List.tail_cons] at L;have U:=Ax L;have wH:=Ax wG;clear L wG wF s8;go_wp2_with fail;refine U.out.mono ?_;rintro e V5 ⟨rfl,wI,wJ⟩;have w7:Rch b w N V5 N:=(Rch.of_below N s7.out).trans (Rch.of_only N (wH.out.trans wJ));have wK:Calls Tryz.prog 89 #[.pointer (some ⟨b,0,none⟩),.int .i64 0] V5 _:=HI.out X 0 (d+1) q V5 N y rF sN wI (Al hB w7.only.size);have wV:=Ax wK;have w8:=Ax w7;clear wI wJ wK w7 U wH s7;go_wp2_with fail;refine wV.out.mono ?_;rintro e Y Z;cases hq6:Bc 0 (d+1) q with
   |error p=>
    obtain⟨er,q6⟩:=p;rw[hq6] at Z
    have HE:Hid (B5 w B X b (.slice (some ⟨g,0,none⟩) ts.length c) ts d N y (Bc 7 d (⟨⟨O,tt,f,i,j⟩,o,u⟩::q)) (D2 er) Y):=Ax (by
     rw[s9.out,hq6];obtain⟨_,h2,h3⟩:=B5.pre Z w8.out
     exact⟨rfl,h2,h3⟩)
    obtain⟨rfl,_,_⟩:=Z;clear hq6 s9 w8;exact zzh
   |ok p=>
    obtain⟨bx,q6⟩:=p;rw[hq6] at Z;obtain⟨rfl,v6,Z,hch6⟩:=Z;have M:=w8.out.trans hch6;have hx:=s9.out;rw[hq6] at hx;simp only[ExR.next] at hx;unfold D4 at hx;have L:=I3 Z [41];obtain⟨m,hm⟩:∃m,isH [41] q6=m:=⟨_,rfl⟩;rw[hm] at L hx;cases m with
    |false=>
     simp only[Bool.false_eq_true,if_false] at L hx;have U:=Ax L;have uR:=Ax hx;have HC:=Ax M;have wW:=Ax Z;clear Z hch6 M hx L hm hq6 s9 w8;go_wp2_with fail;refine U.out.mono ?_;rintro e V7 ⟨rfl,vI⟩
     have HE:Hid (B5 w B X b (.slice (some ⟨g,0,none⟩) ts.length c) ts d N y (Bc 7 d (⟨⟨O,tt,f,i,j⟩,o,u⟩::q)) (D2 4) V7):=Ax (by
      rw[uR.out]
      exact⟨rfl,(wW.out.below vI).err,HC.out.err (Bb.of_below vI _)⟩)
     clear vI U;exact zzh
    |true=>
     simp only[if_true] at L hx;have U:=Ax L;have uR:=Ax hx;have HC:=Ax M;clear Z hch6 M hx L hm hq6 s9 w8;go_wp2_with fail;refine U.out.mono ?_;rintro e V7 ⟨rfl,j8,wL⟩;obtain⟨e0,e1,e2,e3,ef⟩:=Dn j8.blk;have xG:=ef 2;have vJ:=j8.deep (d':=d) rF;have vK:=A3 V7 b 2 (.int .i64 (d:Int));obtain⟨V8,wX⟩:∃V8,V7.setCell ⟨b,2,none⟩ (.int .i64 (d:Int))=V8:=⟨_,rfl⟩;rw[wX] at vJ vK
     have HE:Hid (B5 w B X b (.slice (some ⟨g,0,none⟩) ts.length c) ts d N y (Bc 7 d (⟨⟨O,tt,f,i,j⟩,o,u⟩::q)) (.returned (.int .i64 ((y.length+bx.size - 1:Nat):Int))) V8):=Ax (by
      rw[uR.out]
      exact⟨rfl,v6,vJ,HC.out.trans (Rch.of_only v6 (wL.trans vK))⟩)
     clear j8 wL vJ vK U HC uR ef;exact zy9
  have HO:Hid (isH [40] (⟨⟨O,tt,f,i,j⟩,o,u⟩::q)=false):=Ax (by simpa using ho);rw[HO.out];have L:=I3 A [40];rw[HO.out] at L;simp only[Bool.false_eq_true,if_false] at L;have U:=Ax L;have wM:=Ax A;clear A L ho;go_wp2_with fail;refine U.out.mono ?_;rintro e V4 ⟨rfl,i6⟩
  have HE:Hid (B5 w B X b (.slice (some ⟨g,0,none⟩) ts.length c) ts d N y (Bc 7 d (⟨⟨O,tt,f,i,j⟩,o,u⟩::q)) (D2 4) V4):=Ax (by
   rw[HX.out];unfold Cc;rw[HO.out]
   exact⟨rfl,(wM.out.below i6).err,(Rch.of_below N s7.out).err (Bb.of_below i6 _)⟩)
  clear i6 U HX wM;exact zzh
open Go Go.RowKit
theorem B5.back {w W:World}{B b d:Nat}{X:List Nat}{g f:Value}{ts:List Tkn}{c:List Nd}{x:ExR}{e:Ending}{w':World}(i:Below w.heap.size w W)(h:B5 W B X b g ts d f c x e w'):B5 w B X b g ts d f c x e w':=by
 cases x with
 |error p=>exact⟨h.1,h.2.1,(Rch.of_below f i).err h.2.2⟩
 |ok p=>
  obtain⟨j,k,m,n⟩:=h;exact⟨j,k,m,(Rch.of_below f i).trans n⟩
theorem pV {k B b:Nat}{X:List Nat}{i:Value}{ts:List Tkn}(j:K5 k B b i ts){d:Nat}{r:List Tkn}{w:World}{o:Value}{c:List Nd}(u:Bu (.lvl 0) r<=k)(h:Cy w B X b i ts r d o c)(x:B<=w.heap.size):
 Calls Tryz.prog 148 #[.pointer (some ⟨b,0,none⟩)] w (B5 w B X b i ts d o c (Bc 0 d r)):=by
 have f:Below w.heap.size w (w.alloc (.cells #[.string ⟨#[111,114]⟩,.int .u8 4] 228)):=(Aq _ w).alloc (Ak _) _
 have v:Calls Tryz.prog 201 #[.pointer (some ⟨b,0,none⟩),.int .i64 0,.bool true,.slice (some ⟨w.heap.size,0,none⟩) 1 1] (w.alloc (.cells #[.string ⟨#[111,114]⟩,.int .u8 4] 228)) _:=
  (Oa j (n:=0) rH rH u (h.below f) (Al x f.size) (l:=[([111,114],4)]) (g:=w.heap.size) (m:=1) rfl rfl rH (Az w _) true (by show _=_;rfl)).mono fun e w' q=>B5.back f q
 have y:=Ax v;clear v f h u j;go_enter Tryz.func148,Tryz.ntmps148;go_wp2_with fail;refine y.out.mono ?_;rintro e V hp;cases hq:Bc 0 d r with
 |error p=>
  exact zzo
 |ok p=>
  exact zzr
theorem oH {k B b:Nat}{X:List Nat}{i:Value}{ts:List Tkn}(j:K5 k B b i ts){d:Nat}{r:List Tkn}{w:World}{o:Value}{c:List Nd}(u:Bu (.lvl 1) r<=k)(h:Cy w B X b i ts r d o c)(x:B<=w.heap.size):
 Calls Tryz.prog 149 #[.pointer (some ⟨b,0,none⟩)] w (B5 w B X b i ts d o c (Bc 1 d r)):=by
 have f:Below w.heap.size w (w.alloc (.cells #[.string ⟨#[97,110,100]⟩,.int .u8 5] 228)):=(Aq _ w).alloc (Ak _) _
 have v:Calls Tryz.prog 201 #[.pointer (some ⟨b,0,none⟩),.int .i64 1,.bool true,.slice (some ⟨w.heap.size,0,none⟩) 1 1] (w.alloc (.cells #[.string ⟨#[97,110,100]⟩,.int .u8 5] 228)) _:=
  (Oa j (n:=1) rH rH u (h.below f) (Al x f.size) (l:=[([97,110,100],5)]) (g:=w.heap.size) (m:=1) rfl rfl rH (Az w _) true (by show _=_;rfl)).mono fun e w' q=>B5.back f q
 have y:=Ax v;clear v f h u j;go_enter Tryz.func149,Tryz.ntmps149;go_wp2_with fail;refine y.out.mono ?_;rintro e V hp;cases hq:Bc 1 d r with
 |error p=>
  exact zzo
 |ok p=>
  exact zzr
theorem oQ {k B b:Nat}{X:List Nat}{i:Value}{ts:List Tkn}(j:K5 k B b i ts){d:Nat}{r:List Tkn}{w:World}{o:Value}{c:List Nd}(u:Bu (.lvl 3) r<=k)(h:Cy w B X b i ts r d o c)(x:B<=w.heap.size):
 Calls Tryz.prog 151 #[.pointer (some ⟨b,0,none⟩)] w (B5 w B X b i ts d o c (Bc 3 d r)):=by
 have f:Below w.heap.size w (w.alloc (.cells #[.string ⟨#[61]⟩,.int .u8 7,.string ⟨#[60,62]⟩,.int .u8 8,.string ⟨#[60]⟩,.int .u8 9,.string ⟨#[60,61]⟩,.int .u8 10,.string ⟨#[62]⟩,.int .u8 11,.string ⟨#[62,61]⟩,.int .u8 12] 228)):=(Aq _ w).alloc (Ak _) _
 have v:Calls Tryz.prog 201 #[.pointer (some ⟨b,0,none⟩),.int .i64 3,.bool false,.slice (some ⟨w.heap.size,0,none⟩) 6 6] (w.alloc (.cells #[.string ⟨#[61]⟩,.int .u8 7,.string ⟨#[60,62]⟩,.int .u8 8,.string ⟨#[60]⟩,.int .u8 9,.string ⟨#[60,61]⟩,.int .u8 10,.string ⟨#[62]⟩,.int .u8 11,.string ⟨#[62,61]⟩,.int .u8 12] 228)) _:=
  (Oa j (n:=3) rH rH u (h.below f) (Al x f.size) (l:=[([61],7),([60,62],8),([60],9),([60,61],10),([62],11),([62,61],12)]) (g:=w.heap.size) (m:=6) rfl rfl rH (Az w _) false (by show _=_;rfl)).mono fun e w' q=>B5.back f q
 have y:=Ax v;clear v f h u j;go_enter Tryz.func151,Tryz.ntmps151;go_wp2_with fail;refine y.out.mono ?_;rintro e V hp;cases hq:Bc 3 d r with
 |error p=>
  exact zzo
 |ok p=>
  exact zzr
theorem oK {k B b:Nat}{X:List Nat}{i:Value}{ts:List Tkn}(j:K5 k B b i ts){d:Nat}{r:List Tkn}{w:World}{o:Value}{c:List Nd}(u:Bu (.lvl 4) r<=k)(h:Cy w B X b i ts r d o c)(x:B<=w.heap.size):
 Calls Tryz.prog 152 #[.pointer (some ⟨b,0,none⟩)] w (B5 w B X b i ts d o c (Bc 4 d r)):=by
 have f:Below w.heap.size w (w.alloc (.cells #[.string ⟨#[43]⟩,.int .u8 13,.string ⟨#[45]⟩,.int .u8 14] 228)):=(Aq _ w).alloc (Ak _) _
 have v:Calls Tryz.prog 201 #[.pointer (some ⟨b,0,none⟩),.int .i64 4,.bool true,.slice (some ⟨w.heap.size,0,none⟩) 2 2] (w.alloc (.cells #[.string ⟨#[43]⟩,.int .u8 13,.string ⟨#[45]⟩,.int .u8 14] 228)) _:=
  (Oa j (n:=4) rH rH u (h.below f) (Al x f.size) (l:=[([43],13),([45],14)]) (g:=w.heap.size) (m:=2) rfl rfl rH (Az w _) true (by show _=_;rfl)).mono fun e w' q=>B5.back f q
 have y:=Ax v;clear v f h u j;go_enter Tryz.func152,Tryz.ntmps152;go_wp2_with fail;refine y.out.mono ?_;rintro e V hp;cases hq:Bc 4 d r with
 |error p=>
  exact zzo
 |ok p=>
  exact zzr
theorem lV {k B b:Nat}{X:List Nat}{i:Value}{ts:List Tkn}(j:K5 k B b i ts){d:Nat}{r:List Tkn}{w:World}{o:Value}{c:List Nd}(u:Bu (.lvl 5) r<=k)(h:Cy w B X b i ts r d o c)(x:B<=w.heap.size):
 Calls Tryz.prog 153 #[.pointer (some ⟨b,0,none⟩)] w (B5 w B X b i ts d o c (Bc 5 d r)):=by
 have f:Below w.heap.size w (w.alloc (.cells #[.string ⟨#[42]⟩,.int .u8 15,.string ⟨#[47]⟩,.int .u8 16] 228)):=(Aq _ w).alloc (Ak _) _
 have v:Calls Tryz.prog 201 #[.pointer (some ⟨b,0,none⟩),.int .i64 5,.bool true,.slice (some ⟨w.heap.size,0,none⟩) 2 2] (w.alloc (.cells #[.string ⟨#[42]⟩,.int .u8 15,.string ⟨#[47]⟩,.int .u8 16] 228)) _:=
  (Oa j (n:=5) rH rH u (h.below f) (Al x f.size) (l:=[([42],15),([47],16)]) (g:=w.heap.size) (m:=2) rfl rfl rH (Az w _) true (by show _=_;rfl)).mono fun e w' q=>B5.back f q
 have y:=Ax v;clear v f h u j;go_enter Tryz.func153,Tryz.ntmps153;go_wp2_with fail;refine y.out.mono ?_;rintro e V hp;cases hq:Bc 5 d r with
 |error p=>
  exact zzo
 |ok p=>
  exact zzr
theorem oI {k B b:Nat}{X:List Nat}{f:Value}{ts:List Tkn}(g:K5 k B b f ts){d:Nat}{r:List Tkn}{w:World}{i:Value}{c:List Nd}(j:Bu (.lvl 2) r<=k)(h:Cy w B X b f ts r d i c)(o:B<=w.heap.size):
 Calls Tryz.prog 150 #[.pointer (some ⟨b,0,none⟩)] w (B5 w B X b f ts d i c (Bc 2 d r)):=by
 have m:Calls Tryz.prog 202 #[.pointer (some ⟨b,0,none⟩),.int .i64 2,.string ⟨#[110,111,116]⟩,.int .u8 6] w _:=Tg g (n:=2) rH j h o [110,111,116] rfl 6 rfl;have u:=Ax m;clear m h j g;go_enter Tryz.func150,Tryz.ntmps150;go_wp2_with fail;refine u.out.mono ?_;rintro e V hp;cases hq:Bc 2 d r with
 |error p=>
  exact zzo
 |ok p=>
  exact zzr
theorem fX {k B b:Nat}{X:List Nat}{f:Value}{ts:List Tkn}(g:K5 k B b f ts){d:Nat}{r:List Tkn}{w:World}{i:Value}{c:List Nd}(j:Bu (.lvl 6) r<=k)(h:Cy w B X b f ts r d i c)(o:B<=w.heap.size):
 Calls Tryz.prog 154 #[.pointer (some ⟨b,0,none⟩)] w (B5 w B X b f ts d i c (Bc 6 d r)):=by
 have m:Calls Tryz.prog 202 #[.pointer (some ⟨b,0,none⟩),.int .i64 6,.string ⟨#[45]⟩,.int .u8 17] w _:=Tg g (n:=6) rH j h o [45] rfl 17 rfl;have u:=Ax m;clear m h j g;go_enter Tryz.func154,Tryz.ntmps154;go_wp2_with fail;refine u.out.mono ?_;rintro e V hp;cases hq:Bc 6 d r with
 |error p=>
  exact zzo
 |ok p=>
  exact zzr
theorem Zz (c d e f g h i j:Value)(w:World):(Instr.index 190 (.agg #[c,d,e,f,g,h,i,j]) (.int .i64 0)).run Tryz.prog w= .ok c w:=by kernel_rfl
theorem Y7 (d c e f g h i j:Value)(w:World):(Instr.index 190 (.agg #[d,c,e,f,g,h,i,j]) (.int .i64 1)).run Tryz.prog w= .ok c w:=by kernel_rfl
theorem aK (d e c f g h i j:Value)(w:World):(Instr.index 190 (.agg #[d,e,c,f,g,h,i,j]) (.int .i64 2)).run Tryz.prog w= .ok c w:=by kernel_rfl
theorem bE (d e f c g h i j:Value)(w:World):(Instr.index 190 (.agg #[d,e,f,c,g,h,i,j]) (.int .i64 3)).run Tryz.prog w= .ok c w:=by kernel_rfl
theorem bB (d e f g c h i j:Value)(w:World):(Instr.index 190 (.agg #[d,e,f,g,c,h,i,j]) (.int .i64 4)).run Tryz.prog w= .ok c w:=by kernel_rfl
theorem Zh (d e f g h c i j:Value)(w:World):(Instr.index 190 (.agg #[d,e,f,g,h,c,i,j]) (.int .i64 5)).run Tryz.prog w= .ok c w:=by kernel_rfl
theorem Z8 (d e f g h i c j:Value)(w:World):(Instr.index 190 (.agg #[d,e,f,g,h,i,c,j]) (.int .i64 6)).run Tryz.prog w= .ok c w:=by kernel_rfl
theorem Z9 (d e f g h i j c:Value)(w:World):(Instr.index 190 (.agg #[d,e,f,g,h,i,j,c]) (.int .i64 7)).run Tryz.prog w= .ok c w:=by kernel_rfl
theorem dK (B b:Nat)(u:Value)(ts:List Tkn):∀k,K5 k B b u ts:=by
 intro k
 induction k with
 |zero=>intro X n d r w v o _ h;exact absurd h (Nat.not_lt_zero _)
 |succ k ih=>
  intro X n d r w v o i j h m;have x:∀(fn:Fn) (first cap:Array Value) (w:World),(Instr.makeFunc fn first cap).run Tryz.prog w= .ok (.func fn first cap) w:=fun _ _ _ _=>rfl
  have c:Bu (.lvl n) r<=k:=by omega
  obtain rfl|rfl|rfl|rfl|rfl|rfl|rfl|rfl:n=0\/n=1\/n=2\/n=3\/n=4\/n=5\/n=6\/n=7:=by omega
  ·have f:=fun W=>Zz (.func (.func 148) #[.pointer (some ⟨b,0,none⟩)] #[]) (.func (.func 149) #[.pointer (some ⟨b,0,none⟩)] #[]) (.func (.func 150) #[.pointer (some ⟨b,0,none⟩)] #[]) (.func (.func 151) #[.pointer (some ⟨b,0,none⟩)] #[]) (.func (.func 152) #[.pointer (some ⟨b,0,none⟩)] #[]) (.func (.func 153) #[.pointer (some ⟨b,0,none⟩)] #[]) (.func (.func 154) #[.pointer (some ⟨b,0,none⟩)] #[]) (.func (.func 155) #[.pointer (some ⟨b,0,none⟩)] #[]) W
   have g:=Ax (pV ih c h m);clear h j c ih i;go_enter Tryz.func89,Tryz.ntmps89;go_wp2_with fail;refine g.out.mono ?_;rintro e V hp;cases hq:Bc 0 d r with
   |error p=>
    exact zzo
   |ok p=>
    exact zzr
  ·have f:=fun W=>Y7 (.func (.func 148) #[.pointer (some ⟨b,0,none⟩)] #[]) (.func (.func 149) #[.pointer (some ⟨b,0,none⟩)] #[]) (.func (.func 150) #[.pointer (some ⟨b,0,none⟩)] #[]) (.func (.func 151) #[.pointer (some ⟨b,0,none⟩)] #[]) (.func (.func 152) #[.pointer (some ⟨b,0,none⟩)] #[]) (.func (.func 153) #[.pointer (some ⟨b,0,none⟩)] #[]) (.func (.func 154) #[.pointer (some ⟨b,0,none⟩)] #[]) (.func (.func 155) #[.pointer (some ⟨b,0,none⟩)] #[]) W
   have g:=Ax (oH ih c h m);clear h j c ih i;go_enter Tryz.func89,Tryz.ntmps89;go_wp2_with fail;refine g.out.mono ?_;rintro e V hp;cases hq:Bc 1 d r with
   |error p=>
    exact zzo
   |ok p=>
    exact zzr
  ·have f:=fun W=>aK (.func (.func 148) #[.pointer (some ⟨b,0,none⟩)] #[]) (.func (.func 149) #[.pointer (some ⟨b,0,none⟩)] #[]) (.func (.func 150) #[.pointer (some ⟨b,0,none⟩)] #[]) (.func (.func 151) #[.pointer (some ⟨b,0,none⟩)] #[]) (.func (.func 152) #[.pointer (some ⟨b,0,none⟩)] #[]) (.func (.func 153) #[.pointer (some ⟨b,0,none⟩)] #[]) (.func (.func 154) #[.pointer (some ⟨b,0,none⟩)] #[]) (.func (.func 155) #[.pointer (some ⟨b,0,none⟩)] #[]) W
   have g:=Ax (oI ih c h m);clear h j c ih i;go_enter Tryz.func89,Tryz.ntmps89;go_wp2_with fail;refine g.out.mono ?_;rintro e V hp;cases hq:Bc 2 d r with
   |error p=>
    exact zzo
   |ok p=>
    exact zzr
  ·have f:=fun W=>bE (.func (.func 148) #[.pointer (some ⟨b,0,none⟩)] #[]) (.func (.func 149) #[.pointer (some ⟨b,0,none⟩)] #[]) (.func (.func 150) #[.pointer (some ⟨b,0,none⟩)] #[]) (.func (.func 151) #[.pointer (some ⟨b,0,none⟩)] #[]) (.func (.func 152) #[.pointer (some ⟨b,0,none⟩)] #[]) (.func (.func 153) #[.pointer (some ⟨b,0,none⟩)] #[]) (.func (.func 154) #[.pointer (some ⟨b,0,none⟩)] #[]) (.func (.func 155) #[.pointer (some ⟨b,0,none⟩)] #[]) W
   have g:=Ax (oQ ih c h m);clear h j c ih i;go_enter Tryz.func89,Tryz.ntmps89;go_wp2_with fail;refine g.out.mono ?_;rintro e V hp;cases hq:Bc 3 d r with
   |error p=>
    exact zzo
   |ok p=>
    exact zzr
  ·have f:=fun W=>bB (.func (.func 148) #[.pointer (some ⟨b,0,none⟩)] #[]) (.func (.func 149) #[.pointer (some ⟨b,0,none⟩)] #[]) (.func (.func 150) #[.pointer (some ⟨b,0,none⟩)] #[]) (.func (.func 151) #[.pointer (some ⟨b,0,none⟩)] #[]) (.func (.func 152) #[.pointer (some ⟨b,0,none⟩)] #[]) (.func (.func 153) #[.pointer (some ⟨b,0,none⟩)] #[]) (.func (.func 154) #[.pointer (some ⟨b,0,none⟩)] #[]) (.func (.func 155) #[.pointer (some ⟨b,0,none⟩)] #[]) W
   have g:=Ax (oK ih c h m);clear h j c ih i;go_enter Tryz.func89,Tryz.ntmps89;go_wp2_with fail;refine g.out.mono ?_;rintro e V hp;cases hq:Bc 4 d r with
   |error p=>
    exact zzo
   |ok p=>
    exact zzr
  ·have f:=fun W=>Zh (.func (.func 148) #[.pointer (some ⟨b,0,none⟩)] #[]) (.func (.func 149) #[.pointer (some ⟨b,0,none⟩)] #[]) (.func (.func 150) #[.pointer (some ⟨b,0,none⟩)] #[]) (.func (.func 151) #[.pointer (some ⟨b,0,none⟩)] #[]) (.func (.func 152) #[.pointer (some ⟨b,0,none⟩)] #[]) (.func (.func 153) #[.pointer (some ⟨b,0,none⟩)] #[]) (.func (.func 154) #[.pointer (some ⟨b,0,none⟩)] #[]) (.func (.func 155) #[.pointer (some ⟨b,0,none⟩)] #[]) W
   have g:=Ax (lV ih c h m);clear h j c ih i;go_enter Tryz.func89,Tryz.ntmps89;go_wp2_with fail;refine g.out.mono ?_;rintro e V hp;cases hq:Bc 5 d r with
   |error p=>
    exact zzo
   |ok p=>
    exact zzr
  ·have f:=fun W=>Z8 (.func (.func 148) #[.pointer (some ⟨b,0,none⟩)] #[]) (.func (.func 149) #[.pointer (some ⟨b,0,none⟩)] #[]) (.func (.func 150) #[.pointer (some ⟨b,0,none⟩)] #[]) (.func (.func 151) #[.pointer (some ⟨b,0,none⟩)] #[]) (.func (.func 152) #[.pointer (some ⟨b,0,none⟩)] #[]) (.func (.func 153) #[.pointer (some ⟨b,0,none⟩)] #[]) (.func (.func 154) #[.pointer (some ⟨b,0,none⟩)] #[]) (.func (.func 155) #[.pointer (some ⟨b,0,none⟩)] #[]) W
   have g:=Ax (fX ih c h m);clear h j c ih i;go_enter Tryz.func89,Tryz.ntmps89;go_wp2_with fail;refine g.out.mono ?_;rintro e V hp;cases hq:Bc 6 d r with
   |error p=>
    exact zzo
   |ok p=>
    exact zzr
  have f:=fun W=>Z9 (.func (.func 148) #[.pointer (some ⟨b,0,none⟩)] #[]) (.func (.func 149) #[.pointer (some ⟨b,0,none⟩)] #[]) (.func (.func 150) #[.pointer (some ⟨b,0,none⟩)] #[]) (.func (.func 151) #[.pointer (some ⟨b,0,none⟩)] #[]) (.func (.func 152) #[.pointer (some ⟨b,0,none⟩)] #[]) (.func (.func 153) #[.pointer (some ⟨b,0,none⟩)] #[]) (.func (.func 154) #[.pointer (some ⟨b,0,none⟩)] #[]) (.func (.func 155) #[.pointer (some ⟨b,0,none⟩)] #[]) W
  have g:=Ax (iP ih c h m);clear h j c ih i;go_enter Tryz.func89,Tryz.ntmps89;go_wp2_with fail;refine g.out.mono ?_;rintro e V hp;cases hq:Bc 7 d r with
  |error p=>
   exact zzo
  |ok p=>
   exact zzr
end Go.Proofs.YtgfakdobajgnfaaGreatDoor
