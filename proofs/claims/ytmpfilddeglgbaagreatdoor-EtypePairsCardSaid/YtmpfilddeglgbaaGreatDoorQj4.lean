import Derived.Test.YtmpfilddeglgbaaGreatDoorQj3
set_option maxRecDepth 100000
set_option maxHeartbeats 16000000
namespace Go.Proofs.YtmpfilddeglgbaaGreatDoor
open Go Go.RowKit
theorem Gv {w:World}{b:Nat}{x0 x1 x2 x3 x4 x5 x6:Value}{t:TypeId}(h:w.heap[b]? =some (.cells #[x0,x1,x2,x3,x4,x5,x6] t (0,0))):
 w.cell? ⟨b,0,none⟩=some x0/\w.cell? ⟨b,1,none⟩=some x1/\w.cell? ⟨b,2,none⟩=some x2/\w.cell? ⟨b,3,none⟩=some x3/\w.cell? ⟨b,4,none⟩=some x4/\w.cell? ⟨b,5,none⟩=some x5/\w.cell? ⟨b,6,none⟩=some x6:=
 ⟨by simp only[World.cell?,h];rfl,by simp only[World.cell?,h];rfl,by simp only[World.cell?,h];rfl,by simp only[World.cell?,h];rfl,by simp only[World.cell?,h];rfl,by simp only[World.cell?,h];rfl,by simp only[World.cell?,h];rfl⟩
theorem B1 {w:World}{b:Nat}{x0 x1 x2 x3 x4 x5 x6 x7:Value}{t:TypeId}(h:w.heap[b]? =some (.cells #[x0,x1,x2,x3,x4,x5,x6,x7] t (0,0))):
 w.cell? ⟨b,0,none⟩=some x0/\w.cell? ⟨b,1,none⟩=some x1/\w.cell? ⟨b,2,none⟩=some x2/\w.cell? ⟨b,3,none⟩=some x3/\w.cell? ⟨b,4,none⟩=some x4/\w.cell? ⟨b,5,none⟩=some x5/\w.cell? ⟨b,6,none⟩=some x6/\w.cell? ⟨b,7,none⟩=some x7/\∀i,w.frozen? ⟨b,i,none⟩=false:=
 ⟨by simp only[World.cell?,h];rfl,by simp only[World.cell?,h];rfl,by simp only[World.cell?,h];rfl,by simp only[World.cell?,h];rfl,by simp only[World.cell?,h];rfl,by simp only[World.cell?,h];rfl,by simp only[World.cell?,h];rfl,by simp only[World.cell?,h];rfl,fun i=>by simp only[World.frozen?,h];simp⟩
theorem Lg {w W3:World}{B b d pn:Nat}{X:List Nat}{vl vt:Value}{ts q:List Tkn}{t:Tkn}{nds:List Nd}(hB:B<=w.heap.size)(hb3:Below w.heap.size w W3)(hr:Cz w B X b vl ts (t::q) d vt nds){h:Hd}
 (hn:W3.heap[pn]? =some (.cells #[.int .u8 h.op,.int .u8 h.v.1,.int .i64 h.v.2.1,.string ⟨h.v.2.2.toArray⟩,.string ⟨h.name.toArray⟩,.slice none 0 0,.int .i64 h.line,.int .i64 h.col] 38 (0,0))):
 (W3.setCell ⟨b,1,none⟩ (.int .i64 (((ts.length - (q.length+1):Nat):Int)+1))).heap[pn]? =some (.cells #[.int .u8 h.op,.int .u8 h.v.1,.int .i64 h.v.2.1,.string ⟨h.v.2.2.toArray⟩,.string ⟨h.name.toArray⟩,.slice none 0 0,.int .i64 h.line,.int .i64 h.col] 38 (0,0))/\
 Calls Tryz.prog 167 #[.pointer (some ⟨b,0,none⟩),.agg #[.int .u8 h.op,.int .u8 h.v.1,.int .i64 h.v.2.1,.string ⟨h.v.2.2.toArray⟩,.string ⟨h.name.toArray⟩,.slice none 0 0,.int .i64 h.line,.int .i64 h.col],.slice none 0 0]
  (W3.setCell ⟨b,1,none⟩ (.int .i64 (((ts.length - (q.length+1):Nat):Int)+1))) (fun e w'=>e= .returned (.int .i64 (nds.length:Int))/\∃v',Cz w' B X b vl ts q d v' (nds++(Ex.mk h []).flat nds.length)/\Rch b w vt w' v'):=by
 have hr3:=hr.below hb3;have ho:=A3 W3 b 1 (.int .i64 (((ts.length - (q.length+1):Nat):Int)+1));have hch:Rch b w vt (W3.setCell ⟨b,1,none⟩ (.int .i64 (((ts.length - (q.length+1):Nat):Int)+1))) vt:=(Rch.of_below vt hb3).trans (Rch.of_only vt ho);have hfew:=hr.few;simp only[Aa] at hfew;refine⟨ho.cells_of hn fun hm=>?_,?_⟩
 ·simp at hm;subst hm;rw[hr3.blk] at hn;injection hn with hn;injection hn with _ hn;exact absurd hn tG
 refine(Qd hr3.step tE (Al hB hch.only.size) h [] none 0 (World.ownsRow_nil _ _ _ _) (fun x e=>by cases e)).mono ?_;rintro e w' ⟨rfl,v',h1,h2⟩;exact⟨rfl,v',h1,hch.trans h2⟩
theorem jR {k B b:Nat}{X:List Nat}{vl:Value}{ts:List Tkn}(ih:Mc k B b vl ts){d:Nat}{r:List Tkn}{w:World}{vt:Value}{nds:List Nd}(hk:B2 (.lvl 7) r<=k)(h:Cz w B X b vl ts r d vt nds)(hB:B<=w.heap.size):
 Calls Tryz.prog 123 #[.pointer (some ⟨b,0,none⟩)] w (B7 w B X b vl ts d vt nds (A9 7 d r)):=by
 obtain⟨c0,c1,c2,c3,cf⟩:=Dx h.blk;have hl:=h.suf.len;have hbig:=h.big;have hbw:=Ay h.blk;cases r with
 |nil=>
  obtain⟨va,vc,rfl⟩:=h.toks.form;have i0:(ts.length:Int)<=(((ts.length - ([]:List Tkn).length:Nat):Int)):=by simp
  have i1:decide ((ts.length:Int)<=(((ts.length - ([]:List Tkn).length:Nat):Int)))=true:=by simp
  have H:=Ax h
  have hnq:=fun nq=>Ax (show B7 w B X b (.slice va ts.length vc) ts d vt nds (A9 7 d []) (Ee 4) (w.drewN nq) from by
   rw[Bs];have hb:=Bg (Aq w.heap.size w) nq
   exact⟨rfl,(H.out.below hb).err,Bc.of_below hb _⟩)
  clear h hl cf;go_enter Tryz.func123,Tryz.ntmps123;go_wp2_with fail;go_quiet (fail);go_wp2_with fail;exact⟨rfl,(hnq _).out⟩
 |cons t q=>
  obtain⟨g,c,rfl,hg,hlt,t0,t1,t2,t3,t4,t5,t6⟩:=h.head;obtain⟨n,hn⟩:∃n,ts.length - (t::q).length=n:=⟨_,rfl⟩;rw[hn] at c1 hlt t0 t1 t2 t3 t4 t5 t6;have i0:(n:Int)<(ts.length:Int):=by omega
  have i1:decide ((ts.length:Int)<=(n:Int))=false:=by simp;omega
  have i2:(0:Int)<=(n:Int):=by omega
  have H:=Ax h;have Hn:=Ax hn;clear h hl hn cf;go_enter Tryz.func123,Tryz.ntmps123;go_wp2_with fail;go_quiet (fail);go_wp2_with fail;obtain⟨V,hV⟩:∃V,w.drewN nq=V:=⟨_,rfl⟩;have hbV:Below w.heap.size w V:=by rw[←hV];exact Bg (Aq _ w) nq
  have hr:=H.out.below hbV;rw[hV];clear c0 c1 c2 c3 t0 t1 t2 t3 t4 t5 t6 hV;obtain⟨c0,c1,c2,c3,cf⟩:=Dx hr.blk;obtain⟨g',c',e,hg',_,t0,t1,t2,t3,t4,t5,t6⟩:=hr.head;injection e with e1 _ e3;injection e1 with e1;injection e1 with e1;subst e1;subst e3;rw[Hn.out] at c1 t0 t1 t2 t3 t4 t5 t6;have hbw:b<V.drew.heap.size:=Ay hr.blk;have hgw:g<V.drew.heap.size:=hg';have hbw2:b<V.heap.size:=Ay hr.blk;have hgw2:g<V.heap.size:=hg';obtain⟨⟨tk,tt,tv1,tv2,tv3⟩,tl,tc⟩:=t;simp only at t0 t1 t2 t3 t4 t5 t6;have HR:=Ax hr;have HB:=Ax hbV;clear hr hbV cf hg hg';go_region;obtain⟨W1,hW1⟩:∃W1,(V.alloc (.cells #[.int .u8 tk,.string ⟨tt.toArray⟩,.int .u8 tv1,.int .i64 tv2,.string ⟨tv3.toArray⟩,.int .i64 tl,.int .i64 tc] 63)).drew=W1:=⟨_,rfl⟩;have hb1:Below V.heap.size V W1:=by rw[←hW1];exact((Aq _ V).alloc (Ak _) _).drew
  have hz1:W1.heap.size=V.heap.size+1:=by rw[←hW1];show(V.alloc _).heap.size=_;simp
  have ht1:W1.heap[V.heap.size]? =some (.cells #[.int .u8 tk,.string ⟨tt.toArray⟩,.int .u8 tv1,.int .i64 tv2,.string ⟨tv3.toArray⟩,.int .i64 tl,.int .i64 tc] 63 (0,0)):=by rw[←hW1];exact A1 V _
  rw[hW1];obtain⟨_,_,_,_,_,u5,u6⟩:=Gv ht1;have hn2:=A1 W1 (.cells #[.int .u8 0,.int .u8 0,.int .i64 0,.string ⟨#[]⟩,.string ⟨#[]⟩,.slice none 0 0,.int .i64 tl,.int .i64 tc] 38);have hb2:Below W1.heap.size W1 (W1.alloc (.cells #[.int .u8 0,.int .u8 0,.int .i64 0,.string ⟨#[]⟩,.string ⟨#[]⟩,.slice none 0 0,.int .i64 tl,.int .i64 tc] 38)):=(Aq _ W1).alloc (Ak _) _;obtain⟨W2,hW2⟩:∃W2,W1.alloc (.cells #[.int .u8 0,.int .u8 0,.int .i64 0,.string ⟨#[]⟩,.string ⟨#[]⟩,.slice none 0 0,.int .i64 tl,.int .i64 tc] 38)=W2:=⟨_,rfl⟩;rw[hW2] at hn2 hb2;rw[hz1] at hn2;have hzV:w.heap.size<=V.heap.size:=HB.out.size;have hz2:W2.heap.size=V.heap.size+2:=by rw[←hW2];simp [hz1]
  have ht2:=(hb2.block _ (Ay ht1)).trans ht1;have hB2:=HB.out.trans ((hb1.trans (hb2.mono hb1.size)).mono HB.out.size);have HR2:=Ax (H.out.below hB2);have HB2:=Ax hB2;have HT2:=Ax ht2;have HN2:=Ax hn2;clear hb1 ht1 hn2 hb2 ht2 hB2 HR HB hW1 c0 c1 c2 c3 t0 t1 t2 t3 t4 t5 t6 hbw hgw hbw2 hgw2 i0 i1 i2;obtain⟨f0,f1,f2,f3,f4,f5,f6⟩:=Gv HT2.out;obtain⟨n0,n1,n2,n3,n4,n5,n6,n7,nf⟩:=B1 HN2.out;have nf0:=nf 0;have nf1:=nf 1;have nf2:=nf 2;have nf3:=nf 3;have nf4:=nf 4;clear nf;by_cases hk4:tk=4\/tk=5\/tk=6
  ·rcases hk4 with rfl|rfl|rfl
   ·go_wp2_with fail;go_region;obtain⟨W3,hW3⟩:∃W3,((((W2.setCell ⟨V.heap.size+1,0,none⟩ (.int .u8 1)).setCell ⟨V.heap.size+1,1,none⟩ (.int .u8 tv1)).setCell ⟨V.heap.size+1,2,none⟩ (.int .i64 tv2)).setCell ⟨V.heap.size+1,3,none⟩ (.string ⟨tv3.toArray⟩)).drew=W3:=⟨_,rfl⟩
    have hO3:Bc [V.heap.size+1] W2 W3:=by
     exact zxw
    have hn3:W3.heap[V.heap.size+1]? =some (.cells #[.int .u8 1,.int .u8 tv1,.int .i64 tv2,.string ⟨tv3.toArray⟩,.string ⟨#[]⟩,.slice none 0 0,.int .i64 tl,.int .i64 tc] 38 (0,0)):=by
     exact zx7
    rw[hW3];have hB3:Below w.heap.size w W3:=Bv HB2.out hO3 tL tE;have hr3:=H.out.below hB3;obtain⟨c0,c1,c2,c3,cf⟩:=Dx hr3.blk;have cf1:=cf 1;obtain⟨hn4,hnd⟩:=Lg hB hB3 H.out (h:=⟨1,(tv1,tv2,tv3),[],tl,tc⟩) hn3;obtain⟨W4,hW4⟩:∃W4,W3.setCell ⟨b,1,none⟩ (.int .i64 (((ts.length - (q.length+1):Nat):Int)+1))=W4:=⟨_,rfl⟩;rw[hW4] at hn4 hnd;simp only[List.toArray] at hnd;obtain⟨m0,m1,m2,m3,m4,m5,m6,m7,_⟩:=B1 hn4;have HND:=Ax hnd;have HX:Hid (A9 7 d (⟨⟨4,tt,tv1,tv2,tv3⟩,tl,tc⟩::q)= .ok (.mk ⟨1,(tv1,tv2,tv3),[],tl,tc⟩ [],q)):=Ax vD;clear hn4 hnd hn3 hO3 hB3 hr3 cf hW3;go_wp2_with fail;refine HND.out.mono ?_;rintro e V6 ⟨rfl,v6,hr6,hch6⟩
    have HE:Hid (B7 w B X b (.slice (some ⟨g,0,none⟩) ts.length c) ts d vt nds (A9 7 d (⟨⟨4,tt,tv1,tv2,tv3⟩,tl,tc⟩::q)) (.returned (.int .i64 (nds.length:Int))) V6):=Ax (by
     exact zxh)
    clear hr6 hch6 HND HX hW4;exact zzb
   ·go_wp2_with fail;go_region;obtain⟨W3,hW3⟩:∃W3,((((W2.setCell ⟨V.heap.size+1,0,none⟩ (.int .u8 1)).setCell ⟨V.heap.size+1,1,none⟩ (.int .u8 tv1)).setCell ⟨V.heap.size+1,2,none⟩ (.int .i64 tv2)).setCell ⟨V.heap.size+1,3,none⟩ (.string ⟨tv3.toArray⟩)).drew=W3:=⟨_,rfl⟩
    have hO3:Bc [V.heap.size+1] W2 W3:=by
     exact zxw
    have hn3:W3.heap[V.heap.size+1]? =some (.cells #[.int .u8 1,.int .u8 tv1,.int .i64 tv2,.string ⟨tv3.toArray⟩,.string ⟨#[]⟩,.slice none 0 0,.int .i64 tl,.int .i64 tc] 38 (0,0)):=by
     exact zx7
    rw[hW3];have hB3:Below w.heap.size w W3:=Bv HB2.out hO3 tL tE;have hr3:=H.out.below hB3;obtain⟨c0,c1,c2,c3,cf⟩:=Dx hr3.blk;have cf1:=cf 1;obtain⟨hn4,hnd⟩:=Lg hB hB3 H.out (h:=⟨1,(tv1,tv2,tv3),[],tl,tc⟩) hn3;obtain⟨W4,hW4⟩:∃W4,W3.setCell ⟨b,1,none⟩ (.int .i64 (((ts.length - (q.length+1):Nat):Int)+1))=W4:=⟨_,rfl⟩;rw[hW4] at hn4 hnd;simp only[List.toArray] at hnd;obtain⟨m0,m1,m2,m3,m4,m5,m6,m7,_⟩:=B1 hn4;have HND:=Ax hnd;have HX:Hid (A9 7 d (⟨⟨5,tt,tv1,tv2,tv3⟩,tl,tc⟩::q)= .ok (.mk ⟨1,(tv1,tv2,tv3),[],tl,tc⟩ [],q)):=Ax vD;clear hn4 hnd hn3 hO3 hB3 hr3 cf hW3;go_wp2_with fail;refine HND.out.mono ?_;rintro e V6 ⟨rfl,v6,hr6,hch6⟩
    have HE:Hid (B7 w B X b (.slice (some ⟨g,0,none⟩) ts.length c) ts d vt nds (A9 7 d (⟨⟨5,tt,tv1,tv2,tv3⟩,tl,tc⟩::q)) (.returned (.int .i64 (nds.length:Int))) V6):=Ax (by
     exact zxh)
    clear hr6 hch6 HND HX hW4;exact zzb
   go_wp2_with fail;go_region;obtain⟨W3,hW3⟩:∃W3,((((W2.setCell ⟨V.heap.size+1,0,none⟩ (.int .u8 1)).setCell ⟨V.heap.size+1,1,none⟩ (.int .u8 tv1)).setCell ⟨V.heap.size+1,2,none⟩ (.int .i64 tv2)).setCell ⟨V.heap.size+1,3,none⟩ (.string ⟨tv3.toArray⟩)).drew=W3:=⟨_,rfl⟩
   have hO3:Bc [V.heap.size+1] W2 W3:=by
    exact zxw
   have hn3:W3.heap[V.heap.size+1]? =some (.cells #[.int .u8 1,.int .u8 tv1,.int .i64 tv2,.string ⟨tv3.toArray⟩,.string ⟨#[]⟩,.slice none 0 0,.int .i64 tl,.int .i64 tc] 38 (0,0)):=by
    exact zx7
   rw[hW3];have hB3:Below w.heap.size w W3:=Bv HB2.out hO3 tL tE;have hr3:=H.out.below hB3;obtain⟨c0,c1,c2,c3,cf⟩:=Dx hr3.blk;have cf1:=cf 1;obtain⟨hn4,hnd⟩:=Lg hB hB3 H.out (h:=⟨1,(tv1,tv2,tv3),[],tl,tc⟩) hn3;obtain⟨W4,hW4⟩:∃W4,W3.setCell ⟨b,1,none⟩ (.int .i64 (((ts.length - (q.length+1):Nat):Int)+1))=W4:=⟨_,rfl⟩;rw[hW4] at hn4 hnd;simp only[List.toArray] at hnd;obtain⟨m0,m1,m2,m3,m4,m5,m6,m7,_⟩:=B1 hn4;have HND:=Ax hnd;have HX:Hid (A9 7 d (⟨⟨6,tt,tv1,tv2,tv3⟩,tl,tc⟩::q)= .ok (.mk ⟨1,(tv1,tv2,tv3),[],tl,tc⟩ [],q)):=Ax vD;clear hn4 hnd hn3 hO3 hB3 hr3 cf hW3;go_wp2_with fail;refine HND.out.mono ?_;rintro e V6 ⟨rfl,v6,hr6,hch6⟩
   have HE:Hid (B7 w B X b (.slice (some ⟨g,0,none⟩) ts.length c) ts d vt nds (A9 7 d (⟨⟨6,tt,tv1,tv2,tv3⟩,tl,tc⟩::q)) (.returned (.int .i64 (nds.length:Int))) V6):=Ax (by
    exact zxh)
   clear hr6 hch6 HND HX hW4;exact zzb
  by_cases hk2:tk=2
  ·subst hk2;clear hk4;go_wp2_with fail;go_region;obtain⟨W3,hW3⟩:∃W3,((W2.setCell ⟨V.heap.size+1,0,none⟩ (.int .u8 2)).setCell ⟨V.heap.size+1,4,none⟩ (.string ⟨tt.toArray⟩)).drew=W3:=⟨_,rfl⟩
   have hO3:Bc [V.heap.size+1] W2 W3:=by
    rw[←hW3];exact Bc.drew ((A3 W2 _ _ _).setCell (.inl tH) _)
   have hn3:W3.heap[V.heap.size+1]? =some (.cells #[.int .u8 2,.int .u8 0,.int .i64 0,.string ⟨#[]⟩,.string ⟨tt.toArray⟩,.slice none 0 0,.int .i64 tl,.int .i64 tc] 38 (0,0)):=by
    rw[←hW3]
    show(World.setCell _ _ _).heap[_]? =_
    rw[A2 (A2 HN2.out)];rfl
   rw[hW3];have hB3:Below w.heap.size w W3:=Bv HB2.out hO3 tL tE;have hr3:=H.out.below hB3;obtain⟨c0,c1,c2,c3,cf⟩:=Dx hr3.blk;have cf1:=cf 1;obtain⟨hn4,hnd⟩:=Lg hB hB3 H.out (h:=⟨2,v0,tt,tl,tc⟩) hn3;obtain⟨W4,hW4⟩:∃W4,W3.setCell ⟨b,1,none⟩ (.int .i64 (((ts.length - (q.length+1):Nat):Int)+1))=W4:=⟨_,rfl⟩;rw[hW4] at hn4 hnd;simp only[List.toArray] at hnd;obtain⟨m0,m1,m2,m3,m4,m5,m6,m7,_⟩:=B1 hn4;have HND:=Ax hnd;have HX:Hid (A9 7 d (⟨⟨2,tt,tv1,tv2,tv3⟩,tl,tc⟩::q)= .ok (.mk ⟨2,v0,tt,tl,tc⟩ [],q)):=Ax vD;clear hn4 hnd hn3 hO3 hB3 hr3 cf hW3;go_wp2_with fail;refine HND.out.mono ?_;rintro e V6 ⟨rfl,v6,hr6,hch6⟩
   have HE:Hid (B7 w B X b (.slice (some ⟨g,0,none⟩) ts.length c) ts d vt nds (A9 7 d (⟨⟨2,tt,tv1,tv2,tv3⟩,tl,tc⟩::q)) (.returned (.int .i64 (nds.length:Int))) V6):=Ax (by
    exact zxh)
   clear hr6 hch6 HND HX hW4;exact zzb
  by_cases hk3:tk=3
  ·subst hk3;clear hk4 hk2;obtain⟨W3,hW3⟩:∃W3,W2.setCell ⟨V.heap.size+1,0,none⟩ (.int .u8 3)=W3:=⟨_,rfl⟩
   have hO3:Bc [V.heap.size+1] W2 W3:=by
    rw[←hW3];exact A3 W2 _ _ _
   have hn3:W3.heap[V.heap.size+1]? =some (.cells #[.int .u8 3,.int .u8 0,.int .i64 0,.string ⟨#[]⟩,.string ⟨#[]⟩,.slice none 0 0,.int .i64 tl,.int .i64 tc] 38 (0,0)):=by
    rw[←hW3];rw[A2 HN2.out];rfl
   have hB3:Below w.heap.size w W3:=Bv HB2.out hO3 tL tE;have hr3:=H.out.below hB3;obtain⟨c0,c1,c2,c3,cf⟩:=Dx hr3.blk;have cf1:=cf 1;obtain⟨hn4,hnd⟩:=Lg hB hB3 H.out (h:=⟨3,v0,[],tl,tc⟩) hn3;obtain⟨W4,hW4⟩:∃W4,W3.setCell ⟨b,1,none⟩ (.int .i64 (((ts.length - (q.length+1):Nat):Int)+1))=W4:=⟨_,rfl⟩;rw[hW4] at hn4 hnd;simp only[List.toArray] at hnd;obtain⟨m0,m1,m2,m3,m4,m5,m6,m7,_⟩:=B1 hn4;have HND:=Ax hnd;have HX:Hid (A9 7 d (⟨⟨3,tt,tv1,tv2,tv3⟩,tl,tc⟩::q)= .ok (.mk ⟨3,v0,[],tl,tc⟩ [],q)):=Ax vD;clear hn4 hnd hn3 hO3 hB3 hr3 cf;go_wp2_with fail;refine HND.out.mono ?_;rintro e V6 ⟨rfl,v6,hr6,hch6⟩
   have HE:Hid (B7 w B X b (.slice (some ⟨g,0,none⟩) ts.length c) ts d vt nds (A9 7 d (⟨⟨3,tt,tv1,tv2,tv3⟩,tl,tc⟩::q)) (.returned (.int .i64 (nds.length:Int))) V6):=Ax (by
    exact zxh)
   clear hr6 hch6 HND HX hW4;exact zzb
  by_cases hk1:tk=1
  ·subst hk1;clear hk4 hk2 hk3;have hlit:=Yx tt W2;have Hlit:=Ax hlit;clear hlit;go_wp2_with fail;refine Hlit.out.mono ?_;rintro e V3 ⟨rfl,hb3⟩;obtain⟨lv1,lv2,lv3,hlv⟩:∃a b c,(Lf tt).getD v0=(a,b,c):=⟨_,_,_,rfl⟩;rw[hlv];simp only[pR];obtain⟨isl,hisl⟩:∃z,(Lf tt).isSome=z:=⟨_,rfl⟩;rw[hisl];have hb3a:=(Aq V3.heap.size V3).alloc (Ak _) (.cells #[.int .u8 lv1,.int .i64 lv2,.string ⟨lv3.toArray⟩] 35);have h5:=A1 V3 (.cells #[.int .u8 lv1,.int .i64 lv2,.string ⟨lv3.toArray⟩] 35);obtain⟨V4,hV4⟩:∃V4,V3.alloc (.cells #[.int .u8 lv1,.int .i64 lv2,.string ⟨lv3.toArray⟩] 35)=V4:=⟨_,rfl⟩;rw[hV4] at hb3a h5;have hq1:¬V3.heap.size=V.heap.size+1:=by have:=hb3.size;omega
   have hq2:¬V.heap.size+1=V3.heap.size:=by have:=hb3.size;omega
   have hz4:V4.heap.size=V3.heap.size+1:=by rw[←hV4];simp
   have hb4:=hb3.trans (hb3a.mono hb3.size);have hcl:=iR tt V4;have Hcl:=Ax hcl;obtain⟨_,u1,_⟩:=Gv ((hb4.block _ (Ay HT2.out)).trans HT2.out);have HB4:=Ax hb4;have H5:=Ax h5;have HLV:=Ax hlv;have HIS:=Ax hisl;clear hb3 hb3a h5 hb4 hcl Hlit hlv hisl;go_wp2_with fail;refine Hcl.out.mono ?_;rintro e V5 ⟨rfl,hb5⟩;obtain⟨o1,o2,o3,hcv⟩:∃a b c,(De tt).getD (0,0,0)=(a,b,c):=⟨_,_,_,rfl⟩;rw[hcv];simp only[eQ];have hb5a:=(Aq V5.heap.size V5).alloc (Ak _) (.cells #[.int .u8 o1,.int .i64 (o2:Int),.int .i64 (o3:Int)] 242);have h7:=A1 V5 (.cells #[.int .u8 o1,.int .i64 (o2:Int),.int .i64 (o3:Int)] 242);obtain⟨V6,hV6⟩:∃V6,V5.alloc (.cells #[.int .u8 o1,.int .i64 (o2:Int),.int .i64 (o3:Int)] 242)=V6:=⟨_,rfl⟩;rw[hV6] at hb5a h7;have hb46:=hb5.trans (hb5a.mono hb5.size);have hb26:=HB4.out.trans (hb46.mono HB4.out.size);have hBx:=HB2.out.trans (hb26.mono HB2.out.size);have ht6:=(hb26.block _ (Ay HT2.out)).trans HT2.out;have hn6:=(hb26.block _ (Ay HN2.out)).trans HN2.out;have h56:=(hb46.block _ (Ay H5.out)).trans H5.out;have hz6:V.heap.size+2<=V6.heap.size:=by have:=hb26.size;omega
   have HBx:=Ax hBx;have HN6:=Ax hn6;obtain⟨_,_,_,_,_,t5,t6⟩:=Gv ht6;obtain⟨n0,n1,n2,n3,n4,n5,n6,n7,nf⟩:=B1 hn6;have nf0:=nf 0;have nf1:=nf 1;have nf2:=nf 2;have nf3:=nf 3;obtain⟨l0,l1,l2,_⟩:=Lv h56;obtain⟨k0,k1,k2,_⟩:=Lv h7;clear hb5 hb5a h7 hb46 hb26 hBx ht6 hn6 h56 HB4 H5 Hcl HN2 HT2 HB2 HR2 nf u5 u6 u1 f0 f1 f2 f3 f4 f5 f6;cases hcc:De tt with
   |some cx=>
    rw[hcc] at hcv;simp only[Option.getD_some] at hcv;subst hcv;have hch:Cu ⟨⟨1,tt,tv1,tv2,tv3⟩,tl,tc⟩=some ⟨o1,o2,o3,tl,tc⟩:=by simp [Cu,hcc]
    have hlf:B8 ⟨⟨1,tt,tv1,tv2,tv3⟩,tl,tc⟩=none:=by simp [B8,hcc]
    have hcle:=Y9 hcc;have hca:Calls Tryz.prog 163 #[.pointer (some ⟨b,0,none⟩),.agg #[.int .u8 o1,.int .i64 (o2:Int),.int .i64 (o3:Int)],.agg #[.int .i64 tl,.int .i64 tc]] V6 _:=mC ih hk (H.out.below HBx.out) (Al hB HBx.out.size) ⟨o1,o2,o3,tl,tc⟩ (by show 1<=o3;have:=hcle;simp only at this;omega) (by show o3<=8;have:=hcle;simp only at this;omega);have HCA:=Ax hca;have HX:Hid (A9 7 d (⟨⟨1,tt,tv1,tv2,tv3⟩,tl,tc⟩::q)=B4 d q fun q'=>D8 ⟨o1,o2,o3,tl,tc⟩ [] (d+1) q'):=Ax (by rw[Bs];simp only[hlf,hch]);simp only[Option.isSome_some];clear hcc hch hlf hcle hca ih;go_wp2_with fail;refine HCA.out.mono ?_;rintro e V7 hp7;rw[←HX.out] at hp7;cases hq7:A9 7 d (⟨⟨1,tt,tv1,tv2,tv3⟩,tl,tc⟩::q) with
    |error p7=>
     obtain⟨er,q7⟩:=p7;rw[hq7] at hp7
     have HE:Hid (B7 w B X b (.slice (some ⟨g,0,none⟩) ts.length c) ts d vt nds (.error (er,q7)) (Ee er) V7):=Ax (by
      exact⟨rfl,hp7.2.1,(Rch.of_below vt HBx.out).err hp7.2.2⟩)
     obtain⟨rfl,_,_⟩:=hp7;clear hq7 HX;exact zzj
    |ok p7=>
     obtain⟨a7,q7⟩:=p7;rw[hq7] at hp7;obtain⟨rfl,v7,hr7,hch7⟩:=hp7
     have HE:Hid (B7 w B X b (.slice (some ⟨g,0,none⟩) ts.length c) ts d vt nds (A9 7 d (⟨⟨1,tt,tv1,tv2,tv3⟩,tl,tc⟩::q)) (.returned (.int .i64 ((nds.length+a7.size - 1:Nat):Int))) V7):=Ax (by
      rw[hq7]
      exact⟨rfl,v7,hr7,(Rch.of_below vt HBx.out).trans hch7⟩)
     clear hr7 hch7 hq7 HX;exact zzb
   |none=>
    simp only[Option.isSome_none];have hch:Cu ⟨⟨1,tt,tv1,tv2,tv3⟩,tl,tc⟩=none:=by simp [Cu,hcc]
    cases hll:Lf tt with
    |none=>
     have hlf:B8 ⟨⟨1,tt,tv1,tv2,tv3⟩,tl,tc⟩=none:=by simp [B8,hcc,hll]
     have hmem:(⟨⟨1,tt,tv1,tv2,tv3⟩,tl,tc⟩:Tkn)∈ts:=by
      have:=H.out.suf.at_drop
      exact List.mem_of_mem_drop (this▸Ai)
     have hn40:tt≠[40]:=H.out.nam _ hmem rfl;have hi40:isH [40] (⟨⟨1,tt,tv1,tv2,tv3⟩,tl,tc⟩::q)=false:=by simp [isH,hn40]
     have HE:Hid (B7 w B X b (.slice (some ⟨g,0,none⟩) ts.length c) ts d vt nds (A9 7 d (⟨⟨1,tt,tv1,tv2,tv3⟩,tl,tc⟩::q)) (Ee 4) V6):=Ax (by
      rw[Bs];simp only[hlf,hch];unfold B4;rw[hi40]
      exact⟨rfl,(H.out.below HBx.out).err,Bc.of_below HBx.out _⟩)
     have hil:isl=false:=by rw[←HIS.out,hll];rfl
     subst hil;clear hlf hmem hn40 hi40 hch hcc hll ih hk H HLV HIS;exact zzj
    |some lv=>
     have hlf:B8 ⟨⟨1,tt,tv1,tv2,tv3⟩,tl,tc⟩=some ⟨1,lv,[],tl,tc⟩:=by simp [B8,hcc,hll]
     have hil:isl=true:=by rw[←HIS.out,hll];rfl
     subst hil;have hlv:lv=(lv1,lv2,lv3):=by rw[←HLV.out,hll];rfl
     subst hlv;have HLF:=Ax hlf;have HB2:=HBx;have HN2:=HN6;clear hlf hch hcc hll ih HLV HIS;go_wp2_with fail;go_region;obtain⟨W3,hW3⟩:∃W3,((((V6.setCell ⟨V.heap.size+1,0,none⟩ (.int .u8 1)).setCell ⟨V.heap.size+1,1,none⟩ (.int .u8 lv1)).setCell ⟨V.heap.size+1,2,none⟩ (.int .i64 lv2)).setCell ⟨V.heap.size+1,3,none⟩ (.string ⟨lv3.toArray⟩)).drew=W3:=⟨_,rfl⟩
     have hO3:Bc [V.heap.size+1] V6 W3:=by
      rw[←hW3];exact Bc.drew ((((A3 V6 _ _ _).setCell (.inl tH) _).setCell (.inl tH) _).setCell (.inl tH) _)
     have hn3:W3.heap[V.heap.size+1]? =some (.cells #[.int .u8 1,.int .u8 lv1,.int .i64 lv2,.string ⟨lv3.toArray⟩,.string ⟨#[]⟩,.slice none 0 0,.int .i64 tl,.int .i64 tc] 38 (0,0)):=by
      exact zx7
     rw[hW3];have hB3:Below w.heap.size w W3:=Bv HBx.out hO3 tL tE;have hr3:=H.out.below hB3;obtain⟨c0,c1,c2,c3,cf⟩:=Dx hr3.blk;have cf1:=cf 1;obtain⟨hn4,hnd⟩:=Lg hB hB3 H.out (h:=⟨1,(lv1,lv2,lv3),[],tl,tc⟩) hn3;obtain⟨W4,hW4⟩:∃W4,W3.setCell ⟨b,1,none⟩ (.int .i64 (((ts.length - (q.length+1):Nat):Int)+1))=W4:=⟨_,rfl⟩;rw[hW4] at hn4 hnd;simp only[List.toArray] at hnd;obtain⟨m0,m1,m2,m3,m4,m5,m6,m7,_⟩:=B1 hn4;have HND:=Ax hnd;have HX:Hid (A9 7 d (⟨⟨1,tt,tv1,tv2,tv3⟩,tl,tc⟩::q)= .ok (.mk ⟨1,(lv1,lv2,lv3),[],tl,tc⟩ [],q)):=Ax (by rw[Bs];simp only[HLF.out]);clear hn4 hnd hn3 hO3 hB3 hr3 cf hW3;go_wp2_with fail;refine HND.out.mono ?_;rintro e V6 ⟨rfl,v6,hr6,hch6⟩
     have HE:Hid (B7 w B X b (.slice (some ⟨g,0,none⟩) ts.length c) ts d vt nds (A9 7 d (⟨⟨1,tt,tv1,tv2,tv3⟩,tl,tc⟩::q)) (.returned (.int .i64 (nds.length:Int))) V6):=Ax (by
      exact zxh)
     clear hr6 hch6 HND HX hW4;exact zzb
  have hlf:B8 ⟨⟨tk,tt,tv1,tv2,tv3⟩,tl,tc⟩=none:=by simp [B8,hk4,hk2,hk3,hk1]
  have hch:Cu ⟨⟨tk,tt,tv1,tv2,tv3⟩,tl,tc⟩=none:=by simp [Cu,hk1]
  have HX:Hid (A9 7 d (⟨⟨tk,tt,tv1,tv2,tv3⟩,tl,tc⟩::q)=B4 d (⟨⟨tk,tt,tv1,tv2,tv3⟩,tl,tc⟩::q) fun q'=>(A9 0 (d+1) q').next Cy):=Ax (by rw[Bs];simp only[hlf,hch]);have j4:(tk==4)=false:=by simp at hk4 ⊢;omega
  have j5:(tk==5)=false:=by simp at hk4 ⊢;omega
  have j6:(tk==6)=false:=by simp at hk4 ⊢;omega
  have j2:(tk==2)=false:=by simpa using hk2
  have j3:(tk==3)=false:=by simpa using hk3
  have j1:(tk==1)=false:=by simpa using hk1
  have his:=Nj HR2.out [40];have His:=Ax his;have HI:=Ax ih;clear hk4 hk2 hk3 hk1 hlf hch his ih n0 n1 n2 n3 n4 n5 n6 n7 nf0 nf1 nf2 nf3 nf4 HN2 f1 f2 f3 f4 f5 f6 HT2;go_wp2_with fail;refine His.out.mono ?_;rintro e V3 ⟨rfl,hb3⟩;have hB3:=HB2.out.trans (hb3.mono HB2.out.size);have hr3:=H.out.below hB3;have HB3:=Ax hB3;clear hb3 hB3 His HR2 HB2 f0 u5 u6;by_cases ho:isH [40] (⟨⟨tk,tt,tv1,tv2,tv3⟩,tl,tc⟩::q)=true
  ·rw[ho];by_cases hd:d=12
   ·have hop:=Ax (Ql (hd▸hr3))
    have HE:Hid (B7 w B X b (.slice (some ⟨g,0,none⟩) ts.length c) ts d vt nds (A9 7 d (⟨⟨tk,tt,tv1,tv2,tv3⟩,tl,tc⟩::q)) (Ee 12) V3):=Ax (by
     rw[HX.out];unfold B4;rw[Ap ho,Ap hd]
     exact⟨rfl,hr3.err,Bc.of_below HB3.out _⟩)
    clear hr3 HX HB3 hd ho;go_wp2_with fail;refine hop.out.mono ?_;rintro e V4 ⟨rfl,rfl⟩;clear hop;exact zzj
   have hop:=Ax (Ta hr3 hd);have hx:=HX.out;unfold B4 at hx;rw[Ap ho,Ao hd,List.tail_cons] at hx;have HX2:=Ax hx;have HO:=Ax ho;have hd12:=H.out.hd;clear hr3 HX hx ho;go_wp2_with fail;refine hop.out.mono ?_;rintro e V4 ⟨rfl,hr4,ho4⟩;have hmu:=Jl hr4 [40];rw[HO.out] at hmu;simp only[if_true,List.tail_cons] at hmu;have Hmu:=Ax hmu;have HO4:=Ax ho4;clear hmu ho4 hr4 hop;go_wp2_with fail;refine Hmu.out.mono ?_;rintro e V5 ⟨rfl,hr5,ho5⟩;have hch5:Rch b w vt V5 vt:=(Rch.of_below vt HB3.out).trans (Rch.of_only vt (HO4.out.trans ho5));have hc6:Calls Tryz.prog 66 #[.pointer (some ⟨b,0,none⟩),.int .i64 0] V5 _:=HI.out X 0 (d+1) q V5 vt nds tE uN hr5 (Al hB hch5.only.size);have Hc6:=Ax hc6;have HCH:=Ax hch5;clear hr5 ho5 hc6 hch5 Hmu HO4 HB3;go_wp2_with fail;refine Hc6.out.mono ?_;rintro e V6 hp6;cases hq6:A9 0 (d+1) q with
   |error p=>
    obtain⟨er,q6⟩:=p;rw[hq6] at hp6
    have HE:Hid (B7 w B X b (.slice (some ⟨g,0,none⟩) ts.length c) ts d vt nds (A9 7 d (⟨⟨tk,tt,tv1,tv2,tv3⟩,tl,tc⟩::q)) (Ee er) V6):=Ax (by
     rw[HX2.out,hq6];obtain⟨_,h2,h3⟩:=B7.pre hp6 HCH.out
     exact⟨rfl,h2,h3⟩)
    obtain⟨rfl,_,_⟩:=hp6;clear hq6 HX2 HCH;exact zzj
   |ok p=>
    obtain⟨bx,q6⟩:=p;rw[hq6] at hp6;obtain⟨rfl,v6,hp6,hch6⟩:=hp6;have hch:=HCH.out.trans hch6;have hx:=HX2.out;rw[hq6] at hx;simp only[ExR.next] at hx;unfold Cy at hx;have hmu:=Jl hp6 [41];obtain⟨m,hm⟩:∃m,isH [41] q6=m:=⟨_,rfl⟩;rw[hm] at hmu hx;cases m with
    |false=>
     simp only[Bool.false_eq_true,if_false] at hmu hx;have Hmu:=Ax hmu;have HX3:=Ax hx;have HC:=Ax hch;have HP6:=Ax hp6;clear hp6 hch6 hch hx hmu hm hq6 HX2 HCH;go_wp2_with fail;refine Hmu.out.mono ?_;rintro e V7 ⟨rfl,hb7⟩
     have HE:Hid (B7 w B X b (.slice (some ⟨g,0,none⟩) ts.length c) ts d vt nds (A9 7 d (⟨⟨tk,tt,tv1,tv2,tv3⟩,tl,tc⟩::q)) (Ee 4) V7):=Ax (by
      rw[HX3.out]
      exact⟨rfl,(HP6.out.below hb7).err,HC.out.err (Bc.of_below hb7 _)⟩)
     clear hb7 Hmu;exact zzj
    |true=>
     simp only[if_true] at hmu hx;have Hmu:=Ax hmu;have HX3:=Ax hx;have HC:=Ax hch;clear hp6 hch6 hch hx hmu hm hq6 HX2 HCH;go_wp2_with fail;refine Hmu.out.mono ?_;rintro e V7 ⟨rfl,hr7,ho7⟩;obtain⟨e0,e1,e2,e3,ef⟩:=Dx hr7.blk;have ef2:=ef 2;have hr8:=hr7.deep (d':=d) tE;have ho8:=A3 V7 b 2 (.int .i64 (d:Int));obtain⟨V8,hV8⟩:∃V8,V7.setCell ⟨b,2,none⟩ (.int .i64 (d:Int))=V8:=⟨_,rfl⟩;rw[hV8] at hr8 ho8
     have HE:Hid (B7 w B X b (.slice (some ⟨g,0,none⟩) ts.length c) ts d vt nds (A9 7 d (⟨⟨tk,tt,tv1,tv2,tv3⟩,tl,tc⟩::q)) (.returned (.int .i64 ((nds.length+bx.size - 1:Nat):Int))) V8):=Ax (by
      rw[HX3.out]
      exact⟨rfl,v6,hr8,HC.out.trans (Rch.of_only v6 (ho7.trans ho8))⟩)
     clear hr7 ho7 hr8 ho8 Hmu HC HX3 ef;exact zzb
  have HO:Hid (isH [40] (⟨⟨tk,tt,tv1,tv2,tv3⟩,tl,tc⟩::q)=false):=Ax (by simpa using ho);rw[HO.out];have hmu:=Jl hr3 [40];rw[HO.out] at hmu;simp only[Bool.false_eq_true,if_false] at hmu;have Hmu:=Ax hmu;have HR3:=Ax hr3;clear hr3 hmu ho;go_wp2_with fail;refine Hmu.out.mono ?_;rintro e V4 ⟨rfl,hb4⟩
  have HE:Hid (B7 w B X b (.slice (some ⟨g,0,none⟩) ts.length c) ts d vt nds (A9 7 d (⟨⟨tk,tt,tv1,tv2,tv3⟩,tl,tc⟩::q)) (Ee 4) V4):=Ax (by
   rw[HX.out];unfold B4;rw[HO.out]
   exact⟨rfl,(HR3.out.below hb4).err,(Rch.of_below vt HB3.out).err (Bc.of_below hb4 _)⟩)
  clear hb4 Hmu HX HR3;exact zzj
open Go Go.RowKit
theorem B7.back {w W:World}{B b d:Nat}{X:List Nat}{vl vt:Value}{ts:List Tkn}{nds:List Nd}{x:ExR}{e:Ending}{w':World}(hb:Below w.heap.size w W)(h:B7 W B X b vl ts d vt nds x e w'):B7 w B X b vl ts d vt nds x e w':=by
 cases x with
 |error p=>exact⟨h.1,h.2.1,(Rch.of_below vt hb).err h.2.2⟩
 |ok p=>
  obtain⟨h1,v',h2,h3⟩:=h;exact⟨h1,v',h2,(Rch.of_below vt hb).trans h3⟩
theorem sD {k B b:Nat}{X:List Nat}{vl:Value}{ts:List Tkn}(ih:Mc k B b vl ts){d:Nat}{r:List Tkn}{w:World}{vt:Value}{nds:List Nd}(hk:B2 (.lvl 0) r<=k)(h:Cz w B X b vl ts r d vt nds)(hB:B<=w.heap.size):
 Calls Tryz.prog 116 #[.pointer (some ⟨b,0,none⟩)] w (B7 w B X b vl ts d vt nds (A9 0 d r)):=by
 have hb:Below w.heap.size w (w.alloc (.cells #[.string ⟨#[111,114]⟩,.int .u8 4] 237)):=(Aq _ w).alloc (Ak _) _
 have hr:Calls Tryz.prog 159 #[.pointer (some ⟨b,0,none⟩),.int .i64 0,.bool true,.slice (some ⟨w.heap.size,0,none⟩) 1 1] (w.alloc (.cells #[.string ⟨#[111,114]⟩,.int .u8 4] 237)) _:=
  (P1 ih (n:=0) tG tG hk (h.below hb) (Al hB hb.size) (l:=[([111,114],4)]) (g:=w.heap.size) (m:=1) rfl rfl tG (A1 w _) true (by show _=_;rfl)).mono fun e w' q=>B7.back hb q
 have HR:=Ax hr;clear hr hb h hk ih;go_enter Tryz.func116,Tryz.ntmps116;go_wp2_with fail;refine HR.out.mono ?_;rintro e V hp;cases hq:A9 0 d r with
 |error p=>
  exact zzr
 |ok p=>
  exact zzt
theorem pQ {k B b:Nat}{X:List Nat}{vl:Value}{ts:List Tkn}(ih:Mc k B b vl ts){d:Nat}{r:List Tkn}{w:World}{vt:Value}{nds:List Nd}(hk:B2 (.lvl 1) r<=k)(h:Cz w B X b vl ts r d vt nds)(hB:B<=w.heap.size):
 Calls Tryz.prog 117 #[.pointer (some ⟨b,0,none⟩)] w (B7 w B X b vl ts d vt nds (A9 1 d r)):=by
 have hb:Below w.heap.size w (w.alloc (.cells #[.string ⟨#[97,110,100]⟩,.int .u8 5] 237)):=(Aq _ w).alloc (Ak _) _
 have hr:Calls Tryz.prog 159 #[.pointer (some ⟨b,0,none⟩),.int .i64 1,.bool true,.slice (some ⟨w.heap.size,0,none⟩) 1 1] (w.alloc (.cells #[.string ⟨#[97,110,100]⟩,.int .u8 5] 237)) _:=
  (P1 ih (n:=1) tG tG hk (h.below hb) (Al hB hb.size) (l:=[([97,110,100],5)]) (g:=w.heap.size) (m:=1) rfl rfl tG (A1 w _) true (by show _=_;rfl)).mono fun e w' q=>B7.back hb q
 have HR:=Ax hr;clear hr hb h hk ih;go_enter Tryz.func117,Tryz.ntmps117;go_wp2_with fail;refine HR.out.mono ?_;rintro e V hp;cases hq:A9 1 d r with
 |error p=>
  exact zzr
 |ok p=>
  exact zzt
theorem qD {k B b:Nat}{X:List Nat}{vl:Value}{ts:List Tkn}(ih:Mc k B b vl ts){d:Nat}{r:List Tkn}{w:World}{vt:Value}{nds:List Nd}(hk:B2 (.lvl 3) r<=k)(h:Cz w B X b vl ts r d vt nds)(hB:B<=w.heap.size):
 Calls Tryz.prog 119 #[.pointer (some ⟨b,0,none⟩)] w (B7 w B X b vl ts d vt nds (A9 3 d r)):=by
 have hb:Below w.heap.size w (w.alloc (.cells #[.string ⟨#[61]⟩,.int .u8 7,.string ⟨#[60,62]⟩,.int .u8 8,.string ⟨#[60]⟩,.int .u8 9,.string ⟨#[60,61]⟩,.int .u8 10,.string ⟨#[62]⟩,.int .u8 11,.string ⟨#[62,61]⟩,.int .u8 12] 237)):=(Aq _ w).alloc (Ak _) _
 have hr:Calls Tryz.prog 159 #[.pointer (some ⟨b,0,none⟩),.int .i64 3,.bool false,.slice (some ⟨w.heap.size,0,none⟩) 6 6] (w.alloc (.cells #[.string ⟨#[61]⟩,.int .u8 7,.string ⟨#[60,62]⟩,.int .u8 8,.string ⟨#[60]⟩,.int .u8 9,.string ⟨#[60,61]⟩,.int .u8 10,.string ⟨#[62]⟩,.int .u8 11,.string ⟨#[62,61]⟩,.int .u8 12] 237)) _:=
  (P1 ih (n:=3) tG tG hk (h.below hb) (Al hB hb.size) (l:=[([61],7),([60,62],8),([60],9),([60,61],10),([62],11),([62,61],12)]) (g:=w.heap.size) (m:=6) rfl rfl tG (A1 w _) false (by show _=_;rfl)).mono fun e w' q=>B7.back hb q
 have HR:=Ax hr;clear hr hb h hk ih;go_enter Tryz.func119,Tryz.ntmps119;go_wp2_with fail;refine HR.out.mono ?_;rintro e V hp;cases hq:A9 3 d r with
 |error p=>
  exact zzr
 |ok p=>
  exact zzt
theorem qV {k B b:Nat}{X:List Nat}{vl:Value}{ts:List Tkn}(ih:Mc k B b vl ts){d:Nat}{r:List Tkn}{w:World}{vt:Value}{nds:List Nd}(hk:B2 (.lvl 4) r<=k)(h:Cz w B X b vl ts r d vt nds)(hB:B<=w.heap.size):
 Calls Tryz.prog 120 #[.pointer (some ⟨b,0,none⟩)] w (B7 w B X b vl ts d vt nds (A9 4 d r)):=by
 have hb:Below w.heap.size w (w.alloc (.cells #[.string ⟨#[43]⟩,.int .u8 13,.string ⟨#[45]⟩,.int .u8 14] 237)):=(Aq _ w).alloc (Ak _) _
 have hr:Calls Tryz.prog 159 #[.pointer (some ⟨b,0,none⟩),.int .i64 4,.bool true,.slice (some ⟨w.heap.size,0,none⟩) 2 2] (w.alloc (.cells #[.string ⟨#[43]⟩,.int .u8 13,.string ⟨#[45]⟩,.int .u8 14] 237)) _:=
  (P1 ih (n:=4) tG tG hk (h.below hb) (Al hB hb.size) (l:=[([43],13),([45],14)]) (g:=w.heap.size) (m:=2) rfl rfl tG (A1 w _) true (by show _=_;rfl)).mono fun e w' q=>B7.back hb q
 have HR:=Ax hr;clear hr hb h hk ih;go_enter Tryz.func120,Tryz.ntmps120;go_wp2_with fail;refine HR.out.mono ?_;rintro e V hp;cases hq:A9 4 d r with
 |error p=>
  exact zzr
 |ok p=>
  exact zzt
theorem nJ {k B b:Nat}{X:List Nat}{vl:Value}{ts:List Tkn}(ih:Mc k B b vl ts){d:Nat}{r:List Tkn}{w:World}{vt:Value}{nds:List Nd}(hk:B2 (.lvl 5) r<=k)(h:Cz w B X b vl ts r d vt nds)(hB:B<=w.heap.size):
 Calls Tryz.prog 121 #[.pointer (some ⟨b,0,none⟩)] w (B7 w B X b vl ts d vt nds (A9 5 d r)):=by
 have hb:Below w.heap.size w (w.alloc (.cells #[.string ⟨#[42]⟩,.int .u8 15,.string ⟨#[47]⟩,.int .u8 16] 237)):=(Aq _ w).alloc (Ak _) _
 have hr:Calls Tryz.prog 159 #[.pointer (some ⟨b,0,none⟩),.int .i64 5,.bool true,.slice (some ⟨w.heap.size,0,none⟩) 2 2] (w.alloc (.cells #[.string ⟨#[42]⟩,.int .u8 15,.string ⟨#[47]⟩,.int .u8 16] 237)) _:=
  (P1 ih (n:=5) tG tG hk (h.below hb) (Al hB hb.size) (l:=[([42],15),([47],16)]) (g:=w.heap.size) (m:=2) rfl rfl tG (A1 w _) true (by show _=_;rfl)).mono fun e w' q=>B7.back hb q
 have HR:=Ax hr;clear hr hb h hk ih;go_enter Tryz.func121,Tryz.ntmps121;go_wp2_with fail;refine HR.out.mono ?_;rintro e V hp;cases hq:A9 5 d r with
 |error p=>
  exact zzr
 |ok p=>
  exact zzt
theorem pZ {k B b:Nat}{X:List Nat}{vl:Value}{ts:List Tkn}(ih:Mc k B b vl ts){d:Nat}{r:List Tkn}{w:World}{vt:Value}{nds:List Nd}(hk:B2 (.lvl 2) r<=k)(h:Cz w B X b vl ts r d vt nds)(hB:B<=w.heap.size):
 Calls Tryz.prog 118 #[.pointer (some ⟨b,0,none⟩)] w (B7 w B X b vl ts d vt nds (A9 2 d r)):=by
 have hr:Calls Tryz.prog 160 #[.pointer (some ⟨b,0,none⟩),.int .i64 2,.string ⟨#[110,111,116]⟩,.int .u8 6] w _:=Wi ih (n:=2) tG hk h hB [110,111,116] rfl 6 rfl;have HR:=Ax hr;clear hr h hk ih;go_enter Tryz.func118,Tryz.ntmps118;go_wp2_with fail;refine HR.out.mono ?_;rintro e V hp;cases hq:A9 2 d r with
 |error p=>
  exact zzr
 |ok p=>
  exact zzt
theorem iT {k B b:Nat}{X:List Nat}{vl:Value}{ts:List Tkn}(ih:Mc k B b vl ts){d:Nat}{r:List Tkn}{w:World}{vt:Value}{nds:List Nd}(hk:B2 (.lvl 6) r<=k)(h:Cz w B X b vl ts r d vt nds)(hB:B<=w.heap.size):
 Calls Tryz.prog 122 #[.pointer (some ⟨b,0,none⟩)] w (B7 w B X b vl ts d vt nds (A9 6 d r)):=by
 have hr:Calls Tryz.prog 160 #[.pointer (some ⟨b,0,none⟩),.int .i64 6,.string ⟨#[45]⟩,.int .u8 17] w _:=Wi ih (n:=6) tG hk h hB [45] rfl 17 rfl;have HR:=Ax hr;clear hr h hk ih;go_enter Tryz.func122,Tryz.ntmps122;go_wp2_with fail;refine HR.out.mono ?_;rintro e V hp;cases hq:A9 6 d r with
 |error p=>
  exact zzr
 |ok p=>
  exact zzt
theorem cJ (x0 x1 x2 x3 x4 x5 x6 x7:Value)(w:World):(Instr.index 200 (.agg #[x0,x1,x2,x3,x4,x5,x6,x7]) (.int .i64 0)).run Tryz.prog w= .ok x0 w:=by kernel_rfl
theorem bN (x0 x1 x2 x3 x4 x5 x6 x7:Value)(w:World):(Instr.index 200 (.agg #[x0,x1,x2,x3,x4,x5,x6,x7]) (.int .i64 1)).run Tryz.prog w= .ok x1 w:=by kernel_rfl
theorem cX (x0 x1 x2 x3 x4 x5 x6 x7:Value)(w:World):(Instr.index 200 (.agg #[x0,x1,x2,x3,x4,x5,x6,x7]) (.int .i64 2)).run Tryz.prog w= .ok x2 w:=by kernel_rfl
theorem cD (x0 x1 x2 x3 x4 x5 x6 x7:Value)(w:World):(Instr.index 200 (.agg #[x0,x1,x2,x3,x4,x5,x6,x7]) (.int .i64 3)).run Tryz.prog w= .ok x3 w:=by kernel_rfl
theorem bL (x0 x1 x2 x3 x4 x5 x6 x7:Value)(w:World):(Instr.index 200 (.agg #[x0,x1,x2,x3,x4,x5,x6,x7]) (.int .i64 4)).run Tryz.prog w= .ok x4 w:=by kernel_rfl
theorem cH (x0 x1 x2 x3 x4 x5 x6 x7:Value)(w:World):(Instr.index 200 (.agg #[x0,x1,x2,x3,x4,x5,x6,x7]) (.int .i64 5)).run Tryz.prog w= .ok x5 w:=by kernel_rfl
theorem bB (x0 x1 x2 x3 x4 x5 x6 x7:Value)(w:World):(Instr.index 200 (.agg #[x0,x1,x2,x3,x4,x5,x6,x7]) (.int .i64 6)).run Tryz.prog w= .ok x6 w:=by kernel_rfl
theorem cU (x0 x1 x2 x3 x4 x5 x6 x7:Value)(w:World):(Instr.index 200 (.agg #[x0,x1,x2,x3,x4,x5,x6,x7]) (.int .i64 7)).run Tryz.prog w= .ok x7 w:=by kernel_rfl
theorem fO (B b:Nat)(vl:Value)(ts:List Tkn):∀k,Mc k B b vl ts:=by
 intro k
 induction k with
 |zero=>intro X n d r w vt nds _ h;exact absurd h (Nat.not_lt_zero _)
 |succ k ih=>
  intro X n d r w vt nds h7 hk h hB;have hmf:∀(fn:Fn) (first cap:Array Value) (w:World),(Instr.makeFunc fn first cap).run Tryz.prog w= .ok (.func fn first cap) w:=fun _ _ _ _=>rfl
  have hk':B2 (.lvl n) r<=k:=by omega
  obtain rfl|rfl|rfl|rfl|rfl|rfl|rfl|rfl:n=0\/n=1\/n=2\/n=3\/n=4\/n=5\/n=6\/n=7:=by omega
  ·have hix:=fun W=>cJ (.func (.func 116) #[.pointer (some ⟨b,0,none⟩)] #[]) (.func (.func 117) #[.pointer (some ⟨b,0,none⟩)] #[]) (.func (.func 118) #[.pointer (some ⟨b,0,none⟩)] #[]) (.func (.func 119) #[.pointer (some ⟨b,0,none⟩)] #[]) (.func (.func 120) #[.pointer (some ⟨b,0,none⟩)] #[]) (.func (.func 121) #[.pointer (some ⟨b,0,none⟩)] #[]) (.func (.func 122) #[.pointer (some ⟨b,0,none⟩)] #[]) (.func (.func 123) #[.pointer (some ⟨b,0,none⟩)] #[]) W
   have HR:=Ax (sD ih hk' h hB);clear h hk hk' ih h7;go_enter Tryz.func66,Tryz.ntmps66;go_wp2_with fail;refine HR.out.mono ?_;rintro e V hp;cases hq:A9 0 d r with
   |error p=>
    exact zzr
   |ok p=>
    exact zzt
  ·have hix:=fun W=>bN (.func (.func 116) #[.pointer (some ⟨b,0,none⟩)] #[]) (.func (.func 117) #[.pointer (some ⟨b,0,none⟩)] #[]) (.func (.func 118) #[.pointer (some ⟨b,0,none⟩)] #[]) (.func (.func 119) #[.pointer (some ⟨b,0,none⟩)] #[]) (.func (.func 120) #[.pointer (some ⟨b,0,none⟩)] #[]) (.func (.func 121) #[.pointer (some ⟨b,0,none⟩)] #[]) (.func (.func 122) #[.pointer (some ⟨b,0,none⟩)] #[]) (.func (.func 123) #[.pointer (some ⟨b,0,none⟩)] #[]) W
   have HR:=Ax (pQ ih hk' h hB);clear h hk hk' ih h7;go_enter Tryz.func66,Tryz.ntmps66;go_wp2_with fail;refine HR.out.mono ?_;rintro e V hp;cases hq:A9 1 d r with
   |error p=>
    exact zzr
   |ok p=>
    exact zzt
  ·have hix:=fun W=>cX (.func (.func 116) #[.pointer (some ⟨b,0,none⟩)] #[]) (.func (.func 117) #[.pointer (some ⟨b,0,none⟩)] #[]) (.func (.func 118) #[.pointer (some ⟨b,0,none⟩)] #[]) (.func (.func 119) #[.pointer (some ⟨b,0,none⟩)] #[]) (.func (.func 120) #[.pointer (some ⟨b,0,none⟩)] #[]) (.func (.func 121) #[.pointer (some ⟨b,0,none⟩)] #[]) (.func (.func 122) #[.pointer (some ⟨b,0,none⟩)] #[]) (.func (.func 123) #[.pointer (some ⟨b,0,none⟩)] #[]) W
   have HR:=Ax (pZ ih hk' h hB);clear h hk hk' ih h7;go_enter Tryz.func66,Tryz.ntmps66;go_wp2_with fail;refine HR.out.mono ?_;rintro e V hp;cases hq:A9 2 d r with
   |error p=>
    exact zzr
   |ok p=>
    exact zzt
  ·have hix:=fun W=>cD (.func (.func 116) #[.pointer (some ⟨b,0,none⟩)] #[]) (.func (.func 117) #[.pointer (some ⟨b,0,none⟩)] #[]) (.func (.func 118) #[.pointer (some ⟨b,0,none⟩)] #[]) (.func (.func 119) #[.pointer (some ⟨b,0,none⟩)] #[]) (.func (.func 120) #[.pointer (some ⟨b,0,none⟩)] #[]) (.func (.func 121) #[.pointer (some ⟨b,0,none⟩)] #[]) (.func (.func 122) #[.pointer (some ⟨b,0,none⟩)] #[]) (.func (.func 123) #[.pointer (some ⟨b,0,none⟩)] #[]) W
   have HR:=Ax (qD ih hk' h hB);clear h hk hk' ih h7;go_enter Tryz.func66,Tryz.ntmps66;go_wp2_with fail;refine HR.out.mono ?_;rintro e V hp;cases hq:A9 3 d r with
   |error p=>
    exact zzr
   |ok p=>
    exact zzt
  ·have hix:=fun W=>bL (.func (.func 116) #[.pointer (some ⟨b,0,none⟩)] #[]) (.func (.func 117) #[.pointer (some ⟨b,0,none⟩)] #[]) (.func (.func 118) #[.pointer (some ⟨b,0,none⟩)] #[]) (.func (.func 119) #[.pointer (some ⟨b,0,none⟩)] #[]) (.func (.func 120) #[.pointer (some ⟨b,0,none⟩)] #[]) (.func (.func 121) #[.pointer (some ⟨b,0,none⟩)] #[]) (.func (.func 122) #[.pointer (some ⟨b,0,none⟩)] #[]) (.func (.func 123) #[.pointer (some ⟨b,0,none⟩)] #[]) W
   have HR:=Ax (qV ih hk' h hB);clear h hk hk' ih h7;go_enter Tryz.func66,Tryz.ntmps66;go_wp2_with fail;refine HR.out.mono ?_;rintro e V hp;cases hq:A9 4 d r with
   |error p=>
    exact zzr
   |ok p=>
    exact zzt
  ·have hix:=fun W=>cH (.func (.func 116) #[.pointer (some ⟨b,0,none⟩)] #[]) (.func (.func 117) #[.pointer (some ⟨b,0,none⟩)] #[]) (.func (.func 118) #[.pointer (some ⟨b,0,none⟩)] #[]) (.func (.func 119) #[.pointer (some ⟨b,0,none⟩)] #[]) (.func (.func 120) #[.pointer (some ⟨b,0,none⟩)] #[]) (.func (.func 121) #[.pointer (some ⟨b,0,none⟩)] #[]) (.func (.func 122) #[.pointer (some ⟨b,0,none⟩)] #[]) (.func (.func 123) #[.pointer (some ⟨b,0,none⟩)] #[]) W
   have HR:=Ax (nJ ih hk' h hB);clear h hk hk' ih h7;go_enter Tryz.func66,Tryz.ntmps66;go_wp2_with fail;refine HR.out.mono ?_;rintro e V hp;cases hq:A9 5 d r with
   |error p=>
    exact zzr
   |ok p=>
    exact zzt
  ·have hix:=fun W=>bB (.func (.func 116) #[.pointer (some ⟨b,0,none⟩)] #[]) (.func (.func 117) #[.pointer (some ⟨b,0,none⟩)] #[]) (.func (.func 118) #[.pointer (some ⟨b,0,none⟩)] #[]) (.func (.func 119) #[.pointer (some ⟨b,0,none⟩)] #[]) (.func (.func 120) #[.pointer (some ⟨b,0,none⟩)] #[]) (.func (.func 121) #[.pointer (some ⟨b,0,none⟩)] #[]) (.func (.func 122) #[.pointer (some ⟨b,0,none⟩)] #[]) (.func (.func 123) #[.pointer (some ⟨b,0,none⟩)] #[]) W
   have HR:=Ax (iT ih hk' h hB);clear h hk hk' ih h7;go_enter Tryz.func66,Tryz.ntmps66;go_wp2_with fail;refine HR.out.mono ?_;rintro e V hp;cases hq:A9 6 d r with
   |error p=>
    exact zzr
   |ok p=>
    exact zzt
  have hix:=fun W=>cU (.func (.func 116) #[.pointer (some ⟨b,0,none⟩)] #[]) (.func (.func 117) #[.pointer (some ⟨b,0,none⟩)] #[]) (.func (.func 118) #[.pointer (some ⟨b,0,none⟩)] #[]) (.func (.func 119) #[.pointer (some ⟨b,0,none⟩)] #[]) (.func (.func 120) #[.pointer (some ⟨b,0,none⟩)] #[]) (.func (.func 121) #[.pointer (some ⟨b,0,none⟩)] #[]) (.func (.func 122) #[.pointer (some ⟨b,0,none⟩)] #[]) (.func (.func 123) #[.pointer (some ⟨b,0,none⟩)] #[]) W
  have HR:=Ax (jR ih hk' h hB);clear h hk hk' ih h7;go_enter Tryz.func66,Tryz.ntmps66;go_wp2_with fail;refine HR.out.mono ?_;rintro e V hp;cases hq:A9 7 d r with
  |error p=>
   exact zzr
  |ok p=>
   exact zzt
end Go.Proofs.YtmpfilddeglgbaaGreatDoor
