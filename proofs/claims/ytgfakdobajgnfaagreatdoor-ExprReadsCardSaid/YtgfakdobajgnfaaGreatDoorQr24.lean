import Derived.Test.YtgfakdobajgnfaaGreatDoorQr21
namespace Go.Proofs.YtgfakdobajgnfaaGreatDoor
open Go Go.RowKit
theorem tokCells {w:World}{b:Nat}{x0 x1 x2 x3 x4 x5 x6:Value}{t:TypeId}(h:w.heap[b]? =some (.cells #[x0,x1,x2,x3,x4,x5,x6] t (0,0))):
 w.cell? ⟨b,0,none⟩=some x0∧w.cell? ⟨b,1,none⟩=some x1∧w.cell? ⟨b,2,none⟩=some x2∧w.cell? ⟨b,3,none⟩=some x3∧w.cell? ⟨b,4,none⟩=some x4∧w.cell? ⟨b,5,none⟩=some x5∧w.cell? ⟨b,6,none⟩=some x6:=
 ⟨by simp only[World.cell?,h];rfl,by simp only[World.cell?,h];rfl,by simp only[World.cell?,h];rfl,by simp only[World.cell?,h];rfl,by simp only[World.cell?,h];rfl,by simp only[World.cell?,h];rfl,by simp only[World.cell?,h];rfl⟩
theorem nodeCells {w:World}{b:Nat}{x0 x1 x2 x3 x4 x5 x6 x7:Value}{t:TypeId}(h:w.heap[b]? =some (.cells #[x0,x1,x2,x3,x4,x5,x6,x7] t (0,0))):
 w.cell? ⟨b,0,none⟩=some x0∧w.cell? ⟨b,1,none⟩=some x1∧w.cell? ⟨b,2,none⟩=some x2∧w.cell? ⟨b,3,none⟩=some x3∧w.cell? ⟨b,4,none⟩=some x4∧w.cell? ⟨b,5,none⟩=some x5∧w.cell? ⟨b,6,none⟩=some x6∧w.cell? ⟨b,7,none⟩=some x7∧∀i,w.frozen? ⟨b,i,none⟩=false:=
 ⟨by simp only[World.cell?,h];rfl,by simp only[World.cell?,h];rfl,by simp only[World.cell?,h];rfl,by simp only[World.cell?,h];rfl,by simp only[World.cell?,h];rfl,by simp only[World.cell?,h];rfl,by simp only[World.cell?,h];rfl,by simp only[World.cell?,h];rfl,fun i=>by simp only[World.frozen?,h];simp⟩
theorem leaf_fin {w W3:World}{B b d pn:Nat}{X:List Nat}{vl vt:Value}{ts q:List Tkn}{t:Tkn}{nds:List Nd}(hB:B≤w.heap.size)(hb3:Below w.heap.size w W3)(hr:RdAt w B X b vl ts (t::q) d vt nds){h:Hd}
 (hn:W3.heap[pn]? =some (.cells #[.int .u8 h.op,.int .u8 h.v.1,.int .i64 h.v.2.1,.string ⟨h.v.2.2.toArray⟩,.string ⟨h.name.toArray⟩,.slice none 0 0,.int .i64 h.line,.int .i64 h.col] 43 (0,0))):
 (W3.setCell ⟨b,1,none⟩ (.int .i64 (((ts.length - (q.length+1):Nat):Int)+1))).heap[pn]? =some (.cells #[.int .u8 h.op,.int .u8 h.v.1,.int .i64 h.v.2.1,.string ⟨h.v.2.2.toArray⟩,.string ⟨h.name.toArray⟩,.slice none 0 0,.int .i64 h.line,.int .i64 h.col] 43 (0,0))∧
 Calls Tryz.prog 209 #[.pointer (some ⟨b,0,none⟩),.agg #[.int .u8 h.op,.int .u8 h.v.1,.int .i64 h.v.2.1,.string ⟨h.v.2.2.toArray⟩,.string ⟨h.name.toArray⟩,.slice none 0 0,.int .i64 h.line,.int .i64 h.col],.slice none 0 0]
  (W3.setCell ⟨b,1,none⟩ (.int .i64 (((ts.length - (q.length+1):Nat):Int)+1))) (fun e w'=>e= .returned (.int .i64 (nds.length:Int))∧∃v',RdAt w' B X b vl ts q d v' (nds++(Ex.mk h []).flat nds.length)∧Rch b w vt w' v'):=by
 have hr3:=hr.below hb3
 have ho:=only_setCell W3 b 1 (.int .i64 (((ts.length - (q.length+1):Nat):Int)+1))
 have hch:Rch b w vt (W3.setCell ⟨b,1,none⟩ (.int .i64 (((ts.length - (q.length+1):Nat):Int)+1))) vt:=(Rch.of_below vt hb3).trans (Rch.of_only vt ho)
 have hfew:=hr.few
 simp only[List.length_cons] at hfew
 refine⟨ho.cells_of hn fun hm=>?_,?_⟩
 ·simp at hm
  subst hm
  rw[hr3.blk] at hn
  injection hn with hn
  injection hn with _ hn
  exact absurd hn (by decide)
 ·refine(node_any hr3.step (by omega) (Nat.le_trans hB hch.only.size) h [] none 0 (World.ownsRow_nil _ _ _ _) (fun x e=>by cases e)).mono ?_
  rintro e w' ⟨rfl,v',h1,h2⟩
  exact⟨rfl,v',h1,hch.trans h2⟩
set_option maxRecDepth 100000 in
set_option maxHeartbeats 8000000 in
theorem atom_any {k B b:Nat}{X:List Nat}{vl:Value}{ts:List Tkn}(ih:LvlIH k B b vl ts){d:Nat}{r:List Tkn}{w:World}{vt:Value}{nds:List Nd}(hk:rank (.lvl 7) r≤k)(h:RdAt w B X b vl ts r d vt nds)(hB:B≤w.heap.size):
 Calls Tryz.prog 155 #[.pointer (some ⟨b,0,none⟩)] w (XPost w B X b vl ts d vt nds (lvlE 7 d r)):=by
 obtain⟨c0,c1,c2,c3,cf⟩:=cells4 h.blk
 have hl:=h.suf.len
 have hbig:=h.big
 have hbw:=lt_of_heap h.blk
 cases r with
 |nil=>
  obtain⟨va,vc,rfl⟩:=h.toks.form
  have i0:(ts.length:Int)≤(((ts.length - ([]:List Tkn).length:Nat):Int)):=by simp
  have i1:decide ((ts.length:Int)≤(((ts.length - ([]:List Tkn).length:Nat):Int)))=true:=by simp
  have H:=hide h
  have hnq:=fun nq=>hide (show XPost w B X b (.slice va ts.length vc) ts d vt nds (lvlE 7 d []) (gaveUp 4) (w.drewN nq) from by
   rw[lvlE_atom]
   have hb:=below_drewN (Below.refl w.heap.size w) nq
   exact⟨rfl,(H.out.below hb).err,Only.of_below hb _⟩)
  clear h hl cf
  go_enter Tryz.func155,Tryz.ntmps155
  go_wp2_with fail
  go_quiet (fail)
  go_wp2_with fail
  exact⟨rfl,(hnq _).out⟩
 |cons t q=>
  obtain⟨g,c,rfl,hg,hlt,t0,t1,t2,t3,t4,t5,t6⟩:=h.head
  obtain⟨n,hn⟩:∃n,ts.length - (t::q).length=n:=⟨_,rfl⟩
  rw[hn] at c1 hlt t0 t1 t2 t3 t4 t5 t6
  have i0:(n:Int)<(ts.length:Int):=by omega
  have i1:decide ((ts.length:Int)≤(n:Int))=false:=by simp;omega
  have i2:(0:Int)≤(n:Int):=by omega
  have H:=hide h
  have Hn:=hide hn
  clear h hl hn cf
  go_enter Tryz.func155,Tryz.ntmps155
  go_wp2_with fail
  go_quiet (fail)
  go_wp2_with fail
  obtain⟨V,hV⟩:∃V,w.drewN nq=V:=⟨_,rfl⟩
  have hbV:Below w.heap.size w V:=by rw[←hV];exact below_drewN (Below.refl _ w) nq
  have hr:=H.out.below hbV
  rw[hV]
  clear c0 c1 c2 c3 t0 t1 t2 t3 t4 t5 t6 hV
  obtain⟨c0,c1,c2,c3,cf⟩:=cells4 hr.blk
  obtain⟨g',c',e,hg',_,t0,t1,t2,t3,t4,t5,t6⟩:=hr.head
  injection e with e1 _ e3
  injection e1 with e1
  injection e1 with e1
  subst e1
  subst e3
  rw[Hn.out] at c1 t0 t1 t2 t3 t4 t5 t6
  have hbw:b<V.drew.heap.size:=lt_of_heap hr.blk
  have hgw:g<V.drew.heap.size:=hg'
  have hbw2:b<V.heap.size:=lt_of_heap hr.blk
  have hgw2:g<V.heap.size:=hg'
  obtain⟨⟨tk,tt,tv1,tv2,tv3⟩,tl,tc⟩:=t
  simp only at t0 t1 t2 t3 t4 t5 t6
  have HR:=hide hr
  have HB:=hide hbV
  clear hr hbV cf hg hg'
  go_region
  obtain⟨W1,hW1⟩:∃W1,(V.alloc (.cells #[.int .u8 tk,.string ⟨tt.toArray⟩,.int .u8 tv1,.int .i64 tv2,.string ⟨tv3.toArray⟩,.int .i64 tl,.int .i64 tc] 94)).drew=W1:=⟨_,rfl⟩
  have hb1:Below V.heap.size V W1:=by rw[←hW1];exact((Below.refl _ V).alloc (Nat.le_refl _) _).drew
  have hz1:W1.heap.size=V.heap.size+1:=by rw[←hW1];show(V.alloc _).heap.size=_;simp
  have ht1:W1.heap[V.heap.size]? =some (.cells #[.int .u8 tk,.string ⟨tt.toArray⟩,.int .u8 tv1,.int .i64 tv2,.string ⟨tv3.toArray⟩,.int .i64 tl,.int .i64 tc] 94 (0,0)):=by rw[←hW1];exact heap_alloc0 V _
  rw[hW1]
  obtain⟨_,_,_,_,_,u5,u6⟩:=tokCells ht1
  have hn2:=heap_alloc0 W1 (.cells #[.int .u8 0,.int .u8 0,.int .i64 0,.string ⟨#[]⟩,.string ⟨#[]⟩,.slice none 0 0,.int .i64 tl,.int .i64 tc] 43)
  have hb2:Below W1.heap.size W1 (W1.alloc (.cells #[.int .u8 0,.int .u8 0,.int .i64 0,.string ⟨#[]⟩,.string ⟨#[]⟩,.slice none 0 0,.int .i64 tl,.int .i64 tc] 43)):=(Below.refl _ W1).alloc (Nat.le_refl _) _
  obtain⟨W2,hW2⟩:∃W2,W1.alloc (.cells #[.int .u8 0,.int .u8 0,.int .i64 0,.string ⟨#[]⟩,.string ⟨#[]⟩,.slice none 0 0,.int .i64 tl,.int .i64 tc] 43)=W2:=⟨_,rfl⟩
  rw[hW2] at hn2 hb2
  rw[hz1] at hn2
  have hzV:w.heap.size≤V.heap.size:=HB.out.size
  have hz2:W2.heap.size=V.heap.size+2:=by rw[←hW2];simp [hz1]
  have ht2:=(hb2.block _ (lt_of_heap ht1)).trans ht1
  have hB2:=HB.out.trans ((hb1.trans (hb2.mono hb1.size)).mono HB.out.size)
  have HR2:=hide (H.out.below hB2)
  have HB2:=hide hB2
  have HT2:=hide ht2
  have HN2:=hide hn2
  clear hb1 ht1 hn2 hb2 ht2 hB2 HR HB hW1 c0 c1 c2 c3 t0 t1 t2 t3 t4 t5 t6 hbw hgw hbw2 hgw2 i0 i1 i2
  obtain⟨f0,f1,f2,f3,f4,f5,f6⟩:=tokCells HT2.out
  obtain⟨n0,n1,n2,n3,n4,n5,n6,n7,nf⟩:=nodeCells HN2.out
  have nf0:=nf 0
  have nf1:=nf 1
  have nf2:=nf 2
  have nf3:=nf 3
  have nf4:=nf 4
  clear nf
  by_cases hk4:tk=4∨tk=5∨tk=6
  ·rcases hk4 with rfl|rfl|rfl
   ·go_wp2_with fail
    go_region
    obtain⟨W3,hW3⟩:∃W3,((((W2.setCell ⟨V.heap.size+1,0,none⟩ (.int .u8 1)).setCell ⟨V.heap.size+1,1,none⟩ (.int .u8 tv1)).setCell ⟨V.heap.size+1,2,none⟩ (.int .i64 tv2)).setCell ⟨V.heap.size+1,3,none⟩ (.string ⟨tv3.toArray⟩)).drew=W3:=⟨_,rfl⟩
    have hO3:Only [V.heap.size+1] W2 W3:=by
     rw[←hW3]
     exact Only.drew ((((only_setCell W2 _ _ _).setCell (.inl (by simp)) _).setCell (.inl (by simp)) _).setCell (.inl (by simp)) _)
    have hn3:W3.heap[V.heap.size+1]? =some (.cells #[.int .u8 1,.int .u8 tv1,.int .i64 tv2,.string ⟨tv3.toArray⟩,.string ⟨#[]⟩,.slice none 0 0,.int .i64 tl,.int .i64 tc] 43 (0,0)):=by
     rw[←hW3]
     show(World.setCell _ _ _).heap[_]? =_
     rw[setCell_heap (setCell_heap (setCell_heap (setCell_heap HN2.out)))]
     rfl
    rw[hW3]
    have hB3:Below w.heap.size w W3:=below_only HB2.out hO3 (by simp;omega) (by omega)
    have hr3:=H.out.below hB3
    obtain⟨c0,c1,c2,c3,cf⟩:=cells4 hr3.blk
    have cf1:=cf 1
    obtain⟨hn4,hnd⟩:=leaf_fin hB hB3 H.out (h:=⟨1,(tv1,tv2,tv3),[],tl,tc⟩) hn3
    obtain⟨W4,hW4⟩:∃W4,W3.setCell ⟨b,1,none⟩ (.int .i64 (((ts.length - (q.length+1):Nat):Int)+1))=W4:=⟨_,rfl⟩
    rw[hW4] at hn4 hnd
    simp only[List.toArray] at hnd
    obtain⟨m0,m1,m2,m3,m4,m5,m6,m7,_⟩:=nodeCells hn4
    have HND:=hide hnd
    have HX:Hid (lvlE 7 d (⟨⟨4,tt,tv1,tv2,tv3⟩,tl,tc⟩::q)= .ok (.mk ⟨1,(tv1,tv2,tv3),[],tl,tc⟩ [],q)):=hide (by rw[lvlE_atom];rfl)
    clear hn4 hnd hn3 hO3 hB3 hr3 cf hW3
    go_wp2_with fail
    (with_reducible refine HND.out.mono ?_)
    rintro e V6 ⟨rfl,v6,hr6,hch6⟩
    have HE:Hid (XPost w B X b (.slice (some ⟨g,0,none⟩) ts.length c) ts d vt nds (lvlE 7 d (⟨⟨4,tt,tv1,tv2,tv3⟩,tl,tc⟩::q)) (.returned (.int .i64 (nds.length:Int))) V6):=hide (by
     rw[HX.out]
     exact⟨rfl,v6,hr6,hch6⟩)
    clear hr6 hch6 HND HX hW4
    go_wp2_with fail
    go_ret
    exact HE.out
   ·go_wp2_with fail
    go_region
    obtain⟨W3,hW3⟩:∃W3,((((W2.setCell ⟨V.heap.size+1,0,none⟩ (.int .u8 1)).setCell ⟨V.heap.size+1,1,none⟩ (.int .u8 tv1)).setCell ⟨V.heap.size+1,2,none⟩ (.int .i64 tv2)).setCell ⟨V.heap.size+1,3,none⟩ (.string ⟨tv3.toArray⟩)).drew=W3:=⟨_,rfl⟩
    have hO3:Only [V.heap.size+1] W2 W3:=by
     rw[←hW3]
     exact Only.drew ((((only_setCell W2 _ _ _).setCell (.inl (by simp)) _).setCell (.inl (by simp)) _).setCell (.inl (by simp)) _)
    have hn3:W3.heap[V.heap.size+1]? =some (.cells #[.int .u8 1,.int .u8 tv1,.int .i64 tv2,.string ⟨tv3.toArray⟩,.string ⟨#[]⟩,.slice none 0 0,.int .i64 tl,.int .i64 tc] 43 (0,0)):=by
     rw[←hW3]
     show(World.setCell _ _ _).heap[_]? =_
     rw[setCell_heap (setCell_heap (setCell_heap (setCell_heap HN2.out)))]
     rfl
    rw[hW3]
    have hB3:Below w.heap.size w W3:=below_only HB2.out hO3 (by simp;omega) (by omega)
    have hr3:=H.out.below hB3
    obtain⟨c0,c1,c2,c3,cf⟩:=cells4 hr3.blk
    have cf1:=cf 1
    obtain⟨hn4,hnd⟩:=leaf_fin hB hB3 H.out (h:=⟨1,(tv1,tv2,tv3),[],tl,tc⟩) hn3
    obtain⟨W4,hW4⟩:∃W4,W3.setCell ⟨b,1,none⟩ (.int .i64 (((ts.length - (q.length+1):Nat):Int)+1))=W4:=⟨_,rfl⟩
    rw[hW4] at hn4 hnd
    simp only[List.toArray] at hnd
    obtain⟨m0,m1,m2,m3,m4,m5,m6,m7,_⟩:=nodeCells hn4
    have HND:=hide hnd
    have HX:Hid (lvlE 7 d (⟨⟨5,tt,tv1,tv2,tv3⟩,tl,tc⟩::q)= .ok (.mk ⟨1,(tv1,tv2,tv3),[],tl,tc⟩ [],q)):=hide (by rw[lvlE_atom];rfl)
    clear hn4 hnd hn3 hO3 hB3 hr3 cf hW3
    go_wp2_with fail
    (with_reducible refine HND.out.mono ?_)
    rintro e V6 ⟨rfl,v6,hr6,hch6⟩
    have HE:Hid (XPost w B X b (.slice (some ⟨g,0,none⟩) ts.length c) ts d vt nds (lvlE 7 d (⟨⟨5,tt,tv1,tv2,tv3⟩,tl,tc⟩::q)) (.returned (.int .i64 (nds.length:Int))) V6):=hide (by
     rw[HX.out]
     exact⟨rfl,v6,hr6,hch6⟩)
    clear hr6 hch6 HND HX hW4
    go_wp2_with fail
    go_ret
    exact HE.out
   ·go_wp2_with fail
    go_region
    obtain⟨W3,hW3⟩:∃W3,((((W2.setCell ⟨V.heap.size+1,0,none⟩ (.int .u8 1)).setCell ⟨V.heap.size+1,1,none⟩ (.int .u8 tv1)).setCell ⟨V.heap.size+1,2,none⟩ (.int .i64 tv2)).setCell ⟨V.heap.size+1,3,none⟩ (.string ⟨tv3.toArray⟩)).drew=W3:=⟨_,rfl⟩
    have hO3:Only [V.heap.size+1] W2 W3:=by
     rw[←hW3]
     exact Only.drew ((((only_setCell W2 _ _ _).setCell (.inl (by simp)) _).setCell (.inl (by simp)) _).setCell (.inl (by simp)) _)
    have hn3:W3.heap[V.heap.size+1]? =some (.cells #[.int .u8 1,.int .u8 tv1,.int .i64 tv2,.string ⟨tv3.toArray⟩,.string ⟨#[]⟩,.slice none 0 0,.int .i64 tl,.int .i64 tc] 43 (0,0)):=by
     rw[←hW3]
     show(World.setCell _ _ _).heap[_]? =_
     rw[setCell_heap (setCell_heap (setCell_heap (setCell_heap HN2.out)))]
     rfl
    rw[hW3]
    have hB3:Below w.heap.size w W3:=below_only HB2.out hO3 (by simp;omega) (by omega)
    have hr3:=H.out.below hB3
    obtain⟨c0,c1,c2,c3,cf⟩:=cells4 hr3.blk
    have cf1:=cf 1
    obtain⟨hn4,hnd⟩:=leaf_fin hB hB3 H.out (h:=⟨1,(tv1,tv2,tv3),[],tl,tc⟩) hn3
    obtain⟨W4,hW4⟩:∃W4,W3.setCell ⟨b,1,none⟩ (.int .i64 (((ts.length - (q.length+1):Nat):Int)+1))=W4:=⟨_,rfl⟩
    rw[hW4] at hn4 hnd
    simp only[List.toArray] at hnd
    obtain⟨m0,m1,m2,m3,m4,m5,m6,m7,_⟩:=nodeCells hn4
    have HND:=hide hnd
    have HX:Hid (lvlE 7 d (⟨⟨6,tt,tv1,tv2,tv3⟩,tl,tc⟩::q)= .ok (.mk ⟨1,(tv1,tv2,tv3),[],tl,tc⟩ [],q)):=hide (by rw[lvlE_atom];rfl)
    clear hn4 hnd hn3 hO3 hB3 hr3 cf hW3
    go_wp2_with fail
    (with_reducible refine HND.out.mono ?_)
    rintro e V6 ⟨rfl,v6,hr6,hch6⟩
    have HE:Hid (XPost w B X b (.slice (some ⟨g,0,none⟩) ts.length c) ts d vt nds (lvlE 7 d (⟨⟨6,tt,tv1,tv2,tv3⟩,tl,tc⟩::q)) (.returned (.int .i64 (nds.length:Int))) V6):=hide (by
     rw[HX.out]
     exact⟨rfl,v6,hr6,hch6⟩)
    clear hr6 hch6 HND HX hW4
    go_wp2_with fail
    go_ret
    exact HE.out
  by_cases hk2:tk=2
  ·subst hk2
   clear hk4
   go_wp2_with fail
   go_region
   obtain⟨W3,hW3⟩:∃W3,((W2.setCell ⟨V.heap.size+1,0,none⟩ (.int .u8 2)).setCell ⟨V.heap.size+1,4,none⟩ (.string ⟨tt.toArray⟩)).drew=W3:=⟨_,rfl⟩
   have hO3:Only [V.heap.size+1] W2 W3:=by
    rw[←hW3]
    exact Only.drew ((only_setCell W2 _ _ _).setCell (.inl (by simp)) _)
   have hn3:W3.heap[V.heap.size+1]? =some (.cells #[.int .u8 2,.int .u8 0,.int .i64 0,.string ⟨#[]⟩,.string ⟨tt.toArray⟩,.slice none 0 0,.int .i64 tl,.int .i64 tc] 43 (0,0)):=by
    rw[←hW3]
    show(World.setCell _ _ _).heap[_]? =_
    rw[setCell_heap (setCell_heap HN2.out)]
    rfl
   rw[hW3]
   have hB3:Below w.heap.size w W3:=below_only HB2.out hO3 (by simp;omega) (by omega)
   have hr3:=H.out.below hB3
   obtain⟨c0,c1,c2,c3,cf⟩:=cells4 hr3.blk
   have cf1:=cf 1
   obtain⟨hn4,hnd⟩:=leaf_fin hB hB3 H.out (h:=⟨2,v0,tt,tl,tc⟩) hn3
   obtain⟨W4,hW4⟩:∃W4,W3.setCell ⟨b,1,none⟩ (.int .i64 (((ts.length - (q.length+1):Nat):Int)+1))=W4:=⟨_,rfl⟩
   rw[hW4] at hn4 hnd
   simp only[List.toArray] at hnd
   obtain⟨m0,m1,m2,m3,m4,m5,m6,m7,_⟩:=nodeCells hn4
   have HND:=hide hnd
   have HX:Hid (lvlE 7 d (⟨⟨2,tt,tv1,tv2,tv3⟩,tl,tc⟩::q)= .ok (.mk ⟨2,v0,tt,tl,tc⟩ [],q)):=hide (by rw[lvlE_atom];rfl)
   clear hn4 hnd hn3 hO3 hB3 hr3 cf hW3
   go_wp2_with fail
   (with_reducible refine HND.out.mono ?_)
   rintro e V6 ⟨rfl,v6,hr6,hch6⟩
   have HE:Hid (XPost w B X b (.slice (some ⟨g,0,none⟩) ts.length c) ts d vt nds (lvlE 7 d (⟨⟨2,tt,tv1,tv2,tv3⟩,tl,tc⟩::q)) (.returned (.int .i64 (nds.length:Int))) V6):=hide (by
    rw[HX.out]
    exact⟨rfl,v6,hr6,hch6⟩)
   clear hr6 hch6 HND HX hW4
   go_wp2_with fail
   go_ret
   exact HE.out
  by_cases hk3:tk=3
  ·subst hk3
   clear hk4 hk2
   obtain⟨W3,hW3⟩:∃W3,W2.setCell ⟨V.heap.size+1,0,none⟩ (.int .u8 3)=W3:=⟨_,rfl⟩
   have hO3:Only [V.heap.size+1] W2 W3:=by
    rw[←hW3]
    exact only_setCell W2 _ _ _
   have hn3:W3.heap[V.heap.size+1]? =some (.cells #[.int .u8 3,.int .u8 0,.int .i64 0,.string ⟨#[]⟩,.string ⟨#[]⟩,.slice none 0 0,.int .i64 tl,.int .i64 tc] 43 (0,0)):=by
    rw[←hW3]
    rw[setCell_heap HN2.out]
    rfl
   have hB3:Below w.heap.size w W3:=below_only HB2.out hO3 (by simp;omega) (by omega)
   have hr3:=H.out.below hB3
   obtain⟨c0,c1,c2,c3,cf⟩:=cells4 hr3.blk
   have cf1:=cf 1
   obtain⟨hn4,hnd⟩:=leaf_fin hB hB3 H.out (h:=⟨3,v0,[],tl,tc⟩) hn3
   obtain⟨W4,hW4⟩:∃W4,W3.setCell ⟨b,1,none⟩ (.int .i64 (((ts.length - (q.length+1):Nat):Int)+1))=W4:=⟨_,rfl⟩
   rw[hW4] at hn4 hnd
   simp only[List.toArray] at hnd
   obtain⟨m0,m1,m2,m3,m4,m5,m6,m7,_⟩:=nodeCells hn4
   have HND:=hide hnd
   have HX:Hid (lvlE 7 d (⟨⟨3,tt,tv1,tv2,tv3⟩,tl,tc⟩::q)= .ok (.mk ⟨3,v0,[],tl,tc⟩ [],q)):=hide (by rw[lvlE_atom];rfl)
   clear hn4 hnd hn3 hO3 hB3 hr3 cf
   go_wp2_with fail
   (with_reducible refine HND.out.mono ?_)
   rintro e V6 ⟨rfl,v6,hr6,hch6⟩
   have HE:Hid (XPost w B X b (.slice (some ⟨g,0,none⟩) ts.length c) ts d vt nds (lvlE 7 d (⟨⟨3,tt,tv1,tv2,tv3⟩,tl,tc⟩::q)) (.returned (.int .i64 (nds.length:Int))) V6):=hide (by
    rw[HX.out]
    exact⟨rfl,v6,hr6,hch6⟩)
   clear hr6 hch6 HND HX hW4
   go_wp2_with fail
   go_ret
   exact HE.out
  by_cases hk1:tk=1
  ·subst hk1
   clear hk4 hk2 hk3
   have hlit:=literal_any tt W2
   have Hlit:=hide hlit
   clear hlit
   go_wp2_with fail
   (with_reducible refine Hlit.out.mono ?_)
   rintro e V3 ⟨rfl,hb3⟩
   obtain⟨lv1,lv2,lv3,hlv⟩:∃a b c,(litL tt).getD v0=(a,b,c):=⟨_,_,_,rfl⟩
   rw[hlv]
   simp only[valV]
   obtain⟨isl,hisl⟩:∃z,(litL tt).isSome=z:=⟨_,rfl⟩
   rw[hisl]
   have hb3a:=(Below.refl V3.heap.size V3).alloc (Nat.le_refl _) (.cells #[.int .u8 lv1,.int .i64 lv2,.string ⟨lv3.toArray⟩] 23)
   have h5:=heap_alloc0 V3 (.cells #[.int .u8 lv1,.int .i64 lv2,.string ⟨lv3.toArray⟩] 23)
   obtain⟨V4,hV4⟩:∃V4,V3.alloc (.cells #[.int .u8 lv1,.int .i64 lv2,.string ⟨lv3.toArray⟩] 23)=V4:=⟨_,rfl⟩
   rw[hV4] at hb3a h5
   have hq1:¬V3.heap.size=V.heap.size+1:=by have:=hb3.size;omega
   have hq2:¬V.heap.size+1=V3.heap.size:=by have:=hb3.size;omega
   have hz4:V4.heap.size=V3.heap.size+1:=by rw[←hV4];simp
   have hb4:=hb3.trans (hb3a.mono hb3.size)
   have hcl:=calls_any tt V4
   have Hcl:=hide hcl
   obtain⟨_,u1,_⟩:=tokCells ((hb4.block _ (lt_of_heap HT2.out)).trans HT2.out)
   have HB4:=hide hb4
   have H5:=hide h5
   have HLV:=hide hlv
   have HIS:=hide hisl
   clear hb3 hb3a h5 hb4 hcl Hlit hlv hisl
   go_wp2_with fail
   (with_reducible refine Hcl.out.mono ?_)
   rintro e V5 ⟨rfl,hb5⟩
   obtain⟨o1,o2,o3,hcv⟩:∃a b c,(callL tt).getD (0,0,0)=(a,b,c):=⟨_,_,_,rfl⟩
   rw[hcv]
   simp only[callV]
   have hb5a:=(Below.refl V5.heap.size V5).alloc (Nat.le_refl _) (.cells #[.int .u8 o1,.int .i64 (o2:Int),.int .i64 (o3:Int)] 233)
   have h7:=heap_alloc0 V5 (.cells #[.int .u8 o1,.int .i64 (o2:Int),.int .i64 (o3:Int)] 233)
   obtain⟨V6,hV6⟩:∃V6,V5.alloc (.cells #[.int .u8 o1,.int .i64 (o2:Int),.int .i64 (o3:Int)] 233)=V6:=⟨_,rfl⟩
   rw[hV6] at hb5a h7
   have hb46:=hb5.trans (hb5a.mono hb5.size)
   have hb26:=HB4.out.trans (hb46.mono HB4.out.size)
   have hBx:=HB2.out.trans (hb26.mono HB2.out.size)
   have ht6:=(hb26.block _ (lt_of_heap HT2.out)).trans HT2.out
   have hn6:=(hb26.block _ (lt_of_heap HN2.out)).trans HN2.out
   have h56:=(hb46.block _ (lt_of_heap H5.out)).trans H5.out
   have hz6:V.heap.size+2≤V6.heap.size:=by have:=hb26.size;omega
   have HBx:=hide hBx
   have HN6:=hide hn6
   obtain⟨_,_,_,_,_,t5,t6⟩:=tokCells ht6
   obtain⟨n0,n1,n2,n3,n4,n5,n6,n7,nf⟩:=nodeCells hn6
   have nf0:=nf 0
   have nf1:=nf 1
   have nf2:=nf 2
   have nf3:=nf 3
   obtain⟨l0,l1,l2,_⟩:=cells3 h56
   obtain⟨k0,k1,k2,_⟩:=cells3 h7
   clear hb5 hb5a h7 hb46 hb26 hBx ht6 hn6 h56 HB4 H5 Hcl HN2 HT2 HB2 HR2 nf u5 u6 u1 f0 f1 f2 f3 f4 f5 f6
   cases hcc:callL tt with
   |some cx=>
    rw[hcc] at hcv
    simp only[Option.getD_some] at hcv
    subst hcv
    have hch:callH ⟨⟨1,tt,tv1,tv2,tv3⟩,tl,tc⟩=some ⟨o1,o2,o3,tl,tc⟩:=by simp [callH,hcc]
    have hlf:leafH ⟨⟨1,tt,tv1,tv2,tv3⟩,tl,tc⟩=none:=by simp [leafH,hcc]
    have hcle:=callL_le hcc
    have hca:Calls Tryz.prog 205 #[.pointer (some ⟨b,0,none⟩),.agg #[.int .u8 o1,.int .i64 (o2:Int),.int .i64 (o3:Int)],.agg #[.int .i64 tl,.int .i64 tc]] V6 _:=call_any ih hk (H.out.below HBx.out) (Nat.le_trans hB HBx.out.size) ⟨o1,o2,o3,tl,tc⟩ (by show 1≤o3;have:=hcle;simp only at this;omega) (by show o3≤8;have:=hcle;simp only at this;omega)
    have HCA:=hide hca
    have HX:Hid (lvlE 7 d (⟨⟨1,tt,tv1,tv2,tv3⟩,tl,tc⟩::q)=openE d q fun q'=>argsE ⟨o1,o2,o3,tl,tc⟩ [] (d+1) q'):=hide (by rw[lvlE_atom];simp only[hlf,hch])
    simp only[Option.isSome_some]
    clear hcc hch hlf hcle hca ih
    go_wp2_with fail
    (with_reducible refine HCA.out.mono ?_)
    rintro e V7 hp7
    rw[←HX.out] at hp7
    cases hq7:lvlE 7 d (⟨⟨1,tt,tv1,tv2,tv3⟩,tl,tc⟩::q) with
    |error p7=>
     obtain⟨er,q7⟩:=p7
     rw[hq7] at hp7
     have HE:Hid (XPost w B X b (.slice (some ⟨g,0,none⟩) ts.length c) ts d vt nds (.error (er,q7)) (gaveUp er) V7):=hide (by
      exact⟨rfl,hp7.2.1,(Rch.of_below vt HBx.out).err hp7.2.2⟩)
     obtain⟨rfl,_,_⟩:=hp7
     clear hq7 HX
     go_wp2_with fail
     exact⟨rfl,HE.out⟩
    |ok p7=>
     obtain⟨a7,q7⟩:=p7
     rw[hq7] at hp7
     obtain⟨rfl,v7,hr7,hch7⟩:=hp7
     have HE:Hid (XPost w B X b (.slice (some ⟨g,0,none⟩) ts.length c) ts d vt nds (lvlE 7 d (⟨⟨1,tt,tv1,tv2,tv3⟩,tl,tc⟩::q)) (.returned (.int .i64 ((nds.length+a7.size - 1:Nat):Int))) V7):=hide (by
      rw[hq7]
      exact⟨rfl,v7,hr7,(Rch.of_below vt HBx.out).trans hch7⟩)
     clear hr7 hch7 hq7 HX
     go_wp2_with fail
     go_ret
     exact HE.out
   |none=>
    simp only[Option.isSome_none]
    have hch:callH ⟨⟨1,tt,tv1,tv2,tv3⟩,tl,tc⟩=none:=by simp [callH,hcc]
    cases hll:litL tt with
    |none=>
     have hlf:leafH ⟨⟨1,tt,tv1,tv2,tv3⟩,tl,tc⟩=none:=by simp [leafH,hcc,hll]
     have hmem:(⟨⟨1,tt,tv1,tv2,tv3⟩,tl,tc⟩:Tkn)∈ts:=by
      have:=H.out.suf.at_drop
      exact List.mem_of_mem_drop (this▸List.mem_cons_self)
     have hn40:tt≠[40]:=H.out.nam _ hmem rfl
     have hi40:isH [40] (⟨⟨1,tt,tv1,tv2,tv3⟩,tl,tc⟩::q)=false:=by simp [isH,hn40]
     have HE:Hid (XPost w B X b (.slice (some ⟨g,0,none⟩) ts.length c) ts d vt nds (lvlE 7 d (⟨⟨1,tt,tv1,tv2,tv3⟩,tl,tc⟩::q)) (gaveUp 4) V6):=hide (by
      rw[lvlE_atom]
      simp only[hlf,hch]
      unfold openE
      rw[hi40]
      exact⟨rfl,(H.out.below HBx.out).err,Only.of_below HBx.out _⟩)
     have hil:isl=false:=by rw[←HIS.out,hll];rfl
     subst hil
     clear hlf hmem hn40 hi40 hch hcc hll ih hk H HLV HIS
     go_wp2_with fail
     exact⟨rfl,HE.out⟩
    |some lv=>
     have hlf:leafH ⟨⟨1,tt,tv1,tv2,tv3⟩,tl,tc⟩=some ⟨1,lv,[],tl,tc⟩:=by simp [leafH,hcc,hll]
     have hil:isl=true:=by rw[←HIS.out,hll];rfl
     subst hil
     have hlv:lv=(lv1,lv2,lv3):=by rw[←HLV.out,hll];rfl
     subst hlv
     have HLF:=hide hlf
     have HB2:=HBx
     have HN2:=HN6
     clear hlf hch hcc hll ih HLV HIS
     go_wp2_with fail
     go_region
     obtain⟨W3,hW3⟩:∃W3,((((V6.setCell ⟨V.heap.size+1,0,none⟩ (.int .u8 1)).setCell ⟨V.heap.size+1,1,none⟩ (.int .u8 lv1)).setCell ⟨V.heap.size+1,2,none⟩ (.int .i64 lv2)).setCell ⟨V.heap.size+1,3,none⟩ (.string ⟨lv3.toArray⟩)).drew=W3:=⟨_,rfl⟩
     have hO3:Only [V.heap.size+1] V6 W3:=by
      rw[←hW3]
      exact Only.drew ((((only_setCell V6 _ _ _).setCell (.inl (by simp)) _).setCell (.inl (by simp)) _).setCell (.inl (by simp)) _)
     have hn3:W3.heap[V.heap.size+1]? =some (.cells #[.int .u8 1,.int .u8 lv1,.int .i64 lv2,.string ⟨lv3.toArray⟩,.string ⟨#[]⟩,.slice none 0 0,.int .i64 tl,.int .i64 tc] 43 (0,0)):=by
      rw[←hW3]
      show(World.setCell _ _ _).heap[_]? =_
      rw[setCell_heap (setCell_heap (setCell_heap (setCell_heap HN2.out)))]
      rfl
     rw[hW3]
     have hB3:Below w.heap.size w W3:=below_only HBx.out hO3 (by simp;omega) (by omega)
     have hr3:=H.out.below hB3
     obtain⟨c0,c1,c2,c3,cf⟩:=cells4 hr3.blk
     have cf1:=cf 1
     obtain⟨hn4,hnd⟩:=leaf_fin hB hB3 H.out (h:=⟨1,(lv1,lv2,lv3),[],tl,tc⟩) hn3
     obtain⟨W4,hW4⟩:∃W4,W3.setCell ⟨b,1,none⟩ (.int .i64 (((ts.length - (q.length+1):Nat):Int)+1))=W4:=⟨_,rfl⟩
     rw[hW4] at hn4 hnd
     simp only[List.toArray] at hnd
     obtain⟨m0,m1,m2,m3,m4,m5,m6,m7,_⟩:=nodeCells hn4
     have HND:=hide hnd
     have HX:Hid (lvlE 7 d (⟨⟨1,tt,tv1,tv2,tv3⟩,tl,tc⟩::q)= .ok (.mk ⟨1,(lv1,lv2,lv3),[],tl,tc⟩ [],q)):=hide (by rw[lvlE_atom];simp only[HLF.out])
     clear hn4 hnd hn3 hO3 hB3 hr3 cf hW3
     go_wp2_with fail
     (with_reducible refine HND.out.mono ?_)
     rintro e V6 ⟨rfl,v6,hr6,hch6⟩
     have HE:Hid (XPost w B X b (.slice (some ⟨g,0,none⟩) ts.length c) ts d vt nds (lvlE 7 d (⟨⟨1,tt,tv1,tv2,tv3⟩,tl,tc⟩::q)) (.returned (.int .i64 (nds.length:Int))) V6):=hide (by
      rw[HX.out]
      exact⟨rfl,v6,hr6,hch6⟩)
     clear hr6 hch6 HND HX hW4
     go_wp2_with fail
     go_ret
     exact HE.out
  have hlf:leafH ⟨⟨tk,tt,tv1,tv2,tv3⟩,tl,tc⟩=none:=by simp [leafH,hk4,hk2,hk3,hk1]
  have hch:callH ⟨⟨tk,tt,tv1,tv2,tv3⟩,tl,tc⟩=none:=by simp [callH,hk1]
  have HX:Hid (lvlE 7 d (⟨⟨tk,tt,tv1,tv2,tv3⟩,tl,tc⟩::q)=openE d (⟨⟨tk,tt,tv1,tv2,tv3⟩,tl,tc⟩::q) fun q'=>(lvlE 0 (d+1) q').next shutE):=hide (by rw[lvlE_atom];simp only[hlf,hch])
  have j4:(tk==4)=false:=by simp at hk4 ⊢;omega
  have j5:(tk==5)=false:=by simp at hk4 ⊢;omega
  have j6:(tk==6)=false:=by simp at hk4 ⊢;omega
  have j2:(tk==2)=false:=by simpa using hk2
  have j3:(tk==3)=false:=by simpa using hk3
  have j1:(tk==1)=false:=by simpa using hk1
  have his:=is_any HR2.out [40]
  have His:=hide his
  have HI:=hide ih
  clear hk4 hk2 hk3 hk1 hlf hch his ih n0 n1 n2 n3 n4 n5 n6 n7 nf0 nf1 nf2 nf3 nf4 HN2 f1 f2 f3 f4 f5 f6 HT2
  go_wp2_with fail
  (with_reducible refine His.out.mono ?_)
  rintro e V3 ⟨rfl,hb3⟩
  have hB3:=HB2.out.trans (hb3.mono HB2.out.size)
  have hr3:=H.out.below hB3
  have HB3:=hide hB3
  clear hb3 hB3 His HR2 HB2 f0 u5 u6
  by_cases ho:isH [40] (⟨⟨tk,tt,tv1,tv2,tv3⟩,tl,tc⟩::q)=true
  ·rw[ho]
   by_cases hd:d=12
   ·have hop:=hide (open_deep (hd▸hr3))
    have HE:Hid (XPost w B X b (.slice (some ⟨g,0,none⟩) ts.length c) ts d vt nds (lvlE 7 d (⟨⟨tk,tt,tv1,tv2,tv3⟩,tl,tc⟩::q)) (gaveUp 12) V3):=hide (by
     rw[HX.out]
     unfold openE
     rw[if_pos ho,if_pos hd]
     exact⟨rfl,hr3.err,Only.of_below HB3.out _⟩)
    clear hr3 HX HB3 hd ho
    go_wp2_with fail
    (with_reducible refine hop.out.mono ?_)
    rintro e V4 ⟨rfl,rfl⟩
    clear hop
    go_wp2_with fail
    exact⟨rfl,HE.out⟩
   ·have hop:=hide (open_ok' hr3 hd)
    have hx:=HX.out
    unfold openE at hx
    rw[if_pos ho,if_neg hd,List.tail_cons] at hx
    have HX2:=hide hx
    have HO:=hide ho
    have hd12:=H.out.hd
    clear hr3 HX hx ho
    go_wp2_with fail
    (with_reducible refine hop.out.mono ?_)
    rintro e V4 ⟨rfl,hr4,ho4⟩
    have hmu:=must_any hr4 [40]
    rw[HO.out] at hmu
    simp only[if_true,List.tail_cons] at hmu
    have Hmu:=hide hmu
    have HO4:=hide ho4
    clear hmu ho4 hr4 hop
    go_wp2_with fail
    (with_reducible refine Hmu.out.mono ?_)
    rintro e V5 ⟨rfl,hr5,ho5⟩
    have hch5:Rch b w vt V5 vt:=(Rch.of_below vt HB3.out).trans (Rch.of_only vt (HO4.out.trans ho5))
    have hc6:Calls Tryz.prog 89 #[.pointer (some ⟨b,0,none⟩),.int .i64 0] V5 _:=HI.out X 0 (d+1) q V5 vt nds (by omega) (by simp only[rank,List.length_cons] at hk ⊢;omega) hr5 (Nat.le_trans hB hch5.only.size)
    have Hc6:=hide hc6
    have HCH:=hide hch5
    clear hr5 ho5 hc6 hch5 Hmu HO4 HB3
    go_wp2_with fail
    (with_reducible refine Hc6.out.mono ?_)
    rintro e V6 hp6
    cases hq6:lvlE 0 (d+1) q with
    |error p=>
     obtain⟨er,q6⟩:=p
     rw[hq6] at hp6
     have HE:Hid (XPost w B X b (.slice (some ⟨g,0,none⟩) ts.length c) ts d vt nds (lvlE 7 d (⟨⟨tk,tt,tv1,tv2,tv3⟩,tl,tc⟩::q)) (gaveUp er) V6):=hide (by
      rw[HX2.out,hq6]
      obtain⟨_,h2,h3⟩:=XPost.pre hp6 HCH.out
      exact⟨rfl,h2,h3⟩)
     obtain⟨rfl,_,_⟩:=hp6
     clear hq6 HX2 HCH
     go_wp2_with fail
     exact⟨rfl,HE.out⟩
    |ok p=>
     obtain⟨bx,q6⟩:=p
     rw[hq6] at hp6
     obtain⟨rfl,v6,hp6,hch6⟩:=hp6
     have hch:=HCH.out.trans hch6
     have hx:=HX2.out
     rw[hq6] at hx
     simp only[ExR.next] at hx
     unfold shutE at hx
     have hmu:=must_any hp6 [41]
     obtain⟨m,hm⟩:∃m,isH [41] q6=m:=⟨_,rfl⟩
     rw[hm] at hmu hx
     cases m with
     |false=>
      simp only[Bool.false_eq_true,if_false] at hmu hx
      have Hmu:=hide hmu
      have HX3:=hide hx
      have HC:=hide hch
      have HP6:=hide hp6
      clear hp6 hch6 hch hx hmu hm hq6 HX2 HCH
      go_wp2_with fail
      (with_reducible refine Hmu.out.mono ?_)
      rintro e V7 ⟨rfl,hb7⟩
      have HE:Hid (XPost w B X b (.slice (some ⟨g,0,none⟩) ts.length c) ts d vt nds (lvlE 7 d (⟨⟨tk,tt,tv1,tv2,tv3⟩,tl,tc⟩::q)) (gaveUp 4) V7):=hide (by
       rw[HX3.out]
       exact⟨rfl,(HP6.out.below hb7).err,HC.out.err (Only.of_below hb7 _)⟩)
      clear hb7 Hmu
      go_wp2_with fail
      exact⟨rfl,HE.out⟩
     |true=>
      simp only[if_true] at hmu hx
      have Hmu:=hide hmu
      have HX3:=hide hx
      have HC:=hide hch
      clear hp6 hch6 hch hx hmu hm hq6 HX2 HCH
      go_wp2_with fail
      (with_reducible refine Hmu.out.mono ?_)
      rintro e V7 ⟨rfl,hr7,ho7⟩
      obtain⟨e0,e1,e2,e3,ef⟩:=cells4 hr7.blk
      have ef2:=ef 2
      have hr8:=hr7.deep (d':=d) (by omega)
      have ho8:=only_setCell V7 b 2 (.int .i64 (d:Int))
      obtain⟨V8,hV8⟩:∃V8,V7.setCell ⟨b,2,none⟩ (.int .i64 (d:Int))=V8:=⟨_,rfl⟩
      rw[hV8] at hr8 ho8
      have HE:Hid (XPost w B X b (.slice (some ⟨g,0,none⟩) ts.length c) ts d vt nds (lvlE 7 d (⟨⟨tk,tt,tv1,tv2,tv3⟩,tl,tc⟩::q)) (.returned (.int .i64 ((nds.length+bx.size - 1:Nat):Int))) V8):=hide (by
       rw[HX3.out]
       exact⟨rfl,v6,hr8,HC.out.trans (Rch.of_only v6 (ho7.trans ho8))⟩)
      clear hr7 ho7 hr8 ho8 Hmu HC HX3 ef
      go_wp2_with fail
      go_ret
      exact HE.out
  ·have HO:Hid (isH [40] (⟨⟨tk,tt,tv1,tv2,tv3⟩,tl,tc⟩::q)=false):=hide (by simpa using ho)
   rw[HO.out]
   have hmu:=must_any hr3 [40]
   rw[HO.out] at hmu
   simp only[Bool.false_eq_true,if_false] at hmu
   have Hmu:=hide hmu
   have HR3:=hide hr3
   clear hr3 hmu ho
   go_wp2_with fail
   (with_reducible refine Hmu.out.mono ?_)
   rintro e V4 ⟨rfl,hb4⟩
   have HE:Hid (XPost w B X b (.slice (some ⟨g,0,none⟩) ts.length c) ts d vt nds (lvlE 7 d (⟨⟨tk,tt,tv1,tv2,tv3⟩,tl,tc⟩::q)) (gaveUp 4) V4):=hide (by
    rw[HX.out]
    unfold openE
    rw[HO.out]
    exact⟨rfl,(HR3.out.below hb4).err,(Rch.of_below vt HB3.out).err (Only.of_below hb4 _)⟩)
   clear hb4 Hmu HX HR3
   go_wp2_with fail
   exact⟨rfl,HE.out⟩
end Go.Proofs.YtgfakdobajgnfaaGreatDoor
