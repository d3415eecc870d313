import Derived.BigQuiet
import Derived.Test.YtgfakdobajgnfaaGreatDoorQr23
import Derived.Test.YtgfakdobajgnfaaGreatDoorQr24
namespace Go.Proofs.YtgfakdobajgnfaaGreatDoor
open Go Go.RowKit Go.Lib
theorem leaf_rf {w W3:World}{B b d p:Nat}{X:List Nat}{vl vt:Value}{ts q:List Tkn}{t:Tkn}{nds:List Nd}(hB:B≤w.heap.size)(hb:Below w.heap.size w W3)(h:RfAt w B X b vl ts (t::q) d vt nds)(hd:Hd){cs:Array Value}(hn:W3.heap[p]? =some (.cells cs 43 (0,0)))(hp:w.heap.size≤p):
 (W3.setCell ⟨b,1,none⟩ (.int .i64 (((ts.length - (q.length+1):Nat):Int)+1))).heap[p]? =some (.cells cs 43 (0,0))∧
 Calls Tryz.prog 166 #[.pointer (some ⟨b,0,none⟩),hdK hd (.slice none 0 0)] (W3.setCell ⟨b,1,none⟩ (.int .i64 (((ts.length - (q.length+1):Nat):Int)+1))) fun e w'=>e= .returned (.int .i64 (nds.length:Int))∧∃vt',RfAt w' B X b vl ts q d vt' (nds++[⟨hd,[]⟩])∧Rch b w vt w' vt':=by
 have h3:=h.below hb
 have ho:=only_setCell W3 b 1 (.int .i64 (((ts.length - (q.length+1):Nat):Int)+1))
 have h4:=h3.step
 have hbw:=lt_of_heap h.blk
 have hfew:=h.few
 simp only[List.length_cons] at hfew
 refine⟨ho.cells_of hn (by simp;omega),?_⟩
 have hz:=Nat.le_trans hB (Nat.le_trans hb.size ho.size)
 refine(rput_any h4 (by omega) hz hd [] none 0 (World.ownsRow_nil _ _ _ _) (fun g e=>by cases e)).mono ?_
 rintro e w' ⟨rfl,v,h5,h6⟩
 exact⟨rfl,v,h5,((Rch.of_below vt hb).trans (Rch.of_only vt ho)).trans h6⟩
theorem call_most {s:List UInt8}{o:Int}{l m:Nat}(h:callL s=some (o,l,m)):o≠0∧1≤m∧m≤8:=by
 unfold callL at h
 repeat' split at h
 all_goals first|(injection h with h;injection h with h1 h;injection h with h2 h3;subst h1 h2 h3;decide)|cases h
theorem Qw16{P:Prop}(h:P:=by
 have HN4:=hide hn4
 have HW4:=hide hW4
 clear hn4 hnd hW4 kf HN
 go_upto_region 35 with fail
 first|rw[HW4.out]|rw[List.length_cons,HW4.out]
 clear k0 k1 k2 k3 k4 k5 kf1
 obtain⟨m0,m1,m2,m3,m4,m5,m6,m7,_⟩:=cells8 HN4.out
 go_wp2_with fail
 (with_reducible refine HND.out.mono ?_)
 rintro e V6 ⟨rfl,v6,hr6,hch6⟩
 have HF:=hide (show RfPost w B X b (.slice (some ⟨g,0,none⟩) ts.length c) ts (⟨⟨1,tt,tv1,tv2,tv3⟩,tl,tc⟩::q) d vt nds (lvlE 7 d (⟨⟨1,tt,tv1,tv2,tv3⟩,tl,tc⟩::q)) (.returned (.int .i64 (nds.length:Int))) V6 from⟨_,v6,rfl,hch6,by rw[HX.out];exact⟨by simp [Ex.size,sizes],by simpa[Ex.flat,flats,ends] using hr6⟩⟩)
 clear hr6 hch6 HND HX m0 m1 m2 m3 m4 m5 m6 m7
 go_wp2_with fail
 go_ret
 exact HF.out):P:=h
theorem Qw17{P:Prop}(h:P:=by
 have HE0:=hide (rexpr_err HX.out 0)
 go_wp2_with fail
 (with_reducible refine HE0.out.mono ?_)
 rintro e VE ⟨rfl,rfl⟩
 clear HE0
 have HM:=hide (rmust_err HX.out ⟨#[41]⟩)
 go_wp2_with fail
 (with_reducible refine HM.out.mono ?_)
 rintro e VM ⟨rfl,rfl⟩
 clear HM
 obtain⟨a0,dd,hkb⟩:=HX.out.blk
 obtain⟨k0,k1,k2,k3,k4,k5,kf⟩:=cells6 hkb
 have kf2:=kf 2
 obtain⟨x5,hx5⟩:∃x5,IntKind.i64.wrap (dd - 1)=x5:=⟨_,rfl⟩
 have hx5':wrap64 (dd - 1)=x5:=by rw[←hx5];simp [IntKind.wrap_i64,wrap64]
 obtain⟨W5,hW5⟩:∃W5,V4.setCell ⟨b,2,none⟩ (.int .i64 x5)=W5:=⟨_,rfl⟩
 have hm5:=HX.out.deep x5
 have ho5:=only_setCell V4 b 2 (.int .i64 x5)
 rw[hW5] at hm5 ho5
 have HF:=hide (show RfPost w B X b (.slice (some ⟨g,0,none⟩) ts.length c) ts (⟨⟨tk,tt,tv1,tv2,tv3⟩,tl,tc⟩::q) d vt nds (lvlE 7 d (⟨⟨tk,tt,tv1,tv2,tv3⟩,tl,tc⟩::q)) (.returned (.int .i64 (-1))) W5 from⟨(-1),vt,rfl,HR.out.trans (Rch.of_only vt ho5),by rw[HLE.out];exact hm5⟩)
 have HW5:=hide hW5
 clear hkb kf hm5 ho5 hW5 hx5
 go_upto_region 13 with fail
 rw[HW5.out]
 clear k0 k1 k2 k3 k4 k5 kf2 hx5'
 go_wp2_with fail
 go_ret
 exact HF.out):P:=h
set_option maxRecDepth 100000 in
set_option maxHeartbeats 16000000 in
theorem ratom_any {k B b:Nat}{X:List Nat}{vl:Value}{ts:List Tkn}(ih:ExprIH k B b vl ts){d:Nat}{r:List Tkn}{w:World}{vt:Value}{nds:List Nd}(hk:rank (.lvl 7) r≤k)(h:RfAt w B X b vl ts r d vt nds)(hB:B≤w.heap.size):
 Calls Tryz.prog 162 #[.pointer (some ⟨b,0,none⟩)] w (RfPost w B X b vl ts r d vt nds (lvlE 7 d r)):=by
 obtain⟨c0,c1,c2,c3,c4,c5,cf⟩:=cells6 h.blk
 have hl:=h.suf.len
 have hbig:=h.big
 have hbw:=lt_of_heap h.blk
 cases r with
 |nil=>
  obtain⟨va,vc,rfl⟩:=h.toks.form
  have i0:(ts.length:Int)≤(((ts.length - ([]:List Tkn).length:Nat):Int)):=by simp
  have i1:decide ((ts.length:Int)≤(((ts.length - ([]:List Tkn).length:Nat):Int)))=true:=by simp
  have i3:decide (ts.length≤ts.length - ([]:List Tkn).length)=true:=by simp
  have hnq:=fun nq=>hide (rstop_any (h.below (below_drewN (Below.refl w.heap.size w) nq)) 4 (by decide))
  clear h hl cf ih
  go_enter Tryz.func162,Tryz.ntmps162
  go_wp2_with fail
  go_quiet (fail)
  have HS:=hnq nq
  clear hnq
  go_wp2_with fail
  (with_reducible refine HS.out.mono ?_)
  rintro e V ⟨rfl,hx,ho,-⟩
  have HF:=hide (show RfPost w B X b (.slice va ts.length vc) ts [] d vt nds (lvlE 7 d []) (.returned (.int .i64 (-1))) V from⟨-1,vt,rfl,(Rch.of_below vt (below_drewN (Below.refl w.heap.size w) nq)).trans (Rch.of_only vt ho),by rw[lvlE_atom];exact hx⟩)
  clear hx ho HS
  go_wp2_with fail
  go_ret
  exact HF.out
 |cons t q=>
  obtain⟨g,c,rfl,hg,hlt,t0,t1,t2,t3,t4,t5,t6⟩:=h.head
  obtain⟨n,hn⟩:∃n,ts.length - (t::q).length=n:=⟨_,rfl⟩
  rw[hn] at c1 hlt t0 t1 t2 t3 t4 t5 t6
  have i0:(n:Int)<(ts.length:Int):=by omega
  have i1:decide ((ts.length:Int)≤(n:Int))=false:=by simp;omega
  have i3:decide (ts.length≤n)=false:=by simp;omega
  have i2:(0:Int)≤(n:Int):=by omega
  have H:=hide h
  have Hn:=hide hn
  clear h hl hn cf
  go_enter Tryz.func162,Tryz.ntmps162
  go_wp2_with fail
  go_quiet (fail)
  go_wp2_with fail
  obtain⟨V,hV⟩:∃V,w.drewN nq=V:=⟨_,rfl⟩
  have hbV:Below w.heap.size w V:=by rw[←hV];exact below_drewN (Below.refl _ w) nq
  have hr:=H.out.below hbV
  rw[hV]
  clear c0 c1 c2 c3 c4 c5 t0 t1 t2 t3 t4 t5 t6 hV
  obtain⟨c0,c1,c2,c3,c4,c5,cf⟩:=cells6 hr.blk
  obtain⟨g',c',e,hg',_,t0,t1,t2,t3,t4,t5,t6⟩:=hr.head
  injection e with e1 _ e3
  injection e1 with e1
  injection e1 with e1
  subst e1
  subst e3
  rw[Hn.out] at c1 t0 t1 t2 t3 t4 t5 t6
  have hbw:b<V.drew.heap.size:=lt_of_heap hr.blk
  have hgw:g<V.drew.heap.size:=hg'
  have hbw2:b<V.heap.size:=lt_of_heap hr.blk
  have hgw2:g<V.heap.size:=hg'
  obtain⟨⟨tk,tt,tv1,tv2,tv3⟩,tl,tc⟩:=t
  simp only at t0 t1 t2 t3 t4 t5 t6
  have HB:=hide hbV
  clear hr hbV cf hg hg'
  go_region
  obtain⟨W1,hW1⟩:∃W1,(V.alloc (.cells #[.int .u8 tk,.string ⟨tt.toArray⟩,.int .u8 tv1,.int .i64 tv2,.string ⟨tv3.toArray⟩,.int .i64 tl,.int .i64 tc] 94)).drew=W1:=⟨_,rfl⟩
  have hb1:Below V.heap.size V W1:=by rw[←hW1];exact((Below.refl _ V).alloc (Nat.le_refl _) _).drew
  have hz1:W1.heap.size=V.heap.size+1:=by rw[←hW1];show(V.alloc _).heap.size=_;simp
  have ht1:W1.heap[V.heap.size]? =some (.cells #[.int .u8 tk,.string ⟨tt.toArray⟩,.int .u8 tv1,.int .i64 tv2,.string ⟨tv3.toArray⟩,.int .i64 tl,.int .i64 tc] 94 (0,0)):=by rw[←hW1];exact heap_alloc0 V _
  rw[hW1]
  have hB1:=HB.out.trans (hb1.mono HB.out.size)
  have hzV:w.heap.size≤V.heap.size:=HB.out.size
  have HT1:=hide ht1
  have HB1:=hide hB1
  obtain⟨p,hp⟩:∃p,V.heap.size=p:=⟨_,rfl⟩
  rw[hp] at HT1 hz1 hzV ⊢
  clear hb1 ht1 hB1 hW1 c0 c1 c2 c3 c4 c5 t0 t1 t2 t3 t4 t5 t6 hbw hgw hbw2 hgw2 i0 i1 i2 i3 HB hp
  obtain⟨u0,u1,u2,u3,u4,u5,u6⟩:=tokCells HT1.out
  have hn2:=heap_alloc0 W1 (.cells #[.int .u8 1,.int .u8 tv1,.int .i64 tv2,.string ⟨tv3.toArray⟩,.string ⟨#[]⟩,.slice none 0 0,.int .i64 tl,.int .i64 tc] 43)
  have hb2:Below W1.heap.size W1 (W1.alloc (.cells #[.int .u8 1,.int .u8 tv1,.int .i64 tv2,.string ⟨tv3.toArray⟩,.string ⟨#[]⟩,.slice none 0 0,.int .i64 tl,.int .i64 tc] 43)):=(Below.refl _ W1).alloc (Nat.le_refl _) _
  obtain⟨W2,hW2⟩:∃W2,W1.alloc (.cells #[.int .u8 1,.int .u8 tv1,.int .i64 tv2,.string ⟨tv3.toArray⟩,.string ⟨#[]⟩,.slice none 0 0,.int .i64 tl,.int .i64 tc] 43)=W2:=⟨_,rfl⟩
  rw[hW2] at hn2 hb2
  rw[hz1] at hn2
  have hz2:W2.heap.size=p+2:=by rw[←hW2];simp [hz1]
  have HW2:=hide hW2
  have HT2:=hide ((hb2.block _ (lt_of_heap HT1.out)).trans HT1.out)
  have HB2:=hide (HB1.out.trans (hb2.mono HB1.out.size))
  have HN2:=hide hn2
  clear hW2 hn2 hb2 HT1 HB1
  go_upto_region 6 with fail
  rw[HW2.out]
  first|rw[hz1]|skip
  clear u0 u1 u2 u3 u4 u5 u6 hz1
  obtain⟨f0,f1,f2,f3,f4,f5,f6⟩:=tokCells HT2.out
  by_cases hk4:tk=4∨tk=5∨tk=6
  ·rcases hk4 with rfl|rfl|rfl
   ·have HN:=hide HN2.out
    have HB3:=HB2
    go_upto_region 34 with fail
    have HX:Hid (lvlE 7 d (⟨⟨4,tt,tv1,tv2,tv3⟩,tl,tc⟩::q)= .ok (.mk ⟨1,(tv1,tv2,tv3),[],tl,tc⟩ [],q)):=hide (by rw[lvlE_atom];rfl)
    obtain⟨hn4,hnd⟩:=leaf_rf hB HB3.out H.out ⟨1,(tv1,tv2,tv3),[],tl,tc⟩ HN.out (by omega)
    obtain⟨k0,k1,k2,k3,k4,k5,kf⟩:=cells6 (H.out.below HB3.out).blk
    have kf1:=kf 1
    obtain⟨W4,hW4⟩:∃W4,W2.setCell ⟨b,1,none⟩ (.int .i64 (((ts.length - (q.length+1):Nat):Int)+1))=W4:=⟨_,rfl⟩
    rw[hW4] at hn4 hnd
    have HND:Hid (Calls Tryz.prog 166 #[.pointer (some ⟨b,0,none⟩),.agg #[.int .u8 1,.int .u8 tv1,.int .i64 tv2,.string ⟨tv3.toArray⟩,.string ⟨#[]⟩,.slice none 0 0,.int .i64 tl,.int .i64 tc]] W4 _):=hide hnd
    have HN4:=hide hn4
    have HW4:=hide hW4
    clear hn4 hnd hW4 kf HN
    go_upto_region 35 with fail
    first|rw[HW4.out]|rw[List.length_cons,HW4.out]
    clear k0 k1 k2 k3 k4 k5 kf1
    obtain⟨m0,m1,m2,m3,m4,m5,m6,m7,_⟩:=cells8 HN4.out
    go_wp2_with fail
    (with_reducible refine HND.out.mono ?_)
    rintro e V6 ⟨rfl,v6,hr6,hch6⟩
    have HF:=hide (show RfPost w B X b (.slice (some ⟨g,0,none⟩) ts.length c) ts (⟨⟨4,tt,tv1,tv2,tv3⟩,tl,tc⟩::q) d vt nds (lvlE 7 d (⟨⟨4,tt,tv1,tv2,tv3⟩,tl,tc⟩::q)) (.returned (.int .i64 (nds.length:Int))) V6 from⟨_,v6,rfl,hch6,by rw[HX.out];exact⟨by simp [Ex.size,sizes],by simpa[Ex.flat,flats,ends] using hr6⟩⟩)
    clear hr6 hch6 HND HX m0 m1 m2 m3 m4 m5 m6 m7
    go_wp2_with fail
    go_ret
    exact HF.out
   ·have HN:=hide HN2.out
    have HB3:=HB2
    go_upto_region 34 with fail
    have HX:Hid (lvlE 7 d (⟨⟨5,tt,tv1,tv2,tv3⟩,tl,tc⟩::q)= .ok (.mk ⟨1,(tv1,tv2,tv3),[],tl,tc⟩ [],q)):=hide (by rw[lvlE_atom];rfl)
    obtain⟨hn4,hnd⟩:=leaf_rf hB HB3.out H.out ⟨1,(tv1,tv2,tv3),[],tl,tc⟩ HN.out (by omega)
    obtain⟨k0,k1,k2,k3,k4,k5,kf⟩:=cells6 (H.out.below HB3.out).blk
    have kf1:=kf 1
    obtain⟨W4,hW4⟩:∃W4,W2.setCell ⟨b,1,none⟩ (.int .i64 (((ts.length - (q.length+1):Nat):Int)+1))=W4:=⟨_,rfl⟩
    rw[hW4] at hn4 hnd
    have HND:Hid (Calls Tryz.prog 166 #[.pointer (some ⟨b,0,none⟩),.agg #[.int .u8 1,.int .u8 tv1,.int .i64 tv2,.string ⟨tv3.toArray⟩,.string ⟨#[]⟩,.slice none 0 0,.int .i64 tl,.int .i64 tc]] W4 _):=hide hnd
    have HN4:=hide hn4
    have HW4:=hide hW4
    clear hn4 hnd hW4 kf HN
    go_upto_region 35 with fail
    first|rw[HW4.out]|rw[List.length_cons,HW4.out]
    clear k0 k1 k2 k3 k4 k5 kf1
    obtain⟨m0,m1,m2,m3,m4,m5,m6,m7,_⟩:=cells8 HN4.out
    go_wp2_with fail
    (with_reducible refine HND.out.mono ?_)
    rintro e V6 ⟨rfl,v6,hr6,hch6⟩
    have HF:=hide (show RfPost w B X b (.slice (some ⟨g,0,none⟩) ts.length c) ts (⟨⟨5,tt,tv1,tv2,tv3⟩,tl,tc⟩::q) d vt nds (lvlE 7 d (⟨⟨5,tt,tv1,tv2,tv3⟩,tl,tc⟩::q)) (.returned (.int .i64 (nds.length:Int))) V6 from⟨_,v6,rfl,hch6,by rw[HX.out];exact⟨by simp [Ex.size,sizes],by simpa[Ex.flat,flats,ends] using hr6⟩⟩)
    clear hr6 hch6 HND HX m0 m1 m2 m3 m4 m5 m6 m7
    go_wp2_with fail
    go_ret
    exact HF.out
   ·have HN:=hide HN2.out
    have HB3:=HB2
    go_upto_region 34 with fail
    have HX:Hid (lvlE 7 d (⟨⟨6,tt,tv1,tv2,tv3⟩,tl,tc⟩::q)= .ok (.mk ⟨1,(tv1,tv2,tv3),[],tl,tc⟩ [],q)):=hide (by rw[lvlE_atom];rfl)
    obtain⟨hn4,hnd⟩:=leaf_rf hB HB3.out H.out ⟨1,(tv1,tv2,tv3),[],tl,tc⟩ HN.out (by omega)
    obtain⟨k0,k1,k2,k3,k4,k5,kf⟩:=cells6 (H.out.below HB3.out).blk
    have kf1:=kf 1
    obtain⟨W4,hW4⟩:∃W4,W2.setCell ⟨b,1,none⟩ (.int .i64 (((ts.length - (q.length+1):Nat):Int)+1))=W4:=⟨_,rfl⟩
    rw[hW4] at hn4 hnd
    have HND:Hid (Calls Tryz.prog 166 #[.pointer (some ⟨b,0,none⟩),.agg #[.int .u8 1,.int .u8 tv1,.int .i64 tv2,.string ⟨tv3.toArray⟩,.string ⟨#[]⟩,.slice none 0 0,.int .i64 tl,.int .i64 tc]] W4 _):=hide hnd
    have HN4:=hide hn4
    have HW4:=hide hW4
    clear hn4 hnd hW4 kf HN
    go_upto_region 35 with fail
    first|rw[HW4.out]|rw[List.length_cons,HW4.out]
    clear k0 k1 k2 k3 k4 k5 kf1
    obtain⟨m0,m1,m2,m3,m4,m5,m6,m7,_⟩:=cells8 HN4.out
    go_wp2_with fail
    (with_reducible refine HND.out.mono ?_)
    rintro e V6 ⟨rfl,v6,hr6,hch6⟩
    have HF:=hide (show RfPost w B X b (.slice (some ⟨g,0,none⟩) ts.length c) ts (⟨⟨6,tt,tv1,tv2,tv3⟩,tl,tc⟩::q) d vt nds (lvlE 7 d (⟨⟨6,tt,tv1,tv2,tv3⟩,tl,tc⟩::q)) (.returned (.int .i64 (nds.length:Int))) V6 from⟨_,v6,rfl,hch6,by rw[HX.out];exact⟨by simp [Ex.size,sizes],by simpa[Ex.flat,flats,ends] using hr6⟩⟩)
    clear hr6 hch6 HND HX m0 m1 m2 m3 m4 m5 m6 m7
    go_wp2_with fail
    go_ret
    exact HF.out
  by_cases hk2:tk=2
  ·subst hk2
   clear hk4
   obtain⟨n0,n1,n2,n3,n4,n5,n6,n7,nf⟩:=cells8 HN2.out
   have nf0:=nf 0
   have nf1:=nf 1
   have nf2:=nf 2
   have nf3:=nf 3
   have nf4:=nf 4
   have nf5:=nf 5
   have nf6:=nf 6
   have nf7:=nf 7
   clear nf
   obtain⟨W3,hW3⟩:∃W3,((((((((W2.setCell ⟨p+1,0,none⟩ (.int .u8 2)).setCell ⟨p+1,1,none⟩ (.int .u8 0)).setCell ⟨p+1,2,none⟩ (.int .i64 0)).setCell ⟨p+1,3,none⟩ (.string ⟨#[]⟩)).setCell ⟨p+1,4,none⟩ (.string ⟨tt.toArray⟩)).setCell ⟨p+1,5,none⟩ (.slice none 0 0)).setCell ⟨p+1,6,none⟩ (.int .i64 tl)).setCell ⟨p+1,7,none⟩ (.int .i64 tc))=W3:=⟨_,rfl⟩
   have hO3:Only [p+1] W2 W3:=by rw[←hW3];exact((((((((only_setCell W2 _ _ _).setCell (.inl (by simp)) _).setCell (.inl (by simp)) _).setCell (.inl (by simp)) _).setCell (.inl (by simp)) _).setCell (.inl (by simp)) _).setCell (.inl (by simp)) _).setCell (.inl (by simp)) _)
   have hn3:W3.heap[p+1]? =some (.cells #[.int .u8 2,.int .u8 0,.int .i64 0,.string ⟨#[]⟩,.string ⟨tt.toArray⟩,.slice none 0 0,.int .i64 tl,.int .i64 tc] 43 (0,0)):=by rw[←hW3];exact(setCell_heap (setCell_heap (setCell_heap (setCell_heap (setCell_heap (setCell_heap (setCell_heap (setCell_heap HN2.out))))))))
   have HN:=hide hn3
   have HW3:=hide hW3
   have HB3:=hide (below_only HB2.out hO3 (by simp;omega) (by omega))
   clear hW3 hn3 hO3
   go_upto_region 34 with fail
   rw[HW3.out]
   clear n0 n1 n2 n3 n4 n5 n6 n7 nf0 nf1 nf2 nf3 nf4 nf5 nf6 nf7
   have HX:Hid (lvlE 7 d (⟨⟨2,tt,tv1,tv2,tv3⟩,tl,tc⟩::q)= .ok (.mk ⟨2,v0,tt,tl,tc⟩ [],q)):=hide (by rw[lvlE_atom];rfl)
   obtain⟨hn4,hnd⟩:=leaf_rf hB HB3.out H.out ⟨2,v0,tt,tl,tc⟩ HN.out (by omega)
   obtain⟨k0,k1,k2,k3,k4,k5,kf⟩:=cells6 (H.out.below HB3.out).blk
   have kf1:=kf 1
   obtain⟨W4,hW4⟩:∃W4,W3.setCell ⟨b,1,none⟩ (.int .i64 (((ts.length - (q.length+1):Nat):Int)+1))=W4:=⟨_,rfl⟩
   rw[hW4] at hn4 hnd
   have HND:Hid (Calls Tryz.prog 166 #[.pointer (some ⟨b,0,none⟩),.agg #[.int .u8 2,.int .u8 0,.int .i64 0,.string ⟨#[]⟩,.string ⟨tt.toArray⟩,.slice none 0 0,.int .i64 tl,.int .i64 tc]] W4 _):=hide hnd
   have HN4:=hide hn4
   have HW4:=hide hW4
   clear hn4 hnd hW4 kf HN
   go_upto_region 35 with fail
   first|rw[HW4.out]|rw[List.length_cons,HW4.out]
   clear k0 k1 k2 k3 k4 k5 kf1
   obtain⟨m0,m1,m2,m3,m4,m5,m6,m7,_⟩:=cells8 HN4.out
   go_wp2_with fail
   (with_reducible refine HND.out.mono ?_)
   rintro e V6 ⟨rfl,v6,hr6,hch6⟩
   have HF:=hide (show RfPost w B X b (.slice (some ⟨g,0,none⟩) ts.length c) ts (⟨⟨2,tt,tv1,tv2,tv3⟩,tl,tc⟩::q) d vt nds (lvlE 7 d (⟨⟨2,tt,tv1,tv2,tv3⟩,tl,tc⟩::q)) (.returned (.int .i64 (nds.length:Int))) V6 from⟨_,v6,rfl,hch6,by rw[HX.out];exact⟨by simp [Ex.size,sizes],by simpa[Ex.flat,flats,ends] using hr6⟩⟩)
   clear hr6 hch6 HND HX m0 m1 m2 m3 m4 m5 m6 m7
   go_wp2_with fail
   go_ret
   exact HF.out
  by_cases hk3:tk=3
  ·subst hk3
   clear hk4 hk2
   obtain⟨n0,n1,n2,n3,n4,n5,n6,n7,nf⟩:=cells8 HN2.out
   have nf0:=nf 0
   have nf1:=nf 1
   have nf2:=nf 2
   have nf3:=nf 3
   have nf4:=nf 4
   have nf5:=nf 5
   have nf6:=nf 6
   have nf7:=nf 7
   clear nf
   obtain⟨W3,hW3⟩:∃W3,((((((((W2.setCell ⟨p+1,0,none⟩ (.int .u8 3)).setCell ⟨p+1,1,none⟩ (.int .u8 0)).setCell ⟨p+1,2,none⟩ (.int .i64 0)).setCell ⟨p+1,3,none⟩ (.string ⟨#[]⟩)).setCell ⟨p+1,4,none⟩ (.string ⟨#[]⟩)).setCell ⟨p+1,5,none⟩ (.slice none 0 0)).setCell ⟨p+1,6,none⟩ (.int .i64 tl)).setCell ⟨p+1,7,none⟩ (.int .i64 tc))=W3:=⟨_,rfl⟩
   have hO3:Only [p+1] W2 W3:=by rw[←hW3];exact((((((((only_setCell W2 _ _ _).setCell (.inl (by simp)) _).setCell (.inl (by simp)) _).setCell (.inl (by simp)) _).setCell (.inl (by simp)) _).setCell (.inl (by simp)) _).setCell (.inl (by simp)) _).setCell (.inl (by simp)) _)
   have hn3:W3.heap[p+1]? =some (.cells #[.int .u8 3,.int .u8 0,.int .i64 0,.string ⟨#[]⟩,.string ⟨#[]⟩,.slice none 0 0,.int .i64 tl,.int .i64 tc] 43 (0,0)):=by rw[←hW3];exact(setCell_heap (setCell_heap (setCell_heap (setCell_heap (setCell_heap (setCell_heap (setCell_heap (setCell_heap HN2.out))))))))
   have HN:=hide hn3
   have HW3:=hide hW3
   have HB3:=hide (below_only HB2.out hO3 (by simp;omega) (by omega))
   clear hW3 hn3 hO3
   go_upto_region 34 with fail
   rw[HW3.out]
   clear n0 n1 n2 n3 n4 n5 n6 n7 nf0 nf1 nf2 nf3 nf4 nf5 nf6 nf7
   have HX:Hid (lvlE 7 d (⟨⟨3,tt,tv1,tv2,tv3⟩,tl,tc⟩::q)= .ok (.mk ⟨3,v0,[],tl,tc⟩ [],q)):=hide (by rw[lvlE_atom];rfl)
   obtain⟨hn4,hnd⟩:=leaf_rf hB HB3.out H.out ⟨3,v0,[],tl,tc⟩ HN.out (by omega)
   obtain⟨k0,k1,k2,k3,k4,k5,kf⟩:=cells6 (H.out.below HB3.out).blk
   have kf1:=kf 1
   obtain⟨W4,hW4⟩:∃W4,W3.setCell ⟨b,1,none⟩ (.int .i64 (((ts.length - (q.length+1):Nat):Int)+1))=W4:=⟨_,rfl⟩
   rw[hW4] at hn4 hnd
   have HND:Hid (Calls Tryz.prog 166 #[.pointer (some ⟨b,0,none⟩),.agg #[.int .u8 3,.int .u8 0,.int .i64 0,.string ⟨#[]⟩,.string ⟨#[]⟩,.slice none 0 0,.int .i64 tl,.int .i64 tc]] W4 _):=hide hnd
   have HN4:=hide hn4
   have HW4:=hide hW4
   clear hn4 hnd hW4 kf HN
   go_upto_region 35 with fail
   first|rw[HW4.out]|rw[List.length_cons,HW4.out]
   clear k0 k1 k2 k3 k4 k5 kf1
   obtain⟨m0,m1,m2,m3,m4,m5,m6,m7,_⟩:=cells8 HN4.out
   go_wp2_with fail
   (with_reducible refine HND.out.mono ?_)
   rintro e V6 ⟨rfl,v6,hr6,hch6⟩
   have HF:=hide (show RfPost w B X b (.slice (some ⟨g,0,none⟩) ts.length c) ts (⟨⟨3,tt,tv1,tv2,tv3⟩,tl,tc⟩::q) d vt nds (lvlE 7 d (⟨⟨3,tt,tv1,tv2,tv3⟩,tl,tc⟩::q)) (.returned (.int .i64 (nds.length:Int))) V6 from⟨_,v6,rfl,hch6,by rw[HX.out];exact⟨by simp [Ex.size,sizes],by simpa[Ex.flat,flats,ends] using hr6⟩⟩)
   clear hr6 hch6 HND HX m0 m1 m2 m3 m4 m5 m6 m7
   go_wp2_with fail
   go_ret
   exact HF.out
  by_cases hk1:tk=1
  ·subst hk1
   clear hk4 hk2 hk3
   obtain⟨Z,hZ⟩:∃Z:ByteArray,⟨tt.toArray⟩=Z:=⟨_,rfl⟩
   have hZl:dl Z=tt:=by rw[←hZ,dl_mk]
   have hC:=rcall_of tt W2
   rw[hZ] at f1 hC
   cases hcl:callL tt with
   |some c3=>
    obtain⟨o,l,m⟩:=c3
    obtain⟨ho,hm1,hm8⟩:=call_most hcl
    rw[hcl] at hC
    simp only[Option.getD_some] at hC
    have HC:=hide hC
    have HL:=hide (show lvlE 7 d (⟨⟨1,tt,tv1,tv2,tv3⟩,tl,tc⟩::q)=openE d q (fun q'=>argsE ⟨o,l,m,tl,tc⟩ [] (d+1) q') by rw[lvlE_atom];simp [leafH,callH,hcl])
    have HCA:=hide (rcall_any ih hk (H.out.below HB2.out) (Nat.le_trans hB HB2.out.size) ⟨o,l,m,tl,tc⟩ hm1 hm8 rfl rfl)
    have HCA:Hid (Calls Tryz.prog 216 #[.pointer (some ⟨b,0,none⟩),.int .u8 o,.int .i64 (l:Int),.int .i64 (m:Int)] W2 _):=hide HCA.out
    have o0:(o==0)=false:=beq_eq_false_iff_ne.2 ho
    have o1:(o !=0)=true:=by rw[bne,o0];rfl
    clear hC hZ hZl hcl ho hm1 hm8
    go_wp2_with fail
    (with_reducible refine HC.out.mono ?_)
    rintro e V3 ⟨rfl,rfl⟩
    clear HC
    go_wp2_with fail
    (with_reducible refine HCA.out.mono ?_)
    rintro e V4 ⟨z4,v4,rfl,hr4,hm4⟩
    have HF:=hide (show RfPost w B X b (.slice (some ⟨g,0,none⟩) ts.length c) ts (⟨⟨1,tt,tv1,tv2,tv3⟩,tl,tc⟩::q) d vt nds (lvlE 7 d (⟨⟨1,tt,tv1,tv2,tv3⟩,tl,tc⟩::q)) (.returned (.int .i64 z4)) V4 from⟨z4,v4,rfl,(Rch.of_below vt HB2.out).trans hr4,by rw[HL.out];exact hm4⟩)
    clear hr4 hm4 HCA
    go_wp2_with fail
    go_ret
    exact HF.out
   |none=>
    rw[hcl] at hC
    simp only[Option.getD_none] at hC
    have HC:=hide hC
    have HCL:=hide hcl
    clear hC hZ hcl
    by_cases hw0:tt=[116,114,117,101]
    ·have s0:(Z.toList==[116,114,117,101])=true:=by rw[toList_dl,hZl,hw0];rfl
     have HL:=hide (show lvlE 7 d (⟨⟨1,tt,tv1,tv2,tv3⟩,tl,tc⟩::q)= .ok (.mk ⟨1,(4,1,[]),[],tl,tc⟩ [],q) by rw[lvlE_atom,hw0];rfl)
     clear hw0 hZl
     obtain⟨n0,n1,n2,n3,n4,n5,n6,n7,nf⟩:=cells8 HN2.out
     have nf0:=nf 0
     have nf1:=nf 1
     have nf2:=nf 2
     have nf3:=nf 3
     have nf4:=nf 4
     have nf5:=nf 5
     have nf6:=nf 6
     have nf7:=nf 7
     clear nf
     obtain⟨W3,hW3⟩:∃W3,(((W2.setCell ⟨p+1,1,none⟩ (.int .u8 4)).setCell ⟨p+1,2,none⟩ (.int .i64 1)).setCell ⟨p+1,3,none⟩ (.string ⟨#[]⟩))=W3:=⟨_,rfl⟩
     have hO3:Only [p+1] W2 W3:=by rw[←hW3];exact(((only_setCell W2 _ _ _).setCell (.inl (by simp)) _).setCell (.inl (by simp)) _)
     have hn3:W3.heap[p+1]? =some (.cells #[.int .u8 1,.int .u8 4,.int .i64 1,.string ⟨#[]⟩,.string ⟨#[]⟩,.slice none 0 0,.int .i64 tl,.int .i64 tc] 43 (0,0)):=by rw[←hW3];exact(setCell_heap (setCell_heap (setCell_heap HN2.out)))
     have HN:=hide hn3
     have HW3:=hide hW3
     have HB3:=hide (below_only HB2.out hO3 (by simp;omega) (by omega))
     clear hW3 hn3 hO3
     go_wp2_with fail
     (with_reducible refine HC.out.mono ?_)
     rintro e V3 ⟨rfl,rfl⟩
     clear HC
     go_upto_region 34 with fail
     rw[HW3.out]
     clear n0 n1 n2 n3 n4 n5 n6 n7 nf0 nf1 nf2 nf3 nf4 nf5 nf6 nf7
     clear s0
     have HX:Hid (lvlE 7 d (⟨⟨1,tt,tv1,tv2,tv3⟩,tl,tc⟩::q)= .ok (.mk ⟨1,(4,1,[]),[],tl,tc⟩ [],q)):=hide (HL.out)
     obtain⟨hn4,hnd⟩:=leaf_rf hB HB3.out H.out ⟨1,(4,1,[]),[],tl,tc⟩ HN.out (by omega)
     obtain⟨k0,k1,k2,k3,k4,k5,kf⟩:=cells6 (H.out.below HB3.out).blk
     have kf1:=kf 1
     obtain⟨W4,hW4⟩:∃W4,W3.setCell ⟨b,1,none⟩ (.int .i64 (((ts.length - (q.length+1):Nat):Int)+1))=W4:=⟨_,rfl⟩
     rw[hW4] at hn4 hnd
     have HND:Hid (Calls Tryz.prog 166 #[.pointer (some ⟨b,0,none⟩),.agg #[.int .u8 1,.int .u8 4,.int .i64 1,.string ⟨#[]⟩,.string ⟨#[]⟩,.slice none 0 0,.int .i64 tl,.int .i64 tc]] W4 _):=hide hnd
     exact Qw16
    by_cases hw1:tt=[102,97,108,115,101]
    ·have s0:(Z.toList==[116,114,117,101])=false:=by rw[toList_dl,hZl,hw1];rfl
     have s1:(Z.toList==[102,97,108,115,101])=true:=by rw[toList_dl,hZl,hw1];rfl
     have HL:=hide (show lvlE 7 d (⟨⟨1,tt,tv1,tv2,tv3⟩,tl,tc⟩::q)= .ok (.mk ⟨1,(4,0,[]),[],tl,tc⟩ [],q) by rw[lvlE_atom,hw1];rfl)
     clear hw1 hZl
     clear hw0
     obtain⟨n0,n1,n2,n3,n4,n5,n6,n7,nf⟩:=cells8 HN2.out
     have nf0:=nf 0
     have nf1:=nf 1
     have nf2:=nf 2
     have nf3:=nf 3
     have nf4:=nf 4
     have nf5:=nf 5
     have nf6:=nf 6
     have nf7:=nf 7
     clear nf
     obtain⟨W3,hW3⟩:∃W3,(((W2.setCell ⟨p+1,1,none⟩ (.int .u8 4)).setCell ⟨p+1,2,none⟩ (.int .i64 0)).setCell ⟨p+1,3,none⟩ (.string ⟨#[]⟩))=W3:=⟨_,rfl⟩
     have hO3:Only [p+1] W2 W3:=by rw[←hW3];exact(((only_setCell W2 _ _ _).setCell (.inl (by simp)) _).setCell (.inl (by simp)) _)
     have hn3:W3.heap[p+1]? =some (.cells #[.int .u8 1,.int .u8 4,.int .i64 0,.string ⟨#[]⟩,.string ⟨#[]⟩,.slice none 0 0,.int .i64 tl,.int .i64 tc] 43 (0,0)):=by rw[←hW3];exact(setCell_heap (setCell_heap (setCell_heap HN2.out)))
     have HN:=hide hn3
     have HW3:=hide hW3
     have HB3:=hide (below_only HB2.out hO3 (by simp;omega) (by omega))
     clear hW3 hn3 hO3
     go_wp2_with fail
     (with_reducible refine HC.out.mono ?_)
     rintro e V3 ⟨rfl,rfl⟩
     clear HC
     go_upto_region 34 with fail
     rw[HW3.out]
     clear n0 n1 n2 n3 n4 n5 n6 n7 nf0 nf1 nf2 nf3 nf4 nf5 nf6 nf7
     clear s0 s1
     have HX:Hid (lvlE 7 d (⟨⟨1,tt,tv1,tv2,tv3⟩,tl,tc⟩::q)= .ok (.mk ⟨1,(4,0,[]),[],tl,tc⟩ [],q)):=hide (HL.out)
     obtain⟨hn4,hnd⟩:=leaf_rf hB HB3.out H.out ⟨1,(4,0,[]),[],tl,tc⟩ HN.out (by omega)
     obtain⟨k0,k1,k2,k3,k4,k5,kf⟩:=cells6 (H.out.below HB3.out).blk
     have kf1:=kf 1
     obtain⟨W4,hW4⟩:∃W4,W3.setCell ⟨b,1,none⟩ (.int .i64 (((ts.length - (q.length+1):Nat):Int)+1))=W4:=⟨_,rfl⟩
     rw[hW4] at hn4 hnd
     have HND:Hid (Calls Tryz.prog 166 #[.pointer (some ⟨b,0,none⟩),.agg #[.int .u8 1,.int .u8 4,.int .i64 0,.string ⟨#[]⟩,.string ⟨#[]⟩,.slice none 0 0,.int .i64 tl,.int .i64 tc]] W4 _):=hide hnd
     exact Qw16
    by_cases hw2:tt=[110,117,108,108]
    ·have s0:(Z.toList==[116,114,117,101])=false:=by rw[toList_dl,hZl,hw2];rfl
     have s1:(Z.toList==[102,97,108,115,101])=false:=by rw[toList_dl,hZl,hw2];rfl
     have s2:(Z.toList==[110,117,108,108])=true:=by rw[toList_dl,hZl,hw2];rfl
     have HL:=hide (show lvlE 7 d (⟨⟨1,tt,tv1,tv2,tv3⟩,tl,tc⟩::q)= .ok (.mk ⟨1,(0,0,[]),[],tl,tc⟩ [],q) by rw[lvlE_atom,hw2];rfl)
     clear hw2 hZl
     clear hw0 hw1
     obtain⟨n0,n1,n2,n3,n4,n5,n6,n7,nf⟩:=cells8 HN2.out
     have nf0:=nf 0
     have nf1:=nf 1
     have nf2:=nf 2
     have nf3:=nf 3
     have nf4:=nf 4
     have nf5:=nf 5
     have nf6:=nf 6
     have nf7:=nf 7
     clear nf
     obtain⟨W3,hW3⟩:∃W3,(((W2.setCell ⟨p+1,1,none⟩ (.int .u8 0)).setCell ⟨p+1,2,none⟩ (.int .i64 0)).setCell ⟨p+1,3,none⟩ (.string ⟨#[]⟩))=W3:=⟨_,rfl⟩
     have hO3:Only [p+1] W2 W3:=by rw[←hW3];exact(((only_setCell W2 _ _ _).setCell (.inl (by simp)) _).setCell (.inl (by simp)) _)
     have hn3:W3.heap[p+1]? =some (.cells #[.int .u8 1,.int .u8 0,.int .i64 0,.string ⟨#[]⟩,.string ⟨#[]⟩,.slice none 0 0,.int .i64 tl,.int .i64 tc] 43 (0,0)):=by rw[←hW3];exact(setCell_heap (setCell_heap (setCell_heap HN2.out)))
     have HN:=hide hn3
     have HW3:=hide hW3
     have HB3:=hide (below_only HB2.out hO3 (by simp;omega) (by omega))
     clear hW3 hn3 hO3
     go_wp2_with fail
     (with_reducible refine HC.out.mono ?_)
     rintro e V3 ⟨rfl,rfl⟩
     clear HC
     go_upto_region 34 with fail
     rw[HW3.out]
     clear n0 n1 n2 n3 n4 n5 n6 n7 nf0 nf1 nf2 nf3 nf4 nf5 nf6 nf7
     clear s0 s1 s2
     have HX:Hid (lvlE 7 d (⟨⟨1,tt,tv1,tv2,tv3⟩,tl,tc⟩::q)= .ok (.mk ⟨1,(0,0,[]),[],tl,tc⟩ [],q)):=hide (HL.out)
     obtain⟨hn4,hnd⟩:=leaf_rf hB HB3.out H.out ⟨1,(0,0,[]),[],tl,tc⟩ HN.out (by omega)
     obtain⟨k0,k1,k2,k3,k4,k5,kf⟩:=cells6 (H.out.below HB3.out).blk
     have kf1:=kf 1
     obtain⟨W4,hW4⟩:∃W4,W3.setCell ⟨b,1,none⟩ (.int .i64 (((ts.length - (q.length+1):Nat):Int)+1))=W4:=⟨_,rfl⟩
     rw[hW4] at hn4 hnd
     have HND:Hid (Calls Tryz.prog 166 #[.pointer (some ⟨b,0,none⟩),.agg #[.int .u8 1,.int .u8 0,.int .i64 0,.string ⟨#[]⟩,.string ⟨#[]⟩,.slice none 0 0,.int .i64 tl,.int .i64 tc]] W4 _):=hide hnd
     exact Qw16
    have s0:(Z.toList==[116,114,117,101])=false:=by rw[toList_dl,hZl];exact beq_eq_false_iff_ne.2 hw0
    have s1:(Z.toList==[102,97,108,115,101])=false:=by rw[toList_dl,hZl];exact beq_eq_false_iff_ne.2 hw1
    have s2:(Z.toList==[110,117,108,108])=false:=by rw[toList_dl,hZl];exact beq_eq_false_iff_ne.2 hw2
    have HL:=hide (show lvlE 7 d (⟨⟨1,tt,tv1,tv2,tv3⟩,tl,tc⟩::q)=openE d (⟨⟨1,tt,tv1,tv2,tv3⟩,tl,tc⟩::q) (fun q'=>(lvlE 0 (d+1) q').next shutE) by rw[lvlE_atom];simp [leafH,callH,HCL.out,litL,hw0,hw1,hw2])
    have HS:=hide (rstop_any (H.out.below HB2.out) 4 (by decide))
    clear hw0 hw1 hw2 hZl
    go_wp2_with fail
    (with_reducible refine HC.out.mono ?_)
    rintro e V3 ⟨rfl,rfl⟩
    clear HC
    go_wp2_with fail
    (with_reducible refine HS.out.mono ?_)
    rintro e V4 ⟨rfl,hx,ho,-⟩
    have HF:=hide (show RfPost w B X b (.slice (some ⟨g,0,none⟩) ts.length c) ts (⟨⟨1,tt,tv1,tv2,tv3⟩,tl,tc⟩::q) d vt nds (lvlE 7 d (⟨⟨1,tt,tv1,tv2,tv3⟩,tl,tc⟩::q)) (.returned (.int .i64 (-1))) V4 from⟨-1,vt,rfl,(Rch.of_below vt HB2.out).trans (Rch.of_only vt ho),by rw[HL.out];unfold openE;rw[if_neg (by unfold isH;simp;exact fun h=>(H.out.nam _ (by obtain⟨j,e⟩:=H.out.suf;exact List.mem_of_mem_drop (i:=j) (by rw[←e];exact List.mem_cons_self)) rfl h))];exact hx⟩)
    clear hx ho HS
    go_wp2_with fail
    go_ret
    exact HF.out
  have d1:(tk==1)=false:=beq_eq_false_iff_ne.2 (by omega)
  have d2:(tk==2)=false:=beq_eq_false_iff_ne.2 (by omega)
  have d3:(tk==3)=false:=beq_eq_false_iff_ne.2 (by omega)
  have d4:(tk==4)=false:=beq_eq_false_iff_ne.2 (by omega)
  have d5:(tk==5)=false:=beq_eq_false_iff_ne.2 (by omega)
  have d6:(tk==6)=false:=beq_eq_false_iff_ne.2 (by omega)
  have HLV:=hide (show lvlE 7 d (⟨⟨tk,tt,tv1,tv2,tv3⟩,tl,tc⟩::q)=openE d (⟨⟨tk,tt,tv1,tv2,tv3⟩,tl,tc⟩::q) (fun q'=>(lvlE 0 (d+1) q').next shutE) by rw[lvlE_atom];simp [leafH,callH,hk1,hk2,hk3,hk4])
  clear hk1 hk2 hk3 hk4
  have HR2:=hide (H.out.below HB2.out)
  have HRC:=hide (Rch.of_below (b:=b) vt HB2.out)
  have hB2:=Nat.le_trans hB HB2.out.size
  obtain⟨r,hr⟩:∃r,(⟨⟨tk,tt,tv1,tv2,tv3⟩,tl,tc⟩::q)=r:=⟨_,rfl⟩
  have HNX:=hide (rnext_any HR2.out)
  rw[hr] at HNX
  obtain⟨S,hS⟩:∃S:ByteArray,⟨(nextB r).toArray⟩=S:=⟨_,rfl⟩
  rw[hS] at HNX
  have hSp:decide (dl S=[40])=isH [40] r:=by rw[←hS,dl_mk];exact nextB_is (by simp)
  rw[←hr] at hSp
  clear hS hr r
  cases ho:isH [40] (⟨⟨tk,tt,tv1,tv2,tv3⟩,tl,tc⟩::q) with
  |false=>
   rw[ho] at hSp
   have hSn:=of_decide_eq_false hSp
   have t1:(S.toList==[40])=false:=by rw[toList_dl];exact beq_eq_false_iff_ne.2 hSn
   have HLE:Hid (lvlE 7 d (⟨⟨tk,tt,tv1,tv2,tv3⟩,tl,tc⟩::q)= .error (4,(⟨⟨tk,tt,tv1,tv2,tv3⟩,tl,tc⟩::q))):=hide (by rw[HLV.out];unfold openE;rw[if_neg (by rw[ho];decide)])
   have HO:=hide ho
   clear hSn hSp ho HLV
   go_wp2_with fail
   (with_reducible refine HNX.out.mono ?_)
   rintro e V3 ⟨rfl,hb3⟩
   have HMU:=hide (rmust_any (HR2.out.below hb3) [40] (by simp))
   have HRC:=hide (HRC.out.trans (Rch.of_below vt hb3))
   clear hb3 HNX
   go_wp2_with fail
   (with_reducible refine HMU.out.mono ?_)
   rintro e V4 ⟨rfl,ho4,hx4⟩
   rw[if_neg (by rw[HO.out];decide)] at hx4
   have HX:=hide hx4
   have HR:=hide (HRC.out.trans (Rch.of_only vt ho4))
   clear ho4 hx4 HMU t1
   exact Qw17
  |true=>
   rw[ho] at hSp
   have hSe:=of_decide_eq_true hSp
   have t1:(S.toList==[40])=true:=by rw[toList_dl,hSe];rfl
   have HO:=hide ho
   clear hSe hSp ho
   go_wp2_with fail
   (with_reducible refine HNX.out.mono ?_)
   rintro e V3 ⟨rfl,hb3⟩
   have HD:=hide (rdeeper_any (HR2.out.below hb3))
   have HRC:=hide (HRC.out.trans (Rch.of_below vt hb3))
   clear hb3 HNX
   go_wp2_with fail
   (with_reducible refine HD.out.mono ?_)
   rintro e V4 ⟨rfl,ho4,hd4⟩
   have HRC:=hide (HRC.out.trans (Rch.of_only vt ho4))
   clear ho4 HD t1
   by_cases hd12:d=12
   ·rw[if_pos hd12] at hd4
    have HLE:Hid (lvlE 7 d (⟨⟨tk,tt,tv1,tv2,tv3⟩,tl,tc⟩::q)= .error (12,(⟨⟨tk,tt,tv1,tv2,tv3⟩,tl,tc⟩::q))):=hide (by rw[HLV.out];unfold openE;rw[if_pos HO.out,if_pos hd12])
    have HX:=hide hd4
    have HMU:=hide (rmust_err hd4 ⟨#[40]⟩)
    have HR:=HRC
    clear hd4 hd12 HLV
    go_wp2_with fail
    (with_reducible refine HMU.out.mono ?_)
    rintro e V5 ⟨rfl,rfl⟩
    clear HMU
    exact Qw17
   ·rw[if_neg hd12] at hd4
    have HLA:Hid (lvlE 7 d (⟨⟨tk,tt,tv1,tv2,tv3⟩,tl,tc⟩::q)=(lvlE 0 (d+1) q).next shutE):=hide (by rw[HLV.out];unfold openE;rw[if_pos HO.out,if_neg hd12];rfl)
    have HMU:=hide (rmust_any hd4 [40] (by simp))
    clear hd4 hd12 HLV
    go_wp2_with fail
    (with_reducible refine HMU.out.mono ?_)
    rintro e V5 ⟨rfl,ho5,hf5⟩
    rw[if_pos HO.out,List.tail_cons] at hf5
    have hR5:=HRC.out.trans (Rch.of_only vt ho5)
    have HR5:=hide hR5
    have hc:=ih X 0 (d+1) q V5 vt nds (by omega) (by simp only[rank,List.length_cons] at hk ⊢;omega) hf5 (Nat.le_trans hB hR5.only.size)
    have Hc:Hid (Calls Tryz.prog 91 #[.pointer (some ⟨b,0,none⟩),.int .i64 0] V5 _):=hide hc
    have hfew:=H.out.few
    simp only[List.length_cons] at hfew
    clear ho5 hf5 hR5 hc HMU HRC
    go_wp2_with fail
    (with_reducible refine Hc.out.mono ?_)
    rintro e V6 ⟨z6,v6,rfl,hr6,hm6⟩
    have HR:=hide (HR5.out.trans hr6)
    clear hr6 Hc HR5
    cases hq4:lvlE 0 (d+1) q with
    |error p=>
     obtain⟨er,q4⟩:=p
     rw[hq4] at hm6
     have HX:=hide (RxAt.mono (cap':=nds.length+(q.length+1)) hm6 (by omega) (by omega))
     have HLE:Hid (lvlE 7 d (⟨⟨tk,tt,tv1,tv2,tv3⟩,tl,tc⟩::q)= .error (er,q4)):=hide (by rw[HLA.out,hq4];rfl)
     clear hm6 hq4 HLA
     have HM:=hide (rmust_err HX.out ⟨#[41]⟩)
     go_wp2_with fail
     (with_reducible refine HM.out.mono ?_)
     rintro e VM ⟨rfl,rfl⟩
     clear HM
     obtain⟨a0,dd,hkb⟩:=HX.out.blk
     obtain⟨k0,k1,k2,k3,k4,k5,kf⟩:=cells6 hkb
     have kf2:=kf 2
     obtain⟨x5,hx5⟩:∃x5,IntKind.i64.wrap (dd - 1)=x5:=⟨_,rfl⟩
     have hx5':wrap64 (dd - 1)=x5:=by rw[←hx5];simp [IntKind.wrap_i64,wrap64]
     obtain⟨W5,hW5⟩:∃W5,V6.setCell ⟨b,2,none⟩ (.int .i64 x5)=W5:=⟨_,rfl⟩
     have hm5:=HX.out.deep x5
     have ho5:=only_setCell V6 b 2 (.int .i64 x5)
     rw[hW5] at hm5 ho5
     have HF:=hide (show RfPost w B X b (.slice (some ⟨g,0,none⟩) ts.length c) ts (⟨⟨tk,tt,tv1,tv2,tv3⟩,tl,tc⟩::q) d vt nds (lvlE 7 d (⟨⟨tk,tt,tv1,tv2,tv3⟩,tl,tc⟩::q)) (.returned (.int .i64 z6)) W5 from⟨z6,v6,rfl,HR.out.trans (Rch.of_only v6 ho5),by rw[HLE.out];exact hm5⟩)
     have HW5:=hide hW5
     clear hkb kf hm5 ho5 hW5 hx5
     go_upto_region 13 with fail
     rw[HW5.out]
     clear k0 k1 k2 k3 k4 k5 kf2 hx5'
     go_wp2_with fail
     go_ret
     exact HF.out
    |ok p=>
     obtain⟨a4,q4⟩:=p
     rw[hq4] at hm6
     obtain⟨rfl,hf6⟩:=hm6
     have hsz4:=row_size (n:=0) (by omega) hq4
     have HMU:=hide (rmust_any hf6 [41] (by simp))
     cases hm2:isH [41] q4 with
     |false=>
      have HLE:Hid (lvlE 7 d (⟨⟨tk,tt,tv1,tv2,tv3⟩,tl,tc⟩::q)= .error (4,q4)):=hide (by rw[HLA.out,hq4];show shutE a4 q4=_;unfold shutE;rw[if_neg (by rw[hm2];decide)])
      have HM2:=hide hm2
      clear hf6 hq4 hm2 HLA
      go_wp2_with fail
      (with_reducible refine HMU.out.mono ?_)
      rintro e V7 ⟨rfl,ho7,hx7⟩
      rw[if_neg (by rw[HM2.out];decide)] at hx7
      have HX:=hide (hx7.mono (cap':=nds.length+(q.length+1)) (by rw[List.length_append,Ex.flat_len];omega) (by omega))
      have HR:=hide (HR.out.trans (Rch.of_only v6 ho7))
      clear ho7 hx7 HMU
      obtain⟨a0,dd,hkb⟩:=HX.out.blk
      obtain⟨k0,k1,k2,k3,k4,k5,kf⟩:=cells6 hkb
      have kf2:=kf 2
      obtain⟨x5,hx5⟩:∃x5,IntKind.i64.wrap (dd - 1)=x5:=⟨_,rfl⟩
      have hx5':wrap64 (dd - 1)=x5:=by rw[←hx5];simp [IntKind.wrap_i64,wrap64]
      obtain⟨W5,hW5⟩:∃W5,V7.setCell ⟨b,2,none⟩ (.int .i64 x5)=W5:=⟨_,rfl⟩
      have hm5:=HX.out.deep x5
      have ho5:=only_setCell V7 b 2 (.int .i64 x5)
      rw[hW5] at hm5 ho5
      have HF:=hide (show RfPost w B X b (.slice (some ⟨g,0,none⟩) ts.length c) ts (⟨⟨tk,tt,tv1,tv2,tv3⟩,tl,tc⟩::q) d vt nds (lvlE 7 d (⟨⟨tk,tt,tv1,tv2,tv3⟩,tl,tc⟩::q)) (.returned (.int .i64 ((nds.length+a4.size - 1:Nat):Int))) W5 from⟨((nds.length+a4.size - 1:Nat):Int),v6,rfl,HR.out.trans (Rch.of_only v6 ho5),by rw[HLE.out];exact hm5⟩)
      have HW5:=hide hW5
      clear hkb kf hm5 ho5 hW5 hx5
      go_upto_region 13 with fail
      rw[HW5.out]
      clear k0 k1 k2 k3 k4 k5 kf2 hx5'
      go_wp2_with fail
      go_ret
      exact HF.out
     |true=>
      obtain⟨t5,q5,rfl⟩:=isH_ne hm2
      have HLE:Hid (lvlE 7 d (⟨⟨tk,tt,tv1,tv2,tv3⟩,tl,tc⟩::q)= .ok (a4,q5)):=hide (by rw[HLA.out,hq4];show shutE a4 (t5::q5)=_;unfold shutE;rw[if_pos hm2];rfl)
      have HM2:=hide hm2
      clear hf6 hq4 hm2 HLA
      go_wp2_with fail
      (with_reducible refine HMU.out.mono ?_)
      rintro e V7 ⟨rfl,ho7,hf7⟩
      rw[if_pos HM2.out,List.tail_cons] at hf7
      obtain⟨k0,k1,k2,k3,k4,k5,kf⟩:=cells6 hf7.blk
      have kf2:=kf 2
      have hd13:=hf7.hd
      have hf8:=hf7.deep (d':=d) (by omega)
      have ho8:=only_setCell V7 b 2 (.int .i64 (d:Int))
      have HR:=hide ((HR.out.trans (Rch.of_only v6 ho7)).trans (Rch.of_only v6 ho8))
      obtain⟨W5,hW5⟩:∃W5,V7.setCell ⟨b,2,none⟩ (.int .i64 (d:Int))=W5:=⟨_,rfl⟩
      rw[hW5] at hf8 HR
      have HF:=hide (show RfPost w B X b (.slice (some ⟨g,0,none⟩) ts.length c) ts (⟨⟨tk,tt,tv1,tv2,tv3⟩,tl,tc⟩::q) d vt nds (lvlE 7 d (⟨⟨tk,tt,tv1,tv2,tv3⟩,tl,tc⟩::q)) (.returned (.int .i64 ((nds.length+a4.size - 1:Nat):Int))) W5 from⟨_,v6,rfl,HR.out,by rw[HLE.out];exact⟨rfl,hf8⟩⟩)
      have HW5:=hide hW5
      have hdd:((d+1:Nat):Int) - 1=(d:Int):=by omega
      clear ho7 hf7 hf8 ho8 hW5 kf HMU
      go_upto_region 13 with fail
      first|rw[HW5.out]|(rw[show((d:Int)+1 - 1)=(d:Int) by omega,HW5.out])|(rw[hdd,HW5.out])
      clear k0 k1 k2 k3 k4 k5 kf2 hdd
      go_wp2_with fail
      go_ret
      exact HF.out
theorem rexpr_all (B b:Nat)(vl:Value)(ts:List Tkn):∀k,ExprIH k B b vl ts
 |0=>fun _ _ _ _ _ _ _ _ h _ _=>absurd h (Nat.not_lt_zero _)
 |k+1=>fun _ _ _ _ _ _ _ hn hk h hB=>rexpr_step (rexpr_all B b vl ts k) (fun _ _ _ _ _ _ hk h hB=>ratom_any (rexpr_all B b vl ts k) hk h hB) hn (Nat.lt_succ_iff.1 hk) h hB
end Go.Proofs.YtgfakdobajgnfaaGreatDoor
