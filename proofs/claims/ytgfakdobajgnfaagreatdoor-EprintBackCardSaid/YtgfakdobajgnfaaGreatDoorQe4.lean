import Derived.Test.YtgfakdobajgnfaaGreatDoorQe3
set_option maxRecDepth 100000
set_option maxHeartbeats 16000000
namespace Go.Proofs.YtgfakdobajgnfaaGreatDoor
open Go Go.RowKit
theorem G5 {w:World}{b:Nat}{x0 x1 x2 x3 x4 x5 x6:Value}{t:TypeId}(h:w.heap[b]? =some (.cells #[x0,x1,x2,x3,x4,x5,x6] t (0,0))):
 w.cell? ⟨b,0,none⟩=some x0/\w.cell? ⟨b,1,none⟩=some x1/\w.cell? ⟨b,2,none⟩=some x2/\w.cell? ⟨b,3,none⟩=some x3/\w.cell? ⟨b,4,none⟩=some x4/\w.cell? ⟨b,5,none⟩=some x5/\w.cell? ⟨b,6,none⟩=some x6:=
 ⟨by simp only[World.cell?,h];rfl,by simp only[World.cell?,h];rfl,by simp only[World.cell?,h];rfl,by simp only[World.cell?,h];rfl,by simp only[World.cell?,h];rfl,by simp only[World.cell?,h];rfl,by simp only[World.cell?,h];rfl⟩
theorem Bt {w:World}{b:Nat}{x0 x1 x2 x3 x4 x5 x6 x7:Value}{t:TypeId}(h:w.heap[b]? =some (.cells #[x0,x1,x2,x3,x4,x5,x6,x7] t (0,0))):
 w.cell? ⟨b,0,none⟩=some x0/\w.cell? ⟨b,1,none⟩=some x1/\w.cell? ⟨b,2,none⟩=some x2/\w.cell? ⟨b,3,none⟩=some x3/\w.cell? ⟨b,4,none⟩=some x4/\w.cell? ⟨b,5,none⟩=some x5/\w.cell? ⟨b,6,none⟩=some x6/\w.cell? ⟨b,7,none⟩=some x7/\∀i,w.frozen? ⟨b,i,none⟩=false:=
 ⟨by simp only[World.cell?,h];rfl,by simp only[World.cell?,h];rfl,by simp only[World.cell?,h];rfl,by simp only[World.cell?,h];rfl,by simp only[World.cell?,h];rfl,by simp only[World.cell?,h];rfl,by simp only[World.cell?,h];rfl,by simp only[World.cell?,h];rfl,fun i=>by simp only[World.frozen?,h];simp⟩
theorem Lr {w W3:World}{B b d pn:Nat}{X:List Nat}{vl vt:Value}{ts q:List Tkn}{t:Tkn}{nds:List Nd}(hB:B<=w.heap.size)(hb3:Below w.heap.size w W3)(hr:Ct w B X b vl ts (t::q) d vt nds){h:Hd}
 (hn:W3.heap[pn]? =some (.cells #[.int .u8 h.op,.int .u8 h.v.1,.int .i64 h.v.2.1,.string ⟨h.v.2.2.toArray⟩,.string ⟨h.name.toArray⟩,.slice none 0 0,.int .i64 h.line,.int .i64 h.col] 43 (0,0))):
 (W3.setCell ⟨b,1,none⟩ (.int .i64 (((ts.length - (q.length+1):Nat):Int)+1))).heap[pn]? =some (.cells #[.int .u8 h.op,.int .u8 h.v.1,.int .i64 h.v.2.1,.string ⟨h.v.2.2.toArray⟩,.string ⟨h.name.toArray⟩,.slice none 0 0,.int .i64 h.line,.int .i64 h.col] 43 (0,0))/\
 Calls Tryz.prog 209 #[.pointer (some ⟨b,0,none⟩),.agg #[.int .u8 h.op,.int .u8 h.v.1,.int .i64 h.v.2.1,.string ⟨h.v.2.2.toArray⟩,.string ⟨h.name.toArray⟩,.slice none 0 0,.int .i64 h.line,.int .i64 h.col],.slice none 0 0]
  (W3.setCell ⟨b,1,none⟩ (.int .i64 (((ts.length - (q.length+1):Nat):Int)+1))) (fun e w'=>e= .returned (.int .i64 (nds.length:Int))/\∃v',Ct w' B X b vl ts q d v' (nds++(Ex.mk h []).flat nds.length)/\Rch b w vt w' v'):=by
 have hr3:=hr.below hb3
 have ho:=Aw W3 b 1 (.int .i64 (((ts.length - (q.length+1):Nat):Int)+1))
 have hch:Rch b w vt (W3.setCell ⟨b,1,none⟩ (.int .i64 (((ts.length - (q.length+1):Nat):Int)+1))) vt:=(Rch.of_below vt hb3).trans (Rch.of_only vt ho)
 have hfew:=hr.few
 simp only[Aa] at hfew
 refine⟨ho.cells_of hn fun hm=>?_,?_⟩
 ·simp at hm
  subst hm
  rw[hr3.blk] at hn
  injection hn with hn
  injection hn with _ hn
  exact absurd hn rB
 ·refine(Qh hr3.step rA (Al hB hch.only.size) h [] none 0 (World.ownsRow_nil _ _ _ _) (fun x e=>by cases e)).mono ?_
  rintro e w' ⟨rfl,v',h1,h2⟩
  exact⟨rfl,v',h1,hch.trans h2⟩
theorem jH {k B b:Nat}{X:List Nat}{vl:Value}{ts:List Tkn}(ih:Mo k B b vl ts){d:Nat}{r:List Tkn}{w:World}{vt:Value}{nds:List Nd}(hk:Bq (.lvl 7) r<=k)(h:Ct w B X b vl ts r d vt nds)(hB:B<=w.heap.size):
 Calls Tryz.prog 155 #[.pointer (some ⟨b,0,none⟩)] w (Bw w B X b vl ts d vt nds (A2 7 d r)):=by
 obtain⟨c0,c1,c2,c3,cf⟩:=Du h.blk
 have hl:=h.suf.len
 have hbig:=h.big
 have hbw:=Aq h.blk
 cases r with
 |nil=>
  obtain⟨va,vc,rfl⟩:=h.toks.form
  have i0:(ts.length:Int)<=(((ts.length - ([]:List Tkn).length:Nat):Int)):=by simp
  have i1:decide ((ts.length:Int)<=(((ts.length - ([]:List Tkn).length:Nat):Int)))=true:=by simp
  have H:=Ao h
  have hnq:=fun nq=>Ao (show Bw w B X b (.slice va ts.length vc) ts d vt nds (A2 7 d []) (Eh 4) (w.drewN nq) from by
   rw[Bj]
   have hb:=Ba (Below.refl w.heap.size w) nq
   exact⟨rfl,(H.out.below hb).err,A4.of_below hb _⟩)
  clear h hl cf
  go_enter Tryz.func155,Tryz.ntmps155
  go_wp2_with fail
  go_quiet (fail)
  go_wp2_with fail
  exact⟨rfl,(hnq _).out⟩
 |cons t q=>
  obtain⟨g,c,rfl,hg,hlt,t0,t1,t2,t3,t4,t5,t6⟩:=h.head
  obtain⟨n,hn⟩:∃n,ts.length - (t::q).length=n:=⟨_,rfl⟩
  rw[hn] at c1 hlt t0 t1 t2 t3 t4 t5 t6
  have i0:(n:Int)<(ts.length:Int):=by omega
  have i1:decide ((ts.length:Int)<=(n:Int))=false:=by simp;omega
  have i2:(0:Int)<=(n:Int):=by omega
  have H:=Ao h
  have Hn:=Ao hn
  clear h hl hn cf
  go_enter Tryz.func155,Tryz.ntmps155
  go_wp2_with fail
  go_quiet (fail)
  go_wp2_with fail
  obtain⟨V,hV⟩:∃V,w.drewN nq=V:=⟨_,rfl⟩
  have hbV:Below w.heap.size w V:=by rw[←hV];exact Ba (Below.refl _ w) nq
  have hr:=H.out.below hbV
  rw[hV]
  clear c0 c1 c2 c3 t0 t1 t2 t3 t4 t5 t6 hV
  obtain⟨c0,c1,c2,c3,cf⟩:=Du hr.blk
  obtain⟨g',c',e,hg',_,t0,t1,t2,t3,t4,t5,t6⟩:=hr.head
  injection e with e1 _ e3
  injection e1 with e1
  injection e1 with e1
  subst e1
  subst e3
  rw[Hn.out] at c1 t0 t1 t2 t3 t4 t5 t6
  have hbw:b<V.drew.heap.size:=Aq hr.blk
  have hgw:g<V.drew.heap.size:=hg'
  have hbw2:b<V.heap.size:=Aq hr.blk
  have hgw2:g<V.heap.size:=hg'
  obtain⟨⟨tk,tt,tv1,tv2,tv3⟩,tl,tc⟩:=t
  simp only at t0 t1 t2 t3 t4 t5 t6
  have HR:=Ao hr
  have HB:=Ao hbV
  clear hr hbV cf hg hg'
  go_region
  obtain⟨W1,hW1⟩:∃W1,(V.alloc (.cells #[.int .u8 tk,.string ⟨tt.toArray⟩,.int .u8 tv1,.int .i64 tv2,.string ⟨tv3.toArray⟩,.int .i64 tl,.int .i64 tc] 94)).drew=W1:=⟨_,rfl⟩
  have hb1:Below V.heap.size V W1:=by rw[←hW1];exact((Below.refl _ V).alloc (Ak _) _).drew
  have hz1:W1.heap.size=V.heap.size+1:=by rw[←hW1];show(V.alloc _).heap.size=_;simp
  have ht1:W1.heap[V.heap.size]? =some (.cells #[.int .u8 tk,.string ⟨tt.toArray⟩,.int .u8 tv1,.int .i64 tv2,.string ⟨tv3.toArray⟩,.int .i64 tl,.int .i64 tc] 94 (0,0)):=by rw[←hW1];exact Au V _
  rw[hW1]
  obtain⟨_,_,_,_,_,u5,u6⟩:=G5 ht1
  have hn2:=Au W1 (.cells #[.int .u8 0,.int .u8 0,.int .i64 0,.string ⟨#[]⟩,.string ⟨#[]⟩,.slice none 0 0,.int .i64 tl,.int .i64 tc] 43)
  have hb2:Below W1.heap.size W1 (W1.alloc (.cells #[.int .u8 0,.int .u8 0,.int .i64 0,.string ⟨#[]⟩,.string ⟨#[]⟩,.slice none 0 0,.int .i64 tl,.int .i64 tc] 43)):=(Below.refl _ W1).alloc (Ak _) _
  obtain⟨W2,hW2⟩:∃W2,W1.alloc (.cells #[.int .u8 0,.int .u8 0,.int .i64 0,.string ⟨#[]⟩,.string ⟨#[]⟩,.slice none 0 0,.int .i64 tl,.int .i64 tc] 43)=W2:=⟨_,rfl⟩
  rw[hW2] at hn2 hb2
  rw[hz1] at hn2
  have hzV:w.heap.size<=V.heap.size:=HB.out.size
  have hz2:W2.heap.size=V.heap.size+2:=by rw[←hW2];simp [hz1]
  have ht2:=(hb2.block _ (Aq ht1)).trans ht1
  have hB2:=HB.out.trans ((hb1.trans (hb2.mono hb1.size)).mono HB.out.size)
  have HR2:=Ao (H.out.below hB2)
  have HB2:=Ao hB2
  have HT2:=Ao ht2
  have HN2:=Ao hn2
  clear hb1 ht1 hn2 hb2 ht2 hB2 HR HB hW1 c0 c1 c2 c3 t0 t1 t2 t3 t4 t5 t6 hbw hgw hbw2 hgw2 i0 i1 i2
  obtain⟨f0,f1,f2,f3,f4,f5,f6⟩:=G5 HT2.out
  obtain⟨n0,n1,n2,n3,n4,n5,n6,n7,nf⟩:=Bt HN2.out
  have nf0:=nf 0
  have nf1:=nf 1
  have nf2:=nf 2
  have nf3:=nf 3
  have nf4:=nf 4
  clear nf
  by_cases hk4:tk=4\/tk=5\/tk=6
  ·rcases hk4 with rfl|rfl|rfl
   ·go_wp2_with fail
    go_region
    obtain⟨W3,hW3⟩:∃W3,((((W2.setCell ⟨V.heap.size+1,0,none⟩ (.int .u8 1)).setCell ⟨V.heap.size+1,1,none⟩ (.int .u8 tv1)).setCell ⟨V.heap.size+1,2,none⟩ (.int .i64 tv2)).setCell ⟨V.heap.size+1,3,none⟩ (.string ⟨tv3.toArray⟩)).drew=W3:=⟨_,rfl⟩
    have hO3:A4 [V.heap.size+1] W2 W3:=by
     exact zx1
    have hn3:W3.heap[V.heap.size+1]? =some (.cells #[.int .u8 1,.int .u8 tv1,.int .i64 tv2,.string ⟨tv3.toArray⟩,.string ⟨#[]⟩,.slice none 0 0,.int .i64 tl,.int .i64 tc] 43 (0,0)):=by
     exact zx8
    rw[hW3]
    have hB3:Below w.heap.size w W3:=Bp HB2.out hO3 rH rA
    have hr3:=H.out.below hB3
    obtain⟨c0,c1,c2,c3,cf⟩:=Du hr3.blk
    have cf1:=cf 1
    obtain⟨hn4,hnd⟩:=Lr hB hB3 H.out (h:=⟨1,(tv1,tv2,tv3),[],tl,tc⟩) hn3
    obtain⟨W4,hW4⟩:∃W4,W3.setCell ⟨b,1,none⟩ (.int .i64 (((ts.length - (q.length+1):Nat):Int)+1))=W4:=⟨_,rfl⟩
    rw[hW4] at hn4 hnd
    simp only[List.toArray] at hnd
    obtain⟨m0,m1,m2,m3,m4,m5,m6,m7,_⟩:=Bt hn4
    have HND:=Ao hnd
    have HX:Hid (A2 7 d (⟨⟨4,tt,tv1,tv2,tv3⟩,tl,tc⟩::q)= .ok (.mk ⟨1,(tv1,tv2,tv3),[],tl,tc⟩ [],q)):=Ao tA
    clear hn4 hnd hn3 hO3 hB3 hr3 cf hW3
    go_wp2_with fail
    refine HND.out.mono ?_
    rintro e V6 ⟨rfl,v6,hr6,hch6⟩
    have HE:Hid (Bw w B X b (.slice (some ⟨g,0,none⟩) ts.length c) ts d vt nds (A2 7 d (⟨⟨4,tt,tv1,tv2,tv3⟩,tl,tc⟩::q)) (.returned (.int .i64 (nds.length:Int))) V6):=Ao (by
     exact zxk)
    clear hr6 hch6 HND HX hW4
    exact zzc
   ·go_wp2_with fail
    go_region
    obtain⟨W3,hW3⟩:∃W3,((((W2.setCell ⟨V.heap.size+1,0,none⟩ (.int .u8 1)).setCell ⟨V.heap.size+1,1,none⟩ (.int .u8 tv1)).setCell ⟨V.heap.size+1,2,none⟩ (.int .i64 tv2)).setCell ⟨V.heap.size+1,3,none⟩ (.string ⟨tv3.toArray⟩)).drew=W3:=⟨_,rfl⟩
    have hO3:A4 [V.heap.size+1] W2 W3:=by
     exact zx1
    have hn3:W3.heap[V.heap.size+1]? =some (.cells #[.int .u8 1,.int .u8 tv1,.int .i64 tv2,.string ⟨tv3.toArray⟩,.string ⟨#[]⟩,.slice none 0 0,.int .i64 tl,.int .i64 tc] 43 (0,0)):=by
     exact zx8
    rw[hW3]
    have hB3:Below w.heap.size w W3:=Bp HB2.out hO3 rH rA
    have hr3:=H.out.below hB3
    obtain⟨c0,c1,c2,c3,cf⟩:=Du hr3.blk
    have cf1:=cf 1
    obtain⟨hn4,hnd⟩:=Lr hB hB3 H.out (h:=⟨1,(tv1,tv2,tv3),[],tl,tc⟩) hn3
    obtain⟨W4,hW4⟩:∃W4,W3.setCell ⟨b,1,none⟩ (.int .i64 (((ts.length - (q.length+1):Nat):Int)+1))=W4:=⟨_,rfl⟩
    rw[hW4] at hn4 hnd
    simp only[List.toArray] at hnd
    obtain⟨m0,m1,m2,m3,m4,m5,m6,m7,_⟩:=Bt hn4
    have HND:=Ao hnd
    have HX:Hid (A2 7 d (⟨⟨5,tt,tv1,tv2,tv3⟩,tl,tc⟩::q)= .ok (.mk ⟨1,(tv1,tv2,tv3),[],tl,tc⟩ [],q)):=Ao tA
    clear hn4 hnd hn3 hO3 hB3 hr3 cf hW3
    go_wp2_with fail
    refine HND.out.mono ?_
    rintro e V6 ⟨rfl,v6,hr6,hch6⟩
    have HE:Hid (Bw w B X b (.slice (some ⟨g,0,none⟩) ts.length c) ts d vt nds (A2 7 d (⟨⟨5,tt,tv1,tv2,tv3⟩,tl,tc⟩::q)) (.returned (.int .i64 (nds.length:Int))) V6):=Ao (by
     exact zxk)
    clear hr6 hch6 HND HX hW4
    exact zzc
   ·go_wp2_with fail
    go_region
    obtain⟨W3,hW3⟩:∃W3,((((W2.setCell ⟨V.heap.size+1,0,none⟩ (.int .u8 1)).setCell ⟨V.heap.size+1,1,none⟩ (.int .u8 tv1)).setCell ⟨V.heap.size+1,2,none⟩ (.int .i64 tv2)).setCell ⟨V.heap.size+1,3,none⟩ (.string ⟨tv3.toArray⟩)).drew=W3:=⟨_,rfl⟩
    have hO3:A4 [V.heap.size+1] W2 W3:=by
     exact zx1
    have hn3:W3.heap[V.heap.size+1]? =some (.cells #[.int .u8 1,.int .u8 tv1,.int .i64 tv2,.string ⟨tv3.toArray⟩,.string ⟨#[]⟩,.slice none 0 0,.int .i64 tl,.int .i64 tc] 43 (0,0)):=by
     exact zx8
    rw[hW3]
    have hB3:Below w.heap.size w W3:=Bp HB2.out hO3 rH rA
    have hr3:=H.out.below hB3
    obtain⟨c0,c1,c2,c3,cf⟩:=Du hr3.blk
    have cf1:=cf 1
    obtain⟨hn4,hnd⟩:=Lr hB hB3 H.out (h:=⟨1,(tv1,tv2,tv3),[],tl,tc⟩) hn3
    obtain⟨W4,hW4⟩:∃W4,W3.setCell ⟨b,1,none⟩ (.int .i64 (((ts.length - (q.length+1):Nat):Int)+1))=W4:=⟨_,rfl⟩
    rw[hW4] at hn4 hnd
    simp only[List.toArray] at hnd
    obtain⟨m0,m1,m2,m3,m4,m5,m6,m7,_⟩:=Bt hn4
    have HND:=Ao hnd
    have HX:Hid (A2 7 d (⟨⟨6,tt,tv1,tv2,tv3⟩,tl,tc⟩::q)= .ok (.mk ⟨1,(tv1,tv2,tv3),[],tl,tc⟩ [],q)):=Ao tA
    clear hn4 hnd hn3 hO3 hB3 hr3 cf hW3
    go_wp2_with fail
    refine HND.out.mono ?_
    rintro e V6 ⟨rfl,v6,hr6,hch6⟩
    have HE:Hid (Bw w B X b (.slice (some ⟨g,0,none⟩) ts.length c) ts d vt nds (A2 7 d (⟨⟨6,tt,tv1,tv2,tv3⟩,tl,tc⟩::q)) (.returned (.int .i64 (nds.length:Int))) V6):=Ao (by
     exact zxk)
    clear hr6 hch6 HND HX hW4
    exact zzc
  by_cases hk2:tk=2
  ·subst hk2
   clear hk4
   go_wp2_with fail
   go_region
   obtain⟨W3,hW3⟩:∃W3,((W2.setCell ⟨V.heap.size+1,0,none⟩ (.int .u8 2)).setCell ⟨V.heap.size+1,4,none⟩ (.string ⟨tt.toArray⟩)).drew=W3:=⟨_,rfl⟩
   have hO3:A4 [V.heap.size+1] W2 W3:=by
    rw[←hW3]
    exact A4.drew ((Aw W2 _ _ _).setCell (.inl rC) _)
   have hn3:W3.heap[V.heap.size+1]? =some (.cells #[.int .u8 2,.int .u8 0,.int .i64 0,.string ⟨#[]⟩,.string ⟨tt.toArray⟩,.slice none 0 0,.int .i64 tl,.int .i64 tc] 43 (0,0)):=by
    rw[←hW3]
    show(World.setCell _ _ _).heap[_]? =_
    rw[Av (Av HN2.out)]
    rfl
   rw[hW3]
   have hB3:Below w.heap.size w W3:=Bp HB2.out hO3 rH rA
   have hr3:=H.out.below hB3
   obtain⟨c0,c1,c2,c3,cf⟩:=Du hr3.blk
   have cf1:=cf 1
   obtain⟨hn4,hnd⟩:=Lr hB hB3 H.out (h:=⟨2,v0,tt,tl,tc⟩) hn3
   obtain⟨W4,hW4⟩:∃W4,W3.setCell ⟨b,1,none⟩ (.int .i64 (((ts.length - (q.length+1):Nat):Int)+1))=W4:=⟨_,rfl⟩
   rw[hW4] at hn4 hnd
   simp only[List.toArray] at hnd
   obtain⟨m0,m1,m2,m3,m4,m5,m6,m7,_⟩:=Bt hn4
   have HND:=Ao hnd
   have HX:Hid (A2 7 d (⟨⟨2,tt,tv1,tv2,tv3⟩,tl,tc⟩::q)= .ok (.mk ⟨2,v0,tt,tl,tc⟩ [],q)):=Ao tA
   clear hn4 hnd hn3 hO3 hB3 hr3 cf hW3
   go_wp2_with fail
   refine HND.out.mono ?_
   rintro e V6 ⟨rfl,v6,hr6,hch6⟩
   have HE:Hid (Bw w B X b (.slice (some ⟨g,0,none⟩) ts.length c) ts d vt nds (A2 7 d (⟨⟨2,tt,tv1,tv2,tv3⟩,tl,tc⟩::q)) (.returned (.int .i64 (nds.length:Int))) V6):=Ao (by
    exact zxk)
   clear hr6 hch6 HND HX hW4
   exact zzc
  by_cases hk3:tk=3
  ·subst hk3
   clear hk4 hk2
   obtain⟨W3,hW3⟩:∃W3,W2.setCell ⟨V.heap.size+1,0,none⟩ (.int .u8 3)=W3:=⟨_,rfl⟩
   have hO3:A4 [V.heap.size+1] W2 W3:=by
    rw[←hW3]
    exact Aw W2 _ _ _
   have hn3:W3.heap[V.heap.size+1]? =some (.cells #[.int .u8 3,.int .u8 0,.int .i64 0,.string ⟨#[]⟩,.string ⟨#[]⟩,.slice none 0 0,.int .i64 tl,.int .i64 tc] 43 (0,0)):=by
    rw[←hW3]
    rw[Av HN2.out]
    rfl
   have hB3:Below w.heap.size w W3:=Bp HB2.out hO3 rH rA
   have hr3:=H.out.below hB3
   obtain⟨c0,c1,c2,c3,cf⟩:=Du hr3.blk
   have cf1:=cf 1
   obtain⟨hn4,hnd⟩:=Lr hB hB3 H.out (h:=⟨3,v0,[],tl,tc⟩) hn3
   obtain⟨W4,hW4⟩:∃W4,W3.setCell ⟨b,1,none⟩ (.int .i64 (((ts.length - (q.length+1):Nat):Int)+1))=W4:=⟨_,rfl⟩
   rw[hW4] at hn4 hnd
   simp only[List.toArray] at hnd
   obtain⟨m0,m1,m2,m3,m4,m5,m6,m7,_⟩:=Bt hn4
   have HND:=Ao hnd
   have HX:Hid (A2 7 d (⟨⟨3,tt,tv1,tv2,tv3⟩,tl,tc⟩::q)= .ok (.mk ⟨3,v0,[],tl,tc⟩ [],q)):=Ao tA
   clear hn4 hnd hn3 hO3 hB3 hr3 cf
   go_wp2_with fail
   refine HND.out.mono ?_
   rintro e V6 ⟨rfl,v6,hr6,hch6⟩
   have HE:Hid (Bw w B X b (.slice (some ⟨g,0,none⟩) ts.length c) ts d vt nds (A2 7 d (⟨⟨3,tt,tv1,tv2,tv3⟩,tl,tc⟩::q)) (.returned (.int .i64 (nds.length:Int))) V6):=Ao (by
    exact zxk)
   clear hr6 hch6 HND HX hW4
   exact zzc
  by_cases hk1:tk=1
  ·subst hk1
   clear hk4 hk2 hk3
   have hlit:=Yc tt W2
   have Hlit:=Ao hlit
   clear hlit
   go_wp2_with fail
   refine Hlit.out.mono ?_
   rintro e V3 ⟨rfl,hb3⟩
   obtain⟨lv1,lv2,lv3,hlv⟩:∃a b c,(Lx tt).getD v0=(a,b,c):=⟨_,_,_,rfl⟩
   rw[hlv]
   simp only[nW]
   obtain⟨isl,hisl⟩:∃z,(Lx tt).isSome=z:=⟨_,rfl⟩
   rw[hisl]
   have hb3a:=(Below.refl V3.heap.size V3).alloc (Ak _) (.cells #[.int .u8 lv1,.int .i64 lv2,.string ⟨lv3.toArray⟩] 23)
   have h5:=Au V3 (.cells #[.int .u8 lv1,.int .i64 lv2,.string ⟨lv3.toArray⟩] 23)
   obtain⟨V4,hV4⟩:∃V4,V3.alloc (.cells #[.int .u8 lv1,.int .i64 lv2,.string ⟨lv3.toArray⟩] 23)=V4:=⟨_,rfl⟩
   rw[hV4] at hb3a h5
   have hq1:¬V3.heap.size=V.heap.size+1:=by have:=hb3.size;omega
   have hq2:¬V.heap.size+1=V3.heap.size:=by have:=hb3.size;omega
   have hz4:V4.heap.size=V3.heap.size+1:=by rw[←hV4];simp
   have hb4:=hb3.trans (hb3a.mono hb3.size)
   have hcl:=gD tt V4
   have Hcl:=Ao hcl
   obtain⟨_,u1,_⟩:=G5 ((hb4.block _ (Aq HT2.out)).trans HT2.out)
   have HB4:=Ao hb4
   have H5:=Ao h5
   have HLV:=Ao hlv
   have HIS:=Ao hisl
   clear hb3 hb3a h5 hb4 hcl Hlit hlv hisl
   go_wp2_with fail
   refine Hcl.out.mono ?_
   rintro e V5 ⟨rfl,hb5⟩
   obtain⟨o1,o2,o3,hcv⟩:∃a b c,(Dd tt).getD (0,0,0)=(a,b,c):=⟨_,_,_,rfl⟩
   rw[hcv]
   simp only[dR]
   have hb5a:=(Below.refl V5.heap.size V5).alloc (Ak _) (.cells #[.int .u8 o1,.int .i64 (o2:Int),.int .i64 (o3:Int)] 233)
   have h7:=Au V5 (.cells #[.int .u8 o1,.int .i64 (o2:Int),.int .i64 (o3:Int)] 233)
   obtain⟨V6,hV6⟩:∃V6,V5.alloc (.cells #[.int .u8 o1,.int .i64 (o2:Int),.int .i64 (o3:Int)] 233)=V6:=⟨_,rfl⟩
   rw[hV6] at hb5a h7
   have hb46:=hb5.trans (hb5a.mono hb5.size)
   have hb26:=HB4.out.trans (hb46.mono HB4.out.size)
   have hBx:=HB2.out.trans (hb26.mono HB2.out.size)
   have ht6:=(hb26.block _ (Aq HT2.out)).trans HT2.out
   have hn6:=(hb26.block _ (Aq HN2.out)).trans HN2.out
   have h56:=(hb46.block _ (Aq H5.out)).trans H5.out
   have hz6:V.heap.size+2<=V6.heap.size:=by have:=hb26.size;omega
   have HBx:=Ao hBx
   have HN6:=Ao hn6
   obtain⟨_,_,_,_,_,t5,t6⟩:=G5 ht6
   obtain⟨n0,n1,n2,n3,n4,n5,n6,n7,nf⟩:=Bt hn6
   have nf0:=nf 0
   have nf1:=nf 1
   have nf2:=nf 2
   have nf3:=nf 3
   obtain⟨l0,l1,l2,_⟩:=Md h56
   obtain⟨k0,k1,k2,_⟩:=Md h7
   clear hb5 hb5a h7 hb46 hb26 hBx ht6 hn6 h56 HB4 H5 Hcl HN2 HT2 HB2 HR2 nf u5 u6 u1 f0 f1 f2 f3 f4 f5 f6
   cases hcc:Dd tt with
   |some cx=>
    rw[hcc] at hcv
    simp only[Option.getD_some] at hcv
    subst hcv
    have hch:Cx ⟨⟨1,tt,tv1,tv2,tv3⟩,tl,tc⟩=some ⟨o1,o2,o3,tl,tc⟩:=by simp [Cx,hcc]
    have hlf:Ce ⟨⟨1,tt,tv1,tv2,tv3⟩,tl,tc⟩=none:=by simp [Ce,hcc]
    have hcle:=Y2 hcc
    have hca:Calls Tryz.prog 205 #[.pointer (some ⟨b,0,none⟩),.agg #[.int .u8 o1,.int .i64 (o2:Int),.int .i64 (o3:Int)],.agg #[.int .i64 tl,.int .i64 tc]] V6 _:=iG ih hk (H.out.below HBx.out) (Al hB HBx.out.size) ⟨o1,o2,o3,tl,tc⟩ (by show 1<=o3;have:=hcle;simp only at this;omega) (by show o3<=8;have:=hcle;simp only at this;omega)
    have HCA:=Ao hca
    have HX:Hid (A2 7 d (⟨⟨1,tt,tv1,tv2,tv3⟩,tl,tc⟩::q)=Bv d q fun q'=>Gi ⟨o1,o2,o3,tl,tc⟩ [] (d+1) q'):=Ao (by rw[Bj];simp only[hlf,hch])
    simp only[Option.isSome_some]
    clear hcc hch hlf hcle hca ih
    go_wp2_with fail
    refine HCA.out.mono ?_
    rintro e V7 hp7
    rw[←HX.out] at hp7
    cases hq7:A2 7 d (⟨⟨1,tt,tv1,tv2,tv3⟩,tl,tc⟩::q) with
    |error p7=>
     obtain⟨er,q7⟩:=p7
     rw[hq7] at hp7
     have HE:Hid (Bw w B X b (.slice (some ⟨g,0,none⟩) ts.length c) ts d vt nds (.error (er,q7)) (Eh er) V7):=Ao (by
      exact⟨rfl,hp7.2.1,(Rch.of_below vt HBx.out).err hp7.2.2⟩)
     obtain⟨rfl,_,_⟩:=hp7
     clear hq7 HX
     exact zzl
    |ok p7=>
     obtain⟨a7,q7⟩:=p7
     rw[hq7] at hp7
     obtain⟨rfl,v7,hr7,hch7⟩:=hp7
     have HE:Hid (Bw w B X b (.slice (some ⟨g,0,none⟩) ts.length c) ts d vt nds (A2 7 d (⟨⟨1,tt,tv1,tv2,tv3⟩,tl,tc⟩::q)) (.returned (.int .i64 ((nds.length+a7.size - 1:Nat):Int))) V7):=Ao (by
      rw[hq7]
      exact⟨rfl,v7,hr7,(Rch.of_below vt HBx.out).trans hch7⟩)
     clear hr7 hch7 hq7 HX
     exact zzc
   |none=>
    simp only[Option.isSome_none]
    have hch:Cx ⟨⟨1,tt,tv1,tv2,tv3⟩,tl,tc⟩=none:=by simp [Cx,hcc]
    cases hll:Lx tt with
    |none=>
     have hlf:Ce ⟨⟨1,tt,tv1,tv2,tv3⟩,tl,tc⟩=none:=by simp [Ce,hcc,hll]
     have hmem:(⟨⟨1,tt,tv1,tv2,tv3⟩,tl,tc⟩:Tkn)∈ts:=by
      have:=H.out.suf.at_drop
      exact List.mem_of_mem_drop (this▸Ai)
     have hn40:tt≠[40]:=H.out.nam _ hmem rfl
     have hi40:isH [40] (⟨⟨1,tt,tv1,tv2,tv3⟩,tl,tc⟩::q)=false:=by simp [isH,hn40]
     have HE:Hid (Bw w B X b (.slice (some ⟨g,0,none⟩) ts.length c) ts d vt nds (A2 7 d (⟨⟨1,tt,tv1,tv2,tv3⟩,tl,tc⟩::q)) (Eh 4) V6):=Ao (by
      rw[Bj]
      simp only[hlf,hch]
      unfold Bv
      rw[hi40]
      exact⟨rfl,(H.out.below HBx.out).err,A4.of_below HBx.out _⟩)
     have hil:isl=false:=by rw[←HIS.out,hll];rfl
     subst hil
     clear hlf hmem hn40 hi40 hch hcc hll ih hk H HLV HIS
     exact zzl
    |some lv=>
     have hlf:Ce ⟨⟨1,tt,tv1,tv2,tv3⟩,tl,tc⟩=some ⟨1,lv,[],tl,tc⟩:=by simp [Ce,hcc,hll]
     have hil:isl=true:=by rw[←HIS.out,hll];rfl
     subst hil
     have hlv:lv=(lv1,lv2,lv3):=by rw[←HLV.out,hll];rfl
     subst hlv
     have HLF:=Ao hlf
     have HB2:=HBx
     have HN2:=HN6
     clear hlf hch hcc hll ih HLV HIS
     go_wp2_with fail
     go_region
     obtain⟨W3,hW3⟩:∃W3,((((V6.setCell ⟨V.heap.size+1,0,none⟩ (.int .u8 1)).setCell ⟨V.heap.size+1,1,none⟩ (.int .u8 lv1)).setCell ⟨V.heap.size+1,2,none⟩ (.int .i64 lv2)).setCell ⟨V.heap.size+1,3,none⟩ (.string ⟨lv3.toArray⟩)).drew=W3:=⟨_,rfl⟩
     have hO3:A4 [V.heap.size+1] V6 W3:=by
      rw[←hW3]
      exact A4.drew ((((Aw V6 _ _ _).setCell (.inl rC) _).setCell (.inl rC) _).setCell (.inl rC) _)
     have hn3:W3.heap[V.heap.size+1]? =some (.cells #[.int .u8 1,.int .u8 lv1,.int .i64 lv2,.string ⟨lv3.toArray⟩,.string ⟨#[]⟩,.slice none 0 0,.int .i64 tl,.int .i64 tc] 43 (0,0)):=by
      exact zx8
     rw[hW3]
     have hB3:Below w.heap.size w W3:=Bp HBx.out hO3 rH rA
     have hr3:=H.out.below hB3
     obtain⟨c0,c1,c2,c3,cf⟩:=Du hr3.blk
     have cf1:=cf 1
     obtain⟨hn4,hnd⟩:=Lr hB hB3 H.out (h:=⟨1,(lv1,lv2,lv3),[],tl,tc⟩) hn3
     obtain⟨W4,hW4⟩:∃W4,W3.setCell ⟨b,1,none⟩ (.int .i64 (((ts.length - (q.length+1):Nat):Int)+1))=W4:=⟨_,rfl⟩
     rw[hW4] at hn4 hnd
     simp only[List.toArray] at hnd
     obtain⟨m0,m1,m2,m3,m4,m5,m6,m7,_⟩:=Bt hn4
     have HND:=Ao hnd
     have HX:Hid (A2 7 d (⟨⟨1,tt,tv1,tv2,tv3⟩,tl,tc⟩::q)= .ok (.mk ⟨1,(lv1,lv2,lv3),[],tl,tc⟩ [],q)):=Ao (by rw[Bj];simp only[HLF.out])
     clear hn4 hnd hn3 hO3 hB3 hr3 cf hW3
     go_wp2_with fail
     refine HND.out.mono ?_
     rintro e V6 ⟨rfl,v6,hr6,hch6⟩
     have HE:Hid (Bw w B X b (.slice (some ⟨g,0,none⟩) ts.length c) ts d vt nds (A2 7 d (⟨⟨1,tt,tv1,tv2,tv3⟩,tl,tc⟩::q)) (.returned (.int .i64 (nds.length:Int))) V6):=Ao (by
      exact zxk)
     clear hr6 hch6 HND HX hW4
     exact zzc
  have hlf:Ce ⟨⟨tk,tt,tv1,tv2,tv3⟩,tl,tc⟩=none:=by simp [Ce,hk4,hk2,hk3,hk1]
  have hch:Cx ⟨⟨tk,tt,tv1,tv2,tv3⟩,tl,tc⟩=none:=by simp [Cx,hk1]
  have HX:Hid (A2 7 d (⟨⟨tk,tt,tv1,tv2,tv3⟩,tl,tc⟩::q)=Bv d (⟨⟨tk,tt,tv1,tv2,tv3⟩,tl,tc⟩::q) fun q'=>(A2 0 (d+1) q').next Cs):=Ao (by rw[Bj];simp only[hlf,hch])
  have j4:(tk==4)=false:=by simp at hk4 ⊢;omega
  have j5:(tk==5)=false:=by simp at hk4 ⊢;omega
  have j6:(tk==6)=false:=by simp at hk4 ⊢;omega
  have j2:(tk==2)=false:=by simpa using hk2
  have j3:(tk==3)=false:=by simpa using hk3
  have j1:(tk==1)=false:=by simpa using hk1
  have his:=Nr HR2.out [40]
  have His:=Ao his
  have HI:=Ao ih
  clear hk4 hk2 hk3 hk1 hlf hch his ih n0 n1 n2 n3 n4 n5 n6 n7 nf0 nf1 nf2 nf3 nf4 HN2 f1 f2 f3 f4 f5 f6 HT2
  go_wp2_with fail
  refine His.out.mono ?_
  rintro e V3 ⟨rfl,hb3⟩
  have hB3:=HB2.out.trans (hb3.mono HB2.out.size)
  have hr3:=H.out.below hB3
  have HB3:=Ao hB3
  clear hb3 hB3 His HR2 HB2 f0 u5 u6
  by_cases ho:isH [40] (⟨⟨tk,tt,tv1,tv2,tv3⟩,tl,tc⟩::q)=true
  ·rw[ho]
   by_cases hd:d=12
   ·have hop:=Ao (Rf (hd▸hr3))
    have HE:Hid (Bw w B X b (.slice (some ⟨g,0,none⟩) ts.length c) ts d vt nds (A2 7 d (⟨⟨tk,tt,tv1,tv2,tv3⟩,tl,tc⟩::q)) (Eh 12) V3):=Ao (by
     rw[HX.out]
     unfold Bv
     rw[if_pos ho,if_pos hd]
     exact⟨rfl,hr3.err,A4.of_below HB3.out _⟩)
    clear hr3 HX HB3 hd ho
    go_wp2_with fail
    refine hop.out.mono ?_
    rintro e V4 ⟨rfl,rfl⟩
    clear hop
    exact zzl
   ·have hop:=Ao (Ud hr3 hd)
    have hx:=HX.out
    unfold Bv at hx
    rw[if_pos ho,if_neg hd,List.tail_cons] at hx
    have HX2:=Ao hx
    have HO:=Ao ho
    have hd12:=H.out.hd
    clear hr3 HX hx ho
    go_wp2_with fail
    refine hop.out.mono ?_
    rintro e V4 ⟨rfl,hr4,ho4⟩
    have hmu:=J5 hr4 [40]
    rw[HO.out] at hmu
    simp only[if_true,List.tail_cons] at hmu
    have Hmu:=Ao hmu
    have HO4:=Ao ho4
    clear hmu ho4 hr4 hop
    go_wp2_with fail
    refine Hmu.out.mono ?_
    rintro e V5 ⟨rfl,hr5,ho5⟩
    have hch5:Rch b w vt V5 vt:=(Rch.of_below vt HB3.out).trans (Rch.of_only vt (HO4.out.trans ho5))
    have hc6:Calls Tryz.prog 89 #[.pointer (some ⟨b,0,none⟩),.int .i64 0] V5 _:=HI.out X 0 (d+1) q V5 vt nds rA sJ hr5 (Al hB hch5.only.size)
    have Hc6:=Ao hc6
    have HCH:=Ao hch5
    clear hr5 ho5 hc6 hch5 Hmu HO4 HB3
    go_wp2_with fail
    refine Hc6.out.mono ?_
    rintro e V6 hp6
    cases hq6:A2 0 (d+1) q with
    |error p=>
     obtain⟨er,q6⟩:=p
     rw[hq6] at hp6
     have HE:Hid (Bw w B X b (.slice (some ⟨g,0,none⟩) ts.length c) ts d vt nds (A2 7 d (⟨⟨tk,tt,tv1,tv2,tv3⟩,tl,tc⟩::q)) (Eh er) V6):=Ao (by
      rw[HX2.out,hq6]
      obtain⟨_,h2,h3⟩:=Bw.pre hp6 HCH.out
      exact⟨rfl,h2,h3⟩)
     obtain⟨rfl,_,_⟩:=hp6
     clear hq6 HX2 HCH
     exact zzl
    |ok p=>
     obtain⟨bx,q6⟩:=p
     rw[hq6] at hp6
     obtain⟨rfl,v6,hp6,hch6⟩:=hp6
     have hch:=HCH.out.trans hch6
     have hx:=HX2.out
     rw[hq6] at hx
     simp only[ExR.next] at hx
     unfold Cs at hx
     have hmu:=J5 hp6 [41]
     obtain⟨m,hm⟩:∃m,isH [41] q6=m:=⟨_,rfl⟩
     rw[hm] at hmu hx
     cases m with
     |false=>
      simp only[Bool.false_eq_true,if_false] at hmu hx
      have Hmu:=Ao hmu
      have HX3:=Ao hx
      have HC:=Ao hch
      have HP6:=Ao hp6
      clear hp6 hch6 hch hx hmu hm hq6 HX2 HCH
      go_wp2_with fail
      refine Hmu.out.mono ?_
      rintro e V7 ⟨rfl,hb7⟩
      have HE:Hid (Bw w B X b (.slice (some ⟨g,0,none⟩) ts.length c) ts d vt nds (A2 7 d (⟨⟨tk,tt,tv1,tv2,tv3⟩,tl,tc⟩::q)) (Eh 4) V7):=Ao (by
       rw[HX3.out]
       exact⟨rfl,(HP6.out.below hb7).err,HC.out.err (A4.of_below hb7 _)⟩)
      clear hb7 Hmu
      exact zzl
     |true=>
      simp only[if_true] at hmu hx
      have Hmu:=Ao hmu
      have HX3:=Ao hx
      have HC:=Ao hch
      clear hp6 hch6 hch hx hmu hm hq6 HX2 HCH
      go_wp2_with fail
      refine Hmu.out.mono ?_
      rintro e V7 ⟨rfl,hr7,ho7⟩
      obtain⟨e0,e1,e2,e3,ef⟩:=Du hr7.blk
      have ef2:=ef 2
      have hr8:=hr7.deep (d':=d) rA
      have ho8:=Aw V7 b 2 (.int .i64 (d:Int))
      obtain⟨V8,hV8⟩:∃V8,V7.setCell ⟨b,2,none⟩ (.int .i64 (d:Int))=V8:=⟨_,rfl⟩
      rw[hV8] at hr8 ho8
      have HE:Hid (Bw w B X b (.slice (some ⟨g,0,none⟩) ts.length c) ts d vt nds (A2 7 d (⟨⟨tk,tt,tv1,tv2,tv3⟩,tl,tc⟩::q)) (.returned (.int .i64 ((nds.length+bx.size - 1:Nat):Int))) V8):=Ao (by
       rw[HX3.out]
       exact⟨rfl,v6,hr8,HC.out.trans (Rch.of_only v6 (ho7.trans ho8))⟩)
      clear hr7 ho7 hr8 ho8 Hmu HC HX3 ef
      exact zzc
  ·have HO:Hid (isH [40] (⟨⟨tk,tt,tv1,tv2,tv3⟩,tl,tc⟩::q)=false):=Ao (by simpa using ho)
   rw[HO.out]
   have hmu:=J5 hr3 [40]
   rw[HO.out] at hmu
   simp only[Bool.false_eq_true,if_false] at hmu
   have Hmu:=Ao hmu
   have HR3:=Ao hr3
   clear hr3 hmu ho
   go_wp2_with fail
   refine Hmu.out.mono ?_
   rintro e V4 ⟨rfl,hb4⟩
   have HE:Hid (Bw w B X b (.slice (some ⟨g,0,none⟩) ts.length c) ts d vt nds (A2 7 d (⟨⟨tk,tt,tv1,tv2,tv3⟩,tl,tc⟩::q)) (Eh 4) V4):=Ao (by
    rw[HX.out]
    unfold Bv
    rw[HO.out]
    exact⟨rfl,(HR3.out.below hb4).err,(Rch.of_below vt HB3.out).err (A4.of_below hb4 _)⟩)
   clear hb4 Hmu HX HR3
   exact zzl
open Go Go.RowKit
theorem Bw.back {w W:World}{B b d:Nat}{X:List Nat}{vl vt:Value}{ts:List Tkn}{nds:List Nd}{x:ExR}{e:Ending}{w':World}(hb:Below w.heap.size w W)(h:Bw W B X b vl ts d vt nds x e w'):Bw w B X b vl ts d vt nds x e w':=by
 cases x with
 |error p=>exact⟨h.1,h.2.1,(Rch.of_below vt hb).err h.2.2⟩
 |ok p=>
  obtain⟨h1,v',h2,h3⟩:=h
  exact⟨h1,v',h2,(Rch.of_below vt hb).trans h3⟩
theorem qI {k B b:Nat}{X:List Nat}{vl:Value}{ts:List Tkn}(ih:Mo k B b vl ts){d:Nat}{r:List Tkn}{w:World}{vt:Value}{nds:List Nd}(hk:Bq (.lvl 0) r<=k)(h:Ct w B X b vl ts r d vt nds)(hB:B<=w.heap.size):
 Calls Tryz.prog 148 #[.pointer (some ⟨b,0,none⟩)] w (Bw w B X b vl ts d vt nds (A2 0 d r)):=by
 have hb:Below w.heap.size w (w.alloc (.cells #[.string ⟨#[111,114]⟩,.int .u8 4] 228)):=(Below.refl _ w).alloc (Ak _) _
 have hr:Calls Tryz.prog 201 #[.pointer (some ⟨b,0,none⟩),.int .i64 0,.bool true,.slice (some ⟨w.heap.size,0,none⟩) 1 1] (w.alloc (.cells #[.string ⟨#[111,114]⟩,.int .u8 4] 228)) _:=
  (P3 ih (n:=0) rB rB hk (h.below hb) (Al hB hb.size) (l:=[([111,114],4)]) (g:=w.heap.size) (m:=1) rfl rfl rB (Au w _) true (by show _=_;rfl)).mono fun e w' q=>Bw.back hb q
 have HR:=Ao hr
 clear hr hb h hk ih
 go_enter Tryz.func148,Tryz.ntmps148
 go_wp2_with fail
 refine HR.out.mono ?_
 rintro e V hp
 cases hq:A2 0 d r with
 |error p=>
  exact zzs
 |ok p=>
  exact zzt
theorem nI {k B b:Nat}{X:List Nat}{vl:Value}{ts:List Tkn}(ih:Mo k B b vl ts){d:Nat}{r:List Tkn}{w:World}{vt:Value}{nds:List Nd}(hk:Bq (.lvl 1) r<=k)(h:Ct w B X b vl ts r d vt nds)(hB:B<=w.heap.size):
 Calls Tryz.prog 149 #[.pointer (some ⟨b,0,none⟩)] w (Bw w B X b vl ts d vt nds (A2 1 d r)):=by
 have hb:Below w.heap.size w (w.alloc (.cells #[.string ⟨#[97,110,100]⟩,.int .u8 5] 228)):=(Below.refl _ w).alloc (Ak _) _
 have hr:Calls Tryz.prog 201 #[.pointer (some ⟨b,0,none⟩),.int .i64 1,.bool true,.slice (some ⟨w.heap.size,0,none⟩) 1 1] (w.alloc (.cells #[.string ⟨#[97,110,100]⟩,.int .u8 5] 228)) _:=
  (P3 ih (n:=1) rB rB hk (h.below hb) (Al hB hb.size) (l:=[([97,110,100],5)]) (g:=w.heap.size) (m:=1) rfl rfl rB (Au w _) true (by show _=_;rfl)).mono fun e w' q=>Bw.back hb q
 have HR:=Ao hr
 clear hr hb h hk ih
 go_enter Tryz.func149,Tryz.ntmps149
 go_wp2_with fail
 refine HR.out.mono ?_
 rintro e V hp
 cases hq:A2 1 d r with
 |error p=>
  exact zzs
 |ok p=>
  exact zzt
theorem oS {k B b:Nat}{X:List Nat}{vl:Value}{ts:List Tkn}(ih:Mo k B b vl ts){d:Nat}{r:List Tkn}{w:World}{vt:Value}{nds:List Nd}(hk:Bq (.lvl 3) r<=k)(h:Ct w B X b vl ts r d vt nds)(hB:B<=w.heap.size):
 Calls Tryz.prog 151 #[.pointer (some ⟨b,0,none⟩)] w (Bw w B X b vl ts d vt nds (A2 3 d r)):=by
 have hb:Below w.heap.size w (w.alloc (.cells #[.string ⟨#[61]⟩,.int .u8 7,.string ⟨#[60,62]⟩,.int .u8 8,.string ⟨#[60]⟩,.int .u8 9,.string ⟨#[60,61]⟩,.int .u8 10,.string ⟨#[62]⟩,.int .u8 11,.string ⟨#[62,61]⟩,.int .u8 12] 228)):=(Below.refl _ w).alloc (Ak _) _
 have hr:Calls Tryz.prog 201 #[.pointer (some ⟨b,0,none⟩),.int .i64 3,.bool false,.slice (some ⟨w.heap.size,0,none⟩) 6 6] (w.alloc (.cells #[.string ⟨#[61]⟩,.int .u8 7,.string ⟨#[60,62]⟩,.int .u8 8,.string ⟨#[60]⟩,.int .u8 9,.string ⟨#[60,61]⟩,.int .u8 10,.string ⟨#[62]⟩,.int .u8 11,.string ⟨#[62,61]⟩,.int .u8 12] 228)) _:=
  (P3 ih (n:=3) rB rB hk (h.below hb) (Al hB hb.size) (l:=[([61],7),([60,62],8),([60],9),([60,61],10),([62],11),([62,61],12)]) (g:=w.heap.size) (m:=6) rfl rfl rB (Au w _) false (by show _=_;rfl)).mono fun e w' q=>Bw.back hb q
 have HR:=Ao hr
 clear hr hb h hk ih
 go_enter Tryz.func151,Tryz.ntmps151
 go_wp2_with fail
 refine HR.out.mono ?_
 rintro e V hp
 cases hq:A2 3 d r with
 |error p=>
  exact zzs
 |ok p=>
  exact zzt
theorem oF {k B b:Nat}{X:List Nat}{vl:Value}{ts:List Tkn}(ih:Mo k B b vl ts){d:Nat}{r:List Tkn}{w:World}{vt:Value}{nds:List Nd}(hk:Bq (.lvl 4) r<=k)(h:Ct w B X b vl ts r d vt nds)(hB:B<=w.heap.size):
 Calls Tryz.prog 152 #[.pointer (some ⟨b,0,none⟩)] w (Bw w B X b vl ts d vt nds (A2 4 d r)):=by
 have hb:Below w.heap.size w (w.alloc (.cells #[.string ⟨#[43]⟩,.int .u8 13,.string ⟨#[45]⟩,.int .u8 14] 228)):=(Below.refl _ w).alloc (Ak _) _
 have hr:Calls Tryz.prog 201 #[.pointer (some ⟨b,0,none⟩),.int .i64 4,.bool true,.slice (some ⟨w.heap.size,0,none⟩) 2 2] (w.alloc (.cells #[.string ⟨#[43]⟩,.int .u8 13,.string ⟨#[45]⟩,.int .u8 14] 228)) _:=
  (P3 ih (n:=4) rB rB hk (h.below hb) (Al hB hb.size) (l:=[([43],13),([45],14)]) (g:=w.heap.size) (m:=2) rfl rfl rB (Au w _) true (by show _=_;rfl)).mono fun e w' q=>Bw.back hb q
 have HR:=Ao hr
 clear hr hb h hk ih
 go_enter Tryz.func152,Tryz.ntmps152
 go_wp2_with fail
 refine HR.out.mono ?_
 rintro e V hp
 cases hq:A2 4 d r with
 |error p=>
  exact zzs
 |ok p=>
  exact zzt
theorem jF {k B b:Nat}{X:List Nat}{vl:Value}{ts:List Tkn}(ih:Mo k B b vl ts){d:Nat}{r:List Tkn}{w:World}{vt:Value}{nds:List Nd}(hk:Bq (.lvl 5) r<=k)(h:Ct w B X b vl ts r d vt nds)(hB:B<=w.heap.size):
 Calls Tryz.prog 153 #[.pointer (some ⟨b,0,none⟩)] w (Bw w B X b vl ts d vt nds (A2 5 d r)):=by
 have hb:Below w.heap.size w (w.alloc (.cells #[.string ⟨#[42]⟩,.int .u8 15,.string ⟨#[47]⟩,.int .u8 16] 228)):=(Below.refl _ w).alloc (Ak _) _
 have hr:Calls Tryz.prog 201 #[.pointer (some ⟨b,0,none⟩),.int .i64 5,.bool true,.slice (some ⟨w.heap.size,0,none⟩) 2 2] (w.alloc (.cells #[.string ⟨#[42]⟩,.int .u8 15,.string ⟨#[47]⟩,.int .u8 16] 228)) _:=
  (P3 ih (n:=5) rB rB hk (h.below hb) (Al hB hb.size) (l:=[([42],15),([47],16)]) (g:=w.heap.size) (m:=2) rfl rfl rB (Au w _) true (by show _=_;rfl)).mono fun e w' q=>Bw.back hb q
 have HR:=Ao hr
 clear hr hb h hk ih
 go_enter Tryz.func153,Tryz.ntmps153
 go_wp2_with fail
 refine HR.out.mono ?_
 rintro e V hp
 cases hq:A2 5 d r with
 |error p=>
  exact zzs
 |ok p=>
  exact zzt
theorem oW {k B b:Nat}{X:List Nat}{vl:Value}{ts:List Tkn}(ih:Mo k B b vl ts){d:Nat}{r:List Tkn}{w:World}{vt:Value}{nds:List Nd}(hk:Bq (.lvl 2) r<=k)(h:Ct w B X b vl ts r d vt nds)(hB:B<=w.heap.size):
 Calls Tryz.prog 150 #[.pointer (some ⟨b,0,none⟩)] w (Bw w B X b vl ts d vt nds (A2 2 d r)):=by
 have hr:Calls Tryz.prog 202 #[.pointer (some ⟨b,0,none⟩),.int .i64 2,.string ⟨#[110,111,116]⟩,.int .u8 6] w _:=Vj ih (n:=2) rB hk h hB [110,111,116] rfl 6 rfl
 have HR:=Ao hr
 clear hr h hk ih
 go_enter Tryz.func150,Tryz.ntmps150
 go_wp2_with fail
 refine HR.out.mono ?_
 rintro e V hp
 cases hq:A2 2 d r with
 |error p=>
  exact zzs
 |ok p=>
  exact zzt
theorem gL {k B b:Nat}{X:List Nat}{vl:Value}{ts:List Tkn}(ih:Mo k B b vl ts){d:Nat}{r:List Tkn}{w:World}{vt:Value}{nds:List Nd}(hk:Bq (.lvl 6) r<=k)(h:Ct w B X b vl ts r d vt nds)(hB:B<=w.heap.size):
 Calls Tryz.prog 154 #[.pointer (some ⟨b,0,none⟩)] w (Bw w B X b vl ts d vt nds (A2 6 d r)):=by
 have hr:Calls Tryz.prog 202 #[.pointer (some ⟨b,0,none⟩),.int .i64 6,.string ⟨#[45]⟩,.int .u8 17] w _:=Vj ih (n:=6) rB hk h hB [45] rfl 17 rfl
 have HR:=Ao hr
 clear hr h hk ih
 go_enter Tryz.func154,Tryz.ntmps154
 go_wp2_with fail
 refine HR.out.mono ?_
 rintro e V hp
 cases hq:A2 6 d r with
 |error p=>
  exact zzs
 |ok p=>
  exact zzt
theorem bL (x0 x1 x2 x3 x4 x5 x6 x7:Value)(w:World):(Instr.index 190 (.agg #[x0,x1,x2,x3,x4,x5,x6,x7]) (.int .i64 0)).run Tryz.prog w= .ok x0 w:=by kernel_rfl
theorem aC (x0 x1 x2 x3 x4 x5 x6 x7:Value)(w:World):(Instr.index 190 (.agg #[x0,x1,x2,x3,x4,x5,x6,x7]) (.int .i64 1)).run Tryz.prog w= .ok x1 w:=by kernel_rfl
theorem bK (x0 x1 x2 x3 x4 x5 x6 x7:Value)(w:World):(Instr.index 190 (.agg #[x0,x1,x2,x3,x4,x5,x6,x7]) (.int .i64 2)).run Tryz.prog w= .ok x2 w:=by kernel_rfl
theorem Zy (x0 x1 x2 x3 x4 x5 x6 x7:Value)(w:World):(Instr.index 190 (.agg #[x0,x1,x2,x3,x4,x5,x6,x7]) (.int .i64 3)).run Tryz.prog w= .ok x3 w:=by kernel_rfl
theorem cH (x0 x1 x2 x3 x4 x5 x6 x7:Value)(w:World):(Instr.index 190 (.agg #[x0,x1,x2,x3,x4,x5,x6,x7]) (.int .i64 4)).run Tryz.prog w= .ok x4 w:=by kernel_rfl
theorem Z2 (x0 x1 x2 x3 x4 x5 x6 x7:Value)(w:World):(Instr.index 190 (.agg #[x0,x1,x2,x3,x4,x5,x6,x7]) (.int .i64 5)).run Tryz.prog w= .ok x5 w:=by kernel_rfl
theorem bR (x0 x1 x2 x3 x4 x5 x6 x7:Value)(w:World):(Instr.index 190 (.agg #[x0,x1,x2,x3,x4,x5,x6,x7]) (.int .i64 6)).run Tryz.prog w= .ok x6 w:=by kernel_rfl
theorem aU (x0 x1 x2 x3 x4 x5 x6 x7:Value)(w:World):(Instr.index 190 (.agg #[x0,x1,x2,x3,x4,x5,x6,x7]) (.int .i64 7)).run Tryz.prog w= .ok x7 w:=by kernel_rfl
theorem eY (B b:Nat)(vl:Value)(ts:List Tkn):∀k,Mo k B b vl ts:=by
 intro k
 induction k with
 |zero=>intro X n d r w vt nds _ h;exact absurd h (Nat.not_lt_zero _)
 |succ k ih=>
  intro X n d r w vt nds h7 hk h hB
  have hmf:∀(fn:Fn) (first cap:Array Value) (w:World),(Instr.makeFunc fn first cap).run Tryz.prog w= .ok (.func fn first cap) w:=fun _ _ _ _=>rfl
  have hk':Bq (.lvl n) r<=k:=by omega
  obtain rfl|rfl|rfl|rfl|rfl|rfl|rfl|rfl:n=0\/n=1\/n=2\/n=3\/n=4\/n=5\/n=6\/n=7:=by omega
  ·have hix:=fun W=>bL (.func (.func 148) #[.pointer (some ⟨b,0,none⟩)] #[]) (.func (.func 149) #[.pointer (some ⟨b,0,none⟩)] #[]) (.func (.func 150) #[.pointer (some ⟨b,0,none⟩)] #[]) (.func (.func 151) #[.pointer (some ⟨b,0,none⟩)] #[]) (.func (.func 152) #[.pointer (some ⟨b,0,none⟩)] #[]) (.func (.func 153) #[.pointer (some ⟨b,0,none⟩)] #[]) (.func (.func 154) #[.pointer (some ⟨b,0,none⟩)] #[]) (.func (.func 155) #[.pointer (some ⟨b,0,none⟩)] #[]) W
   have HR:=Ao (qI ih hk' h hB)
   clear h hk hk' ih h7
   go_enter Tryz.func89,Tryz.ntmps89
   go_wp2_with fail
   refine HR.out.mono ?_
   rintro e V hp
   cases hq:A2 0 d r with
   |error p=>
    exact zzs
   |ok p=>
    exact zzt
  ·have hix:=fun W=>aC (.func (.func 148) #[.pointer (some ⟨b,0,none⟩)] #[]) (.func (.func 149) #[.pointer (some ⟨b,0,none⟩)] #[]) (.func (.func 150) #[.pointer (some ⟨b,0,none⟩)] #[]) (.func (.func 151) #[.pointer (some ⟨b,0,none⟩)] #[]) (.func (.func 152) #[.pointer (some ⟨b,0,none⟩)] #[]) (.func (.func 153) #[.pointer (some ⟨b,0,none⟩)] #[]) (.func (.func 154) #[.pointer (some ⟨b,0,none⟩)] #[]) (.func (.func 155) #[.pointer (some ⟨b,0,none⟩)] #[]) W
   have HR:=Ao (nI ih hk' h hB)
   clear h hk hk' ih h7
   go_enter Tryz.func89,Tryz.ntmps89
   go_wp2_with fail
   refine HR.out.mono ?_
   rintro e V hp
   cases hq:A2 1 d r with
   |error p=>
    exact zzs
   |ok p=>
    exact zzt
  ·have hix:=fun W=>bK (.func (.func 148) #[.pointer (some ⟨b,0,none⟩)] #[]) (.func (.func 149) #[.pointer (some ⟨b,0,none⟩)] #[]) (.func (.func 150) #[.pointer (some ⟨b,0,none⟩)] #[]) (.func (.func 151) #[.pointer (some ⟨b,0,none⟩)] #[]) (.func (.func 152) #[.pointer (some ⟨b,0,none⟩)] #[]) (.func (.func 153) #[.pointer (some ⟨b,0,none⟩)] #[]) (.func (.func 154) #[.pointer (some ⟨b,0,none⟩)] #[]) (.func (.func 155) #[.pointer (some ⟨b,0,none⟩)] #[]) W
   have HR:=Ao (oW ih hk' h hB)
   clear h hk hk' ih h7
   go_enter Tryz.func89,Tryz.ntmps89
   go_wp2_with fail
   refine HR.out.mono ?_
   rintro e V hp
   cases hq:A2 2 d r with
   |error p=>
    exact zzs
   |ok p=>
    exact zzt
  ·have hix:=fun W=>Zy (.func (.func 148) #[.pointer (some ⟨b,0,none⟩)] #[]) (.func (.func 149) #[.pointer (some ⟨b,0,none⟩)] #[]) (.func (.func 150) #[.pointer (some ⟨b,0,none⟩)] #[]) (.func (.func 151) #[.pointer (some ⟨b,0,none⟩)] #[]) (.func (.func 152) #[.pointer (some ⟨b,0,none⟩)] #[]) (.func (.func 153) #[.pointer (some ⟨b,0,none⟩)] #[]) (.func (.func 154) #[.pointer (some ⟨b,0,none⟩)] #[]) (.func (.func 155) #[.pointer (some ⟨b,0,none⟩)] #[]) W
   have HR:=Ao (oS ih hk' h hB)
   clear h hk hk' ih h7
   go_enter Tryz.func89,Tryz.ntmps89
   go_wp2_with fail
   refine HR.out.mono ?_
   rintro e V hp
   cases hq:A2 3 d r with
   |error p=>
    exact zzs
   |ok p=>
    exact zzt
  ·have hix:=fun W=>cH (.func (.func 148) #[.pointer (some ⟨b,0,none⟩)] #[]) (.func (.func 149) #[.pointer (some ⟨b,0,none⟩)] #[]) (.func (.func 150) #[.pointer (some ⟨b,0,none⟩)] #[]) (.func (.func 151) #[.pointer (some ⟨b,0,none⟩)] #[]) (.func (.func 152) #[.pointer (some ⟨b,0,none⟩)] #[]) (.func (.func 153) #[.pointer (some ⟨b,0,none⟩)] #[]) (.func (.func 154) #[.pointer (some ⟨b,0,none⟩)] #[]) (.func (.func 155) #[.pointer (some ⟨b,0,none⟩)] #[]) W
   have HR:=Ao (oF ih hk' h hB)
   clear h hk hk' ih h7
   go_enter Tryz.func89,Tryz.ntmps89
   go_wp2_with fail
   refine HR.out.mono ?_
   rintro e V hp
   cases hq:A2 4 d r with
   |error p=>
    exact zzs
   |ok p=>
    exact zzt
  ·have hix:=fun W=>Z2 (.func (.func 148) #[.pointer (some ⟨b,0,none⟩)] #[]) (.func (.func 149) #[.pointer (some ⟨b,0,none⟩)] #[]) (.func (.func 150) #[.pointer (some ⟨b,0,none⟩)] #[]) (.func (.func 151) #[.pointer (some ⟨b,0,none⟩)] #[]) (.func (.func 152) #[.pointer (some ⟨b,0,none⟩)] #[]) (.func (.func 153) #[.pointer (some ⟨b,0,none⟩)] #[]) (.func (.func 154) #[.pointer (some ⟨b,0,none⟩)] #[]) (.func (.func 155) #[.pointer (some ⟨b,0,none⟩)] #[]) W
   have HR:=Ao (jF ih hk' h hB)
   clear h hk hk' ih h7
   go_enter Tryz.func89,Tryz.ntmps89
   go_wp2_with fail
   refine HR.out.mono ?_
   rintro e V hp
   cases hq:A2 5 d r with
   |error p=>
    exact zzs
   |ok p=>
    exact zzt
  ·have hix:=fun W=>bR (.func (.func 148) #[.pointer (some ⟨b,0,none⟩)] #[]) (.func (.func 149) #[.pointer (some ⟨b,0,none⟩)] #[]) (.func (.func 150) #[.pointer (some ⟨b,0,none⟩)] #[]) (.func (.func 151) #[.pointer (some ⟨b,0,none⟩)] #[]) (.func (.func 152) #[.pointer (some ⟨b,0,none⟩)] #[]) (.func (.func 153) #[.pointer (some ⟨b,0,none⟩)] #[]) (.func (.func 154) #[.pointer (some ⟨b,0,none⟩)] #[]) (.func (.func 155) #[.pointer (some ⟨b,0,none⟩)] #[]) W
   have HR:=Ao (gL ih hk' h hB)
   clear h hk hk' ih h7
   go_enter Tryz.func89,Tryz.ntmps89
   go_wp2_with fail
   refine HR.out.mono ?_
   rintro e V hp
   cases hq:A2 6 d r with
   |error p=>
    exact zzs
   |ok p=>
    exact zzt
  ·have hix:=fun W=>aU (.func (.func 148) #[.pointer (some ⟨b,0,none⟩)] #[]) (.func (.func 149) #[.pointer (some ⟨b,0,none⟩)] #[]) (.func (.func 150) #[.pointer (some ⟨b,0,none⟩)] #[]) (.func (.func 151) #[.pointer (some ⟨b,0,none⟩)] #[]) (.func (.func 152) #[.pointer (some ⟨b,0,none⟩)] #[]) (.func (.func 153) #[.pointer (some ⟨b,0,none⟩)] #[]) (.func (.func 154) #[.pointer (some ⟨b,0,none⟩)] #[]) (.func (.func 155) #[.pointer (some ⟨b,0,none⟩)] #[]) W
   have HR:=Ao (jH ih hk' h hB)
   clear h hk hk' ih h7
   go_enter Tryz.func89,Tryz.ntmps89
   go_wp2_with fail
   refine HR.out.mono ?_
   rintro e V hp
   cases hq:A2 7 d r with
   |error p=>
    exact zzs
   |ok p=>
    exact zzt
end Go.Proofs.YtgfakdobajgnfaaGreatDoor
