import Derived.Test.YtmpfilddeglgbaaGreatDoorQj31
import Derived.Test.YtmpfilddeglgbaaGreatDoorQj13
set_option maxRecDepth 100000
set_option maxHeartbeats 16000000
namespace Go.Proofs.YtmpfilddeglgbaaGreatDoor
open Go Go.RowKit Go.Lib
theorem Kf {w W3:World}{B b d p:Nat}{X:List Nat}{vl vt:Value}{ts q:List Tkn}{t:Tkn}{nds:List Nd}(hB:B<=w.heap.size)(hb:Below w.heap.size w W3)(h:Cv w B X b vl ts (t::q) d vt nds)(hd:Hd){cs:Array Value}(hn:W3.heap[p]? =some (.cells cs 38 (0,0)))(hp:w.heap.size<=p):
 (W3.setCell ⟨b,1,none⟩ (.int .i64 (((ts.length - (q.length+1):Nat):Int)+1))).heap[p]? =some (.cells cs 38 (0,0))/\
 Calls Tryz.prog 128 #[.pointer (some ⟨b,0,none⟩),hdK hd (.slice none 0 0)] (W3.setCell ⟨b,1,none⟩ (.int .i64 (((ts.length - (q.length+1):Nat):Int)+1))) fun e w'=>e= .returned (.int .i64 (nds.length:Int))/\∃vt',Cv w' B X b vl ts q d vt' (nds++[⟨hd,[]⟩])/\Rch b w vt w' vt':=by
 have h3:=h.below hb;have ho:=A3 W3 b 1 (.int .i64 (((ts.length - (q.length+1):Nat):Int)+1));have h4:=h3.step;have hbw:=Ay h.blk;have hfew:=h.few;simp only[Aa] at hfew;refine⟨ho.cells_of hn tL,?_⟩;have hz:=Al hB (Al hb.size ho.size);refine(Mg h4 tE hz hd [] none 0 (World.ownsRow_nil _ _ _ _) (fun g e=>by cases e)).mono ?_;rintro e w' ⟨rfl,v,h5,h6⟩;exact⟨rfl,v,h5,((Rch.of_below vt hb).trans (Rch.of_only vt ho)).trans h6⟩
theorem fK {s:List UInt8}{o:Int}{l m:Nat}(h:De s=some (o,l,m)):o≠0/\1<=m/\m<=8:=by
 unfold De at h
 repeat' split at h
 all_goals first|(injection h with h;injection h with h1 h;injection h with h2 h3;subst h1 h2 h3;decide)|cases h
theorem fA {k B b:Nat}{X:List Nat}{vl:Value}{ts:List Tkn}(ih:Xw k B b vl ts){d:Nat}{r:List Tkn}{w:World}{vt:Value}{nds:List Nd}(hk:B2 (.lvl 7) r<=k)(h:Cv w B X b vl ts r d vt nds)(hB:B<=w.heap.size):
 Calls Tryz.prog 124 #[.pointer (some ⟨b,0,none⟩)] w (B5 w B X b vl ts r d vt nds (A9 7 d r)):=by
 obtain⟨c0,c1,c2,c3,c4,c5,cf⟩:=Bd h.blk;have hl:=h.suf.len;have hbig:=h.big;have hbw:=Ay h.blk;cases r with
 |nil=>
  obtain⟨va,vc,rfl⟩:=h.toks.form;have i0:(ts.length:Int)<=(((ts.length - ([]:List Tkn).length:Nat):Int)):=by simp
  have i1:decide ((ts.length:Int)<=(((ts.length - ([]:List Tkn).length:Nat):Int)))=true:=by simp
  have i3:decide (ts.length<=ts.length - ([]:List Tkn).length)=true:=by simp
  have hnq:=fun nq=>Ax (Jg (h.below (Bg (Aq w.heap.size w) nq)) 4 tG)
  clear h hl cf ih;go_enter Tryz.func124,Tryz.ntmps124;go_wp2_with fail;go_quiet (fail);have HS:=hnq nq;clear hnq;go_wp2_with fail;refine HS.out.mono ?_;rintro e V ⟨rfl,hx,ho,-⟩;have HF:=Ax (show B5 w B X b (.slice va ts.length vc) ts [] d vt nds (A9 7 d []) (.returned (.int .i64 (-1))) V from⟨-1,vt,rfl,(Rch.of_below vt (Bg (Aq w.heap.size w) nq)).trans (Rch.of_only vt ho),by rw[Bs];exact hx⟩);clear hx ho HS;exact zzo
 |cons t q=>
  obtain⟨g,c,rfl,hg,hlt,t0,t1,t2,t3,t4,t5,t6⟩:=h.head;obtain⟨n,hn⟩:∃n,ts.length - (t::q).length=n:=⟨_,rfl⟩;rw[hn] at c1 hlt t0 t1 t2 t3 t4 t5 t6;have i0:(n:Int)<(ts.length:Int):=by omega
  have i1:decide ((ts.length:Int)<=(n:Int))=false:=by simp;omega
  have i3:decide (ts.length<=n)=false:=by simp;omega
  have i2:(0:Int)<=(n:Int):=by omega
  have H:=Ax h;have Hn:=Ax hn;clear h hl hn cf;go_enter Tryz.func124,Tryz.ntmps124;go_wp2_with fail;go_quiet (fail);go_wp2_with fail;obtain⟨V,hV⟩:∃V,w.drewN nq=V:=⟨_,rfl⟩;have hbV:Below w.heap.size w V:=by rw[←hV];exact Bg (Aq _ w) nq
  have hr:=H.out.below hbV;rw[hV];clear c0 c1 c2 c3 c4 c5 t0 t1 t2 t3 t4 t5 t6 hV;obtain⟨c0,c1,c2,c3,c4,c5,cf⟩:=Bd hr.blk;obtain⟨g',c',e,hg',_,t0,t1,t2,t3,t4,t5,t6⟩:=hr.head;injection e with e1 _ e3;injection e1 with e1;injection e1 with e1;subst e1;subst e3;rw[Hn.out] at c1 t0 t1 t2 t3 t4 t5 t6;have hbw:b<V.drew.heap.size:=Ay hr.blk;have hgw:g<V.drew.heap.size:=hg';have hbw2:b<V.heap.size:=Ay hr.blk;have hgw2:g<V.heap.size:=hg';obtain⟨⟨tk,tt,tv1,tv2,tv3⟩,tl,tc⟩:=t;simp only at t0 t1 t2 t3 t4 t5 t6;have HB:=Ax hbV;clear hr hbV cf hg hg';go_region;obtain⟨W1,hW1⟩:∃W1,(V.alloc (.cells #[.int .u8 tk,.string ⟨tt.toArray⟩,.int .u8 tv1,.int .i64 tv2,.string ⟨tv3.toArray⟩,.int .i64 tl,.int .i64 tc] 63)).drew=W1:=⟨_,rfl⟩;have hb1:Below V.heap.size V W1:=by rw[←hW1];exact((Aq _ V).alloc (Ak _) _).drew
  have hz1:W1.heap.size=V.heap.size+1:=by rw[←hW1];show(V.alloc _).heap.size=_;simp
  have ht1:W1.heap[V.heap.size]? =some (.cells #[.int .u8 tk,.string ⟨tt.toArray⟩,.int .u8 tv1,.int .i64 tv2,.string ⟨tv3.toArray⟩,.int .i64 tl,.int .i64 tc] 63 (0,0)):=by rw[←hW1];exact A1 V _
  rw[hW1];have hB1:=HB.out.trans (hb1.mono HB.out.size);have hzV:w.heap.size<=V.heap.size:=HB.out.size;have HT1:=Ax ht1;have HB1:=Ax hB1;obtain⟨p,hp⟩:∃p,V.heap.size=p:=⟨_,rfl⟩;rw[hp] at HT1 hz1 hzV ⊢;clear hb1 ht1 hB1 hW1 c0 c1 c2 c3 c4 c5 t0 t1 t2 t3 t4 t5 t6 hbw hgw hbw2 hgw2 i0 i1 i2 i3 HB hp;obtain⟨u0,u1,u2,u3,u4,u5,u6⟩:=Gv HT1.out;have hn2:=A1 W1 (.cells #[.int .u8 1,.int .u8 tv1,.int .i64 tv2,.string ⟨tv3.toArray⟩,.string ⟨#[]⟩,.slice none 0 0,.int .i64 tl,.int .i64 tc] 38);have hb2:Below W1.heap.size W1 (W1.alloc (.cells #[.int .u8 1,.int .u8 tv1,.int .i64 tv2,.string ⟨tv3.toArray⟩,.string ⟨#[]⟩,.slice none 0 0,.int .i64 tl,.int .i64 tc] 38)):=(Aq _ W1).alloc (Ak _) _;obtain⟨W2,hW2⟩:∃W2,W1.alloc (.cells #[.int .u8 1,.int .u8 tv1,.int .i64 tv2,.string ⟨tv3.toArray⟩,.string ⟨#[]⟩,.slice none 0 0,.int .i64 tl,.int .i64 tc] 38)=W2:=⟨_,rfl⟩;rw[hW2] at hn2 hb2;rw[hz1] at hn2;have hz2:W2.heap.size=p+2:=by rw[←hW2];simp [hz1]
  have HW2:=Ax hW2;have HT2:=Ax ((hb2.block _ (Ay HT1.out)).trans HT1.out);have HB2:=Ax (HB1.out.trans (hb2.mono HB1.out.size));have HN2:=Ax hn2;clear hW2 hn2 hb2 HT1 HB1;go_upto_region 6 with fail
  rw[HW2.out]
  first|rw[hz1]|skip
  clear u0 u1 u2 u3 u4 u5 u6 hz1;obtain⟨f0,f1,f2,f3,f4,f5,f6⟩:=Gv HT2.out;by_cases hk4:tk=4\/tk=5\/tk=6
  ·rcases hk4 with rfl|rfl|rfl
   ·have HN:=Ax HN2.out;have HB3:=HB2;go_upto_region 34 with fail
    have HX:Hid (A9 7 d (⟨⟨4,tt,tv1,tv2,tv3⟩,tl,tc⟩::q)= .ok (.mk ⟨1,(tv1,tv2,tv3),[],tl,tc⟩ [],q)):=Ax vD;obtain⟨hn4,hnd⟩:=Kf hB HB3.out H.out ⟨1,(tv1,tv2,tv3),[],tl,tc⟩ HN.out tE;obtain⟨k0,k1,k2,k3,k4,k5,kf⟩:=Bd (H.out.below HB3.out).blk;have kf1:=kf 1;obtain⟨W4,hW4⟩:∃W4,W2.setCell ⟨b,1,none⟩ (.int .i64 (((ts.length - (q.length+1):Nat):Int)+1))=W4:=⟨_,rfl⟩;rw[hW4] at hn4 hnd;have HND:Hid (Calls Tryz.prog 128 #[.pointer (some ⟨b,0,none⟩),.agg #[.int .u8 1,.int .u8 tv1,.int .i64 tv2,.string ⟨tv3.toArray⟩,.string ⟨#[]⟩,.slice none 0 0,.int .i64 tl,.int .i64 tc]] W4 _):=Ax hnd;have HN4:=Ax hn4;have HW4:=Ax hW4;clear hn4 hnd hW4 kf HN;go_upto_region 35 with fail
    first|rw[HW4.out]|rw[Aa,HW4.out]
    clear k0 k1 k2 k3 k4 k5 kf1;obtain⟨m0,m1,m2,m3,m4,m5,m6,m7,_⟩:=Ft HN4.out;go_wp2_with fail;refine HND.out.mono ?_;rintro e V6 ⟨rfl,v6,hr6,hch6⟩;have HF:=Ax (show B5 w B X b (.slice (some ⟨g,0,none⟩) ts.length c) ts (⟨⟨4,tt,tv1,tv2,tv3⟩,tl,tc⟩::q) d vt nds (A9 7 d (⟨⟨4,tt,tv1,tv2,tv3⟩,tl,tc⟩::q)) (.returned (.int .i64 (nds.length:Int))) V6 from⟨_,v6,rfl,hch6,by rw[HX.out];exact⟨by simp [Ex.size,Bf],by simpa[Ex.flat,Bz,Ct] using hr6⟩⟩);clear hr6 hch6 HND HX m0 m1 m2 m3 m4 m5 m6 m7;exact zzo
   ·have HN:=Ax HN2.out;have HB3:=HB2;go_upto_region 34 with fail
    have HX:Hid (A9 7 d (⟨⟨5,tt,tv1,tv2,tv3⟩,tl,tc⟩::q)= .ok (.mk ⟨1,(tv1,tv2,tv3),[],tl,tc⟩ [],q)):=Ax vD;obtain⟨hn4,hnd⟩:=Kf hB HB3.out H.out ⟨1,(tv1,tv2,tv3),[],tl,tc⟩ HN.out tE;obtain⟨k0,k1,k2,k3,k4,k5,kf⟩:=Bd (H.out.below HB3.out).blk;have kf1:=kf 1;obtain⟨W4,hW4⟩:∃W4,W2.setCell ⟨b,1,none⟩ (.int .i64 (((ts.length - (q.length+1):Nat):Int)+1))=W4:=⟨_,rfl⟩;rw[hW4] at hn4 hnd;have HND:Hid (Calls Tryz.prog 128 #[.pointer (some ⟨b,0,none⟩),.agg #[.int .u8 1,.int .u8 tv1,.int .i64 tv2,.string ⟨tv3.toArray⟩,.string ⟨#[]⟩,.slice none 0 0,.int .i64 tl,.int .i64 tc]] W4 _):=Ax hnd;have HN4:=Ax hn4;have HW4:=Ax hW4;clear hn4 hnd hW4 kf HN;go_upto_region 35 with fail
    first|rw[HW4.out]|rw[Aa,HW4.out]
    clear k0 k1 k2 k3 k4 k5 kf1;obtain⟨m0,m1,m2,m3,m4,m5,m6,m7,_⟩:=Ft HN4.out;go_wp2_with fail;refine HND.out.mono ?_;rintro e V6 ⟨rfl,v6,hr6,hch6⟩;have HF:=Ax (show B5 w B X b (.slice (some ⟨g,0,none⟩) ts.length c) ts (⟨⟨5,tt,tv1,tv2,tv3⟩,tl,tc⟩::q) d vt nds (A9 7 d (⟨⟨5,tt,tv1,tv2,tv3⟩,tl,tc⟩::q)) (.returned (.int .i64 (nds.length:Int))) V6 from⟨_,v6,rfl,hch6,by rw[HX.out];exact⟨by simp [Ex.size,Bf],by simpa[Ex.flat,Bz,Ct] using hr6⟩⟩);clear hr6 hch6 HND HX m0 m1 m2 m3 m4 m5 m6 m7;exact zzo
   have HN:=Ax HN2.out;have HB3:=HB2;go_upto_region 34 with fail
   have HX:Hid (A9 7 d (⟨⟨6,tt,tv1,tv2,tv3⟩,tl,tc⟩::q)= .ok (.mk ⟨1,(tv1,tv2,tv3),[],tl,tc⟩ [],q)):=Ax vD;obtain⟨hn4,hnd⟩:=Kf hB HB3.out H.out ⟨1,(tv1,tv2,tv3),[],tl,tc⟩ HN.out tE;obtain⟨k0,k1,k2,k3,k4,k5,kf⟩:=Bd (H.out.below HB3.out).blk;have kf1:=kf 1;obtain⟨W4,hW4⟩:∃W4,W2.setCell ⟨b,1,none⟩ (.int .i64 (((ts.length - (q.length+1):Nat):Int)+1))=W4:=⟨_,rfl⟩;rw[hW4] at hn4 hnd;have HND:Hid (Calls Tryz.prog 128 #[.pointer (some ⟨b,0,none⟩),.agg #[.int .u8 1,.int .u8 tv1,.int .i64 tv2,.string ⟨tv3.toArray⟩,.string ⟨#[]⟩,.slice none 0 0,.int .i64 tl,.int .i64 tc]] W4 _):=Ax hnd;have HN4:=Ax hn4;have HW4:=Ax hW4;clear hn4 hnd hW4 kf HN;go_upto_region 35 with fail
   first|rw[HW4.out]|rw[Aa,HW4.out]
   clear k0 k1 k2 k3 k4 k5 kf1;obtain⟨m0,m1,m2,m3,m4,m5,m6,m7,_⟩:=Ft HN4.out;go_wp2_with fail;refine HND.out.mono ?_;rintro e V6 ⟨rfl,v6,hr6,hch6⟩;have HF:=Ax (show B5 w B X b (.slice (some ⟨g,0,none⟩) ts.length c) ts (⟨⟨6,tt,tv1,tv2,tv3⟩,tl,tc⟩::q) d vt nds (A9 7 d (⟨⟨6,tt,tv1,tv2,tv3⟩,tl,tc⟩::q)) (.returned (.int .i64 (nds.length:Int))) V6 from⟨_,v6,rfl,hch6,by rw[HX.out];exact⟨by simp [Ex.size,Bf],by simpa[Ex.flat,Bz,Ct] using hr6⟩⟩);clear hr6 hch6 HND HX m0 m1 m2 m3 m4 m5 m6 m7;exact zzo
  by_cases hk2:tk=2
  ·subst hk2;clear hk4;obtain⟨n0,n1,n2,n3,n4,n5,n6,n7,nf⟩:=Ft HN2.out;have nf0:=nf 0;have nf1:=nf 1;have nf2:=nf 2;have nf3:=nf 3;have nf4:=nf 4;have nf5:=nf 5;have nf6:=nf 6;have nf7:=nf 7;clear nf;obtain⟨W3,hW3⟩:∃W3,((((((((W2.setCell ⟨p+1,0,none⟩ (.int .u8 2)).setCell ⟨p+1,1,none⟩ (.int .u8 0)).setCell ⟨p+1,2,none⟩ (.int .i64 0)).setCell ⟨p+1,3,none⟩ (.string ⟨#[]⟩)).setCell ⟨p+1,4,none⟩ (.string ⟨tt.toArray⟩)).setCell ⟨p+1,5,none⟩ (.slice none 0 0)).setCell ⟨p+1,6,none⟩ (.int .i64 tl)).setCell ⟨p+1,7,none⟩ (.int .i64 tc))=W3:=⟨_,rfl⟩;have hO3:Bc [p+1] W2 W3:=by rw[←hW3];exact((((((((A3 W2 _ _ _).setCell (.inl tH) _).setCell (.inl tH) _).setCell (.inl tH) _).setCell (.inl tH) _).setCell (.inl tH) _).setCell (.inl tH) _).setCell (.inl tH) _)
   have hn3:W3.heap[p+1]? =some (.cells #[.int .u8 2,.int .u8 0,.int .i64 0,.string ⟨#[]⟩,.string ⟨tt.toArray⟩,.slice none 0 0,.int .i64 tl,.int .i64 tc] 38 (0,0)):=by rw[←hW3];exact(A2 (A2 (A2 (A2 (A2 (A2 (A2 (A2 HN2.out))))))))
   have HN:=Ax hn3;have HW3:=Ax hW3;have HB3:=Ax (Bv HB2.out hO3 tL tE);clear hW3 hn3 hO3;go_upto_region 34 with fail
   rw[HW3.out];clear n0 n1 n2 n3 n4 n5 n6 n7 nf0 nf1 nf2 nf3 nf4 nf5 nf6 nf7;have HX:Hid (A9 7 d (⟨⟨2,tt,tv1,tv2,tv3⟩,tl,tc⟩::q)= .ok (.mk ⟨2,v0,tt,tl,tc⟩ [],q)):=Ax vD;obtain⟨hn4,hnd⟩:=Kf hB HB3.out H.out ⟨2,v0,tt,tl,tc⟩ HN.out tE;obtain⟨k0,k1,k2,k3,k4,k5,kf⟩:=Bd (H.out.below HB3.out).blk;have kf1:=kf 1;obtain⟨W4,hW4⟩:∃W4,W3.setCell ⟨b,1,none⟩ (.int .i64 (((ts.length - (q.length+1):Nat):Int)+1))=W4:=⟨_,rfl⟩;rw[hW4] at hn4 hnd;have HND:Hid (Calls Tryz.prog 128 #[.pointer (some ⟨b,0,none⟩),.agg #[.int .u8 2,.int .u8 0,.int .i64 0,.string ⟨#[]⟩,.string ⟨tt.toArray⟩,.slice none 0 0,.int .i64 tl,.int .i64 tc]] W4 _):=Ax hnd;have HN4:=Ax hn4;have HW4:=Ax hW4;clear hn4 hnd hW4 kf HN;go_upto_region 35 with fail
   first|rw[HW4.out]|rw[Aa,HW4.out]
   clear k0 k1 k2 k3 k4 k5 kf1;obtain⟨m0,m1,m2,m3,m4,m5,m6,m7,_⟩:=Ft HN4.out;go_wp2_with fail;refine HND.out.mono ?_;rintro e V6 ⟨rfl,v6,hr6,hch6⟩;have HF:=Ax (show B5 w B X b (.slice (some ⟨g,0,none⟩) ts.length c) ts (⟨⟨2,tt,tv1,tv2,tv3⟩,tl,tc⟩::q) d vt nds (A9 7 d (⟨⟨2,tt,tv1,tv2,tv3⟩,tl,tc⟩::q)) (.returned (.int .i64 (nds.length:Int))) V6 from⟨_,v6,rfl,hch6,by rw[HX.out];exact⟨by simp [Ex.size,Bf],by simpa[Ex.flat,Bz,Ct] using hr6⟩⟩);clear hr6 hch6 HND HX m0 m1 m2 m3 m4 m5 m6 m7;exact zzo
  by_cases hk3:tk=3
  ·subst hk3;clear hk4 hk2;obtain⟨n0,n1,n2,n3,n4,n5,n6,n7,nf⟩:=Ft HN2.out;have nf0:=nf 0;have nf1:=nf 1;have nf2:=nf 2;have nf3:=nf 3;have nf4:=nf 4;have nf5:=nf 5;have nf6:=nf 6;have nf7:=nf 7;clear nf;obtain⟨W3,hW3⟩:∃W3,((((((((W2.setCell ⟨p+1,0,none⟩ (.int .u8 3)).setCell ⟨p+1,1,none⟩ (.int .u8 0)).setCell ⟨p+1,2,none⟩ (.int .i64 0)).setCell ⟨p+1,3,none⟩ (.string ⟨#[]⟩)).setCell ⟨p+1,4,none⟩ (.string ⟨#[]⟩)).setCell ⟨p+1,5,none⟩ (.slice none 0 0)).setCell ⟨p+1,6,none⟩ (.int .i64 tl)).setCell ⟨p+1,7,none⟩ (.int .i64 tc))=W3:=⟨_,rfl⟩;have hO3:Bc [p+1] W2 W3:=by rw[←hW3];exact((((((((A3 W2 _ _ _).setCell (.inl tH) _).setCell (.inl tH) _).setCell (.inl tH) _).setCell (.inl tH) _).setCell (.inl tH) _).setCell (.inl tH) _).setCell (.inl tH) _)
   have hn3:W3.heap[p+1]? =some (.cells #[.int .u8 3,.int .u8 0,.int .i64 0,.string ⟨#[]⟩,.string ⟨#[]⟩,.slice none 0 0,.int .i64 tl,.int .i64 tc] 38 (0,0)):=by rw[←hW3];exact(A2 (A2 (A2 (A2 (A2 (A2 (A2 (A2 HN2.out))))))))
   have HN:=Ax hn3;have HW3:=Ax hW3;have HB3:=Ax (Bv HB2.out hO3 tL tE);clear hW3 hn3 hO3;go_upto_region 34 with fail
   rw[HW3.out];clear n0 n1 n2 n3 n4 n5 n6 n7 nf0 nf1 nf2 nf3 nf4 nf5 nf6 nf7;have HX:Hid (A9 7 d (⟨⟨3,tt,tv1,tv2,tv3⟩,tl,tc⟩::q)= .ok (.mk ⟨3,v0,[],tl,tc⟩ [],q)):=Ax vD;obtain⟨hn4,hnd⟩:=Kf hB HB3.out H.out ⟨3,v0,[],tl,tc⟩ HN.out tE;obtain⟨k0,k1,k2,k3,k4,k5,kf⟩:=Bd (H.out.below HB3.out).blk;have kf1:=kf 1;obtain⟨W4,hW4⟩:∃W4,W3.setCell ⟨b,1,none⟩ (.int .i64 (((ts.length - (q.length+1):Nat):Int)+1))=W4:=⟨_,rfl⟩;rw[hW4] at hn4 hnd;have HND:Hid (Calls Tryz.prog 128 #[.pointer (some ⟨b,0,none⟩),.agg #[.int .u8 3,.int .u8 0,.int .i64 0,.string ⟨#[]⟩,.string ⟨#[]⟩,.slice none 0 0,.int .i64 tl,.int .i64 tc]] W4 _):=Ax hnd;have HN4:=Ax hn4;have HW4:=Ax hW4;clear hn4 hnd hW4 kf HN;go_upto_region 35 with fail
   first|rw[HW4.out]|rw[Aa,HW4.out]
   clear k0 k1 k2 k3 k4 k5 kf1;obtain⟨m0,m1,m2,m3,m4,m5,m6,m7,_⟩:=Ft HN4.out;go_wp2_with fail;refine HND.out.mono ?_;rintro e V6 ⟨rfl,v6,hr6,hch6⟩;have HF:=Ax (show B5 w B X b (.slice (some ⟨g,0,none⟩) ts.length c) ts (⟨⟨3,tt,tv1,tv2,tv3⟩,tl,tc⟩::q) d vt nds (A9 7 d (⟨⟨3,tt,tv1,tv2,tv3⟩,tl,tc⟩::q)) (.returned (.int .i64 (nds.length:Int))) V6 from⟨_,v6,rfl,hch6,by rw[HX.out];exact⟨by simp [Ex.size,Bf],by simpa[Ex.flat,Bz,Ct] using hr6⟩⟩);clear hr6 hch6 HND HX m0 m1 m2 m3 m4 m5 m6 m7;exact zzo
  by_cases hk1:tk=1
  ·subst hk1;clear hk4 hk2 hk3;obtain⟨Z,hZ⟩:∃Z:ByteArray,⟨tt.toArray⟩=Z:=⟨_,rfl⟩;have hZl:dl Z=tt:=by rw[←hZ,Dj]
   have hC:=jQ tt W2;rw[hZ] at f1 hC;cases hcl:De tt with
   |some c3=>
    obtain⟨o,l,m⟩:=c3;obtain⟨ho,hm1,hm8⟩:=fK hcl;rw[hcl] at hC;simp only[Option.getD_some] at hC;have HC:=Ax hC;have HL:=Ax (show A9 7 d (⟨⟨1,tt,tv1,tv2,tv3⟩,tl,tc⟩::q)=B4 d q (fun q'=>D8 ⟨o,l,m,tl,tc⟩ [] (d+1) q') by rw[Bs];simp [B8,Cu,hcl]);have HCA:=Ax (gG ih hk (H.out.below HB2.out) (Al hB HB2.out.size) ⟨o,l,m,tl,tc⟩ hm1 hm8 rfl rfl);have HCA:Hid (Calls Tryz.prog 169 #[.pointer (some ⟨b,0,none⟩),.int .u8 o,.int .i64 (l:Int),.int .i64 (m:Int)] W2 _):=Ax HCA.out;have o0:(o==0)=false:=Af.2 ho;have o1:(o !=0)=true:=by rw[bne,o0];rfl
    clear hC hZ hZl hcl ho hm1 hm8;go_wp2_with fail;refine HC.out.mono ?_;rintro e V3 ⟨rfl,rfl⟩;clear HC;go_wp2_with fail;refine HCA.out.mono ?_;rintro e V4 ⟨z4,v4,rfl,hr4,hm4⟩;have HF:=Ax (show B5 w B X b (.slice (some ⟨g,0,none⟩) ts.length c) ts (⟨⟨1,tt,tv1,tv2,tv3⟩,tl,tc⟩::q) d vt nds (A9 7 d (⟨⟨1,tt,tv1,tv2,tv3⟩,tl,tc⟩::q)) (.returned (.int .i64 z4)) V4 from⟨z4,v4,rfl,(Rch.of_below vt HB2.out).trans hr4,by rw[HL.out];exact hm4⟩);clear hr4 hm4 HCA;exact zzo
   |none=>
    rw[hcl] at hC;simp only[Option.getD_none] at hC;have HC:=Ax hC;have HCL:=Ax hcl;clear hC hZ hcl;by_cases hw0:tt=[116,114,117,101]
    ·have s0:(Z.toList==[116,114,117,101])=true:=by rw[Az,hZl,hw0];rfl
     have HL:=Ax (show A9 7 d (⟨⟨1,tt,tv1,tv2,tv3⟩,tl,tc⟩::q)= .ok (.mk ⟨1,(4,1,[]),[],tl,tc⟩ [],q) by rw[Bs,hw0];rfl);clear hw0 hZl;obtain⟨n0,n1,n2,n3,n4,n5,n6,n7,nf⟩:=Ft HN2.out;have nf0:=nf 0;have nf1:=nf 1;have nf2:=nf 2;have nf3:=nf 3;have nf4:=nf 4;have nf5:=nf 5;have nf6:=nf 6;have nf7:=nf 7;clear nf;obtain⟨W3,hW3⟩:∃W3,(((W2.setCell ⟨p+1,1,none⟩ (.int .u8 4)).setCell ⟨p+1,2,none⟩ (.int .i64 1)).setCell ⟨p+1,3,none⟩ (.string ⟨#[]⟩))=W3:=⟨_,rfl⟩;have hO3:Bc [p+1] W2 W3:=by rw[←hW3];exact(((A3 W2 _ _ _).setCell (.inl tH) _).setCell (.inl tH) _)
     have hn3:W3.heap[p+1]? =some (.cells #[.int .u8 1,.int .u8 4,.int .i64 1,.string ⟨#[]⟩,.string ⟨#[]⟩,.slice none 0 0,.int .i64 tl,.int .i64 tc] 38 (0,0)):=by rw[←hW3];exact(A2 (A2 (A2 HN2.out)))
     have HN:=Ax hn3;have HW3:=Ax hW3;have HB3:=Ax (Bv HB2.out hO3 tL tE);clear hW3 hn3 hO3;go_wp2_with fail;refine HC.out.mono ?_;rintro e V3 ⟨rfl,rfl⟩;clear HC;go_upto_region 34 with fail
     rw[HW3.out];clear n0 n1 n2 n3 n4 n5 n6 n7 nf0 nf1 nf2 nf3 nf4 nf5 nf6 nf7;clear s0;have HX:Hid (A9 7 d (⟨⟨1,tt,tv1,tv2,tv3⟩,tl,tc⟩::q)= .ok (.mk ⟨1,(4,1,[]),[],tl,tc⟩ [],q)):=Ax (HL.out);obtain⟨hn4,hnd⟩:=Kf hB HB3.out H.out ⟨1,(4,1,[]),[],tl,tc⟩ HN.out tE;obtain⟨k0,k1,k2,k3,k4,k5,kf⟩:=Bd (H.out.below HB3.out).blk;have kf1:=kf 1;obtain⟨W4,hW4⟩:∃W4,W3.setCell ⟨b,1,none⟩ (.int .i64 (((ts.length - (q.length+1):Nat):Int)+1))=W4:=⟨_,rfl⟩;rw[hW4] at hn4 hnd;have HND:Hid (Calls Tryz.prog 128 #[.pointer (some ⟨b,0,none⟩),.agg #[.int .u8 1,.int .u8 4,.int .i64 1,.string ⟨#[]⟩,.string ⟨#[]⟩,.slice none 0 0,.int .i64 tl,.int .i64 tc]] W4 _):=Ax hnd;have HN4:=Ax hn4;have HW4:=Ax hW4;clear hn4 hnd hW4 kf HN;go_upto_region 35 with fail
     first|rw[HW4.out]|rw[Aa,HW4.out]
     clear k0 k1 k2 k3 k4 k5 kf1;obtain⟨m0,m1,m2,m3,m4,m5,m6,m7,_⟩:=Ft HN4.out;go_wp2_with fail;refine HND.out.mono ?_;rintro e V6 ⟨rfl,v6,hr6,hch6⟩;have HF:=Ax (show B5 w B X b (.slice (some ⟨g,0,none⟩) ts.length c) ts (⟨⟨1,tt,tv1,tv2,tv3⟩,tl,tc⟩::q) d vt nds (A9 7 d (⟨⟨1,tt,tv1,tv2,tv3⟩,tl,tc⟩::q)) (.returned (.int .i64 (nds.length:Int))) V6 from⟨_,v6,rfl,hch6,by rw[HX.out];exact⟨by simp [Ex.size,Bf],by simpa[Ex.flat,Bz,Ct] using hr6⟩⟩);clear hr6 hch6 HND HX m0 m1 m2 m3 m4 m5 m6 m7;exact zzo
    by_cases hw1:tt=[102,97,108,115,101]
    ·have s0:(Z.toList==[116,114,117,101])=false:=by rw[Az,hZl,hw1];rfl
     have s1:(Z.toList==[102,97,108,115,101])=true:=by rw[Az,hZl,hw1];rfl
     have HL:=Ax (show A9 7 d (⟨⟨1,tt,tv1,tv2,tv3⟩,tl,tc⟩::q)= .ok (.mk ⟨1,(4,0,[]),[],tl,tc⟩ [],q) by rw[Bs,hw1];rfl);clear hw1 hZl;clear hw0;obtain⟨n0,n1,n2,n3,n4,n5,n6,n7,nf⟩:=Ft HN2.out;have nf0:=nf 0;have nf1:=nf 1;have nf2:=nf 2;have nf3:=nf 3;have nf4:=nf 4;have nf5:=nf 5;have nf6:=nf 6;have nf7:=nf 7;clear nf;obtain⟨W3,hW3⟩:∃W3,(((W2.setCell ⟨p+1,1,none⟩ (.int .u8 4)).setCell ⟨p+1,2,none⟩ (.int .i64 0)).setCell ⟨p+1,3,none⟩ (.string ⟨#[]⟩))=W3:=⟨_,rfl⟩;have hO3:Bc [p+1] W2 W3:=by rw[←hW3];exact(((A3 W2 _ _ _).setCell (.inl tH) _).setCell (.inl tH) _)
     have hn3:W3.heap[p+1]? =some (.cells #[.int .u8 1,.int .u8 4,.int .i64 0,.string ⟨#[]⟩,.string ⟨#[]⟩,.slice none 0 0,.int .i64 tl,.int .i64 tc] 38 (0,0)):=by rw[←hW3];exact(A2 (A2 (A2 HN2.out)))
     have HN:=Ax hn3;have HW3:=Ax hW3;have HB3:=Ax (Bv HB2.out hO3 tL tE);clear hW3 hn3 hO3;go_wp2_with fail;refine HC.out.mono ?_;rintro e V3 ⟨rfl,rfl⟩;clear HC;go_upto_region 34 with fail
     rw[HW3.out];clear n0 n1 n2 n3 n4 n5 n6 n7 nf0 nf1 nf2 nf3 nf4 nf5 nf6 nf7;clear s0 s1;have HX:Hid (A9 7 d (⟨⟨1,tt,tv1,tv2,tv3⟩,tl,tc⟩::q)= .ok (.mk ⟨1,(4,0,[]),[],tl,tc⟩ [],q)):=Ax (HL.out);obtain⟨hn4,hnd⟩:=Kf hB HB3.out H.out ⟨1,(4,0,[]),[],tl,tc⟩ HN.out tE;obtain⟨k0,k1,k2,k3,k4,k5,kf⟩:=Bd (H.out.below HB3.out).blk;have kf1:=kf 1;obtain⟨W4,hW4⟩:∃W4,W3.setCell ⟨b,1,none⟩ (.int .i64 (((ts.length - (q.length+1):Nat):Int)+1))=W4:=⟨_,rfl⟩;rw[hW4] at hn4 hnd;have HND:Hid (Calls Tryz.prog 128 #[.pointer (some ⟨b,0,none⟩),.agg #[.int .u8 1,.int .u8 4,.int .i64 0,.string ⟨#[]⟩,.string ⟨#[]⟩,.slice none 0 0,.int .i64 tl,.int .i64 tc]] W4 _):=Ax hnd;have HN4:=Ax hn4;have HW4:=Ax hW4;clear hn4 hnd hW4 kf HN;go_upto_region 35 with fail
     first|rw[HW4.out]|rw[Aa,HW4.out]
     clear k0 k1 k2 k3 k4 k5 kf1;obtain⟨m0,m1,m2,m3,m4,m5,m6,m7,_⟩:=Ft HN4.out;go_wp2_with fail;refine HND.out.mono ?_;rintro e V6 ⟨rfl,v6,hr6,hch6⟩;have HF:=Ax (show B5 w B X b (.slice (some ⟨g,0,none⟩) ts.length c) ts (⟨⟨1,tt,tv1,tv2,tv3⟩,tl,tc⟩::q) d vt nds (A9 7 d (⟨⟨1,tt,tv1,tv2,tv3⟩,tl,tc⟩::q)) (.returned (.int .i64 (nds.length:Int))) V6 from⟨_,v6,rfl,hch6,by rw[HX.out];exact⟨by simp [Ex.size,Bf],by simpa[Ex.flat,Bz,Ct] using hr6⟩⟩);clear hr6 hch6 HND HX m0 m1 m2 m3 m4 m5 m6 m7;exact zzo
    by_cases hw2:tt=[110,117,108,108]
    ·have s0:(Z.toList==[116,114,117,101])=false:=by rw[Az,hZl,hw2];rfl
     have s1:(Z.toList==[102,97,108,115,101])=false:=by rw[Az,hZl,hw2];rfl
     have s2:(Z.toList==[110,117,108,108])=true:=by rw[Az,hZl,hw2];rfl
     have HL:=Ax (show A9 7 d (⟨⟨1,tt,tv1,tv2,tv3⟩,tl,tc⟩::q)= .ok (.mk ⟨1,(0,0,[]),[],tl,tc⟩ [],q) by rw[Bs,hw2];rfl);clear hw2 hZl;clear hw0 hw1;obtain⟨n0,n1,n2,n3,n4,n5,n6,n7,nf⟩:=Ft HN2.out;have nf0:=nf 0;have nf1:=nf 1;have nf2:=nf 2;have nf3:=nf 3;have nf4:=nf 4;have nf5:=nf 5;have nf6:=nf 6;have nf7:=nf 7;clear nf;obtain⟨W3,hW3⟩:∃W3,(((W2.setCell ⟨p+1,1,none⟩ (.int .u8 0)).setCell ⟨p+1,2,none⟩ (.int .i64 0)).setCell ⟨p+1,3,none⟩ (.string ⟨#[]⟩))=W3:=⟨_,rfl⟩;have hO3:Bc [p+1] W2 W3:=by rw[←hW3];exact(((A3 W2 _ _ _).setCell (.inl tH) _).setCell (.inl tH) _)
     have hn3:W3.heap[p+1]? =some (.cells #[.int .u8 1,.int .u8 0,.int .i64 0,.string ⟨#[]⟩,.string ⟨#[]⟩,.slice none 0 0,.int .i64 tl,.int .i64 tc] 38 (0,0)):=by rw[←hW3];exact(A2 (A2 (A2 HN2.out)))
     have HN:=Ax hn3;have HW3:=Ax hW3;have HB3:=Ax (Bv HB2.out hO3 tL tE);clear hW3 hn3 hO3;go_wp2_with fail;refine HC.out.mono ?_;rintro e V3 ⟨rfl,rfl⟩;clear HC;go_upto_region 34 with fail
     rw[HW3.out];clear n0 n1 n2 n3 n4 n5 n6 n7 nf0 nf1 nf2 nf3 nf4 nf5 nf6 nf7;clear s0 s1 s2;have HX:Hid (A9 7 d (⟨⟨1,tt,tv1,tv2,tv3⟩,tl,tc⟩::q)= .ok (.mk ⟨1,(0,0,[]),[],tl,tc⟩ [],q)):=Ax (HL.out);obtain⟨hn4,hnd⟩:=Kf hB HB3.out H.out ⟨1,(0,0,[]),[],tl,tc⟩ HN.out tE;obtain⟨k0,k1,k2,k3,k4,k5,kf⟩:=Bd (H.out.below HB3.out).blk;have kf1:=kf 1;obtain⟨W4,hW4⟩:∃W4,W3.setCell ⟨b,1,none⟩ (.int .i64 (((ts.length - (q.length+1):Nat):Int)+1))=W4:=⟨_,rfl⟩;rw[hW4] at hn4 hnd;have HND:Hid (Calls Tryz.prog 128 #[.pointer (some ⟨b,0,none⟩),.agg #[.int .u8 1,.int .u8 0,.int .i64 0,.string ⟨#[]⟩,.string ⟨#[]⟩,.slice none 0 0,.int .i64 tl,.int .i64 tc]] W4 _):=Ax hnd;have HN4:=Ax hn4;have HW4:=Ax hW4;clear hn4 hnd hW4 kf HN;go_upto_region 35 with fail
     first|rw[HW4.out]|rw[Aa,HW4.out]
     clear k0 k1 k2 k3 k4 k5 kf1;obtain⟨m0,m1,m2,m3,m4,m5,m6,m7,_⟩:=Ft HN4.out;go_wp2_with fail;refine HND.out.mono ?_;rintro e V6 ⟨rfl,v6,hr6,hch6⟩;have HF:=Ax (show B5 w B X b (.slice (some ⟨g,0,none⟩) ts.length c) ts (⟨⟨1,tt,tv1,tv2,tv3⟩,tl,tc⟩::q) d vt nds (A9 7 d (⟨⟨1,tt,tv1,tv2,tv3⟩,tl,tc⟩::q)) (.returned (.int .i64 (nds.length:Int))) V6 from⟨_,v6,rfl,hch6,by rw[HX.out];exact⟨by simp [Ex.size,Bf],by simpa[Ex.flat,Bz,Ct] using hr6⟩⟩);clear hr6 hch6 HND HX m0 m1 m2 m3 m4 m5 m6 m7;exact zzo
    have s0:(Z.toList==[116,114,117,101])=false:=by rw[Az,hZl];exact Af.2 hw0
    have s1:(Z.toList==[102,97,108,115,101])=false:=by rw[Az,hZl];exact Af.2 hw1
    have s2:(Z.toList==[110,117,108,108])=false:=by rw[Az,hZl];exact Af.2 hw2
    have HL:=Ax (show A9 7 d (⟨⟨1,tt,tv1,tv2,tv3⟩,tl,tc⟩::q)=B4 d (⟨⟨1,tt,tv1,tv2,tv3⟩,tl,tc⟩::q) (fun q'=>(A9 0 (d+1) q').next Cy) by rw[Bs];simp [B8,Cu,HCL.out,Lf,hw0,hw1,hw2]);have HS:=Ax (Jg (H.out.below HB2.out) 4 tG);clear hw0 hw1 hw2 hZl;go_wp2_with fail;refine HC.out.mono ?_;rintro e V3 ⟨rfl,rfl⟩;clear HC;go_wp2_with fail;refine HS.out.mono ?_;rintro e V4 ⟨rfl,hx,ho,-⟩;have HF:=Ax (show B5 w B X b (.slice (some ⟨g,0,none⟩) ts.length c) ts (⟨⟨1,tt,tv1,tv2,tv3⟩,tl,tc⟩::q) d vt nds (A9 7 d (⟨⟨1,tt,tv1,tv2,tv3⟩,tl,tc⟩::q)) (.returned (.int .i64 (-1))) V4 from⟨-1,vt,rfl,(Rch.of_below vt HB2.out).trans (Rch.of_only vt ho),by rw[HL.out];unfold B4;rw[Ao (by unfold isH;simp;exact fun h=>(H.out.nam _ (by obtain⟨j,e⟩:=H.out.suf;exact List.mem_of_mem_drop (i:=j) (by rw[←e];exact Ai)) rfl h))];exact hx⟩);clear hx ho HS;exact zzo
  have d1:(tk==1)=false:=Af.2 tE;have d2:(tk==2)=false:=Af.2 tE;have d3:(tk==3)=false:=Af.2 tE;have d4:(tk==4)=false:=Af.2 tE;have d5:(tk==5)=false:=Af.2 tE;have d6:(tk==6)=false:=Af.2 tE;have HLV:=Ax (show A9 7 d (⟨⟨tk,tt,tv1,tv2,tv3⟩,tl,tc⟩::q)=B4 d (⟨⟨tk,tt,tv1,tv2,tv3⟩,tl,tc⟩::q) (fun q'=>(A9 0 (d+1) q').next Cy) by rw[Bs];simp [B8,Cu,hk1,hk2,hk3,hk4]);clear hk1 hk2 hk3 hk4;have HR2:=Ax (H.out.below HB2.out);have HRC:=Ax (Rch.of_below (b:=b) vt HB2.out);have hB2:=Al hB HB2.out.size;obtain⟨r,hr⟩:∃r,(⟨⟨tk,tt,tv1,tv2,tv3⟩,tl,tc⟩::q)=r:=⟨_,rfl⟩;have HNX:=Ax (Fu HR2.out);rw[hr] at HNX;obtain⟨S,hS⟩:∃S:ByteArray,⟨(Gj r).toArray⟩=S:=⟨_,rfl⟩;rw[hS] at HNX;have hSp:decide (dl S=[40])=isH [40] r:=by rw[←hS,Dj];exact J3 tH
  rw[←hr] at hSp;clear hS hr r;cases ho:isH [40] (⟨⟨tk,tt,tv1,tv2,tv3⟩,tl,tc⟩::q) with
  |false=>
   rw[ho] at hSp;have hSn:=of_decide_eq_false hSp;have t1:(S.toList==[40])=false:=by rw[Az];exact Af.2 hSn
   have HLE:Hid (A9 7 d (⟨⟨tk,tt,tv1,tv2,tv3⟩,tl,tc⟩::q)= .error (4,(⟨⟨tk,tt,tv1,tv2,tv3⟩,tl,tc⟩::q))):=Ax (by rw[HLV.out];unfold B4;rw[Ao (by rw[ho];decide)]);have HO:=Ax ho;clear hSn hSp ho HLV;go_wp2_with fail;refine HNX.out.mono ?_;rintro e V3 ⟨rfl,hb3⟩;have HMU:=Ax (Ia (HR2.out.below hb3) [40] tH);have HRC:=Ax (HRC.out.trans (Rch.of_below vt hb3));clear hb3 HNX;go_wp2_with fail;refine HMU.out.mono ?_;rintro e V4 ⟨rfl,ho4,hx4⟩;rw[Ao (by rw[HO.out];decide)] at hx4;have HX:=Ax hx4;have HR:=Ax (HRC.out.trans (Rch.of_only vt ho4));clear ho4 hx4 HMU t1;have HE0:=Ax (Ut HX.out 0);go_wp2_with fail;refine HE0.out.mono ?_;rintro e VE ⟨rfl,rfl⟩;clear HE0;have HM:=Ax (Dh HX.out ⟨#[41]⟩);go_wp2_with fail;refine HM.out.mono ?_;rintro e VM ⟨rfl,rfl⟩;clear HM;obtain⟨a0,dd,hkb⟩:=HX.out.blk;obtain⟨k0,k1,k2,k3,k4,k5,kf⟩:=Bd hkb;have kf2:=kf 2;obtain⟨x5,hx5⟩:∃x5,IntKind.i64.wrap (dd - 1)=x5:=⟨_,rfl⟩;have hx5':wrap64 (dd - 1)=x5:=by rw[←hx5];simp [IntKind.wrap_i64,wrap64]
   obtain⟨W5,hW5⟩:∃W5,V4.setCell ⟨b,2,none⟩ (.int .i64 x5)=W5:=⟨_,rfl⟩;have hm5:=HX.out.deep x5;have ho5:=A3 V4 b 2 (.int .i64 x5);rw[hW5] at hm5 ho5;have HF:=Ax (show B5 w B X b (.slice (some ⟨g,0,none⟩) ts.length c) ts (⟨⟨tk,tt,tv1,tv2,tv3⟩,tl,tc⟩::q) d vt nds (A9 7 d (⟨⟨tk,tt,tv1,tv2,tv3⟩,tl,tc⟩::q)) (.returned (.int .i64 (-1))) W5 from⟨(-1),vt,rfl,HR.out.trans (Rch.of_only vt ho5),by rw[HLE.out];exact hm5⟩);have HW5:=Ax hW5;clear hkb kf hm5 ho5 hW5 hx5;go_upto_region 13 with fail
   rw[HW5.out];clear k0 k1 k2 k3 k4 k5 kf2 hx5';exact zzo
  |true=>
   rw[ho] at hSp;have hSe:=of_decide_eq_true hSp;have t1:(S.toList==[40])=true:=by rw[Az,hSe];rfl
   have HO:=Ax ho;clear hSe hSp ho;go_wp2_with fail;refine HNX.out.mono ?_;rintro e V3 ⟨rfl,hb3⟩;have HD:=Ax (Kj (HR2.out.below hb3));have HRC:=Ax (HRC.out.trans (Rch.of_below vt hb3));clear hb3 HNX;go_wp2_with fail;refine HD.out.mono ?_;rintro e V4 ⟨rfl,ho4,hd4⟩;have HRC:=Ax (HRC.out.trans (Rch.of_only vt ho4));clear ho4 HD t1;by_cases hd12:d=12
   ·rw[Ap hd12] at hd4;have HLE:Hid (A9 7 d (⟨⟨tk,tt,tv1,tv2,tv3⟩,tl,tc⟩::q)= .error (12,(⟨⟨tk,tt,tv1,tv2,tv3⟩,tl,tc⟩::q))):=Ax (by rw[HLV.out];unfold B4;rw[Ap HO.out,Ap hd12]);have HX:=Ax hd4;have HMU:=Ax (Dh hd4 ⟨#[40]⟩);have HR:=HRC;clear hd4 hd12 HLV;go_wp2_with fail;refine HMU.out.mono ?_;rintro e V5 ⟨rfl,rfl⟩;clear HMU;have HE0:=Ax (Ut HX.out 0);go_wp2_with fail;refine HE0.out.mono ?_;rintro e VE ⟨rfl,rfl⟩;clear HE0;have HM:=Ax (Dh HX.out ⟨#[41]⟩);go_wp2_with fail;refine HM.out.mono ?_;rintro e VM ⟨rfl,rfl⟩;clear HM;obtain⟨a0,dd,hkb⟩:=HX.out.blk;obtain⟨k0,k1,k2,k3,k4,k5,kf⟩:=Bd hkb;have kf2:=kf 2;obtain⟨x5,hx5⟩:∃x5,IntKind.i64.wrap (dd - 1)=x5:=⟨_,rfl⟩;have hx5':wrap64 (dd - 1)=x5:=by rw[←hx5];simp [IntKind.wrap_i64,wrap64]
    obtain⟨W5,hW5⟩:∃W5,V4.setCell ⟨b,2,none⟩ (.int .i64 x5)=W5:=⟨_,rfl⟩;have hm5:=HX.out.deep x5;have ho5:=A3 V4 b 2 (.int .i64 x5);rw[hW5] at hm5 ho5;have HF:=Ax (show B5 w B X b (.slice (some ⟨g,0,none⟩) ts.length c) ts (⟨⟨tk,tt,tv1,tv2,tv3⟩,tl,tc⟩::q) d vt nds (A9 7 d (⟨⟨tk,tt,tv1,tv2,tv3⟩,tl,tc⟩::q)) (.returned (.int .i64 (-1))) W5 from⟨(-1),vt,rfl,HR.out.trans (Rch.of_only vt ho5),by rw[HLE.out];exact hm5⟩);have HW5:=Ax hW5;clear hkb kf hm5 ho5 hW5 hx5;go_upto_region 13 with fail
    rw[HW5.out];clear k0 k1 k2 k3 k4 k5 kf2 hx5';exact zzo
   rw[Ao hd12] at hd4;have HLA:Hid (A9 7 d (⟨⟨tk,tt,tv1,tv2,tv3⟩,tl,tc⟩::q)=(A9 0 (d+1) q).next Cy):=Ax (by rw[HLV.out];unfold B4;rw[Ap HO.out,Ao hd12];rfl);have HMU:=Ax (Ia hd4 [40] tH);clear hd4 hd12 HLV;go_wp2_with fail;refine HMU.out.mono ?_;rintro e V5 ⟨rfl,ho5,hf5⟩;rw[Ap HO.out,List.tail_cons] at hf5;have hR5:=HRC.out.trans (Rch.of_only vt ho5);have HR5:=Ax hR5;have hc:=ih X 0 (d+1) q V5 vt nds tE uN hf5 (Al hB hR5.only.size);have Hc:Hid (Calls Tryz.prog 67 #[.pointer (some ⟨b,0,none⟩),.int .i64 0] V5 _):=Ax hc;have hfew:=H.out.few;simp only[Aa] at hfew;clear ho5 hf5 hR5 hc HMU HRC;go_wp2_with fail;refine Hc.out.mono ?_;rintro e V6 ⟨z6,v6,rfl,hr6,hm6⟩;have HR:=Ax (HR5.out.trans hr6);clear hr6 Hc HR5;cases hq4:A9 0 (d+1) q with
   |error p=>
    obtain⟨er,q4⟩:=p;rw[hq4] at hm6;have HX:=Ax (Ej.mono (cap':=nds.length+(q.length+1)) hm6 tE tE);have HLE:Hid (A9 7 d (⟨⟨tk,tt,tv1,tv2,tv3⟩,tl,tc⟩::q)= .error (er,q4)):=Ax (by rw[HLA.out,hq4];rfl);clear hm6 hq4 HLA;have HM:=Ax (Dh HX.out ⟨#[41]⟩);go_wp2_with fail;refine HM.out.mono ?_;rintro e VM ⟨rfl,rfl⟩;clear HM;obtain⟨a0,dd,hkb⟩:=HX.out.blk;obtain⟨k0,k1,k2,k3,k4,k5,kf⟩:=Bd hkb;have kf2:=kf 2;obtain⟨x5,hx5⟩:∃x5,IntKind.i64.wrap (dd - 1)=x5:=⟨_,rfl⟩;have hx5':wrap64 (dd - 1)=x5:=by rw[←hx5];simp [IntKind.wrap_i64,wrap64]
    obtain⟨W5,hW5⟩:∃W5,V6.setCell ⟨b,2,none⟩ (.int .i64 x5)=W5:=⟨_,rfl⟩;have hm5:=HX.out.deep x5;have ho5:=A3 V6 b 2 (.int .i64 x5);rw[hW5] at hm5 ho5;have HF:=Ax (show B5 w B X b (.slice (some ⟨g,0,none⟩) ts.length c) ts (⟨⟨tk,tt,tv1,tv2,tv3⟩,tl,tc⟩::q) d vt nds (A9 7 d (⟨⟨tk,tt,tv1,tv2,tv3⟩,tl,tc⟩::q)) (.returned (.int .i64 z6)) W5 from⟨z6,v6,rfl,HR.out.trans (Rch.of_only v6 ho5),by rw[HLE.out];exact hm5⟩);have HW5:=Ax hW5;clear hkb kf hm5 ho5 hW5 hx5;go_upto_region 13 with fail
    rw[HW5.out];clear k0 k1 k2 k3 k4 k5 kf2 hx5';exact zzo
   |ok p=>
    obtain⟨a4,q4⟩:=p;rw[hq4] at hm6;obtain⟨rfl,hf6⟩:=hm6;have hsz4:=F5 (n:=0) tE hq4;have HMU:=Ax (Ia hf6 [41] tH);cases hm2:isH [41] q4 with
    |false=>
     have HLE:Hid (A9 7 d (⟨⟨tk,tt,tv1,tv2,tv3⟩,tl,tc⟩::q)= .error (4,q4)):=Ax (by rw[HLA.out,hq4];show Cy a4 q4=_;unfold Cy;rw[Ao (by rw[hm2];decide)]);have HM2:=Ax hm2;clear hf6 hq4 hm2 HLA;go_wp2_with fail;refine HMU.out.mono ?_;rintro e V7 ⟨rfl,ho7,hx7⟩;rw[Ao (by rw[HM2.out];decide)] at hx7;have HX:=Ax (hx7.mono (cap':=nds.length+(q.length+1)) (by rw[Ab,Ex.flat_len];omega) tE);have HR:=Ax (HR.out.trans (Rch.of_only v6 ho7));clear ho7 hx7 HMU;obtain⟨a0,dd,hkb⟩:=HX.out.blk;obtain⟨k0,k1,k2,k3,k4,k5,kf⟩:=Bd hkb;have kf2:=kf 2;obtain⟨x5,hx5⟩:∃x5,IntKind.i64.wrap (dd - 1)=x5:=⟨_,rfl⟩;have hx5':wrap64 (dd - 1)=x5:=by rw[←hx5];simp [IntKind.wrap_i64,wrap64]
     obtain⟨W5,hW5⟩:∃W5,V7.setCell ⟨b,2,none⟩ (.int .i64 x5)=W5:=⟨_,rfl⟩;have hm5:=HX.out.deep x5;have ho5:=A3 V7 b 2 (.int .i64 x5);rw[hW5] at hm5 ho5;have HF:=Ax (show B5 w B X b (.slice (some ⟨g,0,none⟩) ts.length c) ts (⟨⟨tk,tt,tv1,tv2,tv3⟩,tl,tc⟩::q) d vt nds (A9 7 d (⟨⟨tk,tt,tv1,tv2,tv3⟩,tl,tc⟩::q)) (.returned (.int .i64 ((nds.length+a4.size - 1:Nat):Int))) W5 from⟨((nds.length+a4.size - 1:Nat):Int),v6,rfl,HR.out.trans (Rch.of_only v6 ho5),by rw[HLE.out];exact hm5⟩);have HW5:=Ax hW5;clear hkb kf hm5 ho5 hW5 hx5;go_upto_region 13 with fail
     rw[HW5.out];clear k0 k1 k2 k3 k4 k5 kf2 hx5';exact zzo
    |true=>
     obtain⟨t5,q5,rfl⟩:=Cf hm2;have HLE:Hid (A9 7 d (⟨⟨tk,tt,tv1,tv2,tv3⟩,tl,tc⟩::q)= .ok (a4,q5)):=Ax (by rw[HLA.out,hq4];show Cy a4 (t5::q5)=_;unfold Cy;rw[Ap hm2];rfl);have HM2:=Ax hm2;clear hf6 hq4 hm2 HLA;go_wp2_with fail;refine HMU.out.mono ?_;rintro e V7 ⟨rfl,ho7,hf7⟩;rw[Ap HM2.out,List.tail_cons] at hf7;obtain⟨k0,k1,k2,k3,k4,k5,kf⟩:=Bd hf7.blk;have kf2:=kf 2;have hd13:=hf7.hd;have hf8:=hf7.deep (d':=d) tE;have ho8:=A3 V7 b 2 (.int .i64 (d:Int));have HR:=Ax ((HR.out.trans (Rch.of_only v6 ho7)).trans (Rch.of_only v6 ho8));obtain⟨W5,hW5⟩:∃W5,V7.setCell ⟨b,2,none⟩ (.int .i64 (d:Int))=W5:=⟨_,rfl⟩;rw[hW5] at hf8 HR;have HF:=Ax (show B5 w B X b (.slice (some ⟨g,0,none⟩) ts.length c) ts (⟨⟨tk,tt,tv1,tv2,tv3⟩,tl,tc⟩::q) d vt nds (A9 7 d (⟨⟨tk,tt,tv1,tv2,tv3⟩,tl,tc⟩::q)) (.returned (.int .i64 ((nds.length+a4.size - 1:Nat):Int))) W5 from⟨_,v6,rfl,HR.out,by rw[HLE.out];exact⟨rfl,hf8⟩⟩);have HW5:=Ax hW5;have hdd:((d+1:Nat):Int) - 1=(d:Int):=by omega
     clear ho7 hf7 hf8 ho8 hW5 kf HMU;go_upto_region 13 with fail
     first|rw[HW5.out]|(rw[show((d:Int)+1 - 1)=(d:Int) by omega,HW5.out])|(rw[hdd,HW5.out])
     clear k0 k1 k2 k3 k4 k5 kf2 hdd;exact zzo
theorem Q8 (B b:Nat)(vl:Value)(ts:List Tkn):∀k,Xw k B b vl ts
 |0=>fun _ _ _ _ _ _ _ _ h _ _=>absurd h (Nat.not_lt_zero _)
 |k+1=>fun _ _ _ _ _ _ _ hn hk h hB=>bA (Q8 B b vl ts k) (fun _ _ _ _ _ _ hk h hB=>fA (Q8 B b vl ts k) hk h hB) hn (Nat.lt_succ_iff.1 hk) h hB
open Go Go.RowKit Go.Lib
theorem oU {w:World}{vl:Value}{ts:List Tkn}(ht:I8 w vl ts)(hn:∀t∈ts,t.w.k=1->t.w.t≠[40])(hbig:ts.length<=1000000):
 Calls Tryz.prog 33 #[vl,.int .i64 0] w (Ru w ts 0 (A9 0 0 ts)):=by
 obtain⟨va,vc,rfl⟩:=ht.form;have i3:decide ((ts.length:Int)<0)=false:=by simp
 have i4:¬((ts.length:Int)<0):=by omega
 obtain⟨W1,hW1⟩:∃W1,w.alloc (.cells #[.slice va ts.length vc,.int .i64 0,.int .i64 0,.slice none 0 0,.int .i64 0,.int .i64 0] 155)=W1:=⟨_,rfl⟩;have hb1:Below w.heap.size w W1:=by rw[←hW1];exact(Aq _ w).alloc (Ak _) _
 have q1:=A1 w (.cells #[.slice va ts.length vc,.int .i64 0,.int .i64 0,.slice none 0 0,.int .i64 0,.int .i64 0] 155);rw[hW1] at q1;have hR:Cv W1 w.heap.size [] w.heap.size (.slice va ts.length vc) ts ts 0 (.slice none 0 0) []:=⟨Suf.refl _,ht.below hb1,hn,ht.lt,Ak _,fun x h=>(by simp at h),by omega,hbig,by simp only[List.length_nil];omega,by simpa using q1,[],World.ownsRow_nil _ _ _ _,trivial⟩;have hX:=Q8 w.heap.size w.heap.size (.slice va ts.length vc) ts _ [] 0 0 ts W1 (.slice none 0 0) [] tE (Nat.lt_succ_self _) hR hb1.size;have HX:Hid (Calls Tryz.prog 67 #[.pointer (some ⟨w.heap.size,0,none⟩),.int .i64 0] W1 _):=Ax hX;have HW1:=Ax hW1;have HB1:=Ax hb1;clear hb1 q1 hR hX hW1 ht hn;go_enter Tryz.func33,Tryz.ntmps33;go_upto_region 4 with fail
 rw[HW1.out];go_wp2_with fail;refine HX.out.mono ?_;rintro e V ⟨z,v,rfl,hr,hm⟩;have hBV:Below w.heap.size w V:=Bv HB1.out hr.only (by simp [Value.ownBlock]) HB1.out.size;have HBV:=Ax hBV;clear hr hBV HX;cases hq:A9 0 0 ts with
 |error p=>
  obtain⟨er,q⟩:=p;rw[hq] at hm;have hm:Ej V w.heap.size w.heap.size (.slice va ts.length vc) ts v er (ts.length - q.length) (0+ts.length):=hm;obtain⟨a0,dd,hkb⟩:=hm.blk;obtain⟨k0,k1,k2,k3,k4,k5,_⟩:=Bd hkb;have e1:(er !=0)=true:=by rw[bne,Af.2 hm.ne];rfl
  have hbw:=Ay hkb;have hnq:=fun nq=>Ax (show Ru w ts 0 (A9 0 0 ts) (.returned (.tuple #[.slice none 0 0,.int .i64 ((ts.length - q.length:Nat):Int),.int .i64 er])) (V.drewN nq) from⟨Bg HBV.out nq,by rw[hq]⟩)
  clear hm hkb hq;go_wp2_with fail;go_quiet (fail);have HF:=hnq nq;clear hnq;go_wp2_with fail;refine Au (v:= .tuple #[.slice none 0 0,.int .i64 ((ts.length - q.length:Nat):Int),.int .i64 er]) vW rfl HF.out
 |ok p=>
  obtain⟨a,q⟩:=p;rw[hq] at hm;obtain⟨_,hf⟩:=hm;obtain⟨k0,k1,k2,k3,k4,k5,_⟩:=Bd hf.blk;have hbw:=Ay hf.blk;obtain⟨kvs,hk1,hk2⟩:=hf.tree;rw[List.nil_append,List.length_nil] at hk1 hk2;rw[Ex.flat_len] at hk1;obtain⟨la,lc,rfl⟩:=Er hk1;have htr:Ii V w.heap.size [] (.slice la a.size lc) (a.flat 0):=⟨kvs,by rw[Ex.flat_len];exact hk1,hk2⟩;by_cases h60:60<a.size
  ·have j1:decide ((60:Int)<(a.size:Int))=true:=by simp;omega
   have j2:(60:Int)<(a.size:Int):=by omega
   have HF:=Ax (show Ru w ts 0 (A9 0 0 ts) (.returned (.tuple #[.slice none 0 0,.int .i64 0,.int .i64 7])) V from⟨HBV.out,by rw[hq];simp only;rw[Ap h60];rfl⟩);clear hf hk1 hk2 hq h60 htr;go_wp2_with fail;refine Au (v:= .tuple #[.slice none 0 0,.int .i64 0,.int .i64 7]) vW rfl HF.out
  have j1:decide ((60:Int)<(a.size:Int))=false:=by simp;omega
  have j2:¬(60:Int)<(a.size:Int):=by omega
  have hnq:=fun nq=>Ax (show Ru w ts 0 (A9 0 0 ts) (.returned (.tuple #[.slice la a.size lc,.int .i64 ((ts.length - q.length:Nat):Int),.int .i64 0])) (V.drewN nq) from⟨Bg HBV.out nq,by rw[hq];simp only;rw[Ao h60];exact⟨_,rfl,htr.below (Bg (Aq _ V) nq)⟩⟩)
  clear hf hk1 hk2 hq h60 htr;go_wp2_with fail;go_quiet (fail);have HF:=hnq nq;clear hnq;go_wp2_with fail;refine Au (v:= .tuple #[.slice la a.size lc,.int .i64 ((ts.length - q.length:Nat):Int),.int .i64 0]) vW rfl HF.out
open Go Go.RowKit
theorem Yz {w:World}{v:Value}{ts:List Tkn}(ht:I8 w v ts)(hc:∀t∈ts,0<=t.col/\t.col<=1000000/\t.w.t.length<=1000000)(hbig:ts.length<=1000000):
 Calls Tryz.prog 34 #[v] w fun e w'=>e= .returned (.agg #[.int .i64 (Fi ts).1,.int .i64 (Fi ts).2])/\Below w.heap.size w w':=by
 by_cases h0:ts=[]
 ·subst h0;obtain⟨va,vc,rfl⟩:=ht.form;simp only[List.length_nil];clear hc hbig ht;go_enter Tryz.func34,Tryz.ntmps34;go_wp2_with fail;refine Au (v:= .agg #[.int .i64 1,.int .i64 1]) uH rfl ?_;refine⟨rfl,?_⟩;exact(Aq _ w).alloc (Ak _) _
 obtain⟨m,hm⟩:∃m,ts.length=m+1:=⟨ts.length - 1,by have:=List.length_pos_iff.2 h0;omega⟩;have hml:m<ts.length:=by omega
 obtain⟨g,c,rfl,hg,t0,t1,t2,t3,t4,t5,t6⟩:=ht.at hml
 have hlast:ts.getLast? =some ts[m]:=by
  rw[List.getLast?_eq_getElem?,hm,Nat.add_sub_cancel,Ag hml]
 have hcc:=hc ts[m] (List.getElem_mem hml)
 have hbe:Fi ts=(ts[m].line,ts[m].col+ts[m].w.t.length+if ts[m].w.k=2\/ts[m].w.k=3\/ts[m].w.k=6 then 1 else if ts[m].w.k=5 then 2 else 0):=by
  unfold Fi;rw[hlast]
 rw[hbe];obtain⟨t,he⟩:∃t,ts[m]=t:=⟨_,rfl⟩;rw[he] at t0 t1 t2 t3 t4 t5 t6 hcc ⊢;obtain⟨⟨tk,tt,tv1,tv2,tv3⟩,tl,tc⟩:=t;simp only at t0 t1 t2 t3 t4 t5 t6 hcc ⊢;rw[hm];obtain⟨hc1,hc2,hc3⟩:=hcc;have hm6:m+1<=1000000:=by omega
 obtain⟨W1,hW1⟩:∃W1,w.alloc (.cells #[.int .i64 0,.int .i64 0] 26)=W1:=⟨_,rfl⟩;have hb1:Below w.heap.size w W1:=by rw[←hW1];exact(Aq _ w).alloc (Ak _) _
 have hz1:W1.heap.size=w.heap.size+1:=by rw[←hW1];simp
 have hp1:=A1 w (.cells #[.int .i64 0,.int .i64 0] 26);rw[hW1] at hp1;have t0':=Ba hb1 t0;have t1':=Ba hb1 t1;have t2':=Ba hb1 t2;have t3':=Ba hb1 t3;have t4':=Ba hb1 t4;have t5':=Ba hb1 t5;have t6':=Ba hb1 t6;obtain⟨W2,hW2⟩:∃W2,W1.alloc (.cells #[.int .u8 tk,.string ⟨tt.toArray⟩,.int .u8 tv1,.int .i64 tv2,.string ⟨tv3.toArray⟩,.int .i64 tl,.int .i64 tc] 63)=W2:=⟨_,rfl⟩;have hb2:Below W1.heap.size W1 W2:=by rw[←hW2];exact(Aq _ W1).alloc (Ak _) _
 have hz2:W2.heap.size=w.heap.size+2:=by rw[←hW2];simp [hz1]
 have hp2:=A1 W1 (.cells #[.int .u8 tk,.string ⟨tt.toArray⟩,.int .u8 tv1,.int .i64 tv2,.string ⟨tv3.toArray⟩,.int .i64 tl,.int .i64 tc] 63);rw[hW2,hz1] at hp2;obtain⟨s0,s1,s2,s3,s4,s5,s6⟩:=Gv hp2;have hq1:=(hb2.block _ (Ay hp1)).trans hp1;obtain⟨y0,y1,yf⟩:=Bo hq1;have yf0:=yf 0;have yf1:=yf 1;have HB3:=Ax (hb1.trans (hb2.mono hb1.size));clear hb1 hb2 hp1 hp2 hq1 yf t0 t1 t2 t3 t4 t5 t6 hbe hlast hc he ht hbig h0;by_cases hk:tk=2\/tk=3\/tk=6
 ·rcases hk with rfl|rfl|rfl
  ·exact zyt
  ·exact zyt
  exact zyt
 by_cases h5:tk=5
 ·subst h5;go_enter Tryz.func34,Tryz.ntmps34;go_wp2_with fail;refine Au (v:= .agg #[.int .i64 tl,.int .i64 (tc+((tt.length:Int)+2))]) uH rfl ?_;refine⟨by simp [*,Int.add_assoc],?_⟩;exact(HB3.out.setCell tH _).setCell tH _
 have j2:(tk==2)=false:=by simp at hk ⊢;omega
 have j3:(tk==3)=false:=by simp at hk ⊢;omega
 have j6:(tk==6)=false:=by simp at hk ⊢;omega
 have j5:(tk==5)=false:=by simpa using h5
 rw[Ao hk,Ao h5,Int.add_zero];clear hk h5;go_enter Tryz.func34,Tryz.ntmps34;go_wp2_with fail;refine Au (v:= .agg #[.int .i64 tl,.int .i64 (tc+(tt.length:Int))]) uH rfl ?_;refine⟨by simp [*],?_⟩;exact(HB3.out.setCell tH _).setCell tH _
open Go Go.RowKit
theorem pW {s:ByteArray}(w:World)(hs:s.size<=65536){ts:List Tkn}(h:Ev (dl s)= .ok ts):
 Calls Tryz.prog 25 #[.string s] w fun e w'=>∃v,e= .returned (.tuple #[v,.agg #[.int .i64 0,.int .i64 0],.int .i64 0])/\w'.ownsRow w.heap.size 63 7 v ts.length (Ek ts)/\Below w.heap.size w w':=by
 refine(aA s w hs).mono ?_;exact zw8
theorem qW {s:ByteArray}(w:World)(hs:s.size<=65536){a b q:Int}(h:Ev (dl s)= .error (a,b,q)):
 Calls Tryz.prog 25 #[.string s] w fun e w'=>e= .returned (.tuple #[.slice none 0 0,.agg #[.int .i64 a,.int .i64 b],.int .i64 q])/\Below w.heap.size w w':=by
 refine(aA s w hs).mono ?_;rintro e w' ⟨hb,he⟩;rw[h] at he;exact⟨he,hb⟩
theorem oD {s:ByteArray}(w:World)(hs:s.size<=65536){a b q:Int}(h:Ev (dl s)= .error (a,b,q)):Calls Tryz.prog 10 #[.string s] w (Rn w (Bj (dl s))):=by
 have hx:Bj (dl s)= .error ((a,b),q):=by unfold Bj;rw[h]
 have hq:q=4\/q=9:=((Lx _ (dl s) 1 1 (Ak _) tG).1 a b q h).2.2;have hq1:(q !=0)=true:=by rcases hq with rfl|rfl<;>rfl
 have hq2:(q==0)=false:=by rcases hq with rfl|rfl<;>rfl
 obtain⟨W1,hW1⟩:∃W1,w.alloc (.cells #[.int .i64 0,.int .i64 0] 26)=W1:=⟨_,rfl⟩;have hb1:Below w.heap.size w W1:=by rw[←hW1];exact(Aq _ w).alloc (Ak _) _
 have hp1:=A1 w (.cells #[.int .i64 0,.int .i64 0] 26);rw[hW1] at hp1;have L1:=Ax (qW (s:=s) W1 hs h);have HB1:=Ax hb1;have HP1:=Ax hp1;rw[hx];clear hx h hb1 hp1 hq;go_enter Tryz.func10,Tryz.ntmps10;go_wp2_with fail;refine L1.out.mono ?_;rintro e V2 ⟨rfl,hb2⟩;have hp2:=(hb2.block _ (Ay HP1.out)).trans HP1.out;obtain⟨V3,hV3⟩:∃V3,V2.alloc (.cells #[.int .i64 a,.int .i64 b] 26)=V3:=⟨_,rfl⟩;have hb3:Below V2.heap.size V2 V3:=by rw[←hV3];exact(Aq _ V2).alloc (Ak _) _
 have hp3:=A1 V2 (.cells #[.int .i64 a,.int .i64 b] 26);rw[hV3] at hp3;have hp4:=(hb3.block _ (Ay hp2)).trans hp2;obtain⟨x0,x1,_⟩:=Bo hp3;obtain⟨y0,y1,yf⟩:=Bo hp4;have yf0:=yf 0;have yf1:=yf 1;have HB3:=Ax (HB1.out.trans ((hb2.trans (hb3.mono hb2.size)).mono HB1.out.size));have hne:¬w.heap.size=V2.heap.size:=by have:=Ay hp2;omega
 have hne2:¬V2.heap.size=w.heap.size:=fun h=>hne h.symm
 clear hb2 hb3 hp2 hp3 hp4 yf L1 HP1;go_wp2_with fail;go_region;go_wp2_with fail;refine Au (v:= .tuple #[.slice none 0 0,.agg #[.int .i64 a,.int .i64 b],.int .i64 q]) uO rfl ?_;exact⟨((HB3.out.setCell tH _).setCell tH _).drew,rfl⟩
theorem oB {s:ByteArray}(w:World)(hs:s.size<=65536){ts:List Tkn}(h:Ev (dl s)= .ok ts):Calls Tryz.prog 10 #[.string s] w (Rn w (Bj (dl s))):=by
 have hlen:=(J0 _ (dl s) 1 1 ts (Ak _) h).2;have hpl:=Ln h;have hsh:=U0 h;rw[A4] at hlen;have hbig:ts.length<=1000000:=by omega
 have hcols:∀t∈ts,0<=t.col/\t.col<=1000000/\t.w.t.length<=1000000:=fun t ht=>by
  have h1:=hpl t ht;have h2:=hsh t ht;rw[A4] at h1 h2;omega
 obtain⟨W1,hW1⟩:∃W1,w.alloc (.cells #[.int .i64 0,.int .i64 0] 26)=W1:=⟨_,rfl⟩;have hb1:Below w.heap.size w W1:=by rw[←hW1];exact(Aq _ w).alloc (Ak _) _
 have hp1:=A1 w (.cells #[.int .i64 0,.int .i64 0] 26);rw[hW1] at hp1;have L1:=Ax (pW (s:=s) W1 hs h);have HB1:=Ax hb1;have HP1:=Ax hp1;have HL:=Ax h;have Hcols:=Ax hcols;have Hnam:=Ax (Vx h);clear h hb1 hp1 hcols hpl hsh hs;go_enter Tryz.func10,Tryz.ntmps10;go_wp2_with fail;refine L1.out.mono ?_;rintro e V2 ⟨tv,rfl,hrow,hb2⟩;have htk:=I8.of_row hrow;obtain⟨ta,tc,rfl⟩:=htk.form;have hp2:=(hb2.block _ (Ay HP1.out)).trans HP1.out;obtain⟨V3,hV3⟩:∃V3,V2.alloc (.cells #[.int .i64 0,.int .i64 0] 26)=V3:=⟨_,rfl⟩;have hb3:Below V2.heap.size V2 V3:=by rw[←hV3];exact(Aq _ V2).alloc (Ak _) _
 have hp4:=(hb3.block _ (Ay hp2)).trans hp2;have hB3:=HB1.out.trans ((hb2.trans (hb3.mono hb2.size)).mono HB1.out.size);have ht3:=htk.below hb3;have hpa:Calls Tryz.prog 33 #[.slice ta ts.length tc,.int .i64 0] V3 (Ru V3 ts 0 (A9 0 0 ts)):=oU ht3 Hnam.out hbig;have HPA:=Ax hpa;have HB3:=Ax hB3;have HP4:=Ax hp4;have HT3:=Ax ht3;clear hb2 hp2 hb3 hp4 hB3 ht3 hpa htk hrow L1 HP1;subst hV3;go_wp2_with fail;refine HPA.out.mono ?_;rintro e V4 hp;obtain⟨v,n,e0,rfl,hn,⟨va,vk,vc,rfl⟩,hmid,hb4⟩:=lQ (w:=w) HL.out hp HB3.out.size;have hB4:=HB3.out.trans (hb4.mono HB3.out.size);have hp5:=(hb4.block _ (Ay HP4.out)).trans HP4.out;have ht4:=HT3.out.below hb4;have HB4:=Ax hB4;have HP5:=Ax hp5;have HT4:=Ax ht4;obtain⟨x,hx⟩:∃x,Bj (dl s)=x:=⟨_,rfl⟩;rw[hx] at hmid;have HX:=Ax hx;clear hp hb4 hB4 hp5 ht4 HPA HP4 HT3 HL hx;obtain⟨y0,y1,yf⟩:=Bo HP5.out;have yf0:=yf 0;have yf1:=yf 1;clear yf;cases hmid with
 |tree a he hn' ht=>
  subst he;subst hn';have HT:=Ax ht;clear ht;go_wp2_with fail;refine Au (v:= .tuple #[.slice va vk vc,.agg #[.int .i64 0,.int .i64 0],.int .i64 0]) uO rfl ?_;exact zyp
 |more t he hn'=>
  obtain⟨hnl,hte⟩:=List.getElem?_eq_some_iff.1 hn';obtain⟨g,c,et,hg,t0,t1,t2,t3,t4,t5,t6⟩:=HT4.out.at hnl;injection et with e1 _ e3;subst e1;subst e3;rw[hte] at t5 t6;have i0:(0:Int)<=(n:Int):=by omega
  have i1:(n:Int)<(ts.length:Int):=by omega
  have i2:decide ((n:Int)<(ts.length:Int))=true:=by simp;omega
  have hgw:g<V4.drew.heap.size:=hg;subst he;clear t0 t1 t2 t3 t4 hte hn' hg;go_wp2_with fail;go_region;go_wp2_with fail;refine Au (v:= .tuple #[.slice none 0 0,.agg #[.int .i64 t.line,.int .i64 t.col],.int .i64 4]) uO rfl ?_;exact zxt
 |bad t he hn'=>
  obtain⟨hnl,hte⟩:=List.getElem?_eq_some_iff.1 hn';obtain⟨g,c,et,hg,t0,t1,t2,t3,t4,t5,t6⟩:=HT4.out.at hnl;injection et with e1 _ e3;subst e1;subst e3;rw[hte] at t5 t6;have i0:(0:Int)<=(n:Int):=by omega
  have i1:(n:Int)<(ts.length:Int):=by omega
  have i2:decide ((n:Int)<(ts.length:Int))=true:=by simp;omega
  have hgw:g<V4.drew.heap.size:=hg;have j1:(e0==0)=false:=by simpa using he
  have HE:=Ax he;clear he;clear t0 t1 t2 t3 t4 hte hn' hg;go_wp2_with fail;go_region;go_wp2_with fail;refine Au (v:= .tuple #[.slice none 0 0,.agg #[.int .i64 t.line,.int .i64 t.col],.int .i64 e0]) uO rfl ?_;exact zxt
 |end' he hn'=>
  subst hn';have hbe:=Yz HT4.out Hcols.out hbig;have j1:(e0==0)=false:=by simpa using he
  have Hbe:=Ax hbe;clear he hbe;go_wp2_with fail;refine Hbe.out.mono ?_;rintro e V5 ⟨rfl,hb5⟩;have hp6:=(hb5.block _ (Ay HP5.out)).trans HP5.out;obtain⟨y0,y1,yf⟩:=Bo hp6;have yf0:=yf 0;have yf1:=yf 1;have HB5:=Ax (HB4.out.trans (hb5.mono HB4.out.size));clear hp6 hb5 yf Hbe;go_wp2_with fail;refine Au (v:= .tuple #[.slice none 0 0,.agg #[.int .i64 (Fi ts).1,.int .i64 (Fi ts).2],.int .i64 e0]) uO rfl ?_;rw[HX.out];exact⟨(HB5.out.setCell tH _).setCell tH _,rfl⟩
theorem iH (s:ByteArray)(w:World)(hs:s.size<=65536):Calls Tryz.prog 10 #[.string s] w (Rn w (Bj (dl s))):=by
 cases h:Ev (dl s) with
 |error p=>exact oD w hs (a:=p.1) (b:=p.2.1) (q:=p.2.2) h
 |ok ts=>exact oB w hs h
open Go Go.RowKit Go.Lib Go.Sort Go.Shelf
def zOf:Except ((Int×Int)×Int) Ex->List Nz
 | .ok a=>(a.flat 0).map Nd.z
 | .error _=>[]
def pOf:Except ((Int×Int)×Int) Ex->(Int×Int)×Int
 | .ok _=>((0,0),0)
 | .error p=>p
theorem Rn.z {w w':World}{l:List UInt8}{e:Ending}(h:Rn w (Bj l) e w'):∃a k c,e= .returned (.tuple #[.slice a k c,.agg #[.int .i64 (pOf (Bj l)).1.1,.int .i64 (pOf (Bj l)).1.2],.int .i64 (pOf (Bj l)).2])/\TrZ w' (.slice a k c) (zOf (Bj l))/\Below w.heap.size w w':=by
 obtain⟨hb,h⟩:=h;cases hr:Bj l with
 |error p=>
  rw[hr] at h;exact⟨none,0,0,h,⟨Nat.zero_le _,none,0,rfl,fun i hi=>absurd hi (Nat.not_lt_zero _)⟩,hb⟩
 |ok a=>
  rw[hr] at h;obtain⟨v,he,ht⟩:=h;obtain⟨_,_,_,h60⟩:=D0 hr;have hz:=ht.z vO (U4 hr);obtain⟨_,a',c,hv,_⟩:=id hz;subst hv;exact⟨a',_,c,he,hz,hb⟩
def eS (w:World)(l:List Nz)(x y q:Int)(e:Ending)(w':World):Prop:=
 ∃a k c,e= .returned (.tuple #[.slice a k c,.agg #[.int .i64 x,.int .i64 y],.int .i64 q])/\TrZ w' (.slice a k c) l/\Below w.heap.size w w'
theorem Se {s:ByteArray}{x:Except ((Int×Int)×Int) Ex}(w:World)(hs:s.size<=65536)(h:Bj (dl s)=x):Calls Tryz.prog 10 #[.string s] w (eS w (zOf x) (pOf x).1.1 (pOf x).1.2 (pOf x).2):=
 (iH s w hs).mono fun e V hp=>by subst h;exact hp.z
end Go.Proofs.YtmpfilddeglgbaaGreatDoor
