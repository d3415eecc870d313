import Derived.Test.YtgfakdobajgnfaaGreatDoorQk31
import Derived.Test.YtgfakdobajgnfaaGreatDoorQk13
set_option maxRecDepth 100000
set_option maxHeartbeats 16000000
namespace Go.Proofs.YtgfakdobajgnfaaGreatDoor
open Go Go.RowKit Go.Lib
theorem Jq {w f:World}{B b d p:Nat}{X:List Nat}{o k:Value}{ts q:List Tkn}{t:Tkn}{c:List Nd}(r:B<=w.heap.size)(m:Below w.heap.size w f)(h:Cs w B X b o ts (t::q) d k c)(hd:Hd){cs:Array Value}(u:f.heap[p]? =some (.cells cs 43 (0,0)))(F:w.heap.size<=p):
 (f.setCell ⟨b,1,none⟩ (.int .i64 (((ts.length - (q.length+1):Nat):Int)+1))).heap[p]? =some (.cells cs 43 (0,0))/\
 Calls Tryz.prog 166 #[.pointer (some ⟨b,0,none⟩),hdK hd (.slice none 0 0)] (f.setCell ⟨b,1,none⟩ (.int .i64 (((ts.length - (q.length+1):Nat):Int)+1))) fun e w'=>e= .returned (.int .i64 (c.length:Int))/\∃i,Cs w' B X b o ts q d i (c++[⟨hd,[]⟩])/\Rch b w k w' i:=by
 have x:=h.below m;have n:=A3 f b 1 (.int .i64 (((ts.length - (q.length+1):Nat):Int)+1));have y:=x.step;have A:=Ay h.blk;have j:=h.few;simp only[Aa] at j;refine⟨n.cells_of u rM,?_⟩;have C:=Al r (Al m.size n.size);refine(Lf y rF C hd [] none 0 (World.ownsRow_nil _ _ _ _) (fun g e=>by cases e)).mono ?_;rintro e w' ⟨rfl,v,D,E⟩;exact⟨rfl,v,D,((Rch.of_below k m).trans (Rch.of_only k n)).trans E⟩
theorem fH {s:List UInt8}{o:Int}{l m:Nat}(h:Di s=some (o,l,m)):o≠0/\1<=m/\m<=8:=by
 unfold Di at h
 repeat' split at h
 all_goals first|(injection h with h;injection h with h1 h;injection h with h2 h3;subst h1 h2 h3;decide)|cases h
theorem eG {k B b:Nat}{X:List Nat}{vl:Value}{ts:List Tkn}(ih:Vb k B b vl ts){d:Nat}{r:List Tkn}{w:World}{Y:Value}{C:List Nd}(hk:Bu (.lvl 7) r<=k)(h:Cs w B X b vl ts r d Y C)(hB:B<=w.heap.size):
 Calls Tryz.prog 162 #[.pointer (some ⟨b,0,none⟩)] w (Bw w B X b vl ts r d Y C (Bc 7 d r)):=by
 obtain⟨c0,c1,c2,c3,c4,c5,cf⟩:=Be h.blk;have hl:=h.suf.len;have wO:=h.big;have vR:=Ay h.blk;cases r with
 |nil=>
  obtain⟨va,vc,rfl⟩:=h.toks.form;have i0:(ts.length:Int)<=(((ts.length - ([]:List Tkn).length:Nat):Int)):=by simp
  have i1:decide ((ts.length:Int)<=(((ts.length - ([]:List Tkn).length:Nat):Int)))=true:=by simp
  have i3:decide (ts.length<=ts.length - ([]:List Tkn).length)=true:=by simp
  have vS:=fun nq=>Ax (Ip (h.below (A8 (Aq w.heap.size w) nq)) 4 rH)
  clear h hl cf ih;go_enter Tryz.func162,Tryz.ntmps162;go_wp2_with fail;go_quiet (fail);have HS:=vS nq;clear vS;go_wp2_with fail;refine HS.out.mono ?_;rintro e V ⟨rfl,hx,ho,-⟩;have HF:=Ax (show Bw w B X b (.slice va ts.length vc) ts [] d Y C (Bc 7 d []) (.returned (.int .i64 (-1))) V from⟨-1,Y,rfl,(Rch.of_below Y (A8 (Aq w.heap.size w) nq)).trans (Rch.of_only Y ho),by rw[B3];exact hx⟩);clear hx ho HS;exact zzl
 |cons t q=>
  obtain⟨g,c,rfl,hg,wI,t0,t1,t2,t3,t4,t5,t6⟩:=h.head;obtain⟨n,hn⟩:∃n,ts.length - (t::q).length=n:=⟨_,rfl⟩;rw[hn] at c1 wI t0 t1 t2 t3 t4 t5 t6;have i0:(n:Int)<(ts.length:Int):=by omega
  have i1:decide ((ts.length:Int)<=(n:Int))=false:=by simp;omega
  have i3:decide (ts.length<=n)=false:=by simp;omega
  have i2:(0:Int)<=(n:Int):=by omega
  have H:=Ax h;have Hn:=Ax hn;clear h hl hn cf;go_enter Tryz.func162,Tryz.ntmps162;go_wp2_with fail;go_quiet (fail);go_wp2_with fail;obtain⟨V,hV⟩:∃V,w.drewN nq=V:=⟨_,rfl⟩;have vG:Below w.heap.size w V:=by rw[←hV];exact A8 (Aq _ w) nq
  have hr:=H.out.below vG;rw[hV];clear c0 c1 c2 c3 c4 c5 t0 t1 t2 t3 t4 t5 t6 hV;obtain⟨c0,c1,c2,c3,c4,c5,cf⟩:=Be hr.blk;obtain⟨g',c',e,vH,_,t0,t1,t2,t3,t4,t5,t6⟩:=hr.head;injection e with e1 _ e3;injection e1 with e1;injection e1 with e1;subst e1;subst e3;rw[Hn.out] at c1 t0 t1 t2 t3 t4 t5 t6;have vR:b<V.drew.heap.size:=Ay hr.blk;have wJ:g<V.drew.heap.size:=vH;have vT:b<V.heap.size:=Ay hr.blk;have vU:g<V.heap.size:=vH;obtain⟨⟨tk,tt,f,u,v⟩,x,y⟩:=t;simp only at t0 t1 t2 t3 t4 t5 t6;have HB:=Ax vG;clear hr vG cf hg vH;go_region;obtain⟨W1,uU⟩:∃W1,(V.alloc (.cells #[.int .u8 tk,.string ⟨tt.toArray⟩,.int .u8 f,.int .i64 u,.string ⟨v.toArray⟩,.int .i64 x,.int .i64 y] 94)).drew=W1:=⟨_,rfl⟩;have vV:Below V.heap.size V W1:=by rw[←uU];exact((Aq _ V).alloc (Ak _) _).drew
  have uV:W1.heap.size=V.heap.size+1:=by rw[←uU];show(V.alloc _).heap.size=_;simp
  have vW:W1.heap[V.heap.size]? =some (.cells #[.int .u8 tk,.string ⟨tt.toArray⟩,.int .u8 f,.int .i64 u,.string ⟨v.toArray⟩,.int .i64 x,.int .i64 y] 94 (0,0)):=by rw[←uU];exact Az V _
  rw[uU];have vX:=HB.out.trans (vV.mono HB.out.size);have wK:w.heap.size<=V.heap.size:=HB.out.size;have uW:=Ax vW;have vI:=Ax vX;obtain⟨p,hp⟩:∃p,V.heap.size=p:=⟨_,rfl⟩;rw[hp] at uW uV wK ⊢;clear vV vW vX uU c0 c1 c2 c3 c4 c5 t0 t1 t2 t3 t4 t5 t6 vR wJ vT vU i0 i1 i2 i3 HB hp;obtain⟨u0,u1,u2,u3,u4,u5,u6⟩:=Gf uW.out;have vC:=Az W1 (.cells #[.int .u8 1,.int .u8 f,.int .i64 u,.string ⟨v.toArray⟩,.string ⟨#[]⟩,.slice none 0 0,.int .i64 x,.int .i64 y] 43);have vD:Below W1.heap.size W1 (W1.alloc (.cells #[.int .u8 1,.int .u8 f,.int .i64 u,.string ⟨v.toArray⟩,.string ⟨#[]⟩,.slice none 0 0,.int .i64 x,.int .i64 y] 43)):=(Aq _ W1).alloc (Ak _) _;obtain⟨W2,vE⟩:∃W2,W1.alloc (.cells #[.int .u8 1,.int .u8 f,.int .i64 u,.string ⟨v.toArray⟩,.string ⟨#[]⟩,.slice none 0 0,.int .i64 x,.int .i64 y] 43)=W2:=⟨_,rfl⟩;rw[vE] at vC vD;rw[uV] at vC;have wR:W2.heap.size=p+2:=by rw[←vE];simp [uV]
  have wL:=Ax vE;have wM:=Ax ((vD.block _ (Ay uW.out)).trans uW.out);have a8:=Ax (vI.out.trans (vD.mono vI.out.size));have i6:=Ax vC;clear vE vC vD uW vI;go_upto_region 6 with fail
  rw[wL.out]
  first|rw[uV]|skip
  clear u0 u1 u2 u3 u4 u5 u6 uV;obtain⟨f0,f1,f2,f3,f4,f5,f6⟩:=Gf wM.out;by_cases hk4:tk=4\/tk=5\/tk=6
  ·rcases hk4 with rfl|rfl|rfl
   ·have HN:=Ax i6.out;have M:=a8;go_upto_region 34 with fail
    have R:Hid (Bc 7 d (⟨⟨4,tt,f,u,v⟩,x,y⟩::q)= .ok (.mk ⟨1,(f,u,v),[],x,y⟩ [],q)):=Ax tF;obtain⟨D,E⟩:=Jq hB M.out H.out ⟨1,(f,u,v),[],x,y⟩ HN.out rF;obtain⟨k0,k1,k2,k3,k4,k5,U⟩:=Be (H.out.below M.out).blk;have b7:=U 1;obtain⟨W4,F⟩:∃W4,W2.setCell ⟨b,1,none⟩ (.int .i64 (((ts.length - (q.length+1):Nat):Int)+1))=W4:=⟨_,rfl⟩;rw[F] at D E;have N:Hid (Calls Tryz.prog 166 #[.pointer (some ⟨b,0,none⟩),.agg #[.int .u8 1,.int .u8 f,.int .i64 u,.string ⟨v.toArray⟩,.string ⟨#[]⟩,.slice none 0 0,.int .i64 x,.int .i64 y]] W4 _):=Ax E;have b8:=Ax D;have O:=Ax F;clear D E F U HN;go_upto_region 35 with fail
    first|rw[O.out]|rw[Aa,O.out]
    clear k0 k1 k2 k3 k4 k5 b7;obtain⟨m0,m1,m2,m3,m4,m5,m6,m7,_⟩:=E7 b8.out;go_wp2_with fail;refine N.out.mono ?_;rintro e V6 ⟨rfl,v6,G,A⟩;have HF:=Ax (show Bw w B X b (.slice (some ⟨g,0,none⟩) ts.length c) ts (⟨⟨4,tt,f,u,v⟩,x,y⟩::q) d Y C (Bc 7 d (⟨⟨4,tt,f,u,v⟩,x,y⟩::q)) (.returned (.int .i64 (C.length:Int))) V6 from⟨_,v6,rfl,A,by rw[R.out];exact⟨by simp [Ex.size,Bs],by simpa[Ex.flat,Bz,Db] using G⟩⟩);clear G A N R m0 m1 m2 m3 m4 m5 m6 m7;exact zzl
   ·have HN:=Ax i6.out;have M:=a8;go_upto_region 34 with fail
    have R:Hid (Bc 7 d (⟨⟨5,tt,f,u,v⟩,x,y⟩::q)= .ok (.mk ⟨1,(f,u,v),[],x,y⟩ [],q)):=Ax tF;obtain⟨D,E⟩:=Jq hB M.out H.out ⟨1,(f,u,v),[],x,y⟩ HN.out rF;obtain⟨k0,k1,k2,k3,k4,k5,U⟩:=Be (H.out.below M.out).blk;have b7:=U 1;obtain⟨W4,F⟩:∃W4,W2.setCell ⟨b,1,none⟩ (.int .i64 (((ts.length - (q.length+1):Nat):Int)+1))=W4:=⟨_,rfl⟩;rw[F] at D E;have N:Hid (Calls Tryz.prog 166 #[.pointer (some ⟨b,0,none⟩),.agg #[.int .u8 1,.int .u8 f,.int .i64 u,.string ⟨v.toArray⟩,.string ⟨#[]⟩,.slice none 0 0,.int .i64 x,.int .i64 y]] W4 _):=Ax E;have b8:=Ax D;have O:=Ax F;clear D E F U HN;go_upto_region 35 with fail
    first|rw[O.out]|rw[Aa,O.out]
    clear k0 k1 k2 k3 k4 k5 b7;obtain⟨m0,m1,m2,m3,m4,m5,m6,m7,_⟩:=E7 b8.out;go_wp2_with fail;refine N.out.mono ?_;rintro e V6 ⟨rfl,v6,G,A⟩;have HF:=Ax (show Bw w B X b (.slice (some ⟨g,0,none⟩) ts.length c) ts (⟨⟨5,tt,f,u,v⟩,x,y⟩::q) d Y C (Bc 7 d (⟨⟨5,tt,f,u,v⟩,x,y⟩::q)) (.returned (.int .i64 (C.length:Int))) V6 from⟨_,v6,rfl,A,by rw[R.out];exact⟨by simp [Ex.size,Bs],by simpa[Ex.flat,Bz,Db] using G⟩⟩);clear G A N R m0 m1 m2 m3 m4 m5 m6 m7;exact zzl
   have HN:=Ax i6.out;have M:=a8;go_upto_region 34 with fail
   have R:Hid (Bc 7 d (⟨⟨6,tt,f,u,v⟩,x,y⟩::q)= .ok (.mk ⟨1,(f,u,v),[],x,y⟩ [],q)):=Ax tF;obtain⟨D,E⟩:=Jq hB M.out H.out ⟨1,(f,u,v),[],x,y⟩ HN.out rF;obtain⟨k0,k1,k2,k3,k4,k5,U⟩:=Be (H.out.below M.out).blk;have b7:=U 1;obtain⟨W4,F⟩:∃W4,W2.setCell ⟨b,1,none⟩ (.int .i64 (((ts.length - (q.length+1):Nat):Int)+1))=W4:=⟨_,rfl⟩;rw[F] at D E;have N:Hid (Calls Tryz.prog 166 #[.pointer (some ⟨b,0,none⟩),.agg #[.int .u8 1,.int .u8 f,.int .i64 u,.string ⟨v.toArray⟩,.string ⟨#[]⟩,.slice none 0 0,.int .i64 x,.int .i64 y]] W4 _):=Ax E;have b8:=Ax D;have O:=Ax F;clear D E F U HN;go_upto_region 35 with fail
   first|rw[O.out]|rw[Aa,O.out]
   clear k0 k1 k2 k3 k4 k5 b7;obtain⟨m0,m1,m2,m3,m4,m5,m6,m7,_⟩:=E7 b8.out;go_wp2_with fail;refine N.out.mono ?_;rintro e V6 ⟨rfl,v6,G,A⟩;have HF:=Ax (show Bw w B X b (.slice (some ⟨g,0,none⟩) ts.length c) ts (⟨⟨6,tt,f,u,v⟩,x,y⟩::q) d Y C (Bc 7 d (⟨⟨6,tt,f,u,v⟩,x,y⟩::q)) (.returned (.int .i64 (C.length:Int))) V6 from⟨_,v6,rfl,A,by rw[R.out];exact⟨by simp [Ex.size,Bs],by simpa[Ex.flat,Bz,Db] using G⟩⟩);clear G A N R m0 m1 m2 m3 m4 m5 m6 m7;exact zzl
  by_cases hk2:tk=2
  ·subst hk2;clear hk4;obtain⟨n0,n1,n2,n3,n4,n5,n6,n7,I⟩:=E7 i6.out;have p8:=I 0;have r7:=I 1;have r8:=I 2;have r9:=I 3;have s7:=I 4;have s8:=I 5;have s9:=I 6;have w7:=I 7;clear I;obtain⟨W3,L⟩:∃W3,((((((((W2.setCell ⟨p+1,0,none⟩ (.int .u8 2)).setCell ⟨p+1,1,none⟩ (.int .u8 0)).setCell ⟨p+1,2,none⟩ (.int .i64 0)).setCell ⟨p+1,3,none⟩ (.string ⟨#[]⟩)).setCell ⟨p+1,4,none⟩ (.string ⟨tt.toArray⟩)).setCell ⟨p+1,5,none⟩ (.slice none 0 0)).setCell ⟨p+1,6,none⟩ (.int .i64 x)).setCell ⟨p+1,7,none⟩ (.int .i64 y))=W3:=⟨_,rfl⟩;have f7:Bb [p+1] W2 W3:=by rw[←L];exact((((((((A3 W2 _ _ _).setCell (.inl rI) _).setCell (.inl rI) _).setCell (.inl rI) _).setCell (.inl rI) _).setCell (.inl rI) _).setCell (.inl rI) _).setCell (.inl rI) _)
   have f8:W3.heap[p+1]? =some (.cells #[.int .u8 2,.int .u8 0,.int .i64 0,.string ⟨#[]⟩,.string ⟨tt.toArray⟩,.slice none 0 0,.int .i64 x,.int .i64 y] 43 (0,0)):=by rw[←L];exact(A2 (A2 (A2 (A2 (A2 (A2 (A2 (A2 i6.out))))))))
   have HN:=Ax f8;have w8:=Ax L;have M:=Ax (Bq a8.out f7 rM rF);clear L f8 f7;go_upto_region 34 with fail
   rw[w8.out];clear n0 n1 n2 n3 n4 n5 n6 n7 p8 r7 r8 r9 s7 s8 s9 w7;have R:Hid (Bc 7 d (⟨⟨2,tt,f,u,v⟩,x,y⟩::q)= .ok (.mk ⟨2,v0,tt,x,y⟩ [],q)):=Ax tF;obtain⟨D,E⟩:=Jq hB M.out H.out ⟨2,v0,tt,x,y⟩ HN.out rF;obtain⟨k0,k1,k2,k3,k4,k5,U⟩:=Be (H.out.below M.out).blk;have b7:=U 1;obtain⟨W4,F⟩:∃W4,W3.setCell ⟨b,1,none⟩ (.int .i64 (((ts.length - (q.length+1):Nat):Int)+1))=W4:=⟨_,rfl⟩;rw[F] at D E;have N:Hid (Calls Tryz.prog 166 #[.pointer (some ⟨b,0,none⟩),.agg #[.int .u8 2,.int .u8 0,.int .i64 0,.string ⟨#[]⟩,.string ⟨tt.toArray⟩,.slice none 0 0,.int .i64 x,.int .i64 y]] W4 _):=Ax E;have b8:=Ax D;have O:=Ax F;clear D E F U HN;go_upto_region 35 with fail
   first|rw[O.out]|rw[Aa,O.out]
   clear k0 k1 k2 k3 k4 k5 b7;obtain⟨m0,m1,m2,m3,m4,m5,m6,m7,_⟩:=E7 b8.out;go_wp2_with fail;refine N.out.mono ?_;rintro e V6 ⟨rfl,v6,G,A⟩;have HF:=Ax (show Bw w B X b (.slice (some ⟨g,0,none⟩) ts.length c) ts (⟨⟨2,tt,f,u,v⟩,x,y⟩::q) d Y C (Bc 7 d (⟨⟨2,tt,f,u,v⟩,x,y⟩::q)) (.returned (.int .i64 (C.length:Int))) V6 from⟨_,v6,rfl,A,by rw[R.out];exact⟨by simp [Ex.size,Bs],by simpa[Ex.flat,Bz,Db] using G⟩⟩);clear G A N R m0 m1 m2 m3 m4 m5 m6 m7;exact zzl
  by_cases hk3:tk=3
  ·subst hk3;clear hk4 hk2;obtain⟨n0,n1,n2,n3,n4,n5,n6,n7,I⟩:=E7 i6.out;have p8:=I 0;have r7:=I 1;have r8:=I 2;have r9:=I 3;have s7:=I 4;have s8:=I 5;have s9:=I 6;have w7:=I 7;clear I;obtain⟨W3,L⟩:∃W3,((((((((W2.setCell ⟨p+1,0,none⟩ (.int .u8 3)).setCell ⟨p+1,1,none⟩ (.int .u8 0)).setCell ⟨p+1,2,none⟩ (.int .i64 0)).setCell ⟨p+1,3,none⟩ (.string ⟨#[]⟩)).setCell ⟨p+1,4,none⟩ (.string ⟨#[]⟩)).setCell ⟨p+1,5,none⟩ (.slice none 0 0)).setCell ⟨p+1,6,none⟩ (.int .i64 x)).setCell ⟨p+1,7,none⟩ (.int .i64 y))=W3:=⟨_,rfl⟩;have f7:Bb [p+1] W2 W3:=by rw[←L];exact((((((((A3 W2 _ _ _).setCell (.inl rI) _).setCell (.inl rI) _).setCell (.inl rI) _).setCell (.inl rI) _).setCell (.inl rI) _).setCell (.inl rI) _).setCell (.inl rI) _)
   have f8:W3.heap[p+1]? =some (.cells #[.int .u8 3,.int .u8 0,.int .i64 0,.string ⟨#[]⟩,.string ⟨#[]⟩,.slice none 0 0,.int .i64 x,.int .i64 y] 43 (0,0)):=by rw[←L];exact(A2 (A2 (A2 (A2 (A2 (A2 (A2 (A2 i6.out))))))))
   have HN:=Ax f8;have w8:=Ax L;have M:=Ax (Bq a8.out f7 rM rF);clear L f8 f7;go_upto_region 34 with fail
   rw[w8.out];clear n0 n1 n2 n3 n4 n5 n6 n7 p8 r7 r8 r9 s7 s8 s9 w7;have R:Hid (Bc 7 d (⟨⟨3,tt,f,u,v⟩,x,y⟩::q)= .ok (.mk ⟨3,v0,[],x,y⟩ [],q)):=Ax tF;obtain⟨D,E⟩:=Jq hB M.out H.out ⟨3,v0,[],x,y⟩ HN.out rF;obtain⟨k0,k1,k2,k3,k4,k5,U⟩:=Be (H.out.below M.out).blk;have b7:=U 1;obtain⟨W4,F⟩:∃W4,W3.setCell ⟨b,1,none⟩ (.int .i64 (((ts.length - (q.length+1):Nat):Int)+1))=W4:=⟨_,rfl⟩;rw[F] at D E;have N:Hid (Calls Tryz.prog 166 #[.pointer (some ⟨b,0,none⟩),.agg #[.int .u8 3,.int .u8 0,.int .i64 0,.string ⟨#[]⟩,.string ⟨#[]⟩,.slice none 0 0,.int .i64 x,.int .i64 y]] W4 _):=Ax E;have b8:=Ax D;have O:=Ax F;clear D E F U HN;go_upto_region 35 with fail
   first|rw[O.out]|rw[Aa,O.out]
   clear k0 k1 k2 k3 k4 k5 b7;obtain⟨m0,m1,m2,m3,m4,m5,m6,m7,_⟩:=E7 b8.out;go_wp2_with fail;refine N.out.mono ?_;rintro e V6 ⟨rfl,v6,G,A⟩;have HF:=Ax (show Bw w B X b (.slice (some ⟨g,0,none⟩) ts.length c) ts (⟨⟨3,tt,f,u,v⟩,x,y⟩::q) d Y C (Bc 7 d (⟨⟨3,tt,f,u,v⟩,x,y⟩::q)) (.returned (.int .i64 (C.length:Int))) V6 from⟨_,v6,rfl,A,by rw[R.out];exact⟨by simp [Ex.size,Bs],by simpa[Ex.flat,Bz,Db] using G⟩⟩);clear G A N R m0 m1 m2 m3 m4 m5 m6 m7;exact zzl
  by_cases hk1:tk=1
  ·subst hk1;clear hk4 hk2 hk3;obtain⟨Z,hZ⟩:∃Z:ByteArray,⟨tt.toArray⟩=Z:=⟨_,rfl⟩;have f9:dl Z=tt:=by rw[←hZ,Da]
   have hC:=Yj tt W2;rw[hZ] at f1 hC;cases hcl:Di tt with
   |some c3=>
    obtain⟨o,l,m⟩:=c3;obtain⟨ho,vY,vZ⟩:=fH hcl;rw[hcl] at hC;simp only[Option.getD_some] at hC;have HC:=Ax hC;have HL:=Ax (show Bc 7 d (⟨⟨1,tt,f,u,v⟩,x,y⟩::q)=Cc d q (fun q'=>Gj ⟨o,l,m,x,y⟩ [] (d+1) q') by rw[B3];simp [Dk,Eh,hcl]);have vF:=Ax (dR ih hk (H.out.below a8.out) (Al hB a8.out.size) ⟨o,l,m,x,y⟩ vY vZ rfl rfl);have vF:Hid (Calls Tryz.prog 216 #[.pointer (some ⟨b,0,none⟩),.int .u8 o,.int .i64 (l:Int),.int .i64 (m:Int)] W2 _):=Ax vF.out;have o0:(o==0)=false:=Af.2 ho;have o1:(o !=0)=true:=by rw[bne,o0];rfl
    clear hC hZ f9 hcl ho vY vZ;go_wp2_with fail;refine HC.out.mono ?_;rintro e V3 ⟨rfl,rfl⟩;clear HC;go_wp2_with fail;refine vF.out.mono ?_;rintro e V4 ⟨z4,v4,rfl,wA,wB⟩;have HF:=Ax (show Bw w B X b (.slice (some ⟨g,0,none⟩) ts.length c) ts (⟨⟨1,tt,f,u,v⟩,x,y⟩::q) d Y C (Bc 7 d (⟨⟨1,tt,f,u,v⟩,x,y⟩::q)) (.returned (.int .i64 z4)) V4 from⟨z4,v4,rfl,(Rch.of_below Y a8.out).trans wA,by rw[HL.out];exact wB⟩);clear wA wB vF;exact zzl
   |none=>
    rw[hcl] at hC;simp only[Option.getD_none] at hC;have HC:=Ax hC;have wN:=Ax hcl;clear hC hZ hcl;by_cases hw0:tt=[116,114,117,101]
    ·have s0:(Z.toList==[116,114,117,101])=true:=by rw[A0,f9,hw0];rfl
     have HL:=Ax (show Bc 7 d (⟨⟨1,tt,f,u,v⟩,x,y⟩::q)= .ok (.mk ⟨1,(4,1,[]),[],x,y⟩ [],q) by rw[B3,hw0];rfl);clear hw0 f9;obtain⟨n0,n1,n2,n3,n4,n5,n6,n7,I⟩:=E7 i6.out;have p8:=I 0;have r7:=I 1;have r8:=I 2;have r9:=I 3;have s7:=I 4;have s8:=I 5;have s9:=I 6;have w7:=I 7;clear I;obtain⟨W3,L⟩:∃W3,(((W2.setCell ⟨p+1,1,none⟩ (.int .u8 4)).setCell ⟨p+1,2,none⟩ (.int .i64 1)).setCell ⟨p+1,3,none⟩ (.string ⟨#[]⟩))=W3:=⟨_,rfl⟩;have f7:Bb [p+1] W2 W3:=by rw[←L];exact(((A3 W2 _ _ _).setCell (.inl rI) _).setCell (.inl rI) _)
     have f8:W3.heap[p+1]? =some (.cells #[.int .u8 1,.int .u8 4,.int .i64 1,.string ⟨#[]⟩,.string ⟨#[]⟩,.slice none 0 0,.int .i64 x,.int .i64 y] 43 (0,0)):=by rw[←L];exact(A2 (A2 (A2 i6.out)))
     have HN:=Ax f8;have w8:=Ax L;have M:=Ax (Bq a8.out f7 rM rF);clear L f8 f7;go_wp2_with fail;refine HC.out.mono ?_;rintro e V3 ⟨rfl,rfl⟩;clear HC;go_upto_region 34 with fail
     rw[w8.out];clear n0 n1 n2 n3 n4 n5 n6 n7 p8 r7 r8 r9 s7 s8 s9 w7;clear s0;have R:Hid (Bc 7 d (⟨⟨1,tt,f,u,v⟩,x,y⟩::q)= .ok (.mk ⟨1,(4,1,[]),[],x,y⟩ [],q)):=Ax (HL.out);obtain⟨D,E⟩:=Jq hB M.out H.out ⟨1,(4,1,[]),[],x,y⟩ HN.out rF;obtain⟨k0,k1,k2,k3,k4,k5,U⟩:=Be (H.out.below M.out).blk;have b7:=U 1;obtain⟨W4,F⟩:∃W4,W3.setCell ⟨b,1,none⟩ (.int .i64 (((ts.length - (q.length+1):Nat):Int)+1))=W4:=⟨_,rfl⟩;rw[F] at D E;have N:Hid (Calls Tryz.prog 166 #[.pointer (some ⟨b,0,none⟩),.agg #[.int .u8 1,.int .u8 4,.int .i64 1,.string ⟨#[]⟩,.string ⟨#[]⟩,.slice none 0 0,.int .i64 x,.int .i64 y]] W4 _):=Ax E;have b8:=Ax D;have O:=Ax F;clear D E F U HN;go_upto_region 35 with fail
     first|rw[O.out]|rw[Aa,O.out]
     clear k0 k1 k2 k3 k4 k5 b7;obtain⟨m0,m1,m2,m3,m4,m5,m6,m7,_⟩:=E7 b8.out;go_wp2_with fail;refine N.out.mono ?_;rintro e V6 ⟨rfl,v6,G,A⟩;have HF:=Ax (show Bw w B X b (.slice (some ⟨g,0,none⟩) ts.length c) ts (⟨⟨1,tt,f,u,v⟩,x,y⟩::q) d Y C (Bc 7 d (⟨⟨1,tt,f,u,v⟩,x,y⟩::q)) (.returned (.int .i64 (C.length:Int))) V6 from⟨_,v6,rfl,A,by rw[R.out];exact⟨by simp [Ex.size,Bs],by simpa[Ex.flat,Bz,Db] using G⟩⟩);clear G A N R m0 m1 m2 m3 m4 m5 m6 m7;exact zzl
    by_cases hw1:tt=[102,97,108,115,101]
    ·have s0:(Z.toList==[116,114,117,101])=false:=by rw[A0,f9,hw1];rfl
     have s1:(Z.toList==[102,97,108,115,101])=true:=by rw[A0,f9,hw1];rfl
     have HL:=Ax (show Bc 7 d (⟨⟨1,tt,f,u,v⟩,x,y⟩::q)= .ok (.mk ⟨1,(4,0,[]),[],x,y⟩ [],q) by rw[B3,hw1];rfl);clear hw1 f9;clear hw0;obtain⟨n0,n1,n2,n3,n4,n5,n6,n7,I⟩:=E7 i6.out;have p8:=I 0;have r7:=I 1;have r8:=I 2;have r9:=I 3;have s7:=I 4;have s8:=I 5;have s9:=I 6;have w7:=I 7;clear I;obtain⟨W3,L⟩:∃W3,(((W2.setCell ⟨p+1,1,none⟩ (.int .u8 4)).setCell ⟨p+1,2,none⟩ (.int .i64 0)).setCell ⟨p+1,3,none⟩ (.string ⟨#[]⟩))=W3:=⟨_,rfl⟩;have f7:Bb [p+1] W2 W3:=by rw[←L];exact(((A3 W2 _ _ _).setCell (.inl rI) _).setCell (.inl rI) _)
     have f8:W3.heap[p+1]? =some (.cells #[.int .u8 1,.int .u8 4,.int .i64 0,.string ⟨#[]⟩,.string ⟨#[]⟩,.slice none 0 0,.int .i64 x,.int .i64 y] 43 (0,0)):=by rw[←L];exact(A2 (A2 (A2 i6.out)))
     have HN:=Ax f8;have w8:=Ax L;have M:=Ax (Bq a8.out f7 rM rF);clear L f8 f7;go_wp2_with fail;refine HC.out.mono ?_;rintro e V3 ⟨rfl,rfl⟩;clear HC;go_upto_region 34 with fail
     rw[w8.out];clear n0 n1 n2 n3 n4 n5 n6 n7 p8 r7 r8 r9 s7 s8 s9 w7;clear s0 s1;have R:Hid (Bc 7 d (⟨⟨1,tt,f,u,v⟩,x,y⟩::q)= .ok (.mk ⟨1,(4,0,[]),[],x,y⟩ [],q)):=Ax (HL.out);obtain⟨D,E⟩:=Jq hB M.out H.out ⟨1,(4,0,[]),[],x,y⟩ HN.out rF;obtain⟨k0,k1,k2,k3,k4,k5,U⟩:=Be (H.out.below M.out).blk;have b7:=U 1;obtain⟨W4,F⟩:∃W4,W3.setCell ⟨b,1,none⟩ (.int .i64 (((ts.length - (q.length+1):Nat):Int)+1))=W4:=⟨_,rfl⟩;rw[F] at D E;have N:Hid (Calls Tryz.prog 166 #[.pointer (some ⟨b,0,none⟩),.agg #[.int .u8 1,.int .u8 4,.int .i64 0,.string ⟨#[]⟩,.string ⟨#[]⟩,.slice none 0 0,.int .i64 x,.int .i64 y]] W4 _):=Ax E;have b8:=Ax D;have O:=Ax F;clear D E F U HN;go_upto_region 35 with fail
     first|rw[O.out]|rw[Aa,O.out]
     clear k0 k1 k2 k3 k4 k5 b7;obtain⟨m0,m1,m2,m3,m4,m5,m6,m7,_⟩:=E7 b8.out;go_wp2_with fail;refine N.out.mono ?_;rintro e V6 ⟨rfl,v6,G,A⟩;have HF:=Ax (show Bw w B X b (.slice (some ⟨g,0,none⟩) ts.length c) ts (⟨⟨1,tt,f,u,v⟩,x,y⟩::q) d Y C (Bc 7 d (⟨⟨1,tt,f,u,v⟩,x,y⟩::q)) (.returned (.int .i64 (C.length:Int))) V6 from⟨_,v6,rfl,A,by rw[R.out];exact⟨by simp [Ex.size,Bs],by simpa[Ex.flat,Bz,Db] using G⟩⟩);clear G A N R m0 m1 m2 m3 m4 m5 m6 m7;exact zzl
    by_cases hw2:tt=[110,117,108,108]
    ·have s0:(Z.toList==[116,114,117,101])=false:=by rw[A0,f9,hw2];rfl
     have s1:(Z.toList==[102,97,108,115,101])=false:=by rw[A0,f9,hw2];rfl
     have s2:(Z.toList==[110,117,108,108])=true:=by rw[A0,f9,hw2];rfl
     have HL:=Ax (show Bc 7 d (⟨⟨1,tt,f,u,v⟩,x,y⟩::q)= .ok (.mk ⟨1,(0,0,[]),[],x,y⟩ [],q) by rw[B3,hw2];rfl);clear hw2 f9;clear hw0 hw1;obtain⟨n0,n1,n2,n3,n4,n5,n6,n7,I⟩:=E7 i6.out;have p8:=I 0;have r7:=I 1;have r8:=I 2;have r9:=I 3;have s7:=I 4;have s8:=I 5;have s9:=I 6;have w7:=I 7;clear I;obtain⟨W3,L⟩:∃W3,(((W2.setCell ⟨p+1,1,none⟩ (.int .u8 0)).setCell ⟨p+1,2,none⟩ (.int .i64 0)).setCell ⟨p+1,3,none⟩ (.string ⟨#[]⟩))=W3:=⟨_,rfl⟩;have f7:Bb [p+1] W2 W3:=by rw[←L];exact(((A3 W2 _ _ _).setCell (.inl rI) _).setCell (.inl rI) _)
     have f8:W3.heap[p+1]? =some (.cells #[.int .u8 1,.int .u8 0,.int .i64 0,.string ⟨#[]⟩,.string ⟨#[]⟩,.slice none 0 0,.int .i64 x,.int .i64 y] 43 (0,0)):=by rw[←L];exact(A2 (A2 (A2 i6.out)))
     have HN:=Ax f8;have w8:=Ax L;have M:=Ax (Bq a8.out f7 rM rF);clear L f8 f7;go_wp2_with fail;refine HC.out.mono ?_;rintro e V3 ⟨rfl,rfl⟩;clear HC;go_upto_region 34 with fail
     rw[w8.out];clear n0 n1 n2 n3 n4 n5 n6 n7 p8 r7 r8 r9 s7 s8 s9 w7;clear s0 s1 s2;have R:Hid (Bc 7 d (⟨⟨1,tt,f,u,v⟩,x,y⟩::q)= .ok (.mk ⟨1,(0,0,[]),[],x,y⟩ [],q)):=Ax (HL.out);obtain⟨D,E⟩:=Jq hB M.out H.out ⟨1,(0,0,[]),[],x,y⟩ HN.out rF;obtain⟨k0,k1,k2,k3,k4,k5,U⟩:=Be (H.out.below M.out).blk;have b7:=U 1;obtain⟨W4,F⟩:∃W4,W3.setCell ⟨b,1,none⟩ (.int .i64 (((ts.length - (q.length+1):Nat):Int)+1))=W4:=⟨_,rfl⟩;rw[F] at D E;have N:Hid (Calls Tryz.prog 166 #[.pointer (some ⟨b,0,none⟩),.agg #[.int .u8 1,.int .u8 0,.int .i64 0,.string ⟨#[]⟩,.string ⟨#[]⟩,.slice none 0 0,.int .i64 x,.int .i64 y]] W4 _):=Ax E;have b8:=Ax D;have O:=Ax F;clear D E F U HN;go_upto_region 35 with fail
     first|rw[O.out]|rw[Aa,O.out]
     clear k0 k1 k2 k3 k4 k5 b7;obtain⟨m0,m1,m2,m3,m4,m5,m6,m7,_⟩:=E7 b8.out;go_wp2_with fail;refine N.out.mono ?_;rintro e V6 ⟨rfl,v6,G,A⟩;have HF:=Ax (show Bw w B X b (.slice (some ⟨g,0,none⟩) ts.length c) ts (⟨⟨1,tt,f,u,v⟩,x,y⟩::q) d Y C (Bc 7 d (⟨⟨1,tt,f,u,v⟩,x,y⟩::q)) (.returned (.int .i64 (C.length:Int))) V6 from⟨_,v6,rfl,A,by rw[R.out];exact⟨by simp [Ex.size,Bs],by simpa[Ex.flat,Bz,Db] using G⟩⟩);clear G A N R m0 m1 m2 m3 m4 m5 m6 m7;exact zzl
    have s0:(Z.toList==[116,114,117,101])=false:=by rw[A0,f9];exact Af.2 hw0
    have s1:(Z.toList==[102,97,108,115,101])=false:=by rw[A0,f9];exact Af.2 hw1
    have s2:(Z.toList==[110,117,108,108])=false:=by rw[A0,f9];exact Af.2 hw2
    have HL:=Ax (show Bc 7 d (⟨⟨1,tt,f,u,v⟩,x,y⟩::q)=Cc d (⟨⟨1,tt,f,u,v⟩,x,y⟩::q) (fun q'=>(Bc 0 (d+1) q').next D4) by rw[B3];simp [Dk,Eh,wN.out,K7,hw0,hw1,hw2]);have HS:=Ax (Ip (H.out.below a8.out) 4 rH);clear hw0 hw1 hw2 f9;go_wp2_with fail;refine HC.out.mono ?_;rintro e V3 ⟨rfl,rfl⟩;clear HC;go_wp2_with fail;refine HS.out.mono ?_;rintro e V4 ⟨rfl,hx,ho,-⟩;have HF:=Ax (show Bw w B X b (.slice (some ⟨g,0,none⟩) ts.length c) ts (⟨⟨1,tt,f,u,v⟩,x,y⟩::q) d Y C (Bc 7 d (⟨⟨1,tt,f,u,v⟩,x,y⟩::q)) (.returned (.int .i64 (-1))) V4 from⟨-1,Y,rfl,(Rch.of_below Y a8.out).trans (Rch.of_only Y ho),by rw[HL.out];unfold Cc;rw[Ao (by unfold isH;simp;exact fun h=>(H.out.nam _ (by obtain⟨j,e⟩:=H.out.suf;exact List.mem_of_mem_drop (i:=j) (by rw[←e];exact Ai)) rfl h))];exact hx⟩);clear hx ho HS;exact zzl
  have d1:(tk==1)=false:=Af.2 rF;have d2:(tk==2)=false:=Af.2 rF;have d3:(tk==3)=false:=Af.2 rF;have d4:(tk==4)=false:=Af.2 rF;have d5:(tk==5)=false:=Af.2 rF;have d6:(tk==6)=false:=Af.2 rF;have uR:=Ax (show Bc 7 d (⟨⟨tk,tt,f,u,v⟩,x,y⟩::q)=Cc d (⟨⟨tk,tt,f,u,v⟩,x,y⟩::q) (fun q'=>(Bc 0 (d+1) q').next D4) by rw[B3];simp [Dk,Eh,hk1,hk2,hk3,hk4]);clear hk1 hk2 hk3 hk4;have vJ:=Ax (H.out.below a8.out);have n9:=Ax (Rch.of_below (b:=b) Y a8.out);have wS:=Al hB a8.out.size;obtain⟨r,hr⟩:∃r,(⟨⟨tk,tt,f,u,v⟩,x,y⟩::q)=r:=⟨_,rfl⟩;have uS:=Ax (Fe vJ.out);rw[hr] at uS;obtain⟨S,hS⟩:∃S:ByteArray,⟨(Fx r).toArray⟩=S:=⟨_,rfl⟩;rw[hS] at uS;have x9:decide (dl S=[40])=isH [40] r:=by rw[←hS,Da];exact I4 rI
  rw[←hr] at x9;clear hS hr r;cases ho:isH [40] (⟨⟨tk,tt,f,u,v⟩,x,y⟩::q) with
  |false=>
   rw[ho] at x9;have wC:=of_decide_eq_false x9;have t1:(S.toList==[40])=false:=by rw[A0];exact Af.2 wC
   have w9:Hid (Bc 7 d (⟨⟨tk,tt,f,u,v⟩,x,y⟩::q)= .error (4,(⟨⟨tk,tt,f,u,v⟩,x,y⟩::q))):=Ax (by rw[uR.out];unfold Cc;rw[Ao (by rw[ho];decide)]);have HO:=Ax ho;clear wC x9 ho uR;go_wp2_with fail;refine uS.out.mono ?_;rintro e V3 ⟨rfl,y8⟩;have i7:=Ax (Gl (vJ.out.below y8) [40] rI);have n9:=Ax (n9.out.trans (Rch.of_below Y y8));clear y8 uS;go_wp2_with fail;refine i7.out.mono ?_;rintro e V4 ⟨rfl,uX,vK⟩;rw[Ao (by rw[HO.out];decide)] at vK;have R:=Ax vK;have HR:=Ax (n9.out.trans (Rch.of_only Y uX));clear uX vK i7 t1;have uY:=Ax (T1 R.out 0);go_wp2_with fail;refine uY.out.mono ?_;rintro e VE ⟨rfl,rfl⟩;clear uY;have HM:=Ax (Dh R.out ⟨#[41]⟩);go_wp2_with fail;refine HM.out.mono ?_;rintro e VM ⟨rfl,rfl⟩;clear HM;obtain⟨a0,dd,j8⟩:=R.out.blk;obtain⟨k0,k1,k2,k3,k4,k5,U⟩:=Be j8;have x8:=U 2;obtain⟨x5,j9⟩:∃x5,IntKind.i64.wrap (dd - 1)=x5:=⟨_,rfl⟩;have k8:wrap64 (dd - 1)=x5:=by rw[←j9];simp [IntKind.wrap_i64,wrap64]
   obtain⟨W5,T⟩:∃W5,V4.setCell ⟨b,2,none⟩ (.int .i64 x5)=W5:=⟨_,rfl⟩;have d8:=R.out.deep x5;have W:=A3 V4 b 2 (.int .i64 x5);rw[T] at d8 W;have HF:=Ax (show Bw w B X b (.slice (some ⟨g,0,none⟩) ts.length c) ts (⟨⟨tk,tt,f,u,v⟩,x,y⟩::q) d Y C (Bc 7 d (⟨⟨tk,tt,f,u,v⟩,x,y⟩::q)) (.returned (.int .i64 (-1))) W5 from⟨(-1),Y,rfl,HR.out.trans (Rch.of_only Y W),by rw[w9.out];exact d8⟩);have l7:=Ax T;clear j8 U d8 W T j9;go_upto_region 13 with fail
   rw[l7.out];clear k0 k1 k2 k3 k4 k5 x8 k8;exact zzl
  |true=>
   rw[ho] at x9;have wD:=of_decide_eq_true x9;have t1:(S.toList==[40])=true:=by rw[A0,wD];rfl
   have HO:=Ax ho;clear wD x9 ho;go_wp2_with fail;refine uS.out.mono ?_;rintro e V3 ⟨rfl,y8⟩;have HD:=Ax (Jm (vJ.out.below y8));have n9:=Ax (n9.out.trans (Rch.of_below Y y8));clear y8 uS;go_wp2_with fail;refine HD.out.mono ?_;rintro e V4 ⟨rfl,uX,y9⟩;have n9:=Ax (n9.out.trans (Rch.of_only Y uX));clear uX HD t1;by_cases hd12:d=12
   ·rw[Ap hd12] at y9;have w9:Hid (Bc 7 d (⟨⟨tk,tt,f,u,v⟩,x,y⟩::q)= .error (12,(⟨⟨tk,tt,f,u,v⟩,x,y⟩::q))):=Ax (by rw[uR.out];unfold Cc;rw[Ap HO.out,Ap hd12]);have R:=Ax y9;have i7:=Ax (Dh y9 ⟨#[40]⟩);have HR:=n9;clear y9 hd12 uR;go_wp2_with fail;refine i7.out.mono ?_;rintro e V5 ⟨rfl,rfl⟩;clear i7;have uY:=Ax (T1 R.out 0);go_wp2_with fail;refine uY.out.mono ?_;rintro e VE ⟨rfl,rfl⟩;clear uY;have HM:=Ax (Dh R.out ⟨#[41]⟩);go_wp2_with fail;refine HM.out.mono ?_;rintro e VM ⟨rfl,rfl⟩;clear HM;obtain⟨a0,dd,j8⟩:=R.out.blk;obtain⟨k0,k1,k2,k3,k4,k5,U⟩:=Be j8;have x8:=U 2;obtain⟨x5,j9⟩:∃x5,IntKind.i64.wrap (dd - 1)=x5:=⟨_,rfl⟩;have k8:wrap64 (dd - 1)=x5:=by rw[←j9];simp [IntKind.wrap_i64,wrap64]
    obtain⟨W5,T⟩:∃W5,V4.setCell ⟨b,2,none⟩ (.int .i64 x5)=W5:=⟨_,rfl⟩;have d8:=R.out.deep x5;have W:=A3 V4 b 2 (.int .i64 x5);rw[T] at d8 W;have HF:=Ax (show Bw w B X b (.slice (some ⟨g,0,none⟩) ts.length c) ts (⟨⟨tk,tt,f,u,v⟩,x,y⟩::q) d Y C (Bc 7 d (⟨⟨tk,tt,f,u,v⟩,x,y⟩::q)) (.returned (.int .i64 (-1))) W5 from⟨(-1),Y,rfl,HR.out.trans (Rch.of_only Y W),by rw[w9.out];exact d8⟩);have l7:=Ax T;clear j8 U d8 W T j9;go_upto_region 13 with fail
    rw[l7.out];clear k0 k1 k2 k3 k4 k5 x8 k8;exact zzl
   rw[Ao hd12] at y9;have uT:Hid (Bc 7 d (⟨⟨tk,tt,f,u,v⟩,x,y⟩::q)=(Bc 0 (d+1) q).next D4):=Ax (by rw[uR.out];unfold Cc;rw[Ap HO.out,Ao hd12];rfl);have i7:=Ax (Gl y9 [40] rI);clear y9 hd12 uR;go_wp2_with fail;refine i7.out.mono ?_;rintro e V5 ⟨rfl,W,vL⟩;rw[Ap HO.out,List.tail_cons] at vL;have vM:=n9.out.trans (Rch.of_only Y W);have wE:=Ax vM;have hc:=ih X 0 (d+1) q V5 Y C rF sN vL (Al hB vM.only.size);have Hc:Hid (Calls Tryz.prog 91 #[.pointer (some ⟨b,0,none⟩),.int .i64 0] V5 _):=Ax hc;have wF:=H.out.few;simp only[Aa] at wF;clear W vL vM hc i7 n9;go_wp2_with fail;refine Hc.out.mono ?_;rintro e V6 ⟨z6,v6,rfl,G,uZ⟩;have HR:=Ax (wE.out.trans G);clear G Hc wE;cases hq4:Bc 0 (d+1) q with
   |error p=>
    obtain⟨er,q4⟩:=p;rw[hq4] at uZ;have R:=Ax (Ec.mono (cap':=C.length+(q.length+1)) uZ rF rF);have w9:Hid (Bc 7 d (⟨⟨tk,tt,f,u,v⟩,x,y⟩::q)= .error (er,q4)):=Ax (by rw[uT.out,hq4];rfl);clear uZ hq4 uT;have HM:=Ax (Dh R.out ⟨#[41]⟩);go_wp2_with fail;refine HM.out.mono ?_;rintro e VM ⟨rfl,rfl⟩;clear HM;obtain⟨a0,dd,j8⟩:=R.out.blk;obtain⟨k0,k1,k2,k3,k4,k5,U⟩:=Be j8;have x8:=U 2;obtain⟨x5,j9⟩:∃x5,IntKind.i64.wrap (dd - 1)=x5:=⟨_,rfl⟩;have k8:wrap64 (dd - 1)=x5:=by rw[←j9];simp [IntKind.wrap_i64,wrap64]
    obtain⟨W5,T⟩:∃W5,V6.setCell ⟨b,2,none⟩ (.int .i64 x5)=W5:=⟨_,rfl⟩;have d8:=R.out.deep x5;have W:=A3 V6 b 2 (.int .i64 x5);rw[T] at d8 W;have HF:=Ax (show Bw w B X b (.slice (some ⟨g,0,none⟩) ts.length c) ts (⟨⟨tk,tt,f,u,v⟩,x,y⟩::q) d Y C (Bc 7 d (⟨⟨tk,tt,f,u,v⟩,x,y⟩::q)) (.returned (.int .i64 z6)) W5 from⟨z6,v6,rfl,HR.out.trans (Rch.of_only v6 W),by rw[w9.out];exact d8⟩);have l7:=Ax T;clear j8 U d8 W T j9;go_upto_region 13 with fail
    rw[l7.out];clear k0 k1 k2 k3 k4 k5 x8 k8;exact zzl
   |ok p=>
    obtain⟨a4,q4⟩:=p;rw[hq4] at uZ;obtain⟨rfl,vN⟩:=uZ;have wP:=Fm (n:=0) rF hq4;have i7:=Ax (Gl vN [41] rI);cases hm2:isH [41] q4 with
    |false=>
     have w9:Hid (Bc 7 d (⟨⟨tk,tt,f,u,v⟩,x,y⟩::q)= .error (4,q4)):=Ax (by rw[uT.out,hq4];show D4 a4 q4=_;unfold D4;rw[Ao (by rw[hm2];decide)]);have vO:=Ax hm2;clear vN hq4 hm2 uT;go_wp2_with fail;refine i7.out.mono ?_;rintro e V7 ⟨rfl,vA,vP⟩;rw[Ao (by rw[vO.out];decide)] at vP;have R:=Ax (vP.mono (cap':=C.length+(q.length+1)) (by rw[Ab,Ex.flat_len];omega) rF);have HR:=Ax (HR.out.trans (Rch.of_only v6 vA));clear vA vP i7;obtain⟨a0,dd,j8⟩:=R.out.blk;obtain⟨k0,k1,k2,k3,k4,k5,U⟩:=Be j8;have x8:=U 2;obtain⟨x5,j9⟩:∃x5,IntKind.i64.wrap (dd - 1)=x5:=⟨_,rfl⟩;have k8:wrap64 (dd - 1)=x5:=by rw[←j9];simp [IntKind.wrap_i64,wrap64]
     obtain⟨W5,T⟩:∃W5,V7.setCell ⟨b,2,none⟩ (.int .i64 x5)=W5:=⟨_,rfl⟩;have d8:=R.out.deep x5;have W:=A3 V7 b 2 (.int .i64 x5);rw[T] at d8 W;have HF:=Ax (show Bw w B X b (.slice (some ⟨g,0,none⟩) ts.length c) ts (⟨⟨tk,tt,f,u,v⟩,x,y⟩::q) d Y C (Bc 7 d (⟨⟨tk,tt,f,u,v⟩,x,y⟩::q)) (.returned (.int .i64 ((C.length+a4.size - 1:Nat):Int))) W5 from⟨((C.length+a4.size - 1:Nat):Int),v6,rfl,HR.out.trans (Rch.of_only v6 W),by rw[w9.out];exact d8⟩);have l7:=Ax T;clear j8 U d8 W T j9;go_upto_region 13 with fail
     rw[l7.out];clear k0 k1 k2 k3 k4 k5 x8 k8;exact zzl
    |true=>
     obtain⟨t5,q5,rfl⟩:=C6 hm2;have w9:Hid (Bc 7 d (⟨⟨tk,tt,f,u,v⟩,x,y⟩::q)= .ok (a4,q5)):=Ax (by rw[uT.out,hq4];show D4 a4 (t5::q5)=_;unfold D4;rw[Ap hm2];rfl);have vO:=Ax hm2;clear vN hq4 hm2 uT;go_wp2_with fail;refine i7.out.mono ?_;rintro e V7 ⟨rfl,vA,vB⟩;rw[Ap vO.out,List.tail_cons] at vB;obtain⟨k0,k1,k2,k3,k4,k5,U⟩:=Be vB.blk;have x8:=U 2;have wQ:=vB.hd;have vQ:=vB.deep (d':=d) rF;have wG:=A3 V7 b 2 (.int .i64 (d:Int));have HR:=Ax ((HR.out.trans (Rch.of_only v6 vA)).trans (Rch.of_only v6 wG));obtain⟨W5,T⟩:∃W5,V7.setCell ⟨b,2,none⟩ (.int .i64 (d:Int))=W5:=⟨_,rfl⟩;rw[T] at vQ HR;have HF:=Ax (show Bw w B X b (.slice (some ⟨g,0,none⟩) ts.length c) ts (⟨⟨tk,tt,f,u,v⟩,x,y⟩::q) d Y C (Bc 7 d (⟨⟨tk,tt,f,u,v⟩,x,y⟩::q)) (.returned (.int .i64 ((C.length+a4.size - 1:Nat):Int))) W5 from⟨_,v6,rfl,HR.out,by rw[w9.out];exact⟨rfl,vQ⟩⟩);have l7:=Ax T;have wH:((d+1:Nat):Int) - 1=(d:Int):=by omega
     clear vA vB vQ wG T U i7;go_upto_region 13 with fail
     first|rw[l7.out]|(rw[show((d:Int)+1 - 1)=(d:Int) by omega,l7.out])|(rw[wH,l7.out])
     clear k0 k1 k2 k3 k4 k5 x8 wH;exact zzl
theorem Pe (B b:Nat)(c:Value)(ts:List Tkn):∀k,Vb k B b c ts
 |0=>fun _ _ _ _ _ _ _ _ h _ _=>absurd h (Nat.not_lt_zero _)
 |k+1=>fun _ _ _ _ _ _ _ f d h e=>Z5 (Pe B b c ts k) (fun _ _ _ _ _ _ d h e=>eG (Pe B b c ts k) d h e) f (Nat.lt_succ_iff.1 d) h e
open Go Go.RowKit Go.Lib
theorem oL {w:World}{U:Value}{ts:List Tkn}(G:Ih w U ts)(W:∀t∈ts,t.w.k=1->t.w.t≠[40])(u:ts.length<=1000000):
 Calls Tryz.prog 56 #[U,.int .i64 0] w (Qh w ts 0 (Bc 0 0 ts)):=by
 obtain⟨y,A,rfl⟩:=G.form;have i3:decide ((ts.length:Int)<0)=false:=by simp
 have i4:¬((ts.length:Int)<0):=by omega
 obtain⟨r,f⟩:∃r,w.alloc (.cells #[.slice y ts.length A,.int .i64 0,.int .i64 0,.slice none 0 0,.int .i64 0,.int .i64 0] 136)=r:=⟨_,rfl⟩;have g:Below w.heap.size w r:=by rw[←f];exact(Aq _ w).alloc (Ak _) _
 have L:=Az w (.cells #[.slice y ts.length A,.int .i64 0,.int .i64 0,.slice none 0 0,.int .i64 0,.int .i64 0] 136);rw[f] at L;have X:Cs r w.heap.size [] w.heap.size (.slice y ts.length A) ts ts 0 (.slice none 0 0) []:=⟨Suf.refl _,G.below g,W,G.lt,Ak _,fun x h=>(by simp at h),by omega,u,by simp only[List.length_nil];omega,by simpa using L,[],World.ownsRow_nil _ _ _ _,trivial⟩;have Y:=Pe w.heap.size w.heap.size (.slice y ts.length A) ts _ [] 0 0 ts r (.slice none 0 0) [] rF (Nat.lt_succ_self _) X g.size;have Z:Hid (Calls Tryz.prog 91 #[.pointer (some ⟨w.heap.size,0,none⟩),.int .i64 0] r _):=Ax Y;have M:=Ax f;have C:=Ax g;clear g L X Y f G W;go_enter Tryz.func56,Tryz.ntmps56;go_upto_region 4 with fail
 rw[M.out];go_wp2_with fail;refine Z.out.mono ?_;rintro e V ⟨z,v,rfl,hr,j⟩;have D:Below w.heap.size w V:=Bq C.out hr.only (by simp [Value.ownBlock]) C.out.size;have m:=Ax D;clear hr D Z;cases hq:Bc 0 0 ts with
 |error p=>
  obtain⟨I,q⟩:=p;rw[hq] at j;have j:Ec V w.heap.size w.heap.size (.slice y ts.length A) ts v I (ts.length - q.length) (0+ts.length):=j;obtain⟨a0,dd,n⟩:=j.blk;obtain⟨k0,k1,k2,k3,k4,k5,_⟩:=Be n;have e1:(I !=0)=true:=by rw[bne,Af.2 j.ne];rfl
  have N:=Ay n;have d:=fun nq=>Ax (show Qh w ts 0 (Bc 0 0 ts) (.returned (.tuple #[.slice none 0 0,.int .i64 ((ts.length - q.length:Nat):Int),.int .i64 I])) (V.drewN nq) from⟨A8 m.out nq,by rw[hq]⟩)
  clear j n hq;go_wp2_with fail;go_quiet (fail);have E:=d nq;clear d;go_wp2_with fail;refine Au (v:= .tuple #[.slice none 0 0,.int .i64 ((ts.length - q.length:Nat):Int),.int .i64 I]) uB rfl E.out
 |ok p=>
  obtain⟨a,q⟩:=p;rw[hq] at j;obtain⟨_,F⟩:=j;obtain⟨k0,k1,k2,k3,k4,k5,_⟩:=Be F.blk;have N:=Ay F.blk;obtain⟨O,c,i⟩:=F.tree;rw[List.nil_append,List.length_nil] at c i;rw[Ex.flat_len] at c;obtain⟨R,T,rfl⟩:=D8 c;have o:Hh V w.heap.size [] (.slice R a.size T) (a.flat 0):=⟨O,by rw[Ex.flat_len];exact c,i⟩;by_cases h60:60<a.size
  ·have j1:decide ((60:Int)<(a.size:Int))=true:=by simp;omega
   have j2:(60:Int)<(a.size:Int):=by omega
   have E:=Ax (show Qh w ts 0 (Bc 0 0 ts) (.returned (.tuple #[.slice none 0 0,.int .i64 0,.int .i64 7])) V from⟨m.out,by rw[hq];simp only;rw[Ap h60];rfl⟩);clear F c i hq h60 o;go_wp2_with fail;refine Au (v:= .tuple #[.slice none 0 0,.int .i64 0,.int .i64 7]) uB rfl E.out
  have j1:decide ((60:Int)<(a.size:Int))=false:=by simp;omega
  have j2:¬(60:Int)<(a.size:Int):=by omega
  have d:=fun nq=>Ax (show Qh w ts 0 (Bc 0 0 ts) (.returned (.tuple #[.slice R a.size T,.int .i64 ((ts.length - q.length:Nat):Int),.int .i64 0])) (V.drewN nq) from⟨A8 m.out nq,by rw[hq];simp only;rw[Ao h60];exact⟨_,rfl,o.below (A8 (Aq _ V) nq)⟩⟩)
  clear F c i hq h60 o;go_wp2_with fail;go_quiet (fail);have E:=d nq;clear d;go_wp2_with fail;refine Au (v:= .tuple #[.slice R a.size T,.int .i64 ((ts.length - q.length:Nat):Int),.int .i64 0]) uB rfl E.out
open Go Go.RowKit
theorem Xw {w:World}{v:Value}{ts:List Tkn}(G:Ih w v ts)(V:∀t∈ts,0<=t.col/\t.col<=1000000/\t.w.t.length<=1000000)(n:ts.length<=1000000):
 Calls Tryz.prog 57 #[v] w fun e w'=>e= .returned (.agg #[.int .i64 (Eu ts).1,.int .i64 (Eu ts).2])/\Below w.heap.size w w':=by
 by_cases h0:ts=[]
 ·subst h0;obtain⟨va,vc,rfl⟩:=G.form;simp only[List.length_nil];clear V n G;go_enter Tryz.func57,Tryz.ntmps57;go_wp2_with fail;refine Au (v:= .agg #[.int .i64 1,.int .i64 1]) sI rfl ?_;refine⟨rfl,?_⟩;exact(Aq _ w).alloc (Ak _) _
 obtain⟨m,X⟩:∃m,ts.length=m+1:=⟨ts.length - 1,by have:=List.length_pos_iff.2 h0;omega⟩;have o:m<ts.length:=by omega
 obtain⟨g,c,rfl,hg,I,L,M,N,O,R,T⟩:=G.at o
 have f:ts.getLast? =some ts[m]:=by
  rw[List.getLast?_eq_getElem?,X,Nat.add_sub_cancel,Ag o]
 have p:=V ts[m] (List.getElem_mem o)
 have y:Eu ts=(ts[m].line,ts[m].col+ts[m].w.t.length+if ts[m].w.k=2\/ts[m].w.k=3\/ts[m].w.k=6 then 1 else if ts[m].w.k=5 then 2 else 0):=by
  unfold Eu;rw[f]
 rw[y];obtain⟨t,Y⟩:∃t,ts[m]=t:=⟨_,rfl⟩;rw[Y] at I L M N O R T p ⊢;obtain⟨⟨h,tt,A,C,D⟩,tl,tc⟩:=t;simp only at I L M N O R T p ⊢;rw[X];obtain⟨Z,a8,b7⟩:=p;have b8:m+1<=1000000:=by omega
 obtain⟨i,q⟩:∃i,w.alloc (.cells #[.int .i64 0,.int .i64 0] 33)=i:=⟨_,rfl⟩;have d:Below w.heap.size w i:=by rw[←q];exact(Aq _ w).alloc (Ak _) _
 have E:i.heap.size=w.heap.size+1:=by rw[←q];simp
 have j:=Az w (.cells #[.int .i64 0,.int .i64 0] 33);rw[q] at j;have d8:=A4 d I;have f7:=A4 d L;have f8:=A4 d M;have f9:=A4 d N;have i6:=A4 d O;have i7:=A4 d R;have j8:=A4 d T;obtain⟨U,r⟩:∃U,i.alloc (.cells #[.int .u8 h,.string ⟨tt.toArray⟩,.int .u8 A,.int .i64 C,.string ⟨D.toArray⟩,.int .i64 tl,.int .i64 tc] 94)=U:=⟨_,rfl⟩;have u:Below i.heap.size i U:=by rw[←r];exact(Aq _ i).alloc (Ak _) _
 have j9:U.heap.size=w.heap.size+2:=by rw[←r];simp [E]
 have x:=Az i (.cells #[.int .u8 h,.string ⟨tt.toArray⟩,.int .u8 A,.int .i64 C,.string ⟨D.toArray⟩,.int .i64 tl,.int .i64 tc] 94);rw[r,E] at x;obtain⟨s0,s1,s2,s3,s4,s5,s6⟩:=Gf x;have F:=(u.block _ (Ay j)).trans j;obtain⟨y0,y1,W⟩:=Bf F;have k8:=W 0;have l7:=W 1;have HB3:=Ax (d.trans (u.mono d.size));clear d u j x F W I L M N O R T y f V Y G n h0;by_cases hk:h=2\/h=3\/h=6
 ·rcases hk with rfl|rfl|rfl
  ·exact zyk
  ·exact zyk
  exact zyk
 by_cases h5:h=5
 ·subst h5;go_enter Tryz.func57,Tryz.ntmps57;go_wp2_with fail;refine Au (v:= .agg #[.int .i64 tl,.int .i64 (tc+((tt.length:Int)+2))]) sI rfl ?_;refine⟨by simp [*,Int.add_assoc],?_⟩;exact(HB3.out.setCell rI _).setCell rI _
 have j2:(h==2)=false:=by simp at hk ⊢;omega
 have j3:(h==3)=false:=by simp at hk ⊢;omega
 have j6:(h==6)=false:=by simp at hk ⊢;omega
 have j5:(h==5)=false:=by simpa using h5
 rw[Ao hk,Ao h5,Int.add_zero];clear hk h5;go_enter Tryz.func57,Tryz.ntmps57;go_wp2_with fail;refine Au (v:= .agg #[.int .i64 tl,.int .i64 (tc+(tt.length:Int))]) sI rfl ?_;refine⟨by simp [*],?_⟩;exact(HB3.out.setCell rI _).setCell rI _
open Go Go.RowKit
theorem nD {s:ByteArray}(w:World)(c:s.size<=65536){ts:List Tkn}(h:Fq (dl s)= .ok ts):
 Calls Tryz.prog 55 #[.string s] w fun e w'=>∃v,e= .returned (.tuple #[v,.agg #[.int .i64 0,.int .i64 0],.int .i64 0])/\w'.ownsRow w.heap.size 94 7 v ts.length (Eb ts)/\Below w.heap.size w w':=by
 refine(Xz s w c).mono ?_;exact zwn
theorem mO {s:ByteArray}(w:World)(d:s.size<=65536){a b q:Int}(h:Fq (dl s)= .error (a,b,q)):
 Calls Tryz.prog 55 #[.string s] w fun e w'=>e= .returned (.tuple #[.slice none 0 0,.agg #[.int .i64 a,.int .i64 b],.int .i64 q])/\Below w.heap.size w w':=by
 refine(Xz s w d).mono ?_;rintro e w' ⟨f,c⟩;rw[h] at c;exact⟨c,f⟩
theorem jT {s:ByteArray}(w:World)(I:s.size<=65536){a b q:Int}(h:Fq (dl s)= .error (a,b,q)):Calls Tryz.prog 21 #[.string s] w (Qe w (B9 (dl s))):=by
 have E:B9 (dl s)= .error ((a,b),q):=by unfold B9;rw[h]
 have x:q=4\/q=9:=((Kz _ (dl s) 1 1 (Ak _) rH).1 a b q h).2.2;have L:(q !=0)=true:=by rcases x with rfl|rfl<;>rfl
 have M:(q==0)=false:=by rcases x with rfl|rfl<;>rfl
 obtain⟨u,m⟩:∃u,w.alloc (.cells #[.int .i64 0,.int .i64 0] 33)=u:=⟨_,rfl⟩;have n:Below w.heap.size w u:=by rw[←m];exact(Aq _ w).alloc (Ak _) _
 have f:=Az w (.cells #[.int .i64 0,.int .i64 0] 33);rw[m] at f;have F:=Ax (mO (s:=s) u I h);have o:=Ax n;have g:=Ax f;rw[E];clear E h n f x;go_enter Tryz.func21,Tryz.ntmps21;go_wp2_with fail;refine F.out.mono ?_;rintro e i ⟨rfl,c⟩;have d:=(c.block _ (Ay g.out)).trans g.out;obtain⟨y,p⟩:∃y,i.alloc (.cells #[.int .i64 a,.int .i64 b] 33)=y:=⟨_,rfl⟩;have j:Below i.heap.size i y:=by rw[←p];exact(Aq _ i).alloc (Ak _) _
 have k:=Az i (.cells #[.int .i64 a,.int .i64 b] 33);rw[p] at k;have r:=(j.block _ (Ay d)).trans d;obtain⟨R,T,_⟩:=Bf k;obtain⟨U,V,A⟩:=Bf r;have N:=A 0;have O:=A 1;have C:=Ax (o.out.trans ((c.trans (j.mono c.size)).mono o.out.size));have D:¬w.heap.size=i.heap.size:=by have:=Ay d;omega
 have G:¬i.heap.size=w.heap.size:=fun h=>D h.symm
 clear c j d k r A F g;go_wp2_with fail;go_region;go_wp2_with fail;refine Au (v:= .tuple #[.slice none 0 0,.agg #[.int .i64 a,.int .i64 b],.int .i64 q]) sO rfl ?_;exact⟨((C.out.setCell rI _).setCell rI _).drew,rfl⟩
theorem mG {s:ByteArray}(w:World)(hs:s.size<=65536){ts:List Tkn}(h:Fq (dl s)= .ok ts):Calls Tryz.prog 21 #[.string s] w (Qe w (B9 (dl s))):=by
 have O:=(Jf _ (dl s) 1 1 ts (Ak _) h).2;have R:=Kq h;have T:=T8 h;rw[A5] at O;have o:ts.length<=1000000:=by omega
 have d:∀t∈ts,0<=t.col/\t.col<=1000000/\t.w.t.length<=1000000:=fun t U=>by
  have h1:=R t U;have h2:=T t U;rw[A5] at h1 h2;omega
 obtain⟨W1,V⟩:∃W1,w.alloc (.cells #[.int .i64 0,.int .i64 0] 33)=W1:=⟨_,rfl⟩;have W:Below w.heap.size w W1:=by rw[←V];exact(Aq _ w).alloc (Ak _) _
 have u:=Az w (.cells #[.int .i64 0,.int .i64 0] 33);rw[V] at u;have L1:=Ax (nD (s:=s) W1 hs h);have X:=Ax W;have y:=Ax u;have HL:=Ax h;have A:=Ax d;have Y:=Ax (T3 h);clear h W u d R T hs;go_enter Tryz.func21,Tryz.ntmps21;go_wp2_with fail;refine L1.out.mono ?_;rintro e V2 ⟨tv,rfl,p,i⟩;have C:=Ih.of_row p;obtain⟨ta,tc,rfl⟩:=C.form;have D:=(i.block _ (Ay y.out)).trans y.out;obtain⟨Z,a8⟩:∃Z,V2.alloc (.cells #[.int .i64 0,.int .i64 0] 33)=Z:=⟨_,rfl⟩;have j:Below V2.heap.size V2 Z:=by rw[←a8];exact(Aq _ V2).alloc (Ak _) _
 have b7:=(j.block _ (Ay D)).trans D;have b8:=X.out.trans ((i.trans (j.mono i.size)).mono X.out.size);have E:=C.below j;have d8:Calls Tryz.prog 56 #[.slice ta ts.length tc,.int .i64 0] Z (Qh Z ts 0 (Bc 0 0 ts)):=oL E Y.out o;have f7:=Ax d8;have F:=Ax b8;have G:=Ax b7;have f8:=Ax E;clear i D j b7 b8 E d8 C p L1 y;subst a8;go_wp2_with fail;refine f7.out.mono ?_;rintro e V4 hp;obtain⟨v,n,e0,rfl,hn,⟨va,vk,vc,rfl⟩,q,m⟩:=jF (w:=w) HL.out hp F.out.size;have f9:=F.out.trans (m.mono F.out.size);have i6:=(m.block _ (Ay G.out)).trans G.out;have i7:=f8.out.below m;have HB4:=Ax f9;have HP5:=Ax i6;have I:=Ax i7;obtain⟨x,hx⟩:∃x,B9 (dl s)=x:=⟨_,rfl⟩;rw[hx] at q;have HX:=Ax hx;clear hp m f9 i6 i7 f7 G f8 HL hx;obtain⟨y0,y1,L⟩:=Bf HP5.out;have l7:=L 0;have n9:=L 1;clear L;cases q with
 |tree a he hn' U=>
  subst he;subst hn';have HT:=Ax U;clear U;go_wp2_with fail;refine Au (v:= .tuple #[.slice va vk vc,.agg #[.int .i64 0,.int .i64 0],.int .i64 0]) sO rfl ?_;exact zyg
 |more t he hn'=>
  obtain⟨M,f⟩:=List.getElem?_eq_some_iff.1 hn';obtain⟨g,c,et,hg,t0,t1,t2,t3,t4,t5,t6⟩:=I.out.at M;injection et with e1 _ e3;subst e1;subst e3;rw[f] at t5 t6;have i0:(0:Int)<=(n:Int):=by omega
  have i1:(n:Int)<(ts.length:Int):=by omega
  have i2:decide ((n:Int)<(ts.length:Int))=true:=by simp;omega
  have p8:g<V4.drew.heap.size:=hg;subst he;clear t0 t1 t2 t3 t4 f hn' hg;go_wp2_with fail;go_region;go_wp2_with fail;refine Au (v:= .tuple #[.slice none 0 0,.agg #[.int .i64 t.line,.int .i64 t.col],.int .i64 4]) sO rfl ?_;exact zxd
 |bad t he hn'=>
  obtain⟨M,f⟩:=List.getElem?_eq_some_iff.1 hn';obtain⟨g,c,et,hg,t0,t1,t2,t3,t4,t5,t6⟩:=I.out.at M;injection et with e1 _ e3;subst e1;subst e3;rw[f] at t5 t6;have i0:(0:Int)<=(n:Int):=by omega
  have i1:(n:Int)<(ts.length:Int):=by omega
  have i2:decide ((n:Int)<(ts.length:Int))=true:=by simp;omega
  have p8:g<V4.drew.heap.size:=hg;have j1:(e0==0)=false:=by simpa using he
  have HE:=Ax he;clear he;clear t0 t1 t2 t3 t4 f hn' hg;go_wp2_with fail;go_region;go_wp2_with fail;refine Au (v:= .tuple #[.slice none 0 0,.agg #[.int .i64 t.line,.int .i64 t.col],.int .i64 e0]) sO rfl ?_;exact zxd
 |end' he hn'=>
  subst hn';have j8:=Xw I.out A.out o;have j1:(e0==0)=false:=by simpa using he
  have j9:=Ax j8;clear he j8;go_wp2_with fail;refine j9.out.mono ?_;rintro e V5 ⟨rfl,N⟩;have k8:=(N.block _ (Ay HP5.out)).trans HP5.out;obtain⟨y0,y1,L⟩:=Bf k8;have l7:=L 0;have n9:=L 1;have r7:=Ax (HB4.out.trans (N.mono HB4.out.size));clear k8 N L j9;go_wp2_with fail;refine Au (v:= .tuple #[.slice none 0 0,.agg #[.int .i64 (Eu ts).1,.int .i64 (Eu ts).2],.int .i64 e0]) sO rfl ?_;rw[HX.out];exact⟨(r7.out.setCell rI _).setCell rI _,rfl⟩
theorem dS (s:ByteArray)(w:World)(c:s.size<=65536):Calls Tryz.prog 21 #[.string s] w (Qe w (B9 (dl s))):=by
 cases h:Fq (dl s) with
 |error p=>exact jT w c (a:=p.1) (b:=p.2.1) (q:=p.2.2) h
 |ok ts=>exact mG w c h
open Go Go.RowKit Go.Lib Go.Sort Go.Shelf
def zOf:Except ((Int×Int)×Int) Ex->List Nz
 | .ok a=>(a.flat 0).map Nd.z
 | .error _=>[]
def pOf:Except ((Int×Int)×Int) Ex->(Int×Int)×Int
 | .ok _=>((0,0),0)
 | .error p=>p
theorem Qe.z {w w':World}{l:List UInt8}{e:Ending}(h:Qe w (B9 l) e w'):∃a k c,e= .returned (.tuple #[.slice a k c,.agg #[.int .i64 (pOf (B9 l)).1.1,.int .i64 (pOf (B9 l)).1.2],.int .i64 (pOf (B9 l)).2])/\TrZ w' (.slice a k c) (zOf (B9 l))/\Below w.heap.size w w':=by
 obtain⟨d,h⟩:=h;cases hr:B9 l with
 |error p=>
  rw[hr] at h;exact⟨none,0,0,h,⟨Nat.zero_le _,none,0,rfl,fun i g=>absurd g (Nat.not_lt_zero _)⟩,d⟩
 |ok a=>
  rw[hr] at h;obtain⟨v,j,m⟩:=h;obtain⟨_,_,_,n⟩:=Lj hr;have f:=m.z (by rw[Ex.flat_len];omega) (Us hr);obtain⟨_,o,c,q,_⟩:=id f;subst q;exact⟨o,_,c,j,f,d⟩
def nZ (w:World)(l:List Nz)(x y q:Int)(e:Ending)(w':World):Prop:=
 ∃a k c,e= .returned (.tuple #[.slice a k c,.agg #[.int .i64 x,.int .i64 y],.int .i64 q])/\TrZ w' (.slice a k c) l/\Below w.heap.size w w'
theorem Vr {s:ByteArray}{x:Except ((Int×Int)×Int) Ex}(w:World)(c:s.size<=65536)(h:B9 (dl s)=x):Calls Tryz.prog 21 #[.string s] w (nZ w (zOf x) (pOf x).1.1 (pOf x).1.2 (pOf x).2):=
 (dS s w c).mono fun e V d=>by subst h;exact d.z
end Go.Proofs.YtgfakdobajgnfaaGreatDoor
