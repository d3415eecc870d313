import Derived.Deep.RegionLaw
import Derived.Test.YtmpfilddeglgbaaGreatDoorQj19
set_option maxRecDepth 100000
set_option maxHeartbeats 16000000
namespace Go.Proofs.YtmpfilddeglgbaaGreatDoor
open Go Go.RowKit Go.Lib
theorem Cp.store {V:World}{r:Nat}{v:Value}{l:List Nat}{p:Bool}{s:Value}{t:TypeId}(h:Cp V v l)(hs:∃a n c,s= .slice a n c)(hr:V.heap[r]? =some (.cells #[.bool p,s] t (0,0)))(u u':Value):Cp ((V.setCell ⟨r,0,none⟩ u).setCell ⟨r,1,none⟩ u') v l:=by
 obtain⟨a1,n1,c1,rfl⟩:=hs;obtain⟨h1,a0,c0,rfl,h3,h4⟩:=h;refine⟨h1,a0,c0,rfl,h3,fun i hi=>?_⟩;exact zyx
structure S6 (w wr:World)(bx by':Bool)(sx sy:Value)(ps:Bool)(ss:Value):Prop where
 x:wr.heap[w.heap.size]? =some (.cells #[.bool bx,sx] 208 (0,0))
 y:wr.heap[w.heap.size+1]? =some (.cells #[.bool by',sy] 208 (0,0))
 z:wr.heap[w.heap.size+2]? =some (.cells #[.bool false,.slice none 0 0] 208 (0,0))
 s:wr.heap[w.heap.size+3]? =some (.cells #[.bool ps,ss] 208 (0,0))
 bel:Below w.heap.size w wr
theorem S6.below {w wr V:World}{bx by':Bool}{sx sy:Value}{ps:Bool}{ss:Value}(h:S6 w wr bx by' sx sy ps ss)(hb:Below wr.heap.size wr V):S6 w V bx by' sx sy ps ss:=
 ⟨(hb.block _ (Ay h.x)).trans h.x,(hb.block _ (Ay h.y)).trans h.y,(hb.block _ (Ay h.z)).trans h.z,(hb.block _ (Ay h.s)).trans h.s,h.bel.trans (hb.mono h.bel.size)⟩
theorem eD {V:World}{r:Nat}{p:Bool}{s:Value}{t:TypeId}(hr:V.heap[r]? =some (.cells #[.bool p,s] t (0,0)))(q:Bool)(u:Value):((V.setCell ⟨r,0,none⟩ (.bool q)).setCell ⟨r,1,none⟩ u).heap[r]? =some (.cells #[.bool q,u] t (0,0)):=by
 simp only[World.setCell,Array.getElem?_modify,hr];simp
theorem S6.store {w wr:World}{bx by':Bool}{sx sy:Value}{ps:Bool}{ss:Value}(h:S6 w wr bx by' sx sy ps ss)(q:Bool)(u:Value):S6 w ((wr.setCell ⟨w.heap.size+3,0,none⟩ (.bool q)).setCell ⟨w.heap.size+3,1,none⟩ u) bx by' sx sy q u:=by
 refine⟨?_,?_,?_,eD h.s q u,(h.bel.setCell (p:=⟨w.heap.size+3,0,none⟩) tH _).setCell (p:=⟨w.heap.size+3,1,none⟩) tH _⟩
 ·rw[Below.heap_setCell _ _ _ _ tH,Below.heap_setCell _ _ _ _ tH];exact h.x
 ·rw[Below.heap_setCell _ _ _ _ tH,Below.heap_setCell _ _ _ _ tH];exact h.y
 rw[Below.heap_setCell _ _ _ _ tH,Below.heap_setCell _ _ _ _ tH];exact h.z
theorem S6.with {w wr:World}{bx by':Bool}{sx sy:Value}{ps:Bool}{ss:Value}{l:List Nat}(h:S6 w wr bx by' sx sy ps ss)(hd:∀V,Cp V ss l):S6 w wr bx by' sx sy ps ss/\Cp wr ss l:=⟨h,hd _⟩
def ml0 (w:World)(bx by':Bool)(sx sy:Value):World:=((((w.alloc (.cells #[.bool bx,sx] 208)).alloc (.cells #[.bool by',sy] 208)).alloc (.cells #[.bool false,.slice none 0 0] 208)).alloc (.cells #[.bool false,.slice none 0 0] 208))
theorem rU (w:World)(bx by':Bool)(sx sy:Value):S6 w (ml0 w bx by' sx sy) bx by' sx sy false (.slice none 0 0):=by
 obtain⟨W1,h1⟩:∃W1,w.alloc (.cells #[.bool bx,sx] 208)=W1:=⟨_,rfl⟩;obtain⟨W2,h2⟩:∃W2,W1.alloc (.cells #[.bool by',sy] 208)=W2:=⟨_,rfl⟩;obtain⟨W3,h3⟩:∃W3,W2.alloc (.cells #[.bool false,.slice none 0 0] 208)=W3:=⟨_,rfl⟩;have z1:W1.heap.size=w.heap.size+1:=by rw[←h1];simp
 have z2:W2.heap.size=w.heap.size+2:=by rw[←h2];simp [z1]
 have z3:W3.heap.size=w.heap.size+3:=by rw[←h3];simp [z2]
 have e1:W1.heap[w.heap.size]? =some (.cells #[.bool bx,sx] 208 (0,0)):=by rw[←h1];exact A1 _ _
 have e2:W2.heap[w.heap.size+1]? =some (.cells #[.bool by',sy] 208 (0,0)):=by rw[←h2,←z1];exact A1 _ _
 have e3:W3.heap[w.heap.size+2]? =some (.cells #[.bool false,.slice none 0 0] 208 (0,0)):=by rw[←h3,←z2];exact A1 _ _
 have b1:Below w.heap.size w W1:=by rw[←h1];exact(Aq _ _).alloc (Ak _) _
 have b2:Below W1.heap.size W1 W2:=by rw[←h2];exact(Aq _ _).alloc (Ak _) _
 have b3:Below W2.heap.size W2 W3:=by rw[←h3];exact(Aq _ _).alloc (Ak _) _
 have b4:Below W3.heap.size W3 (W3.alloc (.cells #[.bool false,.slice none 0 0] 208)):=(Aq _ _).alloc (Ak _) _;unfold ml0;rw[h1,h2,h3];refine⟨?_,?_,(b4.block _ (Ay e3)).trans e3,?_,((b1.trans (b2.mono tE)).trans (b3.mono tE)).trans (b4.mono tE)⟩
 ·rw[b4.block _ tE,b3.block _ tE,b2.block _ tE];exact e1
 ·rw[b4.block _ tE,b3.block _ tE];exact e2
 rw[←z3];exact A1 _ _
structure bC (B:Nat)(W0 wr:World)(xs:List Nat)(y i k more:Nat)(v:Value)(o:List Nat):Prop where
 row:wr.ownsRow B 3 1 v (i+k) (Dd (List.replicate i 0++o))
 len:o.length=k
 ok:okD o
 val:nv o+10000^k*(more+nv (xs.drop k)*y)=nv xs*y
 bel:Below B W0 wr
theorem bC.drew {B:Nat}{W0 wr:World}{xs:List Nat}{y i k more:Nat}{v:Value}{o:List Nat}(h:bC B W0 wr xs y i k more v o)(n:Nat):bC B W0 (wr.drewN n) xs y i k more v o:=
 ⟨h.row,h.len,h.ok,h.val,h.bel.os,h.bel.tape,h.bel.output,h.bel.size,h.bel.block⟩
theorem eB {O p t s A y:Nat}(h:t+10000*(A*y)=s):O+p*(t % 10000)+p*10000*(t/10000+A*y)=O+p*s:=by
 have:p*(t % 10000)+p*10000*(t/10000+A*y)=p*s:=by
  rw[Nat.mul_assoc,←Nat.mul_add];congr 1;rw[Nat.mul_add];omega
 omega
theorem mI (i:Nat)(o:List Nat):nv (List.replicate i 0++o)=10000^i*nv o:=by
 rw[bJ,List.length_replicate]
 have:nv (List.replicate i 0)=0:=by
  induction i with
  |zero=>rfl
  |succ n ih=>rw[List.replicate_succ,nv,ih]
 rw[this,Nat.zero_add]
theorem oC (i:Nat){o:List Nat}(h:okD o):okD (List.replicate i 0++o):=fun d hd=>by
 rcases List.mem_append.1 hd with hd|hd
 ·rw[List.eq_of_mem_replicate hd];decide
 exact h d hd
theorem Y5 (n:Nat)(hn:n<=1000000)(w:World):∃w',(Instr.makeSlice 36 (.int .i64 (n:Int)) (.int .i64 (n:Int))).run Tryz.prog w= .ok (.slice (some ⟨w.heap.size,0,none⟩) n n) w'/\Below w.heap.size w w'/\w'.ownsRow w.heap.size 3 1 (.slice (some ⟨w.heap.size,0,none⟩) n n) n (Dd (List.replicate n 0)):=by
 obtain⟨i0,hi,hz0,hz1,hz2⟩:=Cq;obtain⟨w',hrun,hown,hg⟩:=run_make_full (P:=Tryz.prog) w w.heap.size 36 3 i0 (.int .i64 0) 1 Tryz.underlying36 hi hz0 hz1 .i64 .i64 n (by rw[hz2];omega) tQ (Ak _);refine⟨w',hrun,(Bc.of_grown hg [] (fun k e=>by cases e)).below,?_⟩
 have:(madeCells (Value.int .i64 0).cells (n*1)).toList=Dd (List.replicate n 0):=by
  simp [madeCells,Dd];rw[List.eq_replicate_iff];refine⟨by simp,fun u hu=>?_⟩;obtain⟨x,_,rfl⟩:=List.mem_map.1 hu
  show(#[Value.int .i64 0]:Array Value)[x % 1]! =_
  rw[Nat.mod_one];rfl
 rw[←this];exact hown
theorem Bn.nat {w:World}{v:Value}{m:Nat}(h:Bn w v (m:Int)):∃a n c,v= .agg #[.bool false,.slice a n c]/\Cp w (.slice a n c) (dg m):=by
 obtain⟨a,c,h1,h2⟩:=h.form;refine⟨a,_,c,?_,by simpa using h2⟩;rw[h1,An tE];rfl
theorem bW {w:World}{sx sy:Value}{xs ys:List Nat}(bx by':Bool)(hx:Cp w sx xs)(hy:Cp w sy ys)(hox:okD xs)(hoy:okD ys)(hlx:xs.length<=40000)(hly:ys.length<=40000){z:Int}(hz:sgn (bx !=by') (nv xs*nv ys)=z):Calls Tryz.prog 186 #[.agg #[.bool bx,sx],.agg #[.bool by',sy]] w (Gh w z):=by
 obtain⟨ax,cx,rfl,_⟩:=hx.slice;obtain⟨ay,cy,rfl,_⟩:=hy.slice;have HX:=Ax hx;have HY:=Ax hy;have HOX:=Ax hox;have HOY:=Ax hoy;have HZ:=Ax hz;have h0:=rU w bx by' (.slice ax xs.length cx) (.slice ay ys.length cy);have HS:=Ax (h0.with (l:=dg (nv xs*nv (ys.take 0))) fun V=>by rw[List.take_zero];show Cp _ _ (dg (nv xs*0));rw[Nat.mul_zero,Ed];exact Cp.nil _);unfold ml0 at HS;clear hx hy hox hoy hz h0;go_enter Tryz.func186,Tryz.ntmps186;go_wp2_with fail
 go_loopw [6] (fun v6 wr=>∃(i:Nat) (sa:Option Addr) (sn sc:Nat),i<=ys.length/\v6= .int .i64 i/\Hid (S6 w wr bx by' (.slice ax xs.length cx) (.slice ay ys.length cy) false (.slice sa sn sc)/\Cp wr (.slice sa sn sc) (dg (nv xs*nv (ys.take i))))) (fun v6 _=>ys.length - (intOf v6).toNat)
 case atStart=>exact⟨0,none,0,0,Nat.zero_le _,rfl,HS⟩
 obtain⟨wo,rfl⟩:∃wo:World,wo=wr:=⟨_,rfl⟩;obtain⟨i,sa,sn,sc,hi,rfl,hq⟩:=hrel;obtain⟨hM,hD⟩:=hq.out;obtain⟨m0,m1,_⟩:=A0 hM.x;obtain⟨m2,m3,_⟩:=A0 hM.y;obtain⟨m4,m5,_⟩:=A0 hM.s;by_cases hil:i<ys.length
 ·have p0:decide ((i:Int)<(ys.length:Int))=true:=Am tE;obtain⟨W0,hmk,hbW0,hrow⟩:=Y5 i tE wo;have HM:=Ax hM;have HD:=Ax hD;have hM0:=hM.below hbW0;have HM0:=Ax hM0;have HB0:=Ax hbW0;have HR0:Hid (bC wo.heap.size W0 W0 xs ys[i] i 0 0 (.slice (some ⟨wo.heap.size,0,none⟩) i i) []):=Ax ⟨by rw[List.append_nil];exact hrow,rfl,fun _ h=>by(cases h),by simp [nv],Aq _ _⟩;have hyo:=HOY.out _ (List.getElem_mem hil);have HTK:=Ax (G2 ys i hil);obtain⟨y,hyy⟩:∃y,ys[i]=y:=⟨_,rfl⟩;rw[hyy] at HR0 HTK hyo;have HYY:=Ax hyy;clear hq hM hD hbW0 hrow hM0 hyy HS;go_wp2_with fail
  go_loopw [7,8,9] (fun v7 v8 v9 wi=>∃(k more:Nat) (o:List Nat) (oa:Option Addr) (oc:Nat),more<=9999/\(k<=xs.length\/k=xs.length+1/\more=0)/\v7= .slice oa (i+k) oc/\v8= .int .i64 more/\v9= .int .i64 k/\Hid (bC wo.heap.size W0 wi xs y i k more (.slice oa (i+k) oc) o)) (fun _ _ v9 _=>xs.length+2 - (intOf v9).toNat)
  case atStart=>exact⟨0,0,[],some ⟨wo.heap.size,0,none⟩,i,by omega,.inl tE,rfl,rfl,rfl,HR0⟩
  obtain⟨wi,rfl⟩:∃wi:World,wi=wr:=⟨_,rfl⟩;obtain⟨k,more,o,oa,oc,hm,hk,rfl,rfl,rfl,hq⟩:=hrel;have hR:=hq.out;have hMi:=HM.out.below (HB0.out.trans hR.bel);obtain⟨n0,n1,_⟩:=A0 hMi.x;obtain⟨n2,n3,_⟩:=A0 hMi.y;obtain⟨n4,n5,_⟩:=A0 hMi.s;by_cases hkl:k<xs.length
  ·skip
   have hMb:=hMi.bel;obtain⟨bxx,fxx,hax,hcx⟩:=HX.out.at hkl;obtain⟨byy,fyy,hay,hcy⟩:=HY.out.at hil;subst hax;subst hay;have hcx:=Ba hMb hcx;have hcy:=Ba hMb hcy;have hxl:=HOX.out _ (List.getElem_mem hkl);have hda:=Dk hkl;obtain⟨x,hx⟩:∃x,xs[k]=x:=⟨_,rfl⟩;rw[hx] at hcx hda hxl;rw[HYY.out] at hcy;obtain⟨p,hp⟩:∃p,x*y=p:=⟨_,rfl⟩;have hpl:p<=99980001:=by rw[←hp];exact Nat.mul_le_mul (show x<=9999 by omega) (show y<=9999 by omega)
   have hxy:(x:Int)*(y:Int)=(p:Int):=by rw[←hp];exact(Int.natCast_mul x y).symm
   have hdr:nv (xs.drop k)*y=p+10000*(nv (xs.drop (k+1))*y):=by rw[hda,Nat.add_mul,hp,Nat.mul_assoc]
   have p1:decide ((k:Int)<(xs.length:Int))=true:=Am tE;have p1':(k:Int)<(xs.length:Int):=by omega
   have p2':(i:Int)<(ys.length:Int):=by omega
   have q7:(0:Int)<=(p:Int):=by omega
   have q8:(p:Int)<=99980001:=by omega
   have wr1:IntKind.i64.wrap (p:Int)=(p:Int):=IntWalk.i64_in _ ⟨by omega,by omega⟩;have wr2:IntKind.i64.wrap ((more:Int)+(p:Int))=(more:Int)+(p:Int):=IntWalk.i64_in _ ⟨by omega,by omega⟩;have q0:(0:Int)<=(k:Int):=by omega
   have q0b:(0:Int)<=(i:Int):=by omega
   have q5:(0:Int)<=(more:Int):=by omega
   have q6:(more:Int)<=9999:=by omega
   obtain⟨d,hdd⟩:∃d,(more+p) % 10000=d:=⟨_,rfl⟩;obtain⟨c,hcc⟩:∃c,(more+p)/10000=c:=⟨_,rfl⟩;have hz:((more:Int)+(p:Int)) % 10000=(d:Int):=by omega
   have hd:((more:Int)+(p:Int))/10000=(c:Int):=by omega
   have hm1:c<=9999:=by omega
   have hbd:k+1<=xs.length\/k+1=xs.length+1/\c=0:=by omega
   have HVL:=Ax (eB (O:=nv o) (p:=10000^k) (t:=(more+p)) (A:=nv (xs.drop (k+1))) (y:=y) (s:=more+nv (xs.drop k)*y) tE);rw[hdd,hcc] at HVL;have HR:=Ax hR;have HSW:=Ax HB0.out.size;have HDL:=Ax (show d<10000 by omega);obtain⟨i0,hi0,hz0,hz1,hz2⟩:=Cq;have Hi0:=Ax hi0;have Hy0:=Ax hz0;have Hy1:=Ax hz1;have Hy2:=Ax hz2;have Hbd:=Ax hbd;clear hq hMi hR hi0 hz0 hz1 hz2 hdr hbd hdd hcc hMb hda hx hp;go_wp2_with fail;go_quiet (fail);have HR:=Ax (HR.out.drew nq);obtain⟨wj,hwj⟩:∃wj,wi.drewN nq=wj:=⟨_,rfl⟩;rw[hwj] at HR ⊢;clear hwj;have Hrow1:=Ax (HR.out.row.alloc (.cells #[.int .i64 (d:Int)] 3));have HN1:=Ax (A1 wj (.cells #[.int .i64 (d:Int)] 3));have HZ1:Hid ((wj.alloc (.cells #[.int .i64 (d:Int)] 3)).heap.size=wj.heap.size+1):=Ax tH;have hsr:=HR.out.bel.size;have Hown:=Ax (C9 HR.out.row);go_wp2_with ((refine wpList_append_lies _ rfl (.tmp 49) (.tmp 52) _ rfl wo.heap.size 3 i0 (.int .i64 0) 1 8 Tryz.underlying36 Hi0.out Hy0.out Hy1.out Hy2.out rfl tG (.slice oa (i+k) oc) (i+k) (Dd (List.replicate i 0++o)) rfl Hrow1.out ⟨wj.heap.size,0,none⟩ 1 1 [.int .i64 (d:Int)] rfl rfl (World.news_of_block (cs:= #[.int .i64 (d:Int)]) HN1.out) tS tG tQ tE vH (wj.heap.size+1) HZ1.out ?_;intro g6 cap w6 hown6 hgrow6 hat6 hlt6));exact zza
  by_cases hm0:more=0
  ·subst hm0;have p1:decide ((k:Int)<(xs.length:Int))=false:=An tE
   have hov:nv o=nv xs*y:=by
    have:=hR.val
    rw[List.drop_eq_nil_of_le tE] at this;simpa[nv] using this
   have hol:(List.replicate i 0++o).length=i+k:=by rw[Ab,List.length_replicate,hR.len]
   have hrd:=Cp.of_row tE hol.symm hR.row
   have hsl:(dg (nv xs*nv (ys.take i))).length<=100000:=by
    have h1:=Nb (nv xs) (nv (ys.take i));have h2:=Sv HOX.out;have h3:=Sv (Xq HOY.out i);rw[List.length_take] at h3;rw[Xt];omega
   have HU:=Ax (kC (HD.out.below (HB0.out.trans hR.bel)) hrd (G0 _) (oC i hR.ok) hsl tE)
   have HVV:Hid (∀n,n=nv (dg (nv xs*nv (ys.take i)))+nv (List.replicate i 0++o)->n=nv xs*nv (ys.take (i+1))):=Ax (fun n hn=>by
    rw[Fp,mI,hov] at hn;rw[hn,HTK.out,Nat.mul_add];congr 1
    rw[Nat.mul_left_comm])
   obtain⟨m,hm⟩:∃m,nv xs*nv (ys.take (i+1))=m:=⟨_,rfl⟩;rw[hm] at HVV;have HMM:=Ax hm;have HMi:=Ax hMi;clear hq hMi hR hrd hsl hov hol hm HR0 HTK HM;go_wp2_with fail;refine HU.out.mono ?_;rintro e V1 ⟨⟨v1,o1,rfl,hd1,ho1,hv1,_⟩,hb1⟩;obtain⟨a1,c1,rfl,_⟩:=hd1.slice;have HT:=Ax (Iq false hd1 ho1 (z:=(m:Int)) (by rw[HVV.out _ hv1];rfl));have HM1:=Ax (HMi.out.below hb1);clear hd1 ho1 hv1 hb1 HMi HVV HU;go_wp2_with fail;refine HT.out.mono ?_;rintro e V2 ⟨⟨v2,rfl,hv2⟩,hb2⟩;obtain⟨a2,n2,c2,rfl,hd2⟩:=hv2.nat;have hM2:=HM1.out.below hb2;obtain⟨l4,l5,lf⟩:=A0 hM2.s;have lf0:=lf 0;have lf1:=lf 1;have HM3:=Ax (hM2.store false (.slice a2 n2 c2));have HD3:=Ax (hd2.store ⟨_,_,_,rfl⟩ hM2.s (.bool false) (.slice a2 n2 c2));rw[←HMM.out] at HD3;clear hd2 hM2 hv2 hb2 lf HT HM1;go_wp2_with fail;go_roundw
   case rel=>exact⟨i+1,a2,n2,c2,hil,by go_num,Ax ⟨HM3.out,HD3.out⟩⟩
   case measure=>simp [intOf];omega
  skip
  have hMb:=hMi.bel;have hdr:nv (xs.drop k)*y=0:=by rw[List.drop_eq_nil_of_le tE];exact Nat.zero_mul y
  have hdr2:nv (xs.drop (k+1))*y=0:=by rw[List.drop_eq_nil_of_le tE];exact Nat.zero_mul y
  have p1:decide ((k:Int)<(xs.length:Int))=false:=An tE;have p4:decide ((0:Int)<(more:Int))=true:=Am tE;have q0:(0:Int)<=(k:Int):=by omega
  have q0b:(0:Int)<=(i:Int):=by omega
  have q5:(0:Int)<=(more:Int):=by omega
  have q6:(more:Int)<=9999:=by omega
  obtain⟨d,hdd⟩:∃d,more % 10000=d:=⟨_,rfl⟩;obtain⟨c,hcc⟩:∃c,more/10000=c:=⟨_,rfl⟩;have hz:(more:Int) % 10000=(d:Int):=by omega
  have hd:(more:Int)/10000=(c:Int):=by omega
  have hm1:c<=9999:=by omega
  have hbd:k+1<=xs.length\/k+1=xs.length+1/\c=0:=by omega
  have HVL:=Ax (eB (O:=nv o) (p:=10000^k) (t:=more) (A:=nv (xs.drop (k+1))) (y:=y) (s:=more+nv (xs.drop k)*y) tE);rw[hdd,hcc] at HVL;have HR:=Ax hR;have HSW:=Ax HB0.out.size;have HDL:=Ax (show d<10000 by omega);obtain⟨i0,hi0,hz0,hz1,hz2⟩:=Cq;have Hi0:=Ax hi0;have Hy0:=Ax hz0;have Hy1:=Ax hz1;have Hy2:=Ax hz2;have Hbd:=Ax hbd;clear hq hMi hR hi0 hz0 hz1 hz2 hdr hbd hdd hcc hMb hdr2;have Hrow1:=Ax (HR.out.row.alloc (.cells #[.int .i64 (d:Int)] 3));have HN1:=Ax (A1 wi (.cells #[.int .i64 (d:Int)] 3));have HZ1:Hid ((wi.alloc (.cells #[.int .i64 (d:Int)] 3)).heap.size=wi.heap.size+1):=Ax tH;have hsr:=HR.out.bel.size;have Hown:=Ax (C9 HR.out.row);go_wp2_with ((refine wpList_append_lies _ rfl (.tmp 49) (.tmp 52) _ rfl wo.heap.size 3 i0 (.int .i64 0) 1 8 Tryz.underlying36 Hi0.out Hy0.out Hy1.out Hy2.out rfl tG (.slice oa (i+k) oc) (i+k) (Dd (List.replicate i 0++o)) rfl Hrow1.out ⟨wi.heap.size,0,none⟩ 1 1 [.int .i64 (d:Int)] rfl rfl (World.news_of_block (cs:= #[.int .i64 (d:Int)]) HN1.out) tS tG tQ tE vH (wi.heap.size+1) HZ1.out ?_;intro g6 cap w6 hown6 hgrow6 hat6 hlt6));exact zza
 obtain rfl:i=ys.length:=by omega
 have p0:decide ((ys.length:Int)<(ys.length:Int))=false:=An tE;rw[List.take_length] at hD;have HT:=Ax (Iq (bx !=by') hD (G0 _) (z:=z) (by rw[Fp];exact HZ.out));have HM:=Ax hM;obtain⟨sg,hsg⟩:∃sg,(bx !=by')=sg:=⟨_,rfl⟩;rw[hsg] at HT;have hsg2:((!bx)==by')=sg:=by rw[←hsg];cases bx<;>cases by'<;>rfl
 have hsg3:(!(bx==by'))=sg:=hsg;clear hq hM hD HS;go_wp2_with fail;refine HT.out.mono ?_;rintro e V2 ⟨⟨v2,rfl,hv2⟩,hb2⟩;obtain⟨a2,c2,rfl,hd2⟩:=hv2.form;have hM2:=HM.out.below hb2;obtain⟨l4,l5,lf⟩:=A0 hM2.z;have lf0:=lf 0;have lf1:=lf 1;obtain⟨nb,hnb⟩:∃b,decide (z<0)=b:=⟨_,rfl⟩;obtain⟨n2,hn2⟩:∃n,Bw z.natAbs=n:=⟨_,rfl⟩;rw[hnb,hn2] at hv2 ⊢;have HV:=Ax (hv2.store hM2.z (.bool nb) (.slice a2 n2 c2));have HB:=Ax ((hM2.bel.setCell (p:=⟨w.heap.size+2,0,none⟩) tH (.bool nb)).setCell (p:=⟨w.heap.size+2,1,none⟩) tH (.slice a2 n2 c2));clear hd2 hM2 hv2 hb2 lf HT HM hnb hn2;go_wp2_with fail;refine Au (v:= .agg #[.bool nb,.slice a2 n2 c2]) (by simp [results,Tryz.results186,go_sem, *]) rfl ⟨⟨_,rfl,HV.out⟩,HB.out⟩
theorem qE (x y:Int):sgn (decide (x<0) !=decide (y<0)) (x.natAbs*y.natAbs)=x*y:=by
 unfold sgn;by_cases hx:x<0
 ·by_cases hy:y<0
  ·rw[Am hx,Am hy];simp only[bne_self_eq_false,Bool.false_eq_true,if_false];rw[←Int.natAbs_mul,Int.natAbs_of_nonneg (Int.le_of_lt (Int.mul_pos_of_neg_of_neg hx hy))]
  rw[Am hx,An hy]
  have:x*y<=0:=Int.mul_nonpos_of_nonpos_of_nonneg tE tE
  simp only[Bool.true_bne,Bool.not_false,if_true];rw[←Int.natAbs_mul];omega
 by_cases hy:y<0
 ·rw[An hx,Am hy]
  have:x*y<=0:=Int.mul_nonpos_of_nonneg_of_nonpos tE tE
  simp only[Bool.false_bne,if_true];rw[←Int.natAbs_mul];omega
 rw[An hx,An hy];simp only[bne_self_eq_false,Bool.false_eq_true,if_false];rw[←Int.natAbs_mul,Int.natAbs_of_nonneg (Int.mul_nonneg tE tE)]
theorem Ny {w:World}{vx vy:Value}{x y:Int}(hx:Bn w vx x)(hy:Bn w vy y)(hlx:Bw x.natAbs<=40000)(hly:Bw y.natAbs<=40000):Calls Tryz.prog 186 #[vx,vy] w (Gh w (x*y)):=by
 obtain⟨sx,rfl,hsx⟩:=hx;obtain⟨sy,rfl,hsy⟩:=hy;exact bW _ _ hsx hsy (G0 _) (G0 _) hlx hly (by rw[Fp,Fp];exact qE x y)
open Go Go.RowKit Go.Lib
theorem Ni {P:Program}{ops:Array Oper}{o:Oper}{a:Act}{w:World}{K:Act->World->Prop}{Q:Exit->Act->World->Prop}{E:Prop}(hgd:o.guard=none)(s x:Operand)(t:TypeId)
 (ho:o.op= .call {callee:= .builtin .append,args:= #[s,x],argTypes:= #[t,t]})
 (base:Nat) (i:TypeInfo) (ht:P.underlying t=some (.slice 3)) (hi:P.info? 3=some i) (hz:i.zero=some (.int .i64 0))
 (hsize:i.size=1) (hby:i.bytes=8)
 (v:Value) (n:Nat) (xs:List Value) (hs:a.eval s=v) (hown:w.ownsRow base 3 1 v n xs)
 (vx:Value) (l:List Nat) (hx:a.eval x=vx) (hl:Cp w vx l)
 (h63:n+l.length<=2000000) (hbase:base<=w.heap.size)
 (h:∀v' w',w'.ownsRow base 3 1 v' (n+l.length) (xs++Dd l)->w.grownBy w' v.ownBlock->K (a.put o.dst v') w'):
 if Region.wanted o (yielded ops a.tmps)=true then Oper.wp P o a w K Q else E:=by
 have hw:Region.wanted o (yielded ops a.tmps)=true:=by simp [Region.wanted,hgd]
 rw[Ap hw];obtain⟨h1,a0,c,rfl,h3,h4⟩:=hl
 have hone:∀u∈Dd l,u.oneCell'=true:=fun u hu=>by
  obtain⟨k,_,rfl⟩:=List.mem_map.1 hu;rfl
 cases a0 with
 |some ad=>
  refine wp_append_own w s x t ho base 3 i (.int .i64 0) 1 8 ht hi hz hsize hby rfl tG v n xs hs hown ad l.length c (Dd l) hx (by simp [Dd]) (fun j u hu=>?_) hone tQ tE hbase fun v' w' h2 h3 _=>h v' w' h2 h3
  obtain⟨hj,he⟩:=List.getElem?_eq_some_iff.1 hu;obtain⟨b,off,e,hc⟩:=h4 j (by simpa[Dd] using hj);injection e with e;subst e;rw[Addr.add_lit,hc,←he];simp [Dd]
 |none=>
  have h0:l=[]:=by
   cases l with
   |nil=>rfl
   |cons y ys=>
    obtain⟨b,off,e,_⟩:=h4 0 tH;cases e
  subst h0
  have hrun:(Builtin.append_ #[t,t] o.type #[v,.slice none 0 c]).run P w= .ok v w:=by
   rcases hown.2 with ⟨rfl,rfl⟩|⟨g,cap,cur,rfl,_,_,hnc,_⟩
   ·simp [Builtin.append_,run_underlying ht,sizeOf,typeInfo,hi,Builtin.lenOf,Builtin.firstCells]
   simp [Builtin.append_,run_underlying ht,sizeOf,typeInfo,hi,Builtin.lenOf,Builtin.firstCells,hnc,storeCells]
  unfold Oper.wp;simp [execOp,ho,resolve,invoke,builtin,hs,hx,hrun,Result.andThen];exact h v w (by simpa[Dd] using hown) ⟨rfl,rfl,rfl,Ak _,fun _ _ _=>rfl⟩
structure Pc (w wr:World)(bx by':Bool)(sx sy:Value)(p q M R:Nat)(qs:List Nat)(rs:Value):Prop where
 x:wr.heap[w.heap.size]? =some (.cells #[.bool bx,sx] 208 (0,0))
 y:wr.heap[w.heap.size+1]? =some (.cells #[.bool by',sy] 208 (0,0))
 z1:wr.heap[w.heap.size+2]? =some (.cells #[.bool false,.slice none 0 0] 208 (0,0))
 z2:wr.heap[w.heap.size+3]? =some (.cells #[.bool false,.slice none 0 0] 208 (0,0))
 pa:wr.heap[p]? =some (.cells #[.bool false,sx] 208 (0,0))
 qb:wr.heap[q]? =some (.cells #[.bool false,sy] 208 (0,0))
 row:wr.heap[M]? =some (.cells (Dd qs).toArray 3 (0,0))
 rb:wr.heap[R]? =some (.cells #[.bool false,rs] 208 (0,0))
 pM:p<M
 qM:q<M
 zM:w.heap.size+3<M
 MR:M<R
 bel:Below w.heap.size w wr
theorem Pc.below {w wr V:World}{bx by':Bool}{sx sy:Value}{p q M R:Nat}{qs:List Nat}{rs:Value}(h:Pc w wr bx by' sx sy p q M R qs rs)(hb:Below wr.heap.size wr V):Pc w V bx by' sx sy p q M R qs rs:=
 ⟨(hb.block _ (Ay h.x)).trans h.x,(hb.block _ (Ay h.y)).trans h.y,(hb.block _ (Ay h.z1)).trans h.z1,(hb.block _ (Ay h.z2)).trans h.z2,(hb.block _ (Ay h.pa)).trans h.pa,(hb.block _ (Ay h.qb)).trans h.qb,(hb.block _ (Ay h.row)).trans h.row,(hb.block _ (Ay h.rb)).trans h.rb,h.pM,h.qM,h.zM,h.MR,h.bel.trans (hb.mono h.bel.size)⟩
theorem Pc.store {w wr:World}{bx by':Bool}{sx sy:Value}{p q M R:Nat}{qs:List Nat}{rs:Value}(h:Pc w wr bx by' sx sy p q M R qs rs)(u:Value):Pc w ((wr.setCell ⟨R,0,none⟩ (.bool false)).setCell ⟨R,1,none⟩ u) bx by' sx sy p q M R qs u:=by
 have h1:=h.pM;have h2:=h.qM;have h3:=h.zM;have h4:=h.MR
 have hk:∀k,k<R->((wr.setCell ⟨R,0,none⟩ (.bool false)).setCell ⟨R,1,none⟩ u).heap[k]? =wr.heap[k]?:=fun k hk=>by
  rw[Below.heap_setCell _ _ _ _ tL,Below.heap_setCell _ _ _ _ tL]
 exact⟨(hk _ tE).trans h.x,(hk _ tE).trans h.y,(hk _ tE).trans h.z1,(hk _ tE).trans h.z2,(hk _ tE).trans h.pa,(hk _ tE).trans h.qb,(hk _ tE).trans h.row,eD h.rb false u,h1,h2,h3,h4,(h.bel.setCell (p:=⟨R,0,none⟩) tL _).setCell (p:=⟨R,1,none⟩) tL _⟩
theorem Pc.set {w wr:World}{bx by':Bool}{sx sy:Value}{p q M R:Nat}{qs:List Nat}{rs:Value}(h:Pc w wr bx by' sx sy p q M R qs rs)(i d:Nat):Pc w (wr.setCell ⟨M,i,none⟩ (.int .i64 (d:Int))) bx by' sx sy p q M R (qs.set i d) rs:=by
 have h1:=h.pM;have h2:=h.qM;have h3:=h.zM;have h4:=h.MR;have hk:∀k,k≠M->(wr.setCell ⟨M,i,none⟩ (.int .i64 (d:Int))).heap[k]? =wr.heap[k]?:=fun k hk=>Below.heap_setCell _ _ _ _ (by simpa using hk)
 refine⟨(hk _ tE).trans h.x,(hk _ tE).trans h.y,(hk _ tE).trans h.z1,(hk _ tE).trans h.z2,(hk _ tE).trans h.pa,(hk _ tE).trans h.qb,?_,(hk _ tE).trans h.rb,h1,h2,h3,h4,h.bel.setCell (p:=⟨M,i,none⟩) tL _⟩;simp only[World.setCell,Array.getElem?_modify,h.row];simp [Dd,List.map_set]
theorem Pc.digits {w wr:World}{bx by':Bool}{sx sy:Value}{p q M R:Nat}{qs:List Nat}{rs:Value}(h:Pc w wr bx by' sx sy p q M R qs rs)(hl:qs.length<=1000000):(∀i,wr.frozen? ⟨M,i,none⟩=false)/\Cp wr (.slice (some ⟨M,0,none⟩) qs.length qs.length) qs:=
 ⟨fun i=>by simp only[World.frozen?,h.row];simp,hl,some ⟨M,0,none⟩,qs.length,rfl,Ak _,fun i hi=>⟨M,0,rfl,by
  simp only[World.cell?,h.row]
  simp [Dd,hi]⟩⟩
theorem cM (n:Nat)(hn:n<=1000000)(w:World):∃w',(Instr.makeSlice 36 (.int .i64 (n:Int)) (.int .i64 (n:Int))).run Tryz.prog w= .ok (.slice (some ⟨w.heap.size,0,none⟩) n n) w'/\Below w.heap.size w w'/\w'.heap[w.heap.size]? =some (.cells (Dd (List.replicate n 0)).toArray 3 (0,0)):=by
 obtain⟨w',hrun,hb,hown⟩:=Y5 n hn w;refine⟨w',hrun,hb,?_⟩;rcases hown.2 with ⟨e,_⟩|⟨g,cap,cur,e,_,hgb,_,_,hcs,hct⟩
 ·cases e
 injection e with e1 _ e3;injection e1 with e1;injection e1 with e1;subst e1;subst e3;rw[hgb];congr 2;apply Array.ext';rw[List.take_of_length_le wH] at hct;rw[hct]
theorem Uv (w:World)(b1 b2 b3 b4 b5 b6:Bool)(s1 s2 s3 s4 s5 s6:Value)(t:TypeId)(W:World)(hW:((((((w.alloc (.cells #[.bool b1,s1] t)).alloc (.cells #[.bool b2,s2] t)).alloc (.cells #[.bool b3,s3] t)).alloc (.cells #[.bool b4,s4] t)).alloc (.cells #[.bool b5,s5] t)).alloc (.cells #[.bool b6,s6] t)).drew=W):
 W.heap[w.heap.size]? =some (.cells #[.bool b1,s1] t (0,0))/\W.heap[w.heap.size+1]? =some (.cells #[.bool b2,s2] t (0,0))/\W.heap[w.heap.size+2]? =some (.cells #[.bool b3,s3] t (0,0))/\W.heap[w.heap.size+3]? =some (.cells #[.bool b4,s4] t (0,0))/\W.heap[w.heap.size+4]? =some (.cells #[.bool b5,s5] t (0,0))/\W.heap[w.heap.size+5]? =some (.cells #[.bool b6,s6] t (0,0))/\W.heap.size=w.heap.size+6/\Below w.heap.size w W:=by
 subst hW;obtain⟨W1,h1⟩:∃V,w.alloc (.cells #[.bool b1,s1] t)=V:=⟨_,rfl⟩;have z1:W1.heap.size=w.heap.size+1:=by rw[←h1];simp
 have e1:W1.heap[w.heap.size]? =some (.cells #[.bool b1,s1] t (0,0)):=by rw[←h1];exact A1 _ _
 have k1:∀j,j<w.heap.size->W1.heap[j]? =w.heap[j]?:=fun j hj=>by rw[←h1];exact Below.heap_alloc _ _ _ hj
 have b1':Below w.heap.size w W1:=by rw[←h1];exact(Aq _ w).alloc tE _
 obtain⟨W2,h2⟩:∃V,W1.alloc (.cells #[.bool b2,s2] t)=V:=⟨_,rfl⟩;have z2:W2.heap.size=w.heap.size+2:=by rw[←h2];simp [z1]
 have e2:W2.heap[w.heap.size+1]? =some (.cells #[.bool b2,s2] t (0,0)):=by rw[←h2,←z1];exact A1 _ _
 have k2:∀j,j<W1.heap.size->W2.heap[j]? =W1.heap[j]?:=fun j hj=>by rw[←h2];exact Below.heap_alloc _ _ _ hj
 have b2':Below w.heap.size w W2:=by rw[←h2];exact b1'.alloc tE _
 obtain⟨W3,h3⟩:∃V,W2.alloc (.cells #[.bool b3,s3] t)=V:=⟨_,rfl⟩;have z3:W3.heap.size=w.heap.size+3:=by rw[←h3];simp [z2]
 have e3:W3.heap[w.heap.size+2]? =some (.cells #[.bool b3,s3] t (0,0)):=by rw[←h3,←z2];exact A1 _ _
 have k3:∀j,j<W2.heap.size->W3.heap[j]? =W2.heap[j]?:=fun j hj=>by rw[←h3];exact Below.heap_alloc _ _ _ hj
 have b3':Below w.heap.size w W3:=by rw[←h3];exact b2'.alloc tE _
 obtain⟨W4,h4⟩:∃V,W3.alloc (.cells #[.bool b4,s4] t)=V:=⟨_,rfl⟩;have z4:W4.heap.size=w.heap.size+4:=by rw[←h4];simp [z3]
 have e4:W4.heap[w.heap.size+3]? =some (.cells #[.bool b4,s4] t (0,0)):=by rw[←h4,←z3];exact A1 _ _
 have k4:∀j,j<W3.heap.size->W4.heap[j]? =W3.heap[j]?:=fun j hj=>by rw[←h4];exact Below.heap_alloc _ _ _ hj
 have b4':Below w.heap.size w W4:=by rw[←h4];exact b3'.alloc tE _
 obtain⟨W5,h5⟩:∃V,W4.alloc (.cells #[.bool b5,s5] t)=V:=⟨_,rfl⟩;have z5:W5.heap.size=w.heap.size+5:=by rw[←h5];simp [z4]
 have e5:W5.heap[w.heap.size+4]? =some (.cells #[.bool b5,s5] t (0,0)):=by rw[←h5,←z4];exact A1 _ _
 have k5:∀j,j<W4.heap.size->W5.heap[j]? =W4.heap[j]?:=fun j hj=>by rw[←h5];exact Below.heap_alloc _ _ _ hj
 have b5':Below w.heap.size w W5:=by rw[←h5];exact b4'.alloc tE _
 obtain⟨W6,h6⟩:∃V,W5.alloc (.cells #[.bool b6,s6] t)=V:=⟨_,rfl⟩;have z6:W6.heap.size=w.heap.size+6:=by rw[←h6];simp [z5]
 have e6:W6.heap[w.heap.size+5]? =some (.cells #[.bool b6,s6] t (0,0)):=by rw[←h6,←z5];exact A1 _ _
 have k6:∀j,j<W5.heap.size->W6.heap[j]? =W5.heap[j]?:=fun j hj=>by rw[←h6];exact Below.heap_alloc _ _ _ hj
 have b6':Below w.heap.size w W6:=by rw[←h6];exact b5'.alloc tE _
 rw[h1,h2,h3,h4,h5,h6];exact⟨((k6 _ tE).trans ((k5 _ tE).trans ((k4 _ tE).trans ((k3 _ tE).trans ((k2 _ tE).trans e1))))),((k6 _ tE).trans ((k5 _ tE).trans ((k4 _ tE).trans ((k3 _ tE).trans e2)))),((k6 _ tE).trans ((k5 _ tE).trans ((k4 _ tE).trans e3))),((k6 _ tE).trans ((k5 _ tE).trans e4)),((k6 _ tE).trans e5),e6,z6,b6'.drew⟩
structure Rf (w W:World)(bx by':Bool)(sx sy:Value)(p q:Nat):Prop where
 x:W.heap[w.heap.size]? =some (.cells #[.bool bx,sx] 208 (0,0))
 y:W.heap[w.heap.size+1]? =some (.cells #[.bool by',sy] 208 (0,0))
 z1:W.heap[w.heap.size+2]? =some (.cells #[.bool false,.slice none 0 0] 208 (0,0))
 z2:W.heap[w.heap.size+3]? =some (.cells #[.bool false,.slice none 0 0] 208 (0,0))
 pa:W.heap[p]? =some (.cells #[.bool false,sx] 208 (0,0))
 qb:W.heap[q]? =some (.cells #[.bool false,sy] 208 (0,0))
 bel:Below w.heap.size w W
theorem Rf.at {w W W2:World}{bx by':Bool}{sx sy:Value}{p q n:Nat}(h:Rf w W bx by' sx sy p q)(hb:Below W.heap.size W W2)(hr:W2.heap[W.heap.size]? =some (.cells (Dd (List.replicate n 0)).toArray 3 (0,0))):
 Pc w (W2.alloc (.cells #[.bool false,.slice none 0 0] 208)) bx by' sx sy p q W.heap.size W2.heap.size (List.replicate n 0) (.slice none 0 0):=by
 have h2:Below W2.heap.size W2 (W2.alloc (.cells #[.bool false,.slice none 0 0] 208)):=(Aq _ _).alloc (Ak _) _
 have hk:∀k o,W.heap[k]? =some o->(W2.alloc (.cells #[.bool false,.slice none 0 0] 208)).heap[k]? =some o:=fun k o hk=>by
  have h3:=(hb.block _ (Ay hk)).trans hk;exact(h2.block _ (Ay h3)).trans h3
 exact⟨hk _ _ h.x,hk _ _ h.y,hk _ _ h.z1,hk _ _ h.z2,hk _ _ h.pa,hk _ _ h.qb,(h2.block _ (Ay hr)).trans hr,A1 _ _,Ay h.pa,Ay h.qb,Ay h.z2,Ay hr,(h.bel.trans (hb.mono h.bel.size)).trans (h2.mono (Al h.bel.size hb.size))⟩
structure Ki (xs:List Nat)(Y j r:Nat)(qs:List Nat):Prop where
 le:j<=xs.length
 r:r=nv (xs.drop j) % Y
 q:∃qd,qs=List.replicate j 0++qd/\qd.length+j=xs.length/\okD qd/\nv qd=nv (xs.drop j)/Y
theorem Ki.zero (xs:List Nat)(Y:Nat):Ki xs Y xs.length 0 (List.replicate xs.length 0):=
 ⟨Ak _,by rw[List.drop_length];simp [nv],[],by simp,by simp,fun _ h=>(by cases h),by rw[List.drop_length];simp [nv]⟩
theorem Ki.len {xs:List Nat}{Y j r:Nat}{qs:List Nat}(h:Ki xs Y j r qs):qs.length=xs.length:=by
 obtain⟨qd,rfl,h2,_⟩:=h.q;rw[Ab,List.length_replicate];omega
theorem rN {Y d x V:Nat}(hY:0<Y)(h1:d*Y<=x+10000*(V % Y))(h2:x+10000*(V % Y)<(d+1)*Y):(x+10000*V)/Y=d+10000*(V/Y)/\(x+10000*V) % Y=x+10000*(V % Y) - d*Y:=by
 have hV:=Nat.div_add_mod V Y
 have e:x+10000*V=(x+10000*(V % Y) - d*Y)+Y*(d+10000*(V/Y)):=by
  rw[Nat.mul_add,Nat.mul_comm Y d,Nat.mul_left_comm]
  have:10000*V=10000*(Y*(V/Y))+10000*(V % Y):=by rw[←Nat.mul_add,hV]
  omega
 have hlt:x+10000*(V % Y) - d*Y<Y:=by
  rw[Nat.add_mul,Nat.one_mul] at h2;omega
 rw[e];constructor
 ·rw[Nat.add_mul_div_left _ _ hY,Nat.div_eq_of_lt hlt,Nat.zero_add]
 rw[Nat.add_mul_mod_self_left,Nat.mod_eq_of_lt hlt]
theorem Ki.step {xs:List Nat}{Y m r d:Nat}{qs:List Nat}(h:Ki xs Y (m+1) r qs)(hY:0<Y)(hm:m<xs.length)(hd:d<10000)(h1:d*Y<=xs[m]+10000*r)(h2:xs[m]+10000*r<(d+1)*Y):Ki xs Y m (xs[m]+10000*r - d*Y) (qs.set m d):=by
 have hr:=h.r;obtain⟨qd,rfl,e2,e3,e4⟩:=h.q;rw[hr] at h1 h2;obtain⟨k1,k2⟩:=rN hY h1 h2;refine⟨by omega,by rw[Dk hm,k2,hr],d::qd,?_,by simp;omega,fun x hx=>?_,by rw[nv,Dk hm,k1,e4]⟩
 ·rw[List.replicate_succ',List.append_assoc,List.set_append_right _ _ tH];simp
 rcases List.mem_cons.1 hx with rfl|hx
 ·exact hd
 exact e3 x hx
theorem Ki.lt {xs:List Nat}{Y j r:Nat}{qs:List Nat}(h:Ki xs Y j r qs)(hY:0<Y):r<Y:=by rw[h.r];exact Nat.mod_lt _ hY
theorem Ki.done {xs:List Nat}{Y r:Nat}{qs:List Nat}(h:Ki xs Y 0 r qs):okD qs/\nv qs=nv xs/Y/\r=nv xs % Y:=by
 obtain⟨qd,rfl,e2,e3,e4⟩:=h.q;exact⟨by simpa using e3,by simpa using e4,by simpa using h.r⟩
end Go.Proofs.YtmpfilddeglgbaaGreatDoor
