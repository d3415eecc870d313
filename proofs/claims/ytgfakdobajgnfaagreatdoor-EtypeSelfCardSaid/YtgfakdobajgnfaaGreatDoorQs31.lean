import Derived.Test.YtgfakdobajgnfaaGreatDoorQs29
import Derived.Test.YtgfakdobajgnfaaGreatDoorQs30
set_option maxRecDepth 100000
set_option maxHeartbeats 16000000
namespace Go.Proofs.YtgfakdobajgnfaaGreatDoor
open Go Go.RowKit Go.Lib Go.Sort Go.Shelf
theorem Vp {l:List UInt8}:(∀x∈zOf (Cj l),0<=x.h.op)/\∀x∈zOf (Cj l),K7 x.h:=by
 cases h:Cj l with
 |error p=>exact⟨fun x hx=>by simp [zOf] at hx,fun x hx=>by simp [zOf] at hx⟩
 |ok a=>exact⟨fun x hx=>(Sq h x hx).1,fun x hx=>(Sq h x hx).2⟩
def k9p (s:ByteArray):Int×(Int×Int)×Int:=ofP [([97],1)] 0 (zOf (Cj (dl s)))
theorem Vs (s:ByteArray)(w:World)(hs:s.size<=65536)(hR:Rd w)(b:Nat){va:Option Addr}{vc:Nat}(c0:w.cell? ⟨b,0,none⟩=some (.slice va 1 vc))(c1:w.cell? ⟨b,1,none⟩=some (.int .u8 0))(hv:Uk w (.slice va 1 vc) [([97],1)]):
 Calls Tryz.prog 66 #[.string s,.pointer (some ⟨b,0,none⟩)] w fun e w'=>e= .returned (Tm (k9p s))/\Below w.heap.size w w':=by
 obtain⟨W1,hW1⟩:∃W1,w.alloc (.cells #[.int .i64 0,.int .i64 0] 33)=W1:=⟨_,rfl⟩;have hb1:Below w.heap.size w W1:=by rw[←hW1];exact(Aq _ w).alloc (Ak _) _
 have hp1:=A1 w (.cells #[.int .i64 0,.int .i64 0] 33);rw[hW1] at hp1;have HRd:=Ax (kO (x:=Cj (dl s)) W1 hs rfl);have HW1:=Ax hW1;have HB1:=Ax hb1;have HP1:=Ax hp1;have HR:=Ax hR;have HV:=Ax hv;have C0:=Ax c0;have C1:=Ax c1;have hlt:=Ay hp1;clear hW1 hb1 hp1 hR hv c0 c1 hs;go_enter Tryz.func66,Tryz.ntmps66;go_upto_region 1 with fail
 rw[HW1.out];go_wp2_with fail;refine HRd.out.mono ?_;rintro e V ⟨a,k,c,rfl,ht,hb⟩;obtain⟨W2,hW2⟩:∃W2,V.alloc (.cells #[.int .i64 (pOf (Cj (dl s))).1.1,.int .i64 (pOf (Cj (dl s))).1.2] 33)=W2:=⟨_,rfl⟩;have hb2:Below V.heap.size V W2:=by rw[←hW2];exact(Aq _ V).alloc (Ak _) _
 have hbV:=HB1.out.trans (hb.mono HB1.out.size);have hbW:=hbV.trans (hb2.mono hbV.size);have hof:=U2 (ht.below hb2) Vp.1 Vp.2 (HR.out.below hbW) 0 (vars:=[([97],1)]) (HV.out.below hbW) mP (Int.le_refl 0);change Calls _ _ _ _ (fun e w'=>e= .returned (Tm (k9p s))/\Below W2.heap.size W2 w') at hof;obtain⟨p,hp⟩:∃p,k9p s=p:=⟨_,rfl⟩;rw[hp] at hof;have Hp:=Ax hp;obtain⟨pk,⟨px,py⟩,pe⟩:=p;unfold Tm at hof;simp only[Aa,List.length_nil,Nat.zero_add] at hof;have HO:=Ax hof;have HW2:=Ax hW2;have HBW:=Ax hbW;have c0:=A7 hbW C0.out;have c1:=A7 hbW C1.out;have HPl:=Ax ((hb2.block _ (by have:=hb.size;omega)).trans ((hb.block _ hlt).trans HP1.out));have hl2:=Ay HPl.out;clear ht hb hW2 hb2 hbV hbW hof hp HRd;go_upto_region 2 with fail
 rw[HW2.out];go_wp2_with fail;refine HO.out.mono ?_;rintro e V3 ⟨rfl,hb3⟩;obtain⟨y0,y1,yf⟩:=Be ((hb3.block _ hl2).trans HPl.out);have yf0:=yf 0;have yf1:=yf 1;have HB3:=Ax (HBW.out.trans (hb3.mono HBW.out.size));clear hb3 yf HO c0 c1;go_wp2_with fail;refine Au (v:= .tuple #[.int .u8 pk,.agg #[.int .i64 px,.int .i64 py],.int .i64 pe]) (by simp [results,Tryz.results66,go_sem, *]) rfl ?_;refine⟨by rw[Hp.out];rfl,?_⟩;exact(HB3.out.setCell nR _).setCell nR _
theorem fW:k9p ⟨#[63,97,32,43,32,49,46,53]⟩=(2,(0,0),0)/\k9p ⟨#[110,117,108,108,32,61,32,34,120,34]⟩=(4,(0,0),0)/\k9p ⟨#[49,32,60,32,34,120,34]⟩=(0,(1,3),8)/\k9p ⟨#[63,32,62,32,49]⟩=(0,(1,1),11):=
 ⟨by kernel_rfl,by kernel_rfl,by kernel_rfl,by kernel_rfl⟩
theorem iX (w:World)(hR:Rd w):Calls Tryz.prog 34 #[] w fun e w'=>e= .returned (.bool true)/\Below w.heap.size w w':=by
 have hmf:∀(fn:Fn) (first cap:Array Value) (w:World),(Instr.makeFunc fn first cap).run Tryz.prog w= .ok (.func fn first cap) w:=fun _ _ _ _=>rfl
 obtain⟨W1,hW1⟩:∃W1,(w.alloc (.cells #[.string ⟨#[97]⟩,.int .u8 1] 71)).alloc (.cells #[.slice (some ⟨w.heap.size,0,none⟩) 1 1,.int .u8 0] 59)=W1:=⟨_,rfl⟩;have hb0:Below w.heap.size w (w.alloc (.cells #[.string ⟨#[97]⟩,.int .u8 1] 71)):=(Aq _ w).alloc (Ak _) _;have hb1:Below w.heap.size w W1:=by rw[←hW1];exact hb0.alloc mP _
 have hp0:W1.heap[w.heap.size]? =some (.cells #[.string ⟨#[97]⟩,.int .u8 1] 71 (0,0)):=by
  rw[←hW1];exact(MapKept.heap_alloc (w.alloc (.cells #[.string ⟨#[97]⟩,.int .u8 1] 71)) _).2 w.heap.size mP|>.trans (A1 w _)
 have hp1:W1.heap[w.heap.size+1]? =some (.cells #[.slice (some ⟨w.heap.size,0,none⟩) 1 1,.int .u8 0] 59 (0,0)):=by
  rw[←hW1,show w.heap.size+1=(w.alloc (.cells #[.string ⟨#[97]⟩,.int .u8 1] 71)).heap.size by simp];exact A1 _ _
 have hK:∀(s:ByteArray) (V:World),Below W1.heap.size W1 V->s.size<=65536->Calls Tryz.prog 66 #[.string s,.pointer (some ⟨w.heap.size+1,0,none⟩)] V fun e w'=>e= .returned (Tm (k9p s))/\Below V.heap.size V w':=fun s V hV hs=>by
  obtain⟨c0,c1,_⟩:=Be ((hV.block _ (Ay hp1)).trans hp1);obtain⟨d0,d1,_⟩:=Be ((hV.block _ (Ay hp0)).trans hp0);refine Vs s V hs (hR.below (hb1.trans (hV.mono hb1.size))) (w.heap.size+1) c0 c1 ⟨by simp,_,_,rfl,fun i hi=>?_⟩;obtain rfl:i=0:=by simpa using hi
  exact⟨_,_,rfl,d0,d1⟩
 obtain⟨t0,t1,t2,t3⟩:=fW;have K0:=fun V hV=>hK ⟨#[63,97,32,43,32,49,46,53]⟩ V hV mO
 have K1:=fun V hV=>hK ⟨#[110,117,108,108,32,61,32,34,120,34]⟩ V hV mO
 have K2:=fun V hV=>hK ⟨#[49,32,60,32,34,120,34]⟩ V hV mO
 have K3:=fun V hV=>hK ⟨#[63,32,62,32,49]⟩ V hV mO
 rw[t0] at K0;rw[t1] at K1;rw[t2] at K2;rw[t3] at K3;unfold Tm at K0 K1 K2 K3;simp only at K0 K1 K2 K3;have HW1:=Ax hW1;have HB1:=Ax hb1;have HK0:=Ax K0;have HK1:=Ax K1;have HK2:=Ax K2;have HK3:=Ax K3;clear hW1 hb0 hb1 hp0 hp1 hK t0 t1 t2 t3 K0 K1 K2 K3 hR;go_enter Tryz.func34,Tryz.ntmps34;go_upto_region 2 with fail
 rw[HW1.out];have H0:=Ax (HK0.out W1 (Aq _ _));clear HW1;go_wp2_with fail;refine H0.out.mono ?_;rintro e V1 ⟨rfl,hb1⟩;obtain⟨X1,hX1⟩:∃X,V1.alloc (.cells #[.int .i64 0,.int .i64 0] 33)=X:=⟨_,rfl⟩;have hbX1:Below V1.heap.size V1 X1:=by rw[←hX1];exact(Aq _ _).alloc (Ak _) _
 have hB1:=hb1.trans (hbX1.mono hb1.size);have H1:=Ax (HK1.out X1 hB1);have HX1:=Ax hB1;clear hb1 hbX1 hB1 H0 HK0;subst hX1;go_wp2_with fail;refine H1.out.mono ?_;rintro e V2 ⟨rfl,hb2⟩;obtain⟨X2,hX2⟩:∃X,V2.alloc (.cells #[.int .i64 0,.int .i64 0] 33)=X:=⟨_,rfl⟩;have hbX2:Below V2.heap.size V2 X2:=by rw[←hX2];exact(Aq _ _).alloc (Ak _) _
 have hB2:=HX1.out.trans ((hb2.trans (hbX2.mono hb2.size)).mono HX1.out.size);have H2:=Ax (HK2.out X2 hB2);have HX2:=Ax hB2;clear hb2 hbX2 hB2 H1 HK1 HX1;subst hX2;go_wp2_with fail;refine H2.out.mono ?_;rintro e V3 ⟨rfl,hb3⟩;obtain⟨X3,hX3⟩:∃X,V3.alloc (.cells #[.int .i64 1,.int .i64 3] 33)=X:=⟨_,rfl⟩;have hbX3:Below V3.heap.size V3 X3:=by rw[←hX3];exact(Aq _ _).alloc (Ak _) _
 have hp3:=A1 V3 (.cells #[.int .i64 1,.int .i64 3] 33);rw[hX3] at hp3;have hB3:=HX2.out.trans ((hb3.trans (hbX3.mono hb3.size)).mono HX2.out.size);have H3:=Ax (HK3.out X3 hB3);have HX3:=Ax hB3;have HP3:=Ax hp3;clear hb3 hbX3 hp3 hB3 H2 HK2 HX2;go_wp2_with fail;refine H3.out.mono ?_;rintro e V4 ⟨rfl,hb4⟩;obtain⟨X4,hX4⟩:∃X,V4.alloc (.cells #[.int .i64 1,.int .i64 1] 33)=X:=⟨_,rfl⟩;have hbX4:Below V4.heap.size V4 X4:=by rw[←hX4];exact(Aq _ _).alloc (Ak _) _
 have hp4:=A1 V4 (.cells #[.int .i64 1,.int .i64 1] 33);rw[hX4] at hp4;have HX4:=Ax (HB1.out.trans ((HX3.out.trans ((hb4.trans (hbX4.mono hb4.size)).mono HX3.out.size)).mono HB1.out.size));have hp3:=(hbX4.block _ (Nat.lt_of_lt_of_le (Ay HP3.out) hb4.size)).trans ((hb4.block _ (Ay HP3.out)).trans HP3.out);obtain⟨p0,p1,_⟩:=Be hp3;obtain⟨q0,q1,_⟩:=Be hp4;clear hb4 hbX4 hp3 hp4 H3 HK3 HX3 HP3;go_wp2_with fail;go_ret;exact⟨rfl,HX4.out⟩
open Go Go.RowKit Go.Lib
def Ox (l:List Nz):Bool:=l.any fun x=>x.h.op==3
theorem Xj {l:List Nz}{i:Nat}(hi:i<l.length):Ox (l.take (i+1))=(Ox (l.take i)||(l[i].h.op==3)):=by
 unfold Ox;rw[List.take_succ_eq_append_getElem hi,List.any_append,List.any_cons,List.any_nil,Bool.or_false]
theorem dU {l:List Nz}(h:Ox l=false):∀x∈l,x.h.op≠3:=fun x hx e=>by
 have:=List.any_eq_false.1 h x hx
 rw[e] at this;exact this rfl
theorem Z2 {l:List Nz}(h:Ox l=true):∃x∈l,x.h.op=3:=by
 obtain⟨x,hx,e⟩:=List.any_eq_true.1 h;exact⟨x,hx,by simpa using e⟩
theorem aV {v:Value}{l:List Na}{sa:Option Addr}{sc:Nat}{vars:List (List UInt8×Int)}{sf k2:Int}(hsf:0<=sf)(hk2:0<=k2)(w:World)(h:Py w v l)(hS:iE w (.slice sa vars.length sc) vars)(hR:Rd w):
 Calls Tryz.prog 11 #[v,.agg #[.slice sa vars.length sc,.int .u8 sf],.int .u8 k2] w fun e w'=>e= .returned (.bool true)/\Below w.heap.size w w':=by
 obtain⟨W,hW⟩:∃W,w.alloc (.cells #[.slice sa vars.length sc,.int .u8 sf] 59)=W:=⟨_,rfl⟩;have hbW:Below w.heap.size w W:=by rw[←hW];exact(Aq _ w).alloc (Ak _) _
 have hpW:=A1 w (.cells #[.slice sa vars.length sc,.int .u8 sf] 59);rw[hW] at hpW;have hG:=Xk (h.below hbW) sa vars.length sc sf;obtain⟨n,hn⟩:∃n,vars.length=n:=⟨_,rfl⟩;obtain⟨gr,hgr⟩:∃g,I1 l vars.length=g:=⟨_,rfl⟩;rw[hgr] at hG;have HK:=fun(V:World) (hV:Below w.heap.size w V)=>Ax (iX V (hR.below hV))
 have HG:=Ax hG;have HW:=Ax hW;have HBW:=Ax hbW;have HPW:=Ax hpW;have hlt:=Ay hpW;cases gr with
 |true=>
  obtain⟨hlm,va,vc,rfl,_⟩:=h;rw[hn] at HG HW HPW ⊢;clear hR hgr hG hW hbW hpW hS hn;obtain⟨s0,s1,_⟩:=Be HPW.out;go_enter Tryz.func11,Tryz.ntmps11;go_upto_region 1 with fail
  rw[HW.out];go_wp2_with fail;refine HG.out.mono ?_;rintro e V ⟨rfl,hb⟩;have hbV:=HBW.out.trans (hb.mono HBW.out.size);have HB:=Ax hbV;have HK':=HK V hbV;clear hb HG HK hbV s0 s1;go_wp2_with fail;refine HK'.out.mono ?_;rintro e V2 ⟨rfl,hb2⟩;have HB2:=Ax (HB.out.trans (hb2.mono HB.out.size));clear hb2 HB HK';go_wp2_with fail;go_ret;exact⟨rfl,HB2.out⟩
 |false=>
  obtain⟨h70,h3,h40⟩:=X9 hgr;obtain⟨zs,hzl,hz70,hz,hop,hfit⟩:=h.small h70 h3;have hv:=hS.rd mN;have hv0:∀y∈vars,0<=y.2:=fun y hy=>(hS.1 y hy).1
  have hO:=fun(V:World) (hV:Below w.heap.size w V) (s:Int) (hs:0<=s)=>U2 (hz.below hV) hop hfit (hR.below hV) s (hv.below hV) hv0 hs
  have hzz:=hz;obtain⟨_,va,vc,rfl,hcell⟩:=hzz;have HC:=Ax hcell;obtain⟨m,hm⟩:∃m,zs.length=m:=⟨_,rfl⟩;have Hm:=Ax hm;rw[hm] at hO HG ⊢;have HO:=Ax hO;rw[hn] at HG HW HPW HO ⊢;clear hR hgr hG hW hbW hpW hS hzl hz hop hfit hv hv0 hO hcell h h3 hn hm h70;obtain⟨s0,s1,_⟩:=Be HPW.out;go_enter Tryz.func11,Tryz.ntmps11;go_upto_region 1 with fail
  rw[HW.out];go_wp2_with fail;refine HG.out.mono ?_;rintro e V ⟨rfl,hb⟩;have HBV:=Ax (HBW.out.trans (hb.mono HBW.out.size));have HPV:=Ax ((hb.block _ hlt).trans HPW.out);clear hb HG s0 s1 HBW HPW HW;go_wp2_with fail
  go_loopw [7,25] (fun v7 v25 wr=>∃(i:Nat),i<=m/\v25= .int .i64 i/\v7= .bool (Ox (zs.take i))/\Hid (Below V.heap.size V wr)) (fun _ v25 _=>m - (intOf v25).toNat)
  case atStart=>exact⟨0,Nat.zero_le _,rfl,rfl,Aq _ V⟩
  obtain⟨wo,rfl⟩:∃wo:World,wo=wr:=⟨_,rfl⟩;obtain⟨i,hi,rfl,rfl,hq⟩:=hrel;have hbw:Below w.heap.size w wo:=HBV.out.trans (hq.out.mono HBV.out.size);by_cases him:i<m
  ·have hil:i<zs.length:=by rw[Hm.out];exact him
   obtain⟨b,off,kv,ea,hna,_⟩:=HC.out i hil;subst ea;have hna:=hna.below hbw;obtain⟨x0,_⟩:=hna;have hst:=Xj hil;obtain⟨o,ho⟩:∃o,zs[i].h.op=o:=⟨_,rfl⟩;rw[ho] at x0 hst;obtain⟨q,hq3⟩:∃q,Ox (zs.take i)=q:=⟨_,rfl⟩;rw[hq3] at hst ⊢;have j0:(0:Int)<=(i:Int):=by omega
   have j1:(i:Int)<(m:Int):=by omega
   have j2:decide ((i:Int)<(m:Int))=true:=Am j1;have HB:=Ax hq.out;have Hst:=Ax hst;clear hq hbw hst hq3 ho HO;cases q with
   |true=>
    go_wp2_with fail;go_roundw
    case rel=>exact⟨i+1,by omega,by go_num,by rw[Hst.out];rfl,HB⟩
    case measure=>simp [intOf];omega
   |false=>
    obtain⟨p,hp⟩:∃p,(o==3)=p:=⟨_,rfl⟩;have Hp:=Ax hp;go_wp2_with fail;go_roundw
    case rel=>exact⟨i+1,by omega,by go_num,by rw[Hst.out,Hp.out];rfl,HB⟩
    case measure=>simp [intOf];omega
  obtain rfl:i=m:=by omega
  rw[List.take_of_length_le (by rw[Hm.out];exact Ak _)];have hlV:=Ay HPV.out;have hp:=(hq.out.block _ hlV).trans HPV.out;obtain⟨s0,s1,_⟩:=Be hp;have H1:=HO.out wo hbw sf hsf;obtain⟨⟨a1,⟨x1,y1⟩,e1⟩,hp1⟩:∃p,ofP vars sf zs=p:=⟨_,rfl⟩;rw[hp1] at H1;unfold Tm at H1;simp only at H1;have j2:decide ((i:Int)<(i:Int))=false:=by simp
  have HBo:=Ax hbw;have HPo:=Ax hp;have H1:=Ax H1;have HP1:=Ax hp1;clear hq hbw hp hp1;obtain⟨qs,hqs⟩:∃q,Ox zs=q:=⟨_,rfl⟩;rw[hqs];have HQ:=Ax hqs;clear hqs;go_wp2_with fail;refine H1.out.mono ?_;rintro e V1 ⟨rfl,hb1⟩;obtain⟨X1,hX1⟩:∃X,V1.alloc (.cells #[.int .i64 x1,.int .i64 y1] 33)=X:=⟨_,rfl⟩;have hbX1:Below V1.heap.size V1 X1:=by rw[←hX1];exact(Aq _ _).alloc (Ak _) _
  have hpX1:=A1 V1 (.cells #[.int .i64 x1,.int .i64 y1] 33);have hzX1:X1.heap.size=V1.heap.size+1:=by rw[←hX1];simp
  rw[hX1] at hpX1;obtain⟨X2,hX2⟩:∃X,X1.alloc (.cells #[.slice sa n sc,.int .u8 k2] 59)=X:=⟨_,rfl⟩;have hbX2:Below X1.heap.size X1 X2:=by rw[←hX2];exact(Aq _ _).alloc (Ak _) _
  have hpX2:=A1 X1 (.cells #[.slice sa n sc,.int .u8 k2] 59);rw[hX2] at hpX2;have hB1:=HBo.out.trans (hb1.mono HBo.out.size);have hB2:=hB1.trans ((hbX1.trans (hbX2.mono hbX1.size)).mono hB1.size);have hpl1:=(hbX2.block _ (Ay hpX1)).trans hpX1;have H2:=HO.out X2 hB2 k2 hk2;obtain⟨⟨a2,⟨x2,y2⟩,e2⟩,hp2⟩:∃p,ofP vars k2 zs=p:=⟨_,rfl⟩;rw[hp2] at H2;unfold Tm at H2;simp only at H2;obtain⟨s0',s1',_⟩:=Be ((hbX1.block _ (Nat.lt_of_lt_of_le (Ay HPo.out) hb1.size)).trans ((hb1.block _ (Ay HPo.out)).trans HPo.out));obtain⟨s2,s3,_⟩:=Be hpX2;have H2:=Ax H2;have HP2:=Ax hp2;have HX1:=Ax hX1;have HX2:=Ax hX2;have HB2:=Ax hB2;have HPl1:=Ax hpl1;have HSc:=Ax hpX2;have HzX1:=Ax hzX1;have HlV:=Ax (Al hB1.size (Ak _));clear hb1 hX1 hbX1 hpX1 hzX1 hX2 hbX2 hpX2 hB1 hB2 hpl1 hp2 H1 s0 s1;go_upto_region 10 with fail
  (try rw[HX1.out])
  clear HX1;go_upto_region 12 with fail
  rw[HX2.out];clear HX2 s0' s1';go_wp2_with fail;refine H2.out.mono ?_;rintro e V2 ⟨rfl,hb2⟩;obtain⟨X3,hX3⟩:∃X,V2.alloc (.cells #[.int .i64 x2,.int .i64 y2] 33)=X:=⟨_,rfl⟩;have hbX3:Below V2.heap.size V2 X3:=by rw[←hX3];exact(Aq _ _).alloc (Ak _) _
  have hpX3:=A1 V2 (.cells #[.int .i64 x2,.int .i64 y2] 33);rw[hX3] at hpX3;have hb23:=hb2.trans (hbX3.mono hb2.size);have hB3:=HB2.out.trans (hb23.mono HB2.out.size);have hpl1:=(hb23.block _ (Ay HPl1.out)).trans HPl1.out;have hsc:=(hb23.block _ (Ay HSc.out)).trans HSc.out;obtain⟨f0,f1,_⟩:=Be hpl1;obtain⟨g0,g1,_⟩:=Be hpX3;obtain⟨s2,s3,sf3⟩:=Be hsc;have sf31:=sf3 1;have HX3:=Ax hX3;have HB3:=Ax hB3;have HSc3:=Ax hsc;clear hb2 hX3 hbX3 hpX3 hb23 hB3 hpl1 hsc H2 HSc HPl1 sf3;go_upto_region 13 with fail
  rw[HX3.out];clear HX3;cases qs with
  |false=>
   have he:=HP1.out.symm.trans ((dX sf k2 (dU HQ.out)).trans HP2.out);injection he with he1 he2;injection he2 with he2 he3;injection he2 with he2 he4;subst he1 he2 he3 he4;have t1:(a1==a1)=true:=beq_self_eq_true _;have t2:(x1==x1)=true:=beq_self_eq_true _;have t3:(y1==y1)=true:=beq_self_eq_true _;have t4:(e1==e1)=true:=beq_self_eq_true _;have HK':=HK X3 HB3.out;clear HK HO HP1 HP2 HQ;go_wp2_with fail;refine HK'.out.mono ?_;rintro e V4 ⟨rfl,hb4⟩;have HB4:=Ax (HB3.out.trans (hb4.mono HB3.out.size));clear hb4 HK';go_wp2_with fail;go_ret;exact⟨rfl,HB4.out⟩
  |true=>
   obtain⟨q3,q4⟩:=fV (vars:=vars) (Z2 HQ.out);obtain⟨X4,hX4⟩:∃X,X3.setCell ⟨X1.heap.size,1,none⟩ (.int .u8 0)=X:=⟨_,rfl⟩
   have hB4:Below w.heap.size w X4:=by
    rw[←hX4];refine HB3.out.setCell ?_ _;have h1:=HlV.out;have h2:=HzX1.out;show w.heap.size<=X1.heap.size;omega
   have hsc:=Joins.block_setCell HSc3.out (i:=1) (.int .u8 0);rw[hX4] at hsc;obtain⟨s4,s5,_⟩:=Be (show X4.heap[X1.heap.size]? =some (.cells #[.slice sa n sc,.int .u8 0] 59 (0,0)) from hsc);have H3:=HO.out X4 hB4 0 (Int.le_refl 0);obtain⟨⟨a3,⟨x3,y3⟩,e3⟩,hp3⟩:∃p,ofP vars 0 zs=p:=⟨_,rfl⟩;rw[hp3] at H3 q3 q4;unfold Tm at H3;simp only at H3 q3 q4;subst q3;have t4:(e3==0)=false:=Af.2 q4;have t5:(e3 !=0)=true:=by simp [bne,t4]
   have H3:=Ax H3;have HX4:=Ax hX4;have HB4:=Ax hB4;clear hX4 hB4 hsc hp3 q4 HO HP1 HP2 HQ;go_upto_region 16 with fail
   rw[HX4.out];clear HX4 s2 s3 sf31 f0 f1 g0 g1;go_wp2_with fail;refine H3.out.mono ?_;rintro e V5 ⟨rfl,hb5⟩;obtain⟨X5,hX5⟩:∃X,V5.alloc (.cells #[.int .i64 x3,.int .i64 y3] 33)=X:=⟨_,rfl⟩;have hbX5:Below V5.heap.size V5 X5:=by rw[←hX5];exact(Aq _ _).alloc (Ak _) _
   have hB5:=HB4.out.trans ((hb5.trans (hbX5.mono hb5.size)).mono HB4.out.size);have HK':=HK X5 hB5;have HX5:=Ax hX5;have HB5:=Ax hB5;clear hb5 hX5 hbX5 hB5 H3 HK s4 s5;go_upto_region 17 with fail
   rw[HX5.out];clear HX5;go_wp2_with fail;refine HK'.out.mono ?_;rintro e V6 ⟨rfl,hb6⟩;have HB6:=Ax (HB5.out.trans (hb6.mono HB5.out.size));clear hb6 HK';go_wp2_with fail;go_ret;exact⟨rfl,HB6.out⟩
end Go.Proofs.YtgfakdobajgnfaaGreatDoor
