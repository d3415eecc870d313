import Derived.Test.YtgfakdobajgnfaaGreatDoorQk36
import Derived.Test.YtgfakdobajgnfaaGreatDoorQk35
set_option maxRecDepth 100000
set_option maxHeartbeats 16000000
namespace Go.Proofs.YtgfakdobajgnfaaGreatDoor
open Go Go.RowKit Go.Lib
theorem Wv:∀{zs:List Nz} {l:List Na},zs.length=l.length->(∀i (h1:i<l.length) (h2:i<zs.length),zs[i].h=l[i].h)->(zs.map G7).sum<=430*l.length+J7 l
 |[],[],_,_=>by simp [J7]
 |z::zs,x::l,h,q=>by
  have h1:=Wv (zs:=zs) (l:=l) sD (fun i h1 h2=>q (i+1) sU uD);have h2:z.h=x.h:=q 0 rI rI;unfold J7 at h1 ⊢;rw[List.map_cons,List.sum_cons,List.map_cons,List.sum_cons,Aa];unfold G7 at h1 ⊢;rw[h2];omega
 |[],_::_,h,_=>by simp at h
 |_::_,[],h,_=>by simp at h
theorem Sk.small2 {w:World}{v:Value}{l:List Na}(h:Sk w v l)(k:l.length<=70)(m:J7 l<=3000):
 ∃zs:List Nz,zs.length=l.length/\zs.length<=70/\TrZ w v zs/\(∀x∈zs,0<=x.h.op)/\(∀x∈zs,Gk x.h)/\(zs.length<=60->(zs.map G7).sum<=65536):=by
 have e:∀i (c:i<l.length),l[i].h.name.length+l[i].h.v.2.2.length+l[i].n<=3000:=fun i c=>Al (cM (List.mem_map.2 ⟨l[i],List.getElem_mem c,rfl⟩)) m
 obtain⟨zs,f,d,o⟩:=h.z rF (fun x g=>by
  obtain⟨i,c,rfl⟩:=List.getElem_of_mem g
  have:=e i c
  omega)
 obtain⟨_,_,_,_,j⟩:=h;refine⟨zs,f,by omega,o,fun x g=>?_,fun x g=>?_,fun p=>?_⟩
 ·obtain⟨i,c,rfl⟩:=List.getElem_of_mem g;obtain⟨_,_,_,_,ok⟩:=j i rF;rw[(d i rF c).1];exact ok.op0
 ·obtain⟨i,c,rfl⟩:=List.getElem_of_mem g;obtain⟨_,_,_,_,ok⟩:=j i rF;rw[(d i rF c).1]
  have:=e i rF
  exact⟨ok.v0,ok.v1,by omega,by omega⟩
 have:=Wv f (fun i q r=>(d i q r).1)
 omega
theorem Xd {k m:Value}{L:List (List UInt8)}(w:World)(n:Mo w k L)(u:Mo w m L):Calls Tryz.prog 39 #[k,m] w fun e w'=>e= .returned (.bool true)/\Below w.heap.size w w':=by
 have v:=n.1;obtain⟨_,C,D,rfl,f⟩:=n;obtain⟨_,E,F,rfl,g⟩:=u;have o:=Ax f;have p:=Ax g;clear f g;have G:((L.length:Int) !=(L.length:Int))=false:=by simp
 have I:((L.length:Int)==(L.length:Int))=true:=by simp
 go_enter Tryz.func39,Tryz.ntmps39;go_wp2_with fail
 go_loopw [13] (fun v13 wr=>∃(i:Nat),i<=L.length/\v13= .int .i64 i/\Hid (Below w.heap.size w wr)) (fun v13 _=>L.length - (intOf v13).toNat)
 case atStart=>exact⟨0,Nat.zero_le _,rfl,Aq _ w⟩
 obtain⟨q,rfl⟩:∃q:World,q=wr:=⟨_,rfl⟩;obtain⟨i,M,rfl,d⟩:=hrel;by_cases hil:i<L.length
 ·obtain⟨N,O,rfl,h⟩:=o.out i hil;obtain⟨R,T,rfl,j⟩:=p.out i hil;have h:=A4 d.out h;have j:=A4 d.out j;obtain⟨y,r⟩:∃y,L[i]=y:=⟨_,rfl⟩;rw[r] at h j;have U:(0:Int)<=(i:Int):=by omega
  have x:(i:Int)<(L.length:Int):=by omega
  have A:decide ((i:Int)<(L.length:Int))=true:=Am x;have V:(y==y)=true:=beq_self_eq_true y;have W:(y !=y)=false:=by simp
  have c:=fun nq=>Ax (A8 d.out nq)
  clear d r o p;go_wp2_with fail;go_quiet (fail);go_wp2_with fail;refine⟨⟨i+1,by omega,by go_num,c _⟩,?_⟩;simp [intOf];omega
 obtain rfl:i=L.length:=by omega
 have A:decide ((L.length:Int)<(L.length:Int))=false:=by simp
 have c:=Ax d.out;clear d;go_wp2_with fail;go_ret;exact⟨rfl,c.out⟩
theorem aH {v:Value}{l:List Na}{sa:Option Addr}{sc:Nat}{vars:List (List UInt8×Int)}{sf:Int}(j9:0<=sf)(w:World)(h:Sk w v l)(hS:kQ w (.slice sa vars.length sc) vars)(hR:Rd w):
 Calls Tryz.prog 12 #[v,.agg #[.slice sa vars.length sc,.int .u8 sf]] w fun e w'=>e= .returned (.bool true)/\Below w.heap.size w w':=by
 obtain⟨W,hW⟩:∃W,w.alloc (.cells #[.slice sa vars.length sc,.int .u8 sf] 59)=W:=⟨_,rfl⟩;have F:Below w.heap.size w W:=by rw[←hW];exact(Aq _ w).alloc (Ak _) _
 have k:=Az w (.cells #[.slice sa vars.length sc,.int .u8 sf] 59);rw[hW] at k;have hG:=Ze (h.below F) sa vars.length sc sf;obtain⟨n,hn⟩:∃n,vars.length=n:=⟨_,rfl⟩;obtain⟨gr,G⟩:∃g,Jr l vars.length=g:=⟨_,rfl⟩;rw[G] at hG;have HK:=fun(V:World) (hV:Below w.heap.size w V)=>Ax (mV V (hR.below hV))
 have R:=Ax hG;have HW:=Ax hW;have o:=Ax F;have i:=Ax k;have w8:=Ay k;cases gr with
 |true=>
  obtain⟨y9,va,vc,rfl,_⟩:=h;rw[hn] at R HW i ⊢;clear hR G hG hW F k hS hn;obtain⟨s0,s1,_⟩:=Bf i.out;go_enter Tryz.func12,Tryz.ntmps12;go_upto_region 1 with fail
  rw[HW.out];go_wp2_with fail;refine R.out.mono ?_;rintro e V ⟨rfl,hb⟩;have d:=o.out.trans (hb.mono o.out.size);have HB:=Ax d;have q:=HK V d;clear hb R HK d s0 s1;go_wp2_with fail;refine q.out.mono ?_;rintro e V2 ⟨rfl,j⟩;have r:=Ax (HB.out.trans (j.mono HB.out.size));clear j HB q;go_wp2_with fail;go_ret;exact⟨rfl,r.out⟩
 |false=>
  obtain⟨k8,h3,uR⟩:=Zw G;obtain⟨zs,w9,y8,hz,u,c,f⟩:=h.small2 k8 h3;have hv:=hS.rd rF;have T:∀y∈vars,0<=y.2:=fun y hy=>(hS.1 y hy).1
  have hO:=fun(V:World) (hV:Below w.heap.size w V)=>Ye (hz.below hV) u c (hR.below hV) sf (hv.below hV) T j9
  have hQ:=fun(V:World) (hV:Below w.heap.size w V)=>nP (hz.below hV) u c f sf (hv.below hV) T j9
  have hN:=fun(V:World) (hV:Below w.heap.size w V)=>bD (hz.below hV) u c (hR.below hV)
  have hM:=fun(V:World) (hV:Below w.heap.size w V)=>aO (hz.below hV) u c f
  obtain⟨⟨a1,⟨x1,y1⟩,e1⟩,l7⟩:∃p,ofP vars sf zs=p:=⟨_,rfl⟩;rw[l7] at hO hQ;unfold Xm at hO hQ;simp only at hO hQ;have x8:=hz;obtain⟨_,va,vc,rfl,_⟩:=x8;obtain⟨m,hm⟩:∃m,zs.length=m:=⟨_,rfl⟩;obtain⟨L,hL⟩:∃L,I5 zs=L:=⟨_,rfl⟩;rw[hm] at hO hQ hN hM R ⊢;rw[hL] at hN hM;have HO:=Ax hO;have HQ:=Ax hQ;have HN:=Ax hN;have HM:=Ax hM;rw[hn] at R HW i HO HQ ⊢;clear hR G hG hW F k hS w9 hz u c f hv T hO hQ hN hM h h3 hn hm k8 hL l7;obtain⟨s0,s1,_⟩:=Bf i.out;have t1:(a1==a1)=true:=beq_self_eq_true _;have t2:(x1==x1)=true:=beq_self_eq_true _;have t3:(y1==y1)=true:=beq_self_eq_true _;have t4:(e1==e1)=true:=beq_self_eq_true _;go_enter Tryz.func12,Tryz.ntmps12;go_upto_region 1 with fail
  rw[HW.out];go_wp2_with fail;refine R.out.mono ?_;rintro e V ⟨rfl,hb⟩;have d:=o.out.trans (hb.mono o.out.size);have U:=(hb.block _ w8).trans i.out;obtain⟨s0,s1,_⟩:=Bf U;have H1:=Ax (HO.out V d);have Y:=Ax d;have Z:=Ax U;clear hb R d U o i HW HO;go_wp2_with fail;refine H1.out.mono ?_;rintro e V1 ⟨rfl,a8⟩;obtain⟨X1,I⟩:∃X,V1.alloc (.cells #[.int .i64 x1,.int .i64 y1] 33)=X:=⟨_,rfl⟩;have N:Below V1.heap.size V1 X1:=by rw[←I];exact(Aq _ _).alloc (Ak _) _
  have x:=Az V1 (.cells #[.int .i64 x1,.int .i64 y1] 33);rw[I] at x;have A:=a8.trans (N.mono a8.size);have b7:=Y.out.trans (A.mono Y.out.size);obtain⟨s0,s1,_⟩:=Bf ((A.block _ (Ay Z.out)).trans Z.out);have H2:=Ax (HQ.out X1 b7);have n9:=Ax I;have C:=Ax x;have b8:=Ax b7;clear a8 I N x A b7 H1 HQ Y Z;go_upto_region 4 with fail
  (try rw[n9.out])
  clear n9;go_wp2_with fail;refine H2.out.mono ?_;rintro e V2 ⟨rfl,j⟩;obtain⟨X2,M⟩:∃X,V2.alloc (.cells #[.int .i64 x1,.int .i64 y1] 33)=X:=⟨_,rfl⟩;have O:Below V2.heap.size V2 X2:=by rw[←M];exact(Aq _ _).alloc (Ak _) _
  have D:=Az V2 (.cells #[.int .i64 x1,.int .i64 y1] 33);rw[M] at D;have E:=j.trans (O.mono j.size);have d8:=b8.out.trans (E.mono b8.out.size);obtain⟨q0,q1,_⟩:=Bf ((E.block _ (Ay C.out)).trans C.out);obtain⟨r0,r1,_⟩:=Bf D;have H3:=Ax (HN.out X2 d8);have p8:=Ax M;have r:=Ax d8;clear j M O D E d8 H2 C HN b8 s0 s1;go_upto_region 5 with fail
  (try rw[p8.out])
  clear p8;go_wp2_with fail;refine H3.out.mono ?_;rintro e V3 ⟨n1,rfl,r7,r8⟩;have f7:=r.out.trans (r8.mono r.out.size);have H4:=Ax (HM.out V3 f7);have f8:=Ax f7;have r9:=Ax r7;clear r8 f7 r7 H3 HM r q0 q1 r0 r1;go_wp2_with fail;refine H4.out.mono ?_;rintro e V4 ⟨n2,rfl,s7,f9⟩;have s8:=f8.out.trans (f9.mono f8.out.size);have H5:=Ax (Xd V4 (r9.out.below f9) s7);have i6:=Ax s8;clear f9 s8 s7 H4 r9 f8;go_wp2_with fail;refine H5.out.mono ?_;rintro e V5 ⟨rfl,s9⟩;have i7:=i6.out.trans (s9.mono i6.out.size);have q:=HK V5 i7;have j8:=Ax i7;clear s9 i7 H5 HK i6;go_wp2_with fail;refine q.out.mono ?_;rintro e V6 ⟨rfl,w7⟩;have x9:=Ax (j8.out.trans (w7.mono j8.out.size));clear w7 q j8;go_wp2_with fail;go_ret;exact⟨rfl,x9.out⟩
end Go.Proofs.YtgfakdobajgnfaaGreatDoor
