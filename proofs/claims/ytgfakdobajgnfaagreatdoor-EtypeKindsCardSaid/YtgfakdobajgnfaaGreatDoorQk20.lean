import Derived.Deep.RegionLaw
import Derived.Test.YtgfakdobajgnfaaGreatDoorQk19
set_option maxRecDepth 100000
set_option maxHeartbeats 16000000
namespace Go.Proofs.YtgfakdobajgnfaaGreatDoor
open Go Go.RowKit Go.Lib
theorem Ck.store {V:World}{r:Nat}{v:Value}{l:List Nat}{p:Bool}{s:Value}{t:TypeId}(h:Ck V v l)(d:∃a n c,s= .slice a n c)(hr:V.heap[r]? =some (.cells #[.bool p,s] t (0,0)))(u u':Value):Ck ((V.setCell ⟨r,0,none⟩ u).setCell ⟨r,1,none⟩ u') v l:=by
 obtain⟨m,o,q,rfl⟩:=d;obtain⟨f,g,j,rfl,k,h4⟩:=h;refine⟨f,g,j,rfl,k,fun i hi=>?_⟩;exact zyp
structure Rm (w wr:World)(bx by':Bool)(sx sy:Value)(ps:Bool)(ss:Value):Prop where
 x:wr.heap[w.heap.size]? =some (.cells #[.bool bx,sx] 79 (0,0))
 y:wr.heap[w.heap.size+1]? =some (.cells #[.bool by',sy] 79 (0,0))
 z:wr.heap[w.heap.size+2]? =some (.cells #[.bool false,.slice none 0 0] 79 (0,0))
 s:wr.heap[w.heap.size+3]? =some (.cells #[.bool ps,ss] 79 (0,0))
 bel:Below w.heap.size w wr
theorem Rm.below {w wr V:World}{e c:Bool}{f g:Value}{i:Bool}{j:Value}(h:Rm w wr e c f g i j)(d:Below wr.heap.size wr V):Rm w V e c f g i j:=
 ⟨(d.block _ (Ay h.x)).trans h.x,(d.block _ (Ay h.y)).trans h.y,(d.block _ (Ay h.z)).trans h.z,(d.block _ (Ay h.s)).trans h.s,h.bel.trans (d.mono h.bel.size)⟩
theorem bK {V:World}{r:Nat}{p:Bool}{s:Value}{t:TypeId}(c:V.heap[r]? =some (.cells #[.bool p,s] t (0,0)))(q:Bool)(u:Value):((V.setCell ⟨r,0,none⟩ (.bool q)).setCell ⟨r,1,none⟩ u).heap[r]? =some (.cells #[.bool q,u] t (0,0)):=by
 simp only[World.setCell,Array.getElem?_modify,c];simp
theorem Rm.store {w wr:World}{d c:Bool}{e f:Value}{g:Bool}{i:Value}(h:Rm w wr d c e f g i)(q:Bool)(u:Value):Rm w ((wr.setCell ⟨w.heap.size+3,0,none⟩ (.bool q)).setCell ⟨w.heap.size+3,1,none⟩ u) d c e f q u:=by
 refine⟨?_,?_,?_,bK h.s q u,(h.bel.setCell (p:=⟨w.heap.size+3,0,none⟩) rI _).setCell (p:=⟨w.heap.size+3,1,none⟩) rI _⟩
 ·rw[Below.heap_setCell _ _ _ _ rI,Below.heap_setCell _ _ _ _ rI];exact h.x
 ·rw[Below.heap_setCell _ _ _ _ rI,Below.heap_setCell _ _ _ _ rI];exact h.y
 rw[Below.heap_setCell _ _ _ _ rI,Below.heap_setCell _ _ _ _ rI];exact h.z
theorem Rm.with {w wr:World}{e c:Bool}{f g:Value}{i:Bool}{d:Value}{l:List Nat}(h:Rm w wr e c f g i d)(hd:∀V,Ck V d l):Rm w wr e c f g i d/\Ck wr d l:=⟨h,hd _⟩
def ml0 (w:World)(d c:Bool)(e f:Value):World:=((((w.alloc (.cells #[.bool d,e] 79)).alloc (.cells #[.bool c,f] 79)).alloc (.cells #[.bool false,.slice none 0 0] 79)).alloc (.cells #[.bool false,.slice none 0 0] 79))
theorem pZ (w:World)(g c:Bool)(h i:Value):Rm w (ml0 w g c h i) g c h i false (.slice none 0 0):=by
 obtain⟨d,j⟩:∃d,w.alloc (.cells #[.bool g,h] 79)=d:=⟨_,rfl⟩;obtain⟨e,k⟩:∃e,d.alloc (.cells #[.bool c,i] 79)=e:=⟨_,rfl⟩;obtain⟨f,m⟩:∃f,e.alloc (.cells #[.bool false,.slice none 0 0] 79)=f:=⟨_,rfl⟩;have p:d.heap.size=w.heap.size+1:=by rw[←j];simp
 have q:e.heap.size=w.heap.size+2:=by rw[←k];simp [p]
 have v:f.heap.size=w.heap.size+3:=by rw[←m];simp [q]
 have x:d.heap[w.heap.size]? =some (.cells #[.bool g,h] 79 (0,0)):=by rw[←j];exact Az _ _
 have y:e.heap[w.heap.size+1]? =some (.cells #[.bool c,i] 79 (0,0)):=by rw[←k,←p];exact Az _ _
 have r:f.heap[w.heap.size+2]? =some (.cells #[.bool false,.slice none 0 0] 79 (0,0)):=by rw[←m,←q];exact Az _ _
 have A:Below w.heap.size w d:=by rw[←j];exact(Aq _ _).alloc (Ak _) _
 have u:Below d.heap.size d e:=by rw[←k];exact(Aq _ _).alloc (Ak _) _
 have o:Below e.heap.size e f:=by rw[←m];exact(Aq _ _).alloc (Ak _) _
 have n:Below f.heap.size f (f.alloc (.cells #[.bool false,.slice none 0 0] 79)):=(Aq _ _).alloc (Ak _) _;unfold ml0;rw[j,k,m];refine⟨?_,?_,(n.block _ (Ay r)).trans r,?_,((A.trans (u.mono rF)).trans (o.mono rF)).trans (n.mono rF)⟩
 ·rw[n.block _ rF,o.block _ rF,u.block _ rF];exact x
 ·rw[n.block _ rF,o.block _ rF];exact y
 rw[←v];exact Az _ _
structure aQ (B:Nat)(W0 wr:World)(xs:List Nat)(y i k more:Nat)(v:Value)(o:List Nat):Prop where
 row:wr.ownsRow B 3 1 v (i+k) (De (List.replicate i 0++o))
 len:o.length=k
 ok:okD o
 val:nv o+10000^k*(more+nv (xs.drop k)*y)=nv xs*y
 bel:Below B W0 wr
theorem aQ.drew {B:Nat}{c wr:World}{d:List Nat}{y i k more:Nat}{v:Value}{o:List Nat}(h:aQ B c wr d y i k more v o)(n:Nat):aQ B c (wr.drewN n) d y i k more v o:=
 ⟨h.row,h.len,h.ok,h.val,h.bel.os,h.bel.tape,h.bel.output,h.bel.size,h.bel.block⟩
theorem bI {O p t s A y:Nat}(h:t+10000*(A*y)=s):O+p*(t % 10000)+p*10000*(t/10000+A*y)=O+p*s:=by
 have:p*(t % 10000)+p*10000*(t/10000+A*y)=p*s:=by
  rw[Nat.mul_assoc,←Nat.mul_add];congr 1;rw[Nat.mul_add];omega
 omega
theorem jS (i:Nat)(o:List Nat):nv (List.replicate i 0++o)=10000^i*nv o:=by
 rw[Z4,List.length_replicate]
 have:nv (List.replicate i 0)=0:=by
  induction i with
  |zero=>rfl
  |succ n ih=>rw[List.replicate_succ,nv,ih]
 rw[this,Nat.zero_add]
theorem mE (i:Nat){o:List Nat}(h:okD o):okD (List.replicate i 0++o):=fun d hd=>by
 rcases List.mem_append.1 hd with hd|hd
 ·rw[List.eq_of_mem_replicate hd];decide
 exact h d hd
theorem Yr (n:Nat)(p:n<=1000000)(w:World):∃w',(Instr.makeSlice 41 (.int .i64 (n:Int)) (.int .i64 (n:Int))).run Tryz.prog w= .ok (.slice (some ⟨w.heap.size,0,none⟩) n n) w'/\Below w.heap.size w w'/\w'.ownsRow w.heap.size 3 1 (.slice (some ⟨w.heap.size,0,none⟩) n n) n (De (List.replicate n 0)):=by
 obtain⟨i,j,f,g,h⟩:=Cj;obtain⟨w',c,d,m⟩:=run_make_full (P:=Tryz.prog) w w.heap.size 41 3 i (.int .i64 0) 1 Tryz.underlying41 j f g .i64 .i64 n (by rw[h];omega) rP (Ak _);refine⟨w',c,(Bb.of_grown m [] (fun k e=>by cases e)).below,?_⟩
 have:(madeCells (Value.int .i64 0).cells (n*1)).toList=De (List.replicate n 0):=by
  simp [madeCells,De];rw[List.eq_replicate_iff];refine⟨by simp,fun u o=>?_⟩;obtain⟨x,_,rfl⟩:=List.mem_map.1 o
  show(#[Value.int .i64 0]:Array Value)[x % 1]! =_
  rw[Nat.mod_one];rfl
 rw[←this];exact d
theorem Bm.nat {w:World}{v:Value}{m:Nat}(h:Bm w v (m:Int)):∃a n c,v= .agg #[.bool false,.slice a n c]/\Ck w (.slice a n c) (dg m):=by
 obtain⟨a,c,d,e⟩:=h.form;refine⟨a,_,c,?_,by simpa using e⟩;rw[d,An rF];rfl
theorem aG {w:World}{sx sy:Value}{xs f:List Nat}(U g:Bool)(hx:Ck w sx xs)(hy:Ck w sy f)(r7:okD xs)(r8:okD f)(vJ:xs.length<=40000)(vK:f.length<=40000){z:Int}(hz:sgn (U !=g) (nv xs*nv f)=z):Calls Tryz.prog 127 #[.agg #[.bool U,sx],.agg #[.bool g,sy]] w (Fv w z):=by
 obtain⟨ax,cx,rfl,_⟩:=hx.slice;obtain⟨ay,cy,rfl,_⟩:=hy.slice;have HX:=Ax hx;have HY:=Ax hy;have r9:=Ax r7;have s7:=Ax r8;have HZ:=Ax hz;have h0:=pZ w U g (.slice ax xs.length cx) (.slice ay f.length cy);have HS:=Ax (h0.with (l:=dg (nv xs*nv (f.take 0))) fun V=>by rw[List.take_zero];show Ck _ _ (dg (nv xs*0));rw[Nat.mul_zero,D1];exact Ck.nil _);unfold ml0 at HS;clear hx hy r7 r8 hz h0;go_enter Tryz.func127,Tryz.ntmps127;go_wp2_with fail
 go_loopw [6] (fun v6 wr=>∃(i:Nat) (sa:Option Addr) (sn sc:Nat),i<=f.length/\v6= .int .i64 i/\Hid (Rm w wr U g (.slice ax xs.length cx) (.slice ay f.length cy) false (.slice sa sn sc)/\Ck wr (.slice sa sn sc) (dg (nv xs*nv (f.take i))))) (fun v6 _=>f.length - (intOf v6).toNat)
 case atStart=>exact⟨0,none,0,0,Nat.zero_le _,rfl,HS⟩
 obtain⟨wo,rfl⟩:∃wo:World,wo=wr:=⟨_,rfl⟩;obtain⟨i,sa,sn,sc,hi,rfl,Y⟩:=hrel;obtain⟨Z,hD⟩:=Y.out;obtain⟨m0,m1,_⟩:=A1 Z.x;obtain⟨m2,m3,_⟩:=A1 Z.y;obtain⟨m4,m5,_⟩:=A1 Z.s;by_cases hil:i<f.length
 ·have p0:decide ((i:Int)<(f.length:Int))=true:=Am rF;obtain⟨W0,vL,u,a8⟩:=Yr i rF wo;have HM:=Ax Z;have HD:=Ax hD;have s8:=Z.below u;have vM:=Ax s8;have W:=Ax u;have b7:Hid (aQ wo.heap.size W0 W0 xs f[i] i 0 0 (.slice (some ⟨wo.heap.size,0,none⟩) i i) []):=Ax ⟨by rw[List.append_nil];exact a8,rfl,fun _ h=>by(cases h),by simp [nv],Aq _ _⟩;have uX:=s7.out _ (List.getElem_mem hil);have b8:=Ax (F4 f i hil);obtain⟨y,d8⟩:∃y,f[i]=y:=⟨_,rfl⟩;rw[d8] at b7 b8 uX;have uY:=Ax d8;clear Y Z hD u a8 s8 d8 HS;go_wp2_with fail
  go_loopw [7,8,9] (fun v7 v8 v9 T=>∃(k more:Nat) (o:List Nat) (oa:Option Addr) (oc:Nat),more<=9999/\(k<=xs.length\/k=xs.length+1/\more=0)/\v7= .slice oa (i+k) oc/\v8= .int .i64 more/\v9= .int .i64 k/\Hid (aQ wo.heap.size W0 T xs y i k more (.slice oa (i+k) oc) o)) (fun _ _ v9 _=>xs.length+2 - (intOf v9).toNat)
  case atStart=>exact⟨0,0,[],some ⟨wo.heap.size,0,none⟩,i,by omega,.inl rF,rfl,rfl,rfl,b7⟩
  obtain⟨T,rfl⟩:∃T:World,T=wr:=⟨_,rfl⟩;obtain⟨k,more,o,oa,oc,hm,hk,rfl,rfl,rfl,Y⟩:=hrel;have C:=Y.out;have j:=HM.out.below (W.out.trans C.bel);obtain⟨n0,n1,_⟩:=A1 j.x;obtain⟨n2,n3,_⟩:=A1 j.y;obtain⟨n4,n5,_⟩:=A1 j.s;by_cases hkl:k<xs.length
  ·skip
   have D:=j.bel;obtain⟨vN,vO,uZ,f7⟩:=HX.out.at hkl;obtain⟨vP,vQ,vA,f8⟩:=HY.out.at hil;subst uZ;subst vA;have f7:=A4 D f7;have f8:=A4 D f8;have vB:=r9.out _ (List.getElem_mem hkl);have f9:=Dj hkl;obtain⟨x,hx⟩:∃x,xs[k]=x:=⟨_,rfl⟩;rw[hx] at f7 f9 vB;rw[uY.out] at f8;obtain⟨p,hp⟩:∃p,x*y=p:=⟨_,rfl⟩;have vR:p<=99980001:=by rw[←hp];exact Nat.mul_le_mul (show x<=9999 by omega) (show y<=9999 by omega)
   have vS:(x:Int)*(y:Int)=(p:Int):=by rw[←hp];exact(Int.natCast_mul x y).symm
   have i6:nv (xs.drop k)*y=p+10000*(nv (xs.drop (k+1))*y):=by rw[f9,Nat.add_mul,hp,Nat.mul_assoc]
   have p1:decide ((k:Int)<(xs.length:Int))=true:=Am rF;have vT:(k:Int)<(xs.length:Int):=by omega
   have vU:(i:Int)<(f.length:Int):=by omega
   have q7:(0:Int)<=(p:Int):=by omega
   have q8:(p:Int)<=99980001:=by omega
   have vV:IntKind.i64.wrap (p:Int)=(p:Int):=IntWalk.i64_in _ ⟨by omega,by omega⟩;have vW:IntKind.i64.wrap ((more:Int)+(p:Int))=(more:Int)+(p:Int):=IntWalk.i64_in _ ⟨by omega,by omega⟩;have q0:(0:Int)<=(k:Int):=by omega
   have vC:(0:Int)<=(i:Int):=by omega
   have q5:(0:Int)<=(more:Int):=by omega
   have q6:(more:Int)<=9999:=by omega
   obtain⟨d,E⟩:∃d,(more+p) % 10000=d:=⟨_,rfl⟩;obtain⟨c,F⟩:∃c,(more+p)/10000=c:=⟨_,rfl⟩;have hz:((more:Int)+(p:Int)) % 10000=(d:Int):=by omega
   have hd:((more:Int)+(p:Int))/10000=(c:Int):=by omega
   have hm1:c<=9999:=by omega
   have G:k+1<=xs.length\/k+1=xs.length+1/\c=0:=by omega
   have HVL:=Ax (bI (O:=nv o) (p:=10000^k) (t:=(more+p)) (A:=nv (xs.drop (k+1))) (y:=y) (s:=more+nv (xs.drop k)*y) rF);rw[E,F] at HVL;have HR:=Ax C;have HSW:=Ax W.out.size;have HDL:=Ax (show d<10000 by omega);obtain⟨i0,I,L,M,N⟩:=Cj;have i7:=Ax I;have j8:=Ax L;have j9:=Ax M;have k8:=Ax N;have Hbd:=Ax G;clear Y j C I L M N i6 G E F D f9 hx hp;go_wp2_with fail;go_quiet (fail);have HR:=Ax (HR.out.drew nq);obtain⟨wj,s9⟩:∃wj,T.drewN nq=wj:=⟨_,rfl⟩;rw[s9] at HR ⊢;clear s9;have Hrow1:=Ax (HR.out.row.alloc (.cells #[.int .i64 (d:Int)] 3));have HN1:=Ax (Az wj (.cells #[.int .i64 (d:Int)] 3));have HZ1:Hid ((wj.alloc (.cells #[.int .i64 (d:Int)] 3)).heap.size=wj.heap.size+1):=Ax rI;have hsr:=HR.out.bel.size;have Hown:=Ax (Co HR.out.row);go_wp2_with ((refine wpList_append_lies _ rfl (.tmp 49) (.tmp 52) _ rfl wo.heap.size 3 i0 (.int .i64 0) 1 8 Tryz.underlying41 i7.out j8.out j9.out k8.out rfl rH (.slice oa (i+k) oc) (i+k) (De (List.replicate i 0++o)) rfl Hrow1.out ⟨wj.heap.size,0,none⟩ 1 1 [.int .i64 (d:Int)] rfl rfl (World.news_of_block (cs:= #[.int .i64 (d:Int)]) HN1.out) rS rH rP rF tK (wj.heap.size+1) HZ1.out ?_;intro g6 cap w6 hown6 hgrow6 hat6 hlt6));exact zy4
  by_cases hm0:more=0
  ·subst hm0;have p1:decide ((k:Int)<(xs.length:Int))=false:=An rF
   have w7:nv o=nv xs*y:=by
    have:=C.val
    rw[List.drop_eq_nil_of_le rF] at this;simpa[nv] using this
   have w8:(List.replicate i 0++o).length=i+k:=by rw[Ab,List.length_replicate,C.len]
   have w9:=Ck.of_row rF w8.symm C.row
   have x8:(dg (nv xs*nv (f.take i))).length<=100000:=by
    have h1:=Lh (nv xs) (nv (f.take i));have h2:=Si r9.out;have h3:=Si (U2 s7.out i);rw[List.length_take] at h3;rw[Vp];omega
   have HU:=Ax (lX (HD.out.below (W.out.trans C.bel)) w9 (Gb _) (mE i C.ok) x8 rF)
   have l7:Hid (∀n,n=nv (dg (nv xs*nv (f.take i)))+nv (List.replicate i 0++o)->n=nv xs*nv (f.take (i+1))):=Ax (fun n hn=>by
    rw[Fb,jS,w7] at hn;rw[hn,b8.out,Nat.mul_add];congr 1
    rw[Nat.mul_left_comm])
   obtain⟨m,hm⟩:∃m,nv xs*nv (f.take (i+1))=m:=⟨_,rfl⟩;rw[hm] at l7;have vD:=Ax hm;have x9:=Ax j;clear Y j C w9 x8 w7 w8 hm b7 b8 HM;go_wp2_with fail;refine HU.out.mono ?_;rintro e V1 ⟨⟨v1,o1,rfl,n9,y8,y9,_⟩,uR⟩;obtain⟨a1,c1,rfl,_⟩:=n9.slice;have HT:=Ax (G4 false n9 y8 (z:=(m:Int)) (by rw[l7.out _ y9];rfl));have uS:=Ax (x9.out.below uR);clear n9 y8 y9 uR x9 l7 HU;go_wp2_with fail;refine HT.out.mono ?_;rintro e V2 ⟨⟨v2,rfl,r⟩,R⟩;obtain⟨a2,n2,c2,rfl,X⟩:=r.nat;have q:=uS.out.below R;obtain⟨l4,l5,lf⟩:=A1 q.s;have vE:=lf 0;have vF:=lf 1;have vG:=Ax (q.store false (.slice a2 n2 c2));have uT:=Ax (X.store ⟨_,_,_,rfl⟩ q.s (.bool false) (.slice a2 n2 c2));rw[←vD.out] at uT;clear X q r R lf HT uS;go_wp2_with fail;go_roundw
   case rel=>exact⟨i+1,a2,n2,c2,hil,by go_num,Ax ⟨vG.out,uT.out⟩⟩
   case measure=>simp [intOf];omega
  skip
  have D:=j.bel;have i6:nv (xs.drop k)*y=0:=by rw[List.drop_eq_nil_of_le rF];exact Nat.zero_mul y
  have uU:nv (xs.drop (k+1))*y=0:=by rw[List.drop_eq_nil_of_le rF];exact Nat.zero_mul y
  have p1:decide ((k:Int)<(xs.length:Int))=false:=An rF;have p4:decide ((0:Int)<(more:Int))=true:=Am rF;have q0:(0:Int)<=(k:Int):=by omega
  have vC:(0:Int)<=(i:Int):=by omega
  have q5:(0:Int)<=(more:Int):=by omega
  have q6:(more:Int)<=9999:=by omega
  obtain⟨d,E⟩:∃d,more % 10000=d:=⟨_,rfl⟩;obtain⟨c,F⟩:∃c,more/10000=c:=⟨_,rfl⟩;have hz:(more:Int) % 10000=(d:Int):=by omega
  have hd:(more:Int)/10000=(c:Int):=by omega
  have hm1:c<=9999:=by omega
  have G:k+1<=xs.length\/k+1=xs.length+1/\c=0:=by omega
  have HVL:=Ax (bI (O:=nv o) (p:=10000^k) (t:=more) (A:=nv (xs.drop (k+1))) (y:=y) (s:=more+nv (xs.drop k)*y) rF);rw[E,F] at HVL;have HR:=Ax C;have HSW:=Ax W.out.size;have HDL:=Ax (show d<10000 by omega);obtain⟨i0,I,L,M,N⟩:=Cj;have i7:=Ax I;have j8:=Ax L;have j9:=Ax M;have k8:=Ax N;have Hbd:=Ax G;clear Y j C I L M N i6 G E F D uU;have Hrow1:=Ax (HR.out.row.alloc (.cells #[.int .i64 (d:Int)] 3));have HN1:=Ax (Az T (.cells #[.int .i64 (d:Int)] 3));have HZ1:Hid ((T.alloc (.cells #[.int .i64 (d:Int)] 3)).heap.size=T.heap.size+1):=Ax rI;have hsr:=HR.out.bel.size;have Hown:=Ax (Co HR.out.row);go_wp2_with ((refine wpList_append_lies _ rfl (.tmp 49) (.tmp 52) _ rfl wo.heap.size 3 i0 (.int .i64 0) 1 8 Tryz.underlying41 i7.out j8.out j9.out k8.out rfl rH (.slice oa (i+k) oc) (i+k) (De (List.replicate i 0++o)) rfl Hrow1.out ⟨T.heap.size,0,none⟩ 1 1 [.int .i64 (d:Int)] rfl rfl (World.news_of_block (cs:= #[.int .i64 (d:Int)]) HN1.out) rS rH rP rF tK (T.heap.size+1) HZ1.out ?_;intro g6 cap w6 hown6 hgrow6 hat6 hlt6));exact zy4
 obtain rfl:i=f.length:=by omega
 have p0:decide ((f.length:Int)<(f.length:Int))=false:=An rF;rw[List.take_length] at hD;have HT:=Ax (G4 (U !=g) hD (Gb _) (z:=z) (by rw[Fb];exact HZ.out));have HM:=Ax Z;obtain⟨sg,p8⟩:∃sg,(U !=g)=sg:=⟨_,rfl⟩;rw[p8] at HT;have vH:((!U)==g)=sg:=by rw[←p8];cases U<;>cases g<;>rfl
 have vI:(!(U==g))=sg:=p8;clear Y Z hD HS;go_wp2_with fail;refine HT.out.mono ?_;rintro e V2 ⟨⟨v2,rfl,r⟩,R⟩;obtain⟨a2,c2,rfl,X⟩:=r.form;have q:=HM.out.below R;obtain⟨l4,l5,lf⟩:=A1 q.z;have vE:=lf 0;have vF:=lf 1;obtain⟨nb,uV⟩:∃b,decide (z<0)=b:=⟨_,rfl⟩;obtain⟨n2,uW⟩:∃n,Br z.natAbs=n:=⟨_,rfl⟩;rw[uV,uW] at r ⊢;have HV:=Ax (r.store q.z (.bool nb) (.slice a2 n2 c2));have HB:=Ax ((q.bel.setCell (p:=⟨w.heap.size+2,0,none⟩) rI (.bool nb)).setCell (p:=⟨w.heap.size+2,1,none⟩) rI (.slice a2 n2 c2));clear X q r R lf HT HM uV uW;go_wp2_with fail;refine Au (v:= .agg #[.bool nb,.slice a2 n2 c2]) (by simp [results,Tryz.results127,go_sem, *]) rfl ⟨⟨_,rfl,HV.out⟩,HB.out⟩
theorem oJ (x y:Int):sgn (decide (x<0) !=decide (y<0)) (x.natAbs*y.natAbs)=x*y:=by
 unfold sgn;by_cases hx:x<0
 ·by_cases hy:y<0
  ·rw[Am hx,Am hy];simp only[bne_self_eq_false,Bool.false_eq_true,if_false];rw[←Int.natAbs_mul,Int.natAbs_of_nonneg (Int.le_of_lt (Int.mul_pos_of_neg_of_neg hx hy))]
  rw[Am hx,An hy]
  have:x*y<=0:=Int.mul_nonpos_of_nonpos_of_nonneg rF rF
  simp only[Bool.true_bne,Bool.not_false,if_true];rw[←Int.natAbs_mul];omega
 by_cases hy:y<0
 ·rw[An hx,Am hy]
  have:x*y<=0:=Int.mul_nonpos_of_nonneg_of_nonpos rF rF
  simp only[Bool.false_bne,if_true];rw[←Int.natAbs_mul];omega
 rw[An hx,An hy];simp only[bne_self_eq_false,Bool.false_eq_true,if_false];rw[←Int.natAbs_mul,Int.natAbs_of_nonneg (Int.mul_nonneg rF rF)]
theorem L6 {w:World}{g h:Value}{x y:Int}(i:Bm w g x)(j:Bm w h y)(c:Br x.natAbs<=40000)(d:Br y.natAbs<=40000):Calls Tryz.prog 127 #[g,h] w (Fv w (x*y)):=by
 obtain⟨k,rfl,e⟩:=i;obtain⟨m,rfl,f⟩:=j;exact aG _ _ e f (Gb _) (Gb _) c d (by rw[Fb,Fb];exact oJ x y)
open Go Go.RowKit Go.Lib
theorem Lm {P:Program}{ops:Array Oper}{o:Oper}{a:Act}{w:World}{K:Act->World->Prop}{Q:Exit->Act->World->Prop}{E:Prop}(A:o.guard=none)(s x:Operand)(t:TypeId)
 (M:o.op= .call {callee:= .builtin .append,args:= #[s,x],argTypes:= #[t,t]})
 (base:Nat) (i:TypeInfo) (C:P.underlying t=some (.slice 3)) (D:P.info? 3=some i) (V:i.zero=some (.int .i64 0))
 (f:i.size=1) (F:i.bytes=8)
 (v:Value) (n:Nat) (G:List Value) (N:a.eval s=v) (d:w.ownsRow base 3 1 v n G)
 (O:Value) (l:List Nat) (R:a.eval x=O) (W:Ck w O l)
 (X:n+l.length<=2000000) (m:base<=w.heap.size)
 (h:∀r w',w'.ownsRow base 3 1 r (n+l.length) (G++De l)->w.grownBy w' v.ownBlock->K (a.put o.dst r) w'):
 if Region.wanted o (yielded ops a.tmps)=true then Oper.wp P o a w K Q else E:=by
 have Y:Region.wanted o (yielded ops a.tmps)=true:=by simp [Region.wanted,A]
 rw[Ap Y];obtain⟨h1,Z,c,rfl,T,U⟩:=W
 have p:∀u∈De l,u.oneCell'=true:=fun u I=>by
  obtain⟨k,_,rfl⟩:=List.mem_map.1 I;rfl
 cases Z with
 |some ad=>
  refine wp_append_own w s x t M base 3 i (.int .i64 0) 1 8 C D V f F rfl rH v n G N d ad l.length c (De l) R (by simp [De]) (fun j u I=>?_) p rP rF m fun r w' h2 T _=>h r w' h2 T
  obtain⟨hj,he⟩:=List.getElem?_eq_some_iff.1 I;obtain⟨b,off,e,hc⟩:=U j (by simpa[De] using hj);injection e with e;subst e;rw[Addr.add_lit,hc,←he];simp [De]
 |none=>
  have h0:l=[]:=by
   cases l with
   |nil=>rfl
   |cons y ys=>
    obtain⟨b,off,e,_⟩:=U 0 rI;cases e
  subst h0
  have q:(Builtin.append_ #[t,t] o.type #[v,.slice none 0 c]).run P w= .ok v w:=by
   rcases d.2 with ⟨rfl,rfl⟩|⟨g,a8,b7,rfl,_,_,L,_⟩
   ·simp [Builtin.append_,run_underlying C,sizeOf,typeInfo,D,Builtin.lenOf,Builtin.firstCells]
   simp [Builtin.append_,run_underlying C,sizeOf,typeInfo,D,Builtin.lenOf,Builtin.firstCells,L,storeCells]
  unfold Oper.wp;simp [execOp,M,resolve,invoke,builtin,N,R,q,Result.andThen];exact h v w (by simpa[De] using d) ⟨rfl,rfl,rfl,Ak _,fun _ _ _=>rfl⟩
structure O2 (w wr:World)(bx by':Bool)(sx sy:Value)(p q M R:Nat)(qs:List Nat)(rs:Value):Prop where
 x:wr.heap[w.heap.size]? =some (.cells #[.bool bx,sx] 79 (0,0))
 y:wr.heap[w.heap.size+1]? =some (.cells #[.bool by',sy] 79 (0,0))
 z1:wr.heap[w.heap.size+2]? =some (.cells #[.bool false,.slice none 0 0] 79 (0,0))
 z2:wr.heap[w.heap.size+3]? =some (.cells #[.bool false,.slice none 0 0] 79 (0,0))
 pa:wr.heap[p]? =some (.cells #[.bool false,sx] 79 (0,0))
 qb:wr.heap[q]? =some (.cells #[.bool false,sy] 79 (0,0))
 row:wr.heap[M]? =some (.cells (De qs).toArray 3 (0,0))
 rb:wr.heap[R]? =some (.cells #[.bool false,rs] 79 (0,0))
 pM:p<M
 qM:q<M
 zM:w.heap.size+3<M
 MR:M<R
 bel:Below w.heap.size w wr
theorem O2.below {w wr V:World}{e d:Bool}{f g:Value}{p q M R:Nat}{i:List Nat}{rs:Value}(h:O2 w wr e d f g p q M R i rs)(c:Below wr.heap.size wr V):O2 w V e d f g p q M R i rs:=
 ⟨(c.block _ (Ay h.x)).trans h.x,(c.block _ (Ay h.y)).trans h.y,(c.block _ (Ay h.z1)).trans h.z1,(c.block _ (Ay h.z2)).trans h.z2,(c.block _ (Ay h.pa)).trans h.pa,(c.block _ (Ay h.qb)).trans h.qb,(c.block _ (Ay h.row)).trans h.row,(c.block _ (Ay h.rb)).trans h.rb,h.pM,h.qM,h.zM,h.MR,h.bel.trans (c.mono h.bel.size)⟩
theorem O2.store {w wr:World}{e d:Bool}{f g:Value}{p q M R:Nat}{i:List Nat}{rs:Value}(h:O2 w wr e d f g p q M R i rs)(u:Value):O2 w ((wr.setCell ⟨R,0,none⟩ (.bool false)).setCell ⟨R,1,none⟩ u) e d f g p q M R i u:=by
 have j:=h.pM;have m:=h.qM;have n:=h.zM;have o:=h.MR
 have c:∀k,k<R->((wr.setCell ⟨R,0,none⟩ (.bool false)).setCell ⟨R,1,none⟩ u).heap[k]? =wr.heap[k]?:=fun k c=>by
  rw[Below.heap_setCell _ _ _ _ rM,Below.heap_setCell _ _ _ _ rM]
 exact⟨(c _ rF).trans h.x,(c _ rF).trans h.y,(c _ rF).trans h.z1,(c _ rF).trans h.z2,(c _ rF).trans h.pa,(c _ rF).trans h.qb,(c _ rF).trans h.row,bK h.rb false u,j,m,n,o,(h.bel.setCell (p:=⟨R,0,none⟩) rM _).setCell (p:=⟨R,1,none⟩) rM _⟩
theorem O2.set {w wr:World}{f e:Bool}{g j:Value}{p q M R:Nat}{m:List Nat}{rs:Value}(h:O2 w wr f e g j p q M R m rs)(i d:Nat):O2 w (wr.setCell ⟨M,i,none⟩ (.int .i64 (d:Int))) f e g j p q M R (m.set i d) rs:=by
 have n:=h.pM;have o:=h.qM;have r:=h.zM;have u:=h.MR;have c:∀k,k≠M->(wr.setCell ⟨M,i,none⟩ (.int .i64 (d:Int))).heap[k]? =wr.heap[k]?:=fun k c=>Below.heap_setCell _ _ _ _ (by simpa using c)
 refine⟨(c _ rF).trans h.x,(c _ rF).trans h.y,(c _ rF).trans h.z1,(c _ rF).trans h.z2,(c _ rF).trans h.pa,(c _ rF).trans h.qb,?_,(c _ rF).trans h.rb,n,o,r,u,h.bel.setCell (p:=⟨M,i,none⟩) rM _⟩;simp only[World.setCell,Array.getElem?_modify,h.row];simp [De,List.map_set]
theorem O2.digits {w wr:World}{e d:Bool}{f g:Value}{p q M R:Nat}{c:List Nat}{rs:Value}(h:O2 w wr e d f g p q M R c rs)(j:c.length<=1000000):(∀i,wr.frozen? ⟨M,i,none⟩=false)/\Ck wr (.slice (some ⟨M,0,none⟩) c.length c.length) c:=
 ⟨fun i=>by simp only[World.frozen?,h.row];simp,j,some ⟨M,0,none⟩,c.length,rfl,Ak _,fun i k=>⟨M,0,rfl,by
  simp only[World.cell?,h.row]
  simp [De,k]⟩⟩
theorem Zs (n:Nat)(i:n<=1000000)(w:World):∃w',(Instr.makeSlice 41 (.int .i64 (n:Int)) (.int .i64 (n:Int))).run Tryz.prog w= .ok (.slice (some ⟨w.heap.size,0,none⟩) n n) w'/\Below w.heap.size w w'/\w'.heap[w.heap.size]? =some (.cells (De (List.replicate n 0)).toArray 3 (0,0)):=by
 obtain⟨w',c,j,d⟩:=Yr n i w;refine⟨w',c,j,?_⟩;rcases d.2 with ⟨e,_⟩|⟨g,k,m,e,_,h,_,_,hcs,f⟩
 ·cases e
 injection e with e1 _ e3;injection e1 with e1;injection e1 with e1;subst e1;subst e3;rw[h];congr 2;apply Array.ext';rw[List.take_of_length_le uN] at f;rw[f]
theorem Ts (w:World)(r u v x y A:Bool)(C D E F G I:Value)(t:TypeId)(W:World)(hW:((((((w.alloc (.cells #[.bool r,C] t)).alloc (.cells #[.bool u,D] t)).alloc (.cells #[.bool v,E] t)).alloc (.cells #[.bool x,F] t)).alloc (.cells #[.bool y,G] t)).alloc (.cells #[.bool A,I] t)).drew=W):
 W.heap[w.heap.size]? =some (.cells #[.bool r,C] t (0,0))/\W.heap[w.heap.size+1]? =some (.cells #[.bool u,D] t (0,0))/\W.heap[w.heap.size+2]? =some (.cells #[.bool v,E] t (0,0))/\W.heap[w.heap.size+3]? =some (.cells #[.bool x,F] t (0,0))/\W.heap[w.heap.size+4]? =some (.cells #[.bool y,G] t (0,0))/\W.heap[w.heap.size+5]? =some (.cells #[.bool A,I] t (0,0))/\W.heap.size=w.heap.size+6/\Below w.heap.size w W:=by
 subst hW;obtain⟨d,i⟩:∃V,w.alloc (.cells #[.bool r,C] t)=V:=⟨_,rfl⟩;have Z:d.heap.size=w.heap.size+1:=by rw[←i];simp
 have e1:d.heap[w.heap.size]? =some (.cells #[.bool r,C] t (0,0)):=by rw[←i];exact Az _ _
 have k1:∀j,j<w.heap.size->d.heap[j]? =w.heap[j]?:=fun j c=>by rw[←i];exact Below.heap_alloc _ _ _ c
 have N:Below w.heap.size w d:=by rw[←i];exact(Aq _ w).alloc rF _
 obtain⟨e,k⟩:∃V,d.alloc (.cells #[.bool u,D] t)=V:=⟨_,rfl⟩;have z2:e.heap.size=w.heap.size+2:=by rw[←k];simp [Z]
 have e2:e.heap[w.heap.size+1]? =some (.cells #[.bool u,D] t (0,0)):=by rw[←k,←Z];exact Az _ _
 have k2:∀j,j<d.heap.size->e.heap[j]? =d.heap[j]?:=fun j c=>by rw[←k];exact Below.heap_alloc _ _ _ c
 have O:Below w.heap.size w e:=by rw[←k];exact N.alloc rF _
 obtain⟨f,m⟩:∃V,e.alloc (.cells #[.bool v,E] t)=V:=⟨_,rfl⟩;have z3:f.heap.size=w.heap.size+3:=by rw[←m];simp [z2]
 have e3:f.heap[w.heap.size+2]? =some (.cells #[.bool v,E] t (0,0)):=by rw[←m,←z2];exact Az _ _
 have k3:∀j,j<e.heap.size->f.heap[j]? =e.heap[j]?:=fun j c=>by rw[←m];exact Below.heap_alloc _ _ _ c
 have R:Below w.heap.size w f:=by rw[←m];exact O.alloc rF _
 obtain⟨g,n⟩:∃V,f.alloc (.cells #[.bool x,F] t)=V:=⟨_,rfl⟩;have z4:g.heap.size=w.heap.size+4:=by rw[←n];simp [z3]
 have e4:g.heap[w.heap.size+3]? =some (.cells #[.bool x,F] t (0,0)):=by rw[←n,←z3];exact Az _ _
 have T:∀j,j<f.heap.size->g.heap[j]? =f.heap[j]?:=fun j c=>by rw[←n];exact Below.heap_alloc _ _ _ c
 have U:Below w.heap.size w g:=by rw[←n];exact R.alloc rF _
 obtain⟨h,o⟩:∃V,g.alloc (.cells #[.bool y,G] t)=V:=⟨_,rfl⟩;have z5:h.heap.size=w.heap.size+5:=by rw[←o];simp [z4]
 have e5:h.heap[w.heap.size+4]? =some (.cells #[.bool y,G] t (0,0)):=by rw[←o,←z4];exact Az _ _
 have L:∀j,j<g.heap.size->h.heap[j]? =g.heap[j]?:=fun j c=>by rw[←o];exact Below.heap_alloc _ _ _ c
 have X:Below w.heap.size w h:=by rw[←o];exact U.alloc rF _
 obtain⟨M,p⟩:∃V,h.alloc (.cells #[.bool A,I] t)=V:=⟨_,rfl⟩;have z6:M.heap.size=w.heap.size+6:=by rw[←p];simp [z5]
 have e6:M.heap[w.heap.size+5]? =some (.cells #[.bool A,I] t (0,0)):=by rw[←p,←z5];exact Az _ _
 have q:∀j,j<h.heap.size->M.heap[j]? =h.heap[j]?:=fun j c=>by rw[←p];exact Below.heap_alloc _ _ _ c
 have Y:Below w.heap.size w M:=by rw[←p];exact X.alloc rF _
 rw[i,k,m,n,o,p];exact⟨((q _ rF).trans ((L _ rF).trans ((T _ rF).trans ((k3 _ rF).trans ((k2 _ rF).trans e1))))),((q _ rF).trans ((L _ rF).trans ((T _ rF).trans ((k3 _ rF).trans e2)))),((q _ rF).trans ((L _ rF).trans ((T _ rF).trans e3))),((q _ rF).trans ((L _ rF).trans e4)),((q _ rF).trans e5),e6,z6,Y.drew⟩
structure P6 (w W:World)(bx by':Bool)(sx sy:Value)(p q:Nat):Prop where
 x:W.heap[w.heap.size]? =some (.cells #[.bool bx,sx] 79 (0,0))
 y:W.heap[w.heap.size+1]? =some (.cells #[.bool by',sy] 79 (0,0))
 z1:W.heap[w.heap.size+2]? =some (.cells #[.bool false,.slice none 0 0] 79 (0,0))
 z2:W.heap[w.heap.size+3]? =some (.cells #[.bool false,.slice none 0 0] 79 (0,0))
 pa:W.heap[p]? =some (.cells #[.bool false,sx] 79 (0,0))
 qb:W.heap[q]? =some (.cells #[.bool false,sy] 79 (0,0))
 bel:Below w.heap.size w W
theorem P6.at {w W d:World}{j e:Bool}{m r:Value}{p q n:Nat}(h:P6 w W j e m r p q)(f:Below W.heap.size W d)(g:d.heap[W.heap.size]? =some (.cells (De (List.replicate n 0)).toArray 3 (0,0))):
 O2 w (d.alloc (.cells #[.bool false,.slice none 0 0] 79)) j e m r p q W.heap.size d.heap.size (List.replicate n 0) (.slice none 0 0):=by
 have i:Below d.heap.size d (d.alloc (.cells #[.bool false,.slice none 0 0] 79)):=(Aq _ _).alloc (Ak _) _
 have c:∀k o,W.heap[k]? =some o->(d.alloc (.cells #[.bool false,.slice none 0 0] 79)).heap[k]? =some o:=fun k o c=>by
  have u:=(f.block _ (Ay c)).trans c;exact(i.block _ (Ay u)).trans u
 exact⟨c _ _ h.x,c _ _ h.y,c _ _ h.z1,c _ _ h.z2,c _ _ h.pa,c _ _ h.qb,(i.block _ (Ay g)).trans g,Az _ _,Ay h.pa,Ay h.qb,Ay h.z2,Ay g,(h.bel.trans (f.mono h.bel.size)).trans (i.mono (Al h.bel.size f.size))⟩
structure Jl (xs:List Nat)(Y j r:Nat)(qs:List Nat):Prop where
 le:j<=xs.length
 r:r=nv (xs.drop j) % Y
 q:∃qd,qs=List.replicate j 0++qd/\qd.length+j=xs.length/\okD qd/\nv qd=nv (xs.drop j)/Y
theorem Jl.zero (c:List Nat)(Y:Nat):Jl c Y c.length 0 (List.replicate c.length 0):=
 ⟨Ak _,by rw[List.drop_length];simp [nv],[],by simp,by simp,fun _ h=>(by cases h),by rw[List.drop_length];simp [nv]⟩
theorem Jl.len {c:List Nat}{Y j r:Nat}{d:List Nat}(h:Jl c Y j r d):d.length=c.length:=by
 obtain⟨e,rfl,f,_⟩:=h.q;rw[Ab,List.length_replicate];omega
theorem pT {Y d x V:Nat}(f:0<Y)(i:d*Y<=x+10000*(V % Y))(g:x+10000*(V % Y)<(d+1)*Y):(x+10000*V)/Y=d+10000*(V/Y)/\(x+10000*V) % Y=x+10000*(V % Y) - d*Y:=by
 have h:=Nat.div_add_mod V Y
 have e:x+10000*V=(x+10000*(V % Y) - d*Y)+Y*(d+10000*(V/Y)):=by
  rw[Nat.mul_add,Nat.mul_comm Y d,Nat.mul_left_comm]
  have:10000*V=10000*(Y*(V/Y))+10000*(V % Y):=by rw[←Nat.mul_add,h]
  omega
 have c:x+10000*(V % Y) - d*Y<Y:=by
  rw[Nat.add_mul,Nat.one_mul] at g;omega
 rw[e];constructor
 ·rw[Nat.add_mul_div_left _ _ f,Nat.div_eq_of_lt c,Nat.zero_add]
 rw[Nat.add_mul_mod_self_left,Nat.mod_eq_of_lt c]
theorem Jl.step {c:List Nat}{Y m r d:Nat}{f:List Nat}(h:Jl c Y (m+1) r f)(n:0<Y)(g:m<c.length)(hd:d<10000)(i:d*Y<=c[m]+10000*r)(j:c[m]+10000*r<(d+1)*Y):Jl c Y m (c[m]+10000*r - d*Y) (f.set m d):=by
 have k:=h.r;obtain⟨o,rfl,A,p,u⟩:=h.q;rw[k] at i j;obtain⟨v,y⟩:=pT n i j;refine⟨by omega,by rw[Dj g,y,k],d::o,?_,by simp;omega,fun x e=>?_,by rw[nv,Dj g,v,u]⟩
 ·rw[List.replicate_succ',List.append_assoc,List.set_append_right _ _ rI];simp
 rcases List.mem_cons.1 e with rfl|e
 ·exact hd
 exact p x e
theorem Jl.lt {c:List Nat}{Y j r:Nat}{d:List Nat}(h:Jl c Y j r d)(e:0<Y):r<Y:=by rw[h.r];exact Nat.mod_lt _ e
theorem Jl.done {c:List Nat}{Y r:Nat}{d:List Nat}(h:Jl c Y 0 r d):okD d/\nv d=nv c/Y/\r=nv c % Y:=by
 obtain⟨g,rfl,i,e,f⟩:=h.q;exact⟨by simpa using e,by simpa using f,by simpa using h.r⟩
end Go.Proofs.YtgfakdobajgnfaaGreatDoor
