import Derived.Test.YtgfakdobajgnfaaGreatDoorQk29
import Derived.Test.YtgfakdobajgnfaaGreatDoorQk17
set_option maxRecDepth 100000
set_option maxHeartbeats 16000000
namespace Go.Proofs.YtgfakdobajgnfaaGreatDoor
open Go Go.RowKit Go.Lib Go.Sort Go.Shelf
theorem kH {op:Int}(h:op<4\/26<op):Ks op=([],8):=by
 unfold Ks
 repeat rw[Ao rF]
theorem pE {op:Int}(h:4<=op)(c:op<=17):op=4\/op=5\/op=6\/op=7\/op=8\/op=9\/op=10\/op=11\/op=12\/op=13\/op=14\/op=15\/op=16\/op=17:=by omega
theorem Wh {op:Int}(h:op<4\/17<op):A9 op=8:=by
 by_cases h2:17<op/\op<=26
 ·exact Gv (by unfold Cp;omega)
 unfold A9;rw[kH rF]
theorem Jg (op:Int)(w:World):Calls Tryz.prog 96 #[.int .u8 op] w fun e w'=>e= .returned (.int .i64 (A9 op:Int))/\Below w.heap.size w w':=by
 by_cases h:4<=op/\op<=17
 ·rcases pE h.1 h.2 with rfl|rfl|rfl|rfl|rfl|rfl|rfl|rfl|rfl|rfl|rfl|rfl|rfl|rfl
  all_goals
   clear h;go_enter Tryz.func96,Tryz.ntmps96;exact zy8
 have c:∀k:Int,4<=k->k<=17->(op==k)=false:=fun k o p=>Af.2 rF
 have q:=c 4 rH rH;have r:=c 5 rH rH;have u:=c 6 rH rH;have d:=c 13 rH rH;have f:=c 14 rH rH;have g:=c 15 rH rH;have i:=c 16 rH rH;have j:=c 17 rH rH;rw[Wh rF];clear c;by_cases h7:7<=op
 ·have m:decide ((7:Int)<=op)=true:=Am h7;have n:decide (op<=(12:Int))=false:=An rF;clear h7 h;go_enter Tryz.func96,Tryz.ntmps96;exact zy8
 have m:decide ((7:Int)<=op)=false:=An h7;clear h7 h;go_enter Tryz.func96,Tryz.ntmps96;exact zy8
theorem O5 (op:Int)(w:World):Calls Tryz.prog 31 #[.int .u8 op] w fun e w'=>e= .returned (.string ⟨(Uz op).toArray⟩)/\Below w.heap.size w w':=by
 by_cases h:4<=op/\op<=16
 ·rcases pE h.1 rF with rfl|rfl|rfl|rfl|rfl|rfl|rfl|rfl|rfl|rfl|rfl|rfl|rfl|rfl
  all_goals
   first
    |(exact absurd h rH)
    |(clear h
      go_enter Tryz.func31,Tryz.ntmps31;go_wp2_with fail;go_ret
      exact⟨rfl,(Aq _ _).alloc (Ak _) _⟩)
 have c:Uz op=[]:=by
  unfold Uz;by_cases h17:op=17
  ·subst h17;rfl
  rw[Wh rF];rfl
 rw[c];by_cases h4:op<4
 ·have d:decide (op<(4:Int))=true:=Am h4;clear h4 h c;go_enter Tryz.func31,Tryz.ntmps31;exact zw2
 have d:decide (op<(4:Int))=false:=An h4;have f:decide ((16:Int)<op)=true:=Am rF;clear h4 h c;go_enter Tryz.func31,Tryz.ntmps31;exact zw2
theorem Qd (op:Int)(h:Cp op)(w:World):Calls Tryz.prog 97 #[.int .u8 op] w fun e w'=>e= .returned (.string ⟨(Cw op).toArray⟩)/\Below w.heap.size w w':=by
 rcases h with rfl|rfl|rfl|rfl|rfl|rfl|rfl|rfl|rfl
 all_goals
  go_enter Tryz.func97,Tryz.ntmps97;exact zw2
open Go Go.RowKit Go.Lib Go.Sort Go.Shelf
structure Lw (l:List Nz):Prop where
 node:∀(j:Nat) (x:Nz),l[j]? =some x->Ha x.h.op x.kids.length=true/\(∀c∈x.kids,0<=c/\c<(j:Int))/\(txZ l j).length<=65536
 fit:∀x∈l,Gk x.h
def Sz (l:List Nz)(i:Nat)(v:Value)(w:World):Prop:=∀(j:Nat),j<i->∀V,Below w.heap.size w V->Calls Tryz.prog 64 #[v,.int .i64 (j:Int)] V fun e w'=>e= .returned (.string ⟨(txZ l j).toArray⟩)/\Below V.heap.size V w'
theorem cL {l:List Nz}{i:Nat}{kids:List Int}{k j:Nat}(c:kids[k]? =some (j:Int))(d:j<i){y:Nz}(e:l[j]? =some y)(least:Nat):B4 l (Bl l i) kids k least=if A9 y.h.op<least then K6 (txZ l j) else txZ l j:=by
 unfold B4;rw[c];simp only[Ei,Int.toNat_natCast];rw[Ap rF,e,Nh d]
instance (op:Int):Decidable (Cp op):=by unfold Cp;infer_instance
theorem Qg {op:Int}(d:1<=op)(g:op<=26)(c:A9 op<8)(h:A9 op≠2)(f:A9 op≠6):F1 op:=by
 have i:¬op<=3:=fun e=>by rw[Yy d e] at c;omega
 have j:op≠6:=fun e=>h rU
 have k:op≠17:=fun e=>f rU
 have m:¬18<=op:=fun e=>by rw[Gv (by unfold Cp;omega)] at c;omega
 unfold F1;omega
theorem Ug {op:Int}(h:F1 op)(k:Int)(c:¬F1 k):¬op=k:=fun e=>c (e▸h)
theorem Ql {op:Int}(h:F1 op):Uz op=Cw op:=by
 rcases h with rfl|rfl|rfl|rfl|rfl|rfl|rfl|rfl|rfl|rfl|rfl|rfl<;>rfl
theorem Jp {l:List Nz}(p:Lw l){v:Value}{w:World}(q:TrZ w v l){i:Nat}(C:Sz l i v w){x:Nz}(r:l[i]? =some x)(k least:Nat){c:Int}(u:x.kids[k]? =some c)(V:World)(D:Below w.heap.size w V):
 Calls Tryz.prog 95 #[v,.int .i64 c,.int .i64 (least:Int)] V fun e w'=>e= .returned (.string ⟨(B4 l (Bl l i) x.kids k least).toArray⟩)/\Below V.heap.size V w':=by
 obtain⟨_,d,_⟩:=p.node i x r;obtain⟨E,F⟩:=d c (List.mem_of_getElem? u);obtain⟨j,rfl⟩:∃j:Nat,c=(j:Int):=⟨c.toNat,by omega⟩;have G:=(List.getElem?_eq_some_iff.1 r).1;have g:j<i:=by omega
 have f:j<l.length:=by omega
 rw[cL u g (Ag f)];obtain⟨_,_,m⟩:=p.node j _ (Ag f);have HI:=Ax (C j g V D);have y:=q.below D;obtain⟨M,off,N,rfl⟩:=y.some rF;obtain⟨kv,A,_⟩:=y.get (Ag f);obtain⟨x0,_,_,_,_,_,_,_⟩:=A;obtain⟨op,n⟩:∃op,l[j].h.op=op:=⟨_,rfl⟩;rw[n] at x0 ⊢;obtain⟨t,o⟩:∃t,txZ l j=t:=⟨_,rfl⟩;rw[o] at HI m ⊢;have HX:=Ax x0;have O:(0:Int)<=(j:Int):=by omega
 have R:(j:Int)<(l.length:Int):=by omega
 have I:=q.1;clear d E F n o y r u x0 C q p;by_cases hlt:A9 op<least
 ·have L:decide ((A9 op:Int)<(least:Int))=true:=Am rF;rw[Ap hlt,←kN];exact zx8
 have L:decide ((A9 op:Int)<(least:Int))=false:=An rF;rw[Ao hlt];exact zx8
theorem pC {l:List Nz}(D:Lw l){v:Value}{w:World}(o:TrZ w v l){i:Nat}(N:Sz l i v w){x:Nz}(j:l[i]? =some x)(p:x.h.op=1):
 Calls Tryz.prog 64 #[v,.int .i64 (i:Int)] w fun e w'=>e= .returned (.string ⟨(txZ l i).toArray⟩)/\Below w.heap.size w w':=by
 have O:=fun k least c hk V hV=>Jp D o N j k least (c:=c) hk V hV
 obtain⟨a8,_⟩:=List.getElem?_eq_some_iff.1 j;obtain⟨d,m,q⟩:=D.node i x j;have g:=D.fit x (List.mem_of_getElem? j);have b7:=o.1;have n:txZ l i=Ct x.h x.kids.length (B4 l (Bl l i) x.kids):=by unfold txZ;rw[j]
 obtain⟨tr,off,tc,rfl⟩:=o.some rF;obtain⟨kv,hn,F⟩:=o.get j;obtain⟨G,R,T,rfl,r⟩:=F;obtain⟨⟨op,⟨vk,vn,vs⟩,U,W,X⟩,kids⟩:=x;obtain⟨Y,x1,x2,x3,x4,x5,x6,x7⟩:=hn;simp only at Y x1 x2 x3 x4 x5 x6 x7 G r d g O n;have i0:(0:Int)<=(i:Int):=by omega
 have i1:(i:Int)<(l.length:Int):=by omega
 have b8:=Bn Y;obtain⟨E,u⟩:∃E,w.alloc (.cells #[.int .u8 op,.int .u8 vk,.int .i64 vn,.string ⟨vs.toArray⟩,.string ⟨U.toArray⟩,.slice R kids.length T,.int .i64 W,.int .i64 X] 43)=E:=⟨_,rfl⟩;have y:Below w.heap.size w E:=by rw[←u];exact(Aq _ w).alloc (Ak _) _
 have f:=Az w (.cells #[.int .u8 op,.int .u8 vk,.int .i64 vn,.string ⟨vs.toArray⟩,.string ⟨U.toArray⟩,.slice R kids.length T,.int .i64 W,.int .i64 X] 43);rw[u] at f;obtain⟨n0,n1,n2,n3,n4,n5,n6,n7,_⟩:=A6 f;have d8:=Ax f;have A:=Ax y;simp only at p;subst p;obtain⟨I,L,Z,f4⟩:=g;simp only at I L Z f4;have hz:txZ l i=C3 vk vn vs:=by rw[n];unfold Ct;rw[Ap rfl]
 rw[hz];have HT:=Ax (Fy ⟨vk,vn,⟨vs.toArray⟩⟩ E ⟨by show vs.toArray.size<=_;simp;omega,I,L⟩);clear hz n q O r I L Z f4;clear o N j d m f y D;go_enter Tryz.func64,Tryz.ntmps64;go_wp2_with fail;refine HT.out.mono ?_;rintro e V4 ⟨rfl,C⟩;have M:=Ax (A.out.trans (C.mono A.out.size));clear C HT;go_wp2_with fail;go_ret;exact⟨rfl,M.out⟩
theorem oC {l:List Nz}(hT:Lw l){v:Value}{w:World}(ht:TrZ w v l){i:Nat}(IH:Sz l i v w){x:Nz}(hx:l[i]? =some x)(g:x.h.op=2):
 Calls Tryz.prog 64 #[v,.int .i64 (i:Int)] w fun e w'=>e= .returned (.string ⟨(txZ l i).toArray⟩)/\Below w.heap.size w w':=by
 have u:=fun k least c G V I=>Jp hT ht IH hx k least (c:=c) G V I
 obtain⟨L,_⟩:=List.getElem?_eq_some_iff.1 hx;obtain⟨hfits,hkids,j⟩:=hT.node i x hx;have hfit:=hT.fit x (List.mem_of_getElem? hx);have M:=ht.1;have d:txZ l i=Ct x.h x.kids.length (B4 l (Bl l i) x.kids):=by unfold txZ;rw[hx]
 obtain⟨tr,off,tc,rfl⟩:=ht.some rF;obtain⟨kv,N,p⟩:=ht.get hx;obtain⟨q,y,A,rfl,m⟩:=p;obtain⟨⟨op,⟨vk,vn,vs⟩,f,C,D⟩,kids⟩:=x;obtain⟨E,O,R,T,U,W,X,Y⟩:=N;simp only at E O R T U W X Y q m hfits hfit u d;have i0:(0:Int)<=(i:Int):=by omega
 have i1:(i:Int)<(l.length:Int):=by omega
 have Z:=Bn E;obtain⟨r,n⟩:∃r,w.alloc (.cells #[.int .u8 op,.int .u8 vk,.int .i64 vn,.string ⟨vs.toArray⟩,.string ⟨f.toArray⟩,.slice y kids.length A,.int .i64 C,.int .i64 D] 43)=r:=⟨_,rfl⟩;have hb1:Below w.heap.size w r:=by rw[←n];exact(Aq _ w).alloc (Ak _) _
 have hp1:=Az w (.cells #[.int .u8 op,.int .u8 vk,.int .i64 vn,.string ⟨vs.toArray⟩,.string ⟨f.toArray⟩,.slice y kids.length A,.int .i64 C,.int .i64 D] 43);rw[n] at hp1;obtain⟨n0,n1,n2,n3,n4,n5,n6,n7,_⟩:=A6 hp1;have a8:=Ax hp1;have HB1:=Ax hb1;simp only at g;subst g;have F:txZ l i=63::f:=by rw[d];unfold Ct;rw[Ao rI,Ap rfl]
 rw[F];have b7:f.length<=1000000:=hfit.2.2.2;have o:(⟨(63::f).toArray⟩:ByteArray)=⟨#[63]⟩++⟨f.toArray⟩:=by rw[show(⟨#[63]⟩:ByteArray)=⟨[63].toArray⟩ from rfl,J3];rfl
 rw[o];clear F d j u m o;exact zv6
theorem kT {l:List Nz}(hT:Lw l){v:Value}{w:World}(ht:TrZ w v l){i:Nat}(IH:Sz l i v w){x:Nz}(hx:l[i]? =some x)(f:x.h.op=3):
 Calls Tryz.prog 64 #[v,.int .i64 (i:Int)] w fun e w'=>e= .returned (.string ⟨(txZ l i).toArray⟩)/\Below w.heap.size w w':=by
 have q:=fun k least c F V G=>Jp hT ht IH hx k least (c:=c) F V G
 obtain⟨I,_⟩:=List.getElem?_eq_some_iff.1 hx;obtain⟨hfits,hkids,g⟩:=hT.node i x hx;have hfit:=hT.fit x (List.mem_of_getElem? hx);have L:=ht.1;have d:txZ l i=Ct x.h x.kids.length (B4 l (Bl l i) x.kids):=by unfold txZ;rw[hx]
 obtain⟨tr,off,tc,rfl⟩:=ht.some rF;obtain⟨kv,M,n⟩:=ht.get hx;obtain⟨o,r,u,rfl,j⟩:=n;obtain⟨⟨op,⟨vk,vn,vs⟩,y,A,C⟩,kids⟩:=x;obtain⟨D,N,O,R,T,U,W,X⟩:=M;simp only at D N O R T U W X o j hfits hfit q d;have i0:(0:Int)<=(i:Int):=by omega
 have i1:(i:Int)<(l.length:Int):=by omega
 have Y:=Bn D;obtain⟨p,m⟩:∃p,w.alloc (.cells #[.int .u8 op,.int .u8 vk,.int .i64 vn,.string ⟨vs.toArray⟩,.string ⟨y.toArray⟩,.slice r kids.length u,.int .i64 A,.int .i64 C] 43)=p:=⟨_,rfl⟩;have hb1:Below w.heap.size w p:=by rw[←m];exact(Aq _ w).alloc (Ak _) _
 have hp1:=Az w (.cells #[.int .u8 op,.int .u8 vk,.int .i64 vn,.string ⟨vs.toArray⟩,.string ⟨y.toArray⟩,.slice r kids.length u,.int .i64 A,.int .i64 C] 43);rw[m] at hp1;obtain⟨n0,n1,n2,n3,n4,n5,n6,n7,_⟩:=A6 hp1;have Z:=Ax hp1;have HB1:=Ax hb1;simp only at f;subst f;have E:txZ l i=[63]:=by rw[d];unfold Ct;rw[Ao rI,Ao rI,Ap rfl]
 rw[E];clear E d g q j;exact zv6
theorem oB {l:List Nz}(hT:Lw l){v:Value}{w:World}(ht:TrZ w v l){i:Nat}(IH:Sz l i v w){x:Nz}(hx:l[i]? =some x)(f:x.h.op=6):
 Calls Tryz.prog 64 #[v,.int .i64 (i:Int)] w fun e w'=>e= .returned (.string ⟨(txZ l i).toArray⟩)/\Below w.heap.size w w':=by
 have hA:=fun k least c C V D=>Jp hT ht IH hx k least (c:=c) C V D
 obtain⟨E,_⟩:=List.getElem?_eq_some_iff.1 hx;obtain⟨hfits,hkids,hlen⟩:=hT.node i x hx;have hfit:=hT.fit x (List.mem_of_getElem? hx);have F:=ht.1;have htx:txZ l i=Ct x.h x.kids.length (B4 l (Bl l i) x.kids):=by unfold txZ;rw[hx]
 obtain⟨G,off,I,rfl⟩:=ht.some rF;obtain⟨kv,L,j⟩:=ht.get hx;obtain⟨m,o,p,rfl,hkc⟩:=j;obtain⟨⟨op,⟨vk,vn,vs⟩,q,r,u⟩,kids⟩:=x;obtain⟨y,M,N,O,R,T,U,W⟩:=L;simp only at y M N O R T U W m hkc hfits hfit hA htx;have i0:(0:Int)<=(i:Int):=by omega
 have i1:(i:Int)<(l.length:Int):=by omega
 have X:=Bn y;obtain⟨d,g⟩:∃d,w.alloc (.cells #[.int .u8 op,.int .u8 vk,.int .i64 vn,.string ⟨vs.toArray⟩,.string ⟨q.toArray⟩,.slice o kids.length p,.int .i64 r,.int .i64 u] 43)=d:=⟨_,rfl⟩;have hb1:Below w.heap.size w d:=by rw[←g];exact(Aq _ w).alloc (Ak _) _
 have hp1:=Az w (.cells #[.int .u8 op,.int .u8 vk,.int .i64 vn,.string ⟨vs.toArray⟩,.string ⟨q.toArray⟩,.slice o kids.length p,.int .i64 r,.int .i64 u] 43);rw[g] at hp1;obtain⟨n0,n1,n2,n3,n4,n5,n6,n7,_⟩:=A6 hp1;have Y:=Ax hp1;have HB1:=Ax hb1;simp only at f;subst f;have hk1:kids.length=1:=by obtain⟨_,_,Z,q2⟩:=of_decide_eq_true hfits;simp [Cr] at Z q2;omega
 obtain⟨A,hc0⟩:∃c,kids[0]? =some c:=⟨_,Ag rF⟩;obtain⟨kb,ko,rfl,n⟩:=hkc 0 rF;rw[(List.getElem?_eq_some_iff.1 hc0).2,Nat.add_zero] at n;have n:=A4 hb1 n;have k0:(0:Int)<(kids.length:Int):=by omega
 have hz:txZ l i=[110,111,116,32]++B4 l (Bl l i) kids 0 2:=by rw[htx];rfl
 have HA:Hid (Calls Tryz.prog 95 #[.slice (some ⟨G,off,none⟩) l.length I,.int .i64 A,.int .i64 2] d fun e w'=>e= .returned (.string ⟨(B4 l (Bl l i) kids 0 2).toArray⟩)/\Below d.heap.size d w'):=Ax (hA 0 2 A hc0 d hb1);rw[hz] at hlen ⊢;obtain⟨K,hK⟩:∃K,B4 l (Bl l i) kids 0 2=K:=⟨_,rfl⟩;exact zya
theorem oV {l:List Nz}(hT:Lw l){v:Value}{w:World}(ht:TrZ w v l){i:Nat}(IH:Sz l i v w){x:Nz}(hx:l[i]? =some x)(f:x.h.op=17):
 Calls Tryz.prog 64 #[v,.int .i64 (i:Int)] w fun e w'=>e= .returned (.string ⟨(txZ l i).toArray⟩)/\Below w.heap.size w w':=by
 have hA:=fun k least c C V D=>Jp hT ht IH hx k least (c:=c) C V D
 obtain⟨E,_⟩:=List.getElem?_eq_some_iff.1 hx;obtain⟨hfits,hkids,hlen⟩:=hT.node i x hx;have hfit:=hT.fit x (List.mem_of_getElem? hx);have F:=ht.1;have htx:txZ l i=Ct x.h x.kids.length (B4 l (Bl l i) x.kids):=by unfold txZ;rw[hx]
 obtain⟨G,off,I,rfl⟩:=ht.some rF;obtain⟨kv,L,j⟩:=ht.get hx;obtain⟨m,o,p,rfl,hkc⟩:=j;obtain⟨⟨op,⟨vk,vn,vs⟩,q,r,u⟩,kids⟩:=x;obtain⟨y,M,N,O,R,T,U,W⟩:=L;simp only at y M N O R T U W m hkc hfits hfit hA htx;have i0:(0:Int)<=(i:Int):=by omega
 have i1:(i:Int)<(l.length:Int):=by omega
 have X:=Bn y;obtain⟨d,g⟩:∃d,w.alloc (.cells #[.int .u8 op,.int .u8 vk,.int .i64 vn,.string ⟨vs.toArray⟩,.string ⟨q.toArray⟩,.slice o kids.length p,.int .i64 r,.int .i64 u] 43)=d:=⟨_,rfl⟩;have hb1:Below w.heap.size w d:=by rw[←g];exact(Aq _ w).alloc (Ak _) _
 have hp1:=Az w (.cells #[.int .u8 op,.int .u8 vk,.int .i64 vn,.string ⟨vs.toArray⟩,.string ⟨q.toArray⟩,.slice o kids.length p,.int .i64 r,.int .i64 u] 43);rw[g] at hp1;obtain⟨n0,n1,n2,n3,n4,n5,n6,n7,_⟩:=A6 hp1;have Y:=Ax hp1;have HB1:=Ax hb1;simp only at f;subst f;have hk1:kids.length=1:=by obtain⟨_,_,Z,q2⟩:=of_decide_eq_true hfits;simp [Cr] at Z q2;omega
 obtain⟨A,hc0⟩:∃c,kids[0]? =some c:=⟨_,Ag rF⟩;obtain⟨kb,ko,rfl,n⟩:=hkc 0 rF;rw[(List.getElem?_eq_some_iff.1 hc0).2,Nat.add_zero] at n;have n:=A4 hb1 n;have k0:(0:Int)<(kids.length:Int):=by omega
 have hz:txZ l i=[45]++B4 l (Bl l i) kids 0 6:=by rw[htx];rfl
 have HA:Hid (Calls Tryz.prog 95 #[.slice (some ⟨G,off,none⟩) l.length I,.int .i64 A,.int .i64 6] d fun e w'=>e= .returned (.string ⟨(B4 l (Bl l i) kids 0 6).toArray⟩)/\Below d.heap.size d w'):=Ax (hA 0 6 A hc0 d hb1);rw[hz] at hlen ⊢;obtain⟨K,hK⟩:∃K,B4 l (Bl l i) kids 0 6=K:=⟨_,rfl⟩;exact zya
theorem oW {l:List Nz}(hT:Lw l){v:Value}{w:World}(ht:TrZ w v l){i:Nat}(IH:Sz l i v w){x:Nz}(hx:l[i]? =some x)(d:A9 x.h.op=3):
 Calls Tryz.prog 64 #[v,.int .i64 (i:Int)] w fun e w'=>e= .returned (.string ⟨(txZ l i).toArray⟩)/\Below w.heap.size w w':=by
 have hA:=fun k least c m V j=>Jp hT ht IH hx k least (c:=c) m V j
 obtain⟨L,_⟩:=List.getElem?_eq_some_iff.1 hx;obtain⟨hfits,hkids,hlen⟩:=hT.node i x hx;have hfit:=hT.fit x (List.mem_of_getElem? hx);have M:=ht.1;have htx:txZ l i=Ct x.h x.kids.length (B4 l (Bl l i) x.kids):=by unfold txZ;rw[hx]
 obtain⟨q,off,r,rfl⟩:=ht.some rF;obtain⟨kv,N,n⟩:=ht.get hx;obtain⟨hkl,u,kc,rfl,hkc⟩:=n;obtain⟨⟨op,⟨vk,vn,vs⟩,y,A,C⟩,kids⟩:=x;obtain⟨D,O,R,T,U,x5,W,X⟩:=N;simp only at D O R T U x5 W X hkl hkc hfits hfit hA htx;have i0:(0:Int)<=(i:Int):=by omega
 have i1:(i:Int)<(l.length:Int):=by omega
 have Y:=Bn D;obtain⟨W1,hW1⟩:∃W1,w.alloc (.cells #[.int .u8 op,.int .u8 vk,.int .i64 vn,.string ⟨vs.toArray⟩,.string ⟨y.toArray⟩,.slice u kids.length kc,.int .i64 A,.int .i64 C] 43)=W1:=⟨_,rfl⟩;have hb1:Below w.heap.size w W1:=by rw[←hW1];exact(Aq _ w).alloc (Ak _) _
 have hp1:=Az w (.cells #[.int .u8 op,.int .u8 vk,.int .i64 vn,.string ⟨vs.toArray⟩,.string ⟨y.toArray⟩,.slice u kids.length kc,.int .i64 A,.int .i64 C] 43);rw[hW1] at hp1;obtain⟨n0,n1,n2,n3,n4,n5,n6,n7,_⟩:=A6 hp1;have HP1:=Ax hp1;have HB1:=Ax hb1;simp only at d;obtain⟨E,F,o,p⟩:=of_decide_eq_true hfits;have hin:F1 op:=Qg E F rF rF rF;have hk1:kids.length=2:=by rw[Rb hin] at o p;simp only at o p;omega
 have g:∀k:Int,¬F1 k->(op==k)=false:=fun k m=>Af.2 (fun e=>m (e▸hin))
 have G:=g 1 rH;have I:=g 2 rH;have e3:=g 3 rH;have e6:=g 6 rH;have Z:=g 17 rH;clear g E F o p;obtain⟨c0,hc0⟩:∃c,kids[0]? =some c:=⟨_,Ag rF⟩;obtain⟨c1,hc1⟩:∃c,kids[1]? =some c:=⟨_,Ag rF⟩;obtain⟨kb,ko,rfl,y0⟩:=hkc 0 rF;obtain⟨a8,b7,f,y1⟩:=hkc 1 rF;injection f with f;injection f with G I;subst G I;rw[(List.getElem?_eq_some_iff.1 hc0).2,Nat.add_zero] at y0;rw[(List.getElem?_eq_some_iff.1 hc1).2] at y1;have y0:=A4 hb1 y0;have y1:=A4 hb1 y1;have k0:(0:Int)<(kids.length:Int):=by omega
 have k1:(1:Int)<(kids.length:Int):=by omega
 have HL:=Ax (Jg op W1)
 have HIX:∀V,Calls Tryz.prog 31 #[.int .u8 op] V fun e w'=>e= .returned (.string ⟨(Cw op).toArray⟩)/\Below V.heap.size V w':=fun V=>by
  have:=O5 op V
  rwa [Ql hin] at this
 have hz:txZ l i=B4 l (Bl l i) kids 0 4++32::(Cw op++32::B4 l (Bl l i) kids 1 4):=by
  rw[htx];unfold Ct;simp only;rw[Ao (Ug hin 1 rH),Ao (Ug hin 2 rH),Ao (Ug hin 3 rH),Ao rF,Ao rF,Ap d]
 rw[d] at HL;clear d;have HA0:∀V,Below w.heap.size w V->Calls Tryz.prog 95 #[.slice (some ⟨q,off,none⟩) l.length r,.int .i64 c0,.int .i64 4] V fun e w'=>e= .returned (.string ⟨(B4 l (Bl l i) kids 0 4).toArray⟩)/\Below V.heap.size V w':=fun V j=>hA 0 4 c0 hc0 V j
 have HA1:∀V,Below w.heap.size w V->Calls Tryz.prog 95 #[.slice (some ⟨q,off,none⟩) l.length r,.int .i64 c1,.int .i64 4] V fun e w'=>e= .returned (.string ⟨(B4 l (Bl l i) kids 1 4).toArray⟩)/\Below V.heap.size V w':=fun V j=>hA 1 4 c1 hc1 V j
 rw[hz] at hlen ⊢;obtain⟨K0,hK0⟩:∃K,B4 l (Bl l i) kids 0 4=K:=⟨_,rfl⟩;obtain⟨K1,hK1⟩:∃K,B4 l (Bl l i) kids 1 4=K:=⟨_,rfl⟩;exact zzx
theorem oS {l:List Nz}(hT:Lw l){v:Value}{w:World}(ht:TrZ w v l){i:Nat}(IH:Sz l i v w){x:Nz}(hx:l[i]? =some x)(f:A9 x.h.op<8/\A9 x.h.op≠2/\A9 x.h.op≠6/\A9 x.h.op≠3):
 Calls Tryz.prog 64 #[v,.int .i64 (i:Int)] w fun e w'=>e= .returned (.string ⟨(txZ l i).toArray⟩)/\Below w.heap.size w w':=by
 have hA:=fun k least c o V m=>Jp hT ht IH hx k least (c:=c) o V m
 obtain⟨O,_⟩:=List.getElem?_eq_some_iff.1 hx;obtain⟨hfits,hkids,hlen⟩:=hT.node i x hx;have hfit:=hT.fit x (List.mem_of_getElem? hx);have R:=ht.1;have htx:txZ l i=Ct x.h x.kids.length (B4 l (Bl l i) x.kids):=by unfold txZ;rw[hx]
 obtain⟨u,off,y,rfl⟩:=ht.some rF;obtain⟨kv,T,p⟩:=ht.get hx;obtain⟨hkl,A,kc,rfl,hkc⟩:=p;obtain⟨⟨op,⟨vk,vn,vs⟩,C,D,E⟩,kids⟩:=x;obtain⟨F,U,W,X,Y,x5,Z,x7⟩:=T;simp only at F U W X Y x5 Z x7 hkl hkc hfits hfit hA htx;have i0:(0:Int)<=(i:Int):=by omega
 have i1:(i:Int)<(l.length:Int):=by omega
 have a8:=Bn F;obtain⟨W1,hW1⟩:∃W1,w.alloc (.cells #[.int .u8 op,.int .u8 vk,.int .i64 vn,.string ⟨vs.toArray⟩,.string ⟨C.toArray⟩,.slice A kids.length kc,.int .i64 D,.int .i64 E] 43)=W1:=⟨_,rfl⟩;have hb1:Below w.heap.size w W1:=by rw[←hW1];exact(Aq _ w).alloc (Ak _) _
 have hp1:=Az w (.cells #[.int .u8 op,.int .u8 vk,.int .i64 vn,.string ⟨vs.toArray⟩,.string ⟨C.toArray⟩,.slice A kids.length kc,.int .i64 D,.int .i64 E] 43);rw[hW1] at hp1;obtain⟨n0,n1,n2,n3,n4,n5,n6,n7,_⟩:=A6 hp1;have HP1:=Ax hp1;have HB1:=Ax hb1;simp only at f;obtain⟨G,I,q,r⟩:=of_decide_eq_true hfits;have hin:F1 op:=Qg G I rF rF rF;have hk1:kids.length=2:=by rw[Rb hin] at q r;simp only at q r;omega
 have j:∀k:Int,¬F1 k->(op==k)=false:=fun k o=>Af.2 (fun e=>o (e▸hin))
 have L:=j 1 rH;have M:=j 2 rH;have e3:=j 3 rH;have e6:=j 6 rH;have b7:=j 17 rH;clear j G I q r;obtain⟨c0,hc0⟩:∃c,kids[0]? =some c:=⟨_,Ag rF⟩;obtain⟨c1,hc1⟩:∃c,kids[1]? =some c:=⟨_,Ag rF⟩;obtain⟨kb,ko,rfl,y0⟩:=hkc 0 rF;obtain⟨b8,d8,g,y1⟩:=hkc 1 rF;injection g with g;injection g with L M;subst L M;rw[(List.getElem?_eq_some_iff.1 hc0).2,Nat.add_zero] at y0;rw[(List.getElem?_eq_some_iff.1 hc1).2] at y1;have y0:=A4 hb1 y0;have y1:=A4 hb1 y1;have k0:(0:Int)<(kids.length:Int):=by omega
 have k1:(1:Int)<(kids.length:Int):=by omega
 have HL:=Ax (Jg op W1)
 have HIX:∀V,Calls Tryz.prog 31 #[.int .u8 op] V fun e w'=>e= .returned (.string ⟨(Cw op).toArray⟩)/\Below V.heap.size V w':=fun V=>by
  have:=O5 op V
  rwa [Ql hin] at this
 have hz:txZ l i=B4 l (Bl l i) kids 0 (A9 op)++32::(Cw op++32::B4 l (Bl l i) kids 1 (A9 op+1)):=by
  rw[htx];unfold Ct;simp only;rw[Ao (Ug hin 1 rH),Ao (Ug hin 2 rH),Ao (Ug hin 3 rH),Ao rF,Ao rF,Ao rF]
 obtain⟨d,n⟩:∃d,A9 op=d:=⟨_,rfl⟩;rw[n] at HL hz f;have t3:((d:Int)==3)=false:=Af.2 rF;have f7:(d==3)=false:=Af.2 rF;have t8:decide ((d:Int)<8)=true:=Am rF;have f8:decide (d<8)=true:=Am rF;have N:(d:Int)<=8:=by omega
 have w1:IntKind.i64.wrap ((d:Int)+1)=(d:Int)+1:=IntWalk.i64_in _ rF;clear f n;have HA0:∀V,Below w.heap.size w V->Calls Tryz.prog 95 #[.slice (some ⟨u,off,none⟩) l.length y,.int .i64 c0,.int .i64 d] V fun e w'=>e= .returned (.string ⟨(B4 l (Bl l i) kids 0 d).toArray⟩)/\Below V.heap.size V w':=fun V m=>hA 0 d c0 hc0 V m
 have HA1:∀V,Below w.heap.size w V->Calls Tryz.prog 95 #[.slice (some ⟨u,off,none⟩) l.length y,.int .i64 c1,.int .i64 ((d:Int)+1)] V fun e w'=>e= .returned (.string ⟨(B4 l (Bl l i) kids 1 (d+1)).toArray⟩)/\Below V.heap.size V w':=fun V m=>by have:=hA 1 (d+1) c1 hc1 V m;simpa using this
 rw[hz] at hlen ⊢;obtain⟨K0,hK0⟩:∃K,B4 l (Bl l i) kids 0 d=K:=⟨_,rfl⟩;obtain⟨K1,hK1⟩:∃K,B4 l (Bl l i) kids 1 (d+1)=K:=⟨_,rfl⟩;exact zzx
theorem Sf (c x:List UInt8):∀(l:List (List UInt8)),l≠[]->E5 c (l++[x])=E5 c l++(c++x)
 |[],h=>absurd rfl h
 |[y],_=>rfl
 |y::z::l,_=>by
  have d:=Sf c x (z::l) rI;show y++(c++E5 c ((z::l)++[x]))=(y++(c++E5 c (z::l)))++(c++x);rw[d];simp only[List.append_assoc]
def jnT (F:Nat->List UInt8)(k:Nat):List UInt8:=E5 [44,32] ((List.range k).map F)
theorem cP (F:Nat->List UInt8){k:Nat}(h:0<k):jnT F (k+1)=jnT F k++([44,32]++F k):=by
 unfold jnT;rw[F6,Sf];intro e
 have:=Ar List.length e
 rw[List.length_map,List.length_range] at this;simp at this;omega
theorem jL (F:Nat->List UInt8){n:Nat}(c:∀k,k<n->(F k).length<=65536):∀k,k<=n->(jnT F k).length<=k*65538
 |0,_=>Nat.zero_le _
 |k+1,h=>by
  have d:=jL F c k rF
  have:=c k rF
  by_cases h0:0<k
  ·rw[cP F h0,Ab,Ab];show _+(2+_)<=_;omega
  obtain rfl:k=0:=by omega
  show(F 0).length<=_
  omega
theorem kE {l:List Nz}(U:Lw l){v:Value}{w:World}(W:TrZ w v l){i:Nat}(IH:Sz l i v w){x:Nz}(A:l[i]? =some x)(f:Cp x.h.op):
 Calls Tryz.prog 64 #[v,.int .i64 (i:Int)] w fun e w'=>e= .returned (.string ⟨(txZ l i).toArray⟩)/\Below w.heap.size w w':=by
 have hA:=fun k least c g V hV=>Jp U W IH A k least (c:=c) g V hV
 obtain⟨w8,_⟩:=List.getElem?_eq_some_iff.1 A;obtain⟨d,m,X⟩:=U.node i x A;have r:=U.fit x (List.mem_of_getElem? A);have w9:=W.1;have C:txZ l i=Ct x.h x.kids.length (B4 l (Bl l i) x.kids):=by unfold txZ;rw[A]
 obtain⟨tr,off,tc,rfl⟩:=W.some rF;obtain⟨kv,hn,k8⟩:=W.get A;obtain⟨n,ka,kc,rfl,D⟩:=k8;obtain⟨⟨op,⟨vk,vn,vs⟩,nm,ln,cl⟩,kids⟩:=x;obtain⟨x0,x1,x2,x3,x4,x5,x6,x7⟩:=hn;simp only at x0 x1 x2 x3 x4 x5 x6 x7 n D d r hA C;have i0:(0:Int)<=(i:Int):=by omega
 have i1:(i:Int)<(l.length:Int):=by omega
 have x8:=Bn x0;obtain⟨W1,Y⟩:∃W1,w.alloc (.cells #[.int .u8 op,.int .u8 vk,.int .i64 vn,.string ⟨vs.toArray⟩,.string ⟨nm.toArray⟩,.slice ka kids.length kc,.int .i64 ln,.int .i64 cl] 43)=W1:=⟨_,rfl⟩;have Z:Below w.heap.size w W1:=by rw[←Y];exact(Aq _ w).alloc (Ak _) _
 have o:=Az w (.cells #[.int .u8 op,.int .u8 vk,.int .i64 vn,.string ⟨vs.toArray⟩,.string ⟨nm.toArray⟩,.slice ka kids.length kc,.int .i64 ln,.int .i64 cl] 43);rw[Y] at o;obtain⟨n0,n1,n2,n3,n4,n5,n6,n7,_⟩:=A6 o;have E:=Ax o;have G:=Ax Z;simp only at f;obtain⟨_,_,g3,g4⟩:=of_decide_eq_true d;have x9:kids.length<=8:=Al g4 (Sl op);have T:∀k:Int,¬Cp k->(op==k)=false:=fun k g=>Af.2 (fun e=>g (e▸f))
 have e1:=T 1 rH;have e2:=T 2 rH;have e3:=T 3 rH;have e6:=T 6 rH;have y8:=T 17 rH;have I:=Gv f;have HL:=Ax (Jg op W1);rw[I] at HL;have HW:=Ax (fun V=>Qd op f V);obtain⟨F,hF⟩:∃F:Nat->List UInt8,F=fun k=>B4 l (Bl l i) kids k 0:=⟨_,rfl⟩
 have hz:txZ l i=Cw op++K6 (jnT F kids.length):=by
  rw[C,hF];unfold Ct jnT;simp only;have nc:∀k:Int,¬Cp k->¬op=k:=fun k g e=>g (e▸f)
  rw[Ao (nc 1 rH),Ao (nc 2 rH),Ao (nc 3 rH),Ap I]
 have L:∀k,k<kids.length->(F k).length<=65536/\∃c:Nat,kids[k]? =some (c:Int)/\c<i/\txZ l c=F k:=fun k g=>by
  have M:kids[k]? =some kids[k]:=Ag g;obtain⟨q0,q1⟩:=m kids[k] (List.getElem_mem g);obtain⟨c,hc⟩:∃c:Nat,kids[k]=(c:Int):=⟨kids[k].toNat,by omega⟩;rw[hc] at M q1;have a8:c<l.length:=by omega
  have b7:txZ l c=F k:=by
   rw[hF];simp only;rw[cL M rF (Ag a8),Ao (Nat.not_lt_zero _)]
  exact⟨b7▸(U.node c _ (Ag a8)).2.2,c,M,by omega,b7⟩
 have b8:=jL F (fun k g=>(L k g).1);rw[hz,cI];obtain⟨j,p⟩:∃j,Cw op=j:=⟨_,rfl⟩;have l7:=(Jc op).1;rw[p] at l7;have HW:Hid (∀V,Calls Tryz.prog 97 #[.int .u8 op] V fun e w'=>e= .returned (.string ⟨j.toArray⟩)/\Below V.heap.size V w'):=Ax (fun V=>by rw[←p];exact HW.out V);rw[p];have HI:=Ax IH;have n9:=Ax L;have p8:=Ax b8;have r7:=Ax D;clear hz C X hA D hF L b8 p f T g3 g4 I;clear W IH A d m o Z r U;have N0:=Ax n0;go_enter Tryz.func64,Tryz.ntmps64;go_wp2_with fail;refine HL.out.mono ?_;rintro e V2 ⟨rfl,q⟩;have n0:=A4 q N0.out;have N:=Ax (G.out.trans (q.mono G.out.size));have O:=Ax q;have d8:=Ax (HW.out V2);clear q HL N0 n1 n2 n3 n4 n5 n6 n7 HW G;go_wp2_with fail;refine d8.out.mono ?_;rintro e V3 ⟨rfl,R⟩;have r8:=Ax (N.out.trans (R.mono N.out.size));have f7:=(R.block _ (by have:=Ay E.out;have:=O.out.size;omega)).trans ((O.out.block _ (Ay E.out)).trans E.out);have r9:=Ax f7;clear R d8 N O n0 f7 x0 x1 x2 x3 x4 x5 x6 x7;have f8:(⟨(j++40::jnT F 0).toArray⟩:ByteArray)=⟨j.toArray⟩++⟨#[40]⟩:=by rw[show(⟨#[40]⟩:ByteArray)=⟨[40].toArray⟩ from rfl,J3];rfl
 have s7:=Ax f8;clear f8;go_wp2_with fail
 go_loopw [7,8] (fun v7 v8 wr=>∃k:Nat,k<=kids.length/\v8= .int .i64 k/\v7= .string ⟨(j++40::jnT F k).toArray⟩/\Hid (Below w.heap.size w wr/\wr.heap[w.heap.size]? =some (.cells #[.int .u8 op,.int .u8 vk,.int .i64 vn,.string ⟨vs.toArray⟩,.string ⟨nm.toArray⟩,.slice ka kids.length kc,.int .i64 ln,.int .i64 cl] 43 (0,0)))) (fun _ v8 _=>kids.length - (intOf v8).toNat)
 case atStart=>exact⟨0,Nat.zero_le _,rfl,by rw[s7.out],Ax ⟨r8.out,r9.out⟩⟩
 obtain⟨k,g,rfl,rfl,hq⟩:=hrel;obtain⟨hb,hp⟩:=hq.out;obtain⟨n0,n1,n2,n3,n4,n5,n6,n7,_⟩:=A6 hp;have HBk:=Ax hb;have HPk:=Ax hp;have s8:=p8.out k g;obtain⟨S,hS⟩:∃S:ByteArray,(⟨(j++40::jnT F k).toArray⟩:ByteArray)=S:=⟨_,rfl⟩;have y9:S.size<=1000000:=by rw[←hS,←A5,Da];simp only[Ab,Aa];omega
 rw[hS];have HS:=Ax hS;clear hb hp hq hS n1 n2 n3 n4 n6 n7 n0 s8;by_cases n:k<kids.length
 ·obtain⟨f9,c,u,i6,i7⟩:=n9.out k n;obtain⟨kb,ko,s9,hcell⟩:=r7.out k n;subst s9;rw[(List.getElem?_eq_some_iff.1 u).2] at hcell;have hcell:=A4 HBk.out hcell;have HT:=HI.out c i6 wr HBk.out;rw[i7] at HT;obtain⟨B,hB⟩:∃B:ByteArray,(⟨(F k).toArray⟩:ByteArray)=B:=⟨_,rfl⟩;have uR:B.size<=65536:=by rw[←hB];exact f9
  rw[hB] at HT;have HT:=Ax HT;have j0:(0:Int)<=(k:Int):=by omega
  have j1:(k:Int)<(kids.length:Int):=by omega
  have j2:decide ((k:Int)<(kids.length:Int))=true:=Am j1;have j8:=Ax hB;clear u i6 i7 hB f9;by_cases hk0:0<k
  ·have q0:decide ((0:Int)<(k:Int))=true:=Am rF;have w7:decide (0<k)=true:=Am hk0
   have hnx:(⟨(j++40::jnT F (k+1)).toArray⟩:ByteArray)=S++⟨#[44,32]⟩++B:=by
    rw[cP F hk0,←HS.out,←j8.out,show(⟨#[44,32]⟩:ByteArray)=⟨[44,32].toArray⟩ from rfl,J3,J3];simp only[List.append_assoc,List.cons_append]
   exact zy1
  have q0:decide ((0:Int)<(k:Int))=false:=An rF;have w7:decide (0<k)=false:=An hk0
  have hnx:(⟨(j++40::jnT F (k+1)).toArray⟩:ByteArray)=S++B:=by
   obtain rfl:k=0:=by omega
   rw[←HS.out,←j8.out,J3];simp [jnT,E5]
  exact zy1
 obtain rfl:k=kids.length:=by omega
 have j2:decide ((kids.length:Int)<(kids.length:Int))=false:=by simp
 have y:(⟨j.toArray⟩:ByteArray)++⟨#[40]⟩++⟨(jnT F kids.length).toArray⟩++⟨#[41]⟩=S++⟨#[41]⟩:=by
  rw[←HS.out];apply Ch;simp only[Dz,Da];show j++[40]++jnT F kids.length++[41]=(j++40::jnT F kids.length)++[41];simp
 have j9:=Ax y;clear y;go_wp2_with fail;go_ret;exact⟨by rw[j9.out];rfl,HBk.out⟩
theorem bT {l:List Nz}(d:Lw l):∀(n i:Nat),i<n->i<l.length->∀(v:Value) (w:World),TrZ w v l->Calls Tryz.prog 64 #[v,.int .i64 (i:Int)] w fun e w'=>e= .returned (.string ⟨(txZ l i).toArray⟩)/\Below w.heap.size w w'
 |0,i,h,_,_,_,_=>absurd h (Nat.not_lt_zero _)
 |n+1,i,h,hil,v,w,ht=>by
  have g:Sz l i v w:=fun j p V m=>bT d n j rF rF v V (ht.below m)
  have f:l[i]? =some l[i]:=Ag hil;obtain⟨q,r,_,_⟩:=of_decide_eq_true (d.node i _ f).1;by_cases c1:l[i].h.op=1
  ·exact pC d ht g f c1
  by_cases c2:l[i].h.op=2
  ·exact oC d ht g f c2
  by_cases c3:l[i].h.op=3
  ·exact kT d ht g f c3
  by_cases c6:l[i].h.op=6
  ·exact oB d ht g f c6
  by_cases c17:l[i].h.op=17
  ·exact oV d ht g f c17
  by_cases cc:Cp l[i].h.op
  ·exact kE d ht g f cc
  have k:F1 l[i].h.op:=by unfold Cp at cc;unfold F1;omega
  obtain⟨u,o⟩:=Wz k;by_cases c:A9 l[i].h.op=3
  ·exact oW d ht g f c
  exact oS d ht g f ⟨by omega,o,by omega,c⟩
end Go.Proofs.YtgfakdobajgnfaaGreatDoor
