import Derived.Test.YtgfakdobajgnfaaGreatDoorQt29
import Derived.Test.YtgfakdobajgnfaaGreatDoorQt33
set_option maxRecDepth 100000
set_option maxHeartbeats 16000000
namespace Go.Proofs.YtgfakdobajgnfaaGreatDoor
open Go Go.RowKit Go.Lib Go.Sort Go.Shelf
theorem jW {op:Int}(h:op<4\/26<op):K2 op=([],8):=by
 unfold K2
 repeat rw[Ao qO]
theorem oU {op:Int}(h:4<=op)(h':op<=17):op=4\/op=5\/op=6\/op=7\/op=8\/op=9\/op=10\/op=11\/op=12\/op=13\/op=14\/op=15\/op=16\/op=17:=by omega
theorem Xo {op:Int}(h:op<4\/17<op):A4 op=8:=by
 by_cases h2:17<op/\op<=26
 ·exact Ew (by unfold Cm;omega)
 unfold A4;rw[jW qO]
theorem Jo (op:Int)(w:World):Calls Tryz.prog 96 #[.int .u8 op] w fun e w'=>e= .returned (.int .i64 (A4 op:Int))/\Below w.heap.size w w':=by
 by_cases h:4<=op/\op<=17
 ·rcases oU h.1 h.2 with rfl|rfl|rfl|rfl|rfl|rfl|rfl|rfl|rfl|rfl|rfl|rfl|rfl|rfl
  all_goals
   clear h;go_enter Tryz.func96,Tryz.ntmps96;exact zy3
 have hne:∀k:Int,4<=k->k<=17->(op==k)=false:=fun k h1 h2=>Af.2 qO
 have h4:=hne 4 qP qP;have h5:=hne 5 qP qP;have h6:=hne 6 qP qP;have h13:=hne 13 qP qP;have h14:=hne 14 qP qP;have h15:=hne 15 qP qP;have h16:=hne 16 qP qP;have h17:=hne 17 qP qP;rw[Xo qO];clear hne;by_cases h7:7<=op
 ·have d7:decide ((7:Int)<=op)=true:=Am h7;have d12:decide (op<=(12:Int))=false:=An qO;clear h7 h;go_enter Tryz.func96,Tryz.ntmps96;exact zy3
 have d7:decide ((7:Int)<=op)=false:=An h7;clear h7 h;go_enter Tryz.func96,Tryz.ntmps96;exact zy3
theorem Ld (op:Int)(w:World):Calls Tryz.prog 31 #[.int .u8 op] w fun e w'=>e= .returned (.string ⟨(L6 op).toArray⟩)/\Below w.heap.size w w':=by
 by_cases h:4<=op/\op<=16
 ·rcases oU h.1 qO with rfl|rfl|rfl|rfl|rfl|rfl|rfl|rfl|rfl|rfl|rfl|rfl|rfl|rfl
  all_goals
   first
    |(exact absurd h qP)
    |(clear h
      exact zxj)
 have hn:L6 op=[]:=by
  unfold L6;by_cases h17:op=17
  ·subst h17;rfl
  rw[Xo qO];rfl
 rw[hn];by_cases h4:op<4
 ·have d4:decide (op<(4:Int))=true:=Am h4;clear h4 h hn;exact zxj
 have d4:decide (op<(4:Int))=false:=An h4;have d16:decide ((16:Int)<op)=true:=Am qO;clear h4 h hn;exact zxj
theorem Re (op:Int)(h:Cm op)(w:World):Calls Tryz.prog 97 #[.int .u8 op] w fun e w'=>e= .returned (.string ⟨(Cc op).toArray⟩)/\Below w.heap.size w w':=by
 rcases h with rfl|rfl|rfl|rfl|rfl|rfl|rfl|rfl|rfl
 all_goals
  go_enter Tryz.func97,Tryz.ntmps97;go_wp2_with fail;go_ret;exact⟨rfl,(Aq _ _).alloc (Ak _) _⟩
open Go Go.RowKit Go.Lib Go.Sort Go.Shelf
structure L3 (l:List Nz):Prop where
 node:∀(j:Nat) (x:Nz),l[j]? =some x->Ie x.h.op x.kids.length=true/\(∀c∈x.kids,0<=c/\c<(j:Int))/\(txZ l j).length<=65536
 fit:∀x∈l,Jw x.h
def Tr (l:List Nz)(i:Nat)(v:Value)(w:World):Prop:=∀(j:Nat),j<i->∀V,Below w.heap.size w V->Calls Tryz.prog 64 #[v,.int .i64 (j:Int)] V fun e w'=>e= .returned (.string ⟨(txZ l j).toArray⟩)/\Below V.heap.size V w'
theorem bZ {l:List Nz}{i:Nat}{kids:List Int}{k j:Nat}(hk:kids[k]? =some (j:Int))(hj:j<i){y:Nz}(hy:l[j]? =some y)(least:Nat):B5 l (Bg l i) kids k least=if A4 y.h.op<least then Kt (txZ l j) else txZ l j:=by
 unfold B5;rw[hk];simp only[Dt,Int.toNat_natCast];rw[Ap qO,hy,Ol hj]
instance (op:Int):Decidable (Cm op):=by unfold Cm;infer_instance
theorem Qy {op:Int}(h1:1<=op)(h2:op<=26)(h8:A4 op<8)(h:A4 op≠2)(h':A4 op≠6):Er op:=by
 have a1:¬op<=3:=fun e=>by rw[K7 h1 e] at h8;omega
 have a2:op≠6:=fun e=>h rD
 have a3:op≠17:=fun e=>h' rD
 have a4:¬18<=op:=fun e=>by rw[Ew (by unfold Cm;omega)] at h8;omega
 unfold Er;omega
theorem Uw {op:Int}(h:Er op)(k:Int)(hk:¬Er k):¬op=k:=fun e=>hk (e▸h)
theorem Qs {op:Int}(h:Er op):L6 op=Cc op:=by
 rcases h with rfl|rfl|rfl|rfl|rfl|rfl|rfl|rfl|rfl|rfl|rfl|rfl<;>rfl
theorem J9 {l:List Nz}(hT:L3 l){v:Value}{w:World}(ht:TrZ w v l){i:Nat}(IH:Tr l i v w){x:Nz}(hx:l[i]? =some x)(k least:Nat){c:Int}(hk:x.kids[k]? =some c)(V:World)(hV:Below w.heap.size w V):
 Calls Tryz.prog 95 #[v,.int .i64 c,.int .i64 (least:Int)] V fun e w'=>e= .returned (.string ⟨(B5 l (Bg l i) x.kids k least).toArray⟩)/\Below V.heap.size V w':=by
 obtain⟨_,hkids,_⟩:=hT.node i x hx;obtain⟨c0,c1⟩:=hkids c (List.mem_of_getElem? hk);obtain⟨j,rfl⟩:∃j:Nat,c=(j:Int):=⟨c.toNat,by omega⟩;have hil:=(List.getElem?_eq_some_iff.1 hx).1;have hji:j<i:=by omega
 have hjl:j<l.length:=by omega
 rw[bZ hk hji (Ag hjl)];obtain⟨_,_,hlen⟩:=hT.node j _ (Ag hjl);have HI:=Ax (IH j hji V hV);have hz:=ht.below hV;obtain⟨tr,off,tc,rfl⟩:=hz.some qO;obtain⟨kv,hna,_⟩:=hz.get (Ag hjl);obtain⟨x0,_,_,_,_,_,_,_⟩:=hna;obtain⟨op,hop⟩:∃op,l[j].h.op=op:=⟨_,rfl⟩;rw[hop] at x0 ⊢;obtain⟨t,ht'⟩:∃t,txZ l j=t:=⟨_,rfl⟩;rw[ht'] at HI hlen ⊢;have HX:=Ax x0;have i0:(0:Int)<=(j:Int):=by omega
 have i1:(j:Int)<(l.length:Int):=by omega
 have hlm:=ht.1;clear hkids c0 c1 hop ht' hz hx hk x0 IH ht hT;by_cases hlt:A4 op<least
 ·have k1:decide ((A4 op:Int)<(least:Int))=true:=Am qO;rw[Ap hlt,←jC];exact zyg
 have k1:decide ((A4 op:Int)<(least:Int))=false:=An qO;rw[Ao hlt];exact zyg
theorem nT {l:List Nz}(hT:L3 l){v:Value}{w:World}(ht:TrZ w v l){i:Nat}(IH:Tr l i v w){x:Nz}(hx:l[i]? =some x)(hop:x.h.op=1):
 Calls Tryz.prog 64 #[v,.int .i64 (i:Int)] w fun e w'=>e= .returned (.string ⟨(txZ l i).toArray⟩)/\Below w.heap.size w w':=by
 have hA:=fun k least c hk V hV=>J9 hT ht IH hx k least (c:=c) hk V hV
 obtain⟨hil,_⟩:=List.getElem?_eq_some_iff.1 hx;obtain⟨hfits,hkids,hlen⟩:=hT.node i x hx;have hfit:=hT.fit x (List.mem_of_getElem? hx);have hlm:=ht.1;have htx:txZ l i=Cr x.h x.kids.length (B5 l (Bg l i) x.kids):=by unfold txZ;rw[hx]
 obtain⟨tr,off,tc,rfl⟩:=ht.some qO;obtain⟨kv,hn,hki⟩:=ht.get hx;obtain⟨hkl,ka,kc,rfl,hkc⟩:=hki;obtain⟨⟨op,⟨vk,vn,vs⟩,nm,ln,cl⟩,kids⟩:=x;obtain⟨x0,x1,x2,x3,x4,x5,x6,x7⟩:=hn;simp only at x0 x1 x2 x3 x4 x5 x6 x7 hkl hkc hfits hfit hA htx;have i0:(0:Int)<=(i:Int):=by omega
 have i1:(i:Int)<(l.length:Int):=by omega
 have hbx:=Bp x0;obtain⟨W1,hW1⟩:∃W1,w.alloc (.cells #[.int .u8 op,.int .u8 vk,.int .i64 vn,.string ⟨vs.toArray⟩,.string ⟨nm.toArray⟩,.slice ka kids.length kc,.int .i64 ln,.int .i64 cl] 43)=W1:=⟨_,rfl⟩;have hb1:Below w.heap.size w W1:=by rw[←hW1];exact(Aq _ w).alloc (Ak _) _
 have hp1:=Az w (.cells #[.int .u8 op,.int .u8 vk,.int .i64 vn,.string ⟨vs.toArray⟩,.string ⟨nm.toArray⟩,.slice ka kids.length kc,.int .i64 ln,.int .i64 cl] 43);rw[hW1] at hp1;obtain⟨n0,n1,n2,n3,n4,n5,n6,n7,_⟩:=A8 hp1;have HP1:=Ax hp1;have HB1:=Ax hb1;simp only at hop;subst hop;obtain⟨f1,f2,f3,f4⟩:=hfit;simp only at f1 f2 f3 f4;have hz:txZ l i=C5 vk vn vs:=by rw[htx];unfold Cr;rw[Ap rfl]
 rw[hz];have HT:=Ax (Gb ⟨vk,vn,⟨vs.toArray⟩⟩ W1 ⟨by show vs.toArray.size<=_;simp;omega,f1,f2⟩);clear hz htx hlen hA hkc f1 f2 f3 f4;clear ht IH hx hfits hkids hp1 hb1 hT;go_enter Tryz.func64,Tryz.ntmps64;go_wp2_with fail;refine HT.out.mono ?_;rintro e V4 ⟨rfl,hb4⟩;have HB4:=Ax (HB1.out.trans (hb4.mono HB1.out.size));clear hb4 HT;go_wp2_with fail;go_ret;exact⟨rfl,HB4.out⟩
theorem oN {l:List Nz}(hT:L3 l){v:Value}{w:World}(ht:TrZ w v l){i:Nat}(IH:Tr l i v w){x:Nz}(hx:l[i]? =some x)(hop:x.h.op=2):
 Calls Tryz.prog 64 #[v,.int .i64 (i:Int)] w fun e w'=>e= .returned (.string ⟨(txZ l i).toArray⟩)/\Below w.heap.size w w':=by
 have hA:=fun k least c hk V hV=>J9 hT ht IH hx k least (c:=c) hk V hV
 obtain⟨hil,_⟩:=List.getElem?_eq_some_iff.1 hx;obtain⟨hfits,hkids,hlen⟩:=hT.node i x hx;have hfit:=hT.fit x (List.mem_of_getElem? hx);have hlm:=ht.1;have htx:txZ l i=Cr x.h x.kids.length (B5 l (Bg l i) x.kids):=by unfold txZ;rw[hx]
 obtain⟨tr,off,tc,rfl⟩:=ht.some qO;obtain⟨kv,hn,hki⟩:=ht.get hx;obtain⟨hkl,ka,kc,rfl,hkc⟩:=hki;obtain⟨⟨op,⟨vk,vn,vs⟩,nm,ln,cl⟩,kids⟩:=x;obtain⟨x0,x1,x2,x3,x4,x5,x6,x7⟩:=hn;simp only at x0 x1 x2 x3 x4 x5 x6 x7 hkl hkc hfits hfit hA htx;have i0:(0:Int)<=(i:Int):=by omega
 have i1:(i:Int)<(l.length:Int):=by omega
 have hbx:=Bp x0;obtain⟨W1,hW1⟩:∃W1,w.alloc (.cells #[.int .u8 op,.int .u8 vk,.int .i64 vn,.string ⟨vs.toArray⟩,.string ⟨nm.toArray⟩,.slice ka kids.length kc,.int .i64 ln,.int .i64 cl] 43)=W1:=⟨_,rfl⟩;have hb1:Below w.heap.size w W1:=by rw[←hW1];exact(Aq _ w).alloc (Ak _) _
 have hp1:=Az w (.cells #[.int .u8 op,.int .u8 vk,.int .i64 vn,.string ⟨vs.toArray⟩,.string ⟨nm.toArray⟩,.slice ka kids.length kc,.int .i64 ln,.int .i64 cl] 43);rw[hW1] at hp1;obtain⟨n0,n1,n2,n3,n4,n5,n6,n7,_⟩:=A8 hp1;have HP1:=Ax hp1;have HB1:=Ax hb1;simp only at hop;subst hop;have hz:txZ l i=63::nm:=by rw[htx];unfold Cr;rw[Ao qQ,Ap rfl]
 rw[hz];have hnl:nm.length<=1000000:=hfit.2.2.2;have hba:(⟨(63::nm).toArray⟩:ByteArray)=⟨#[63]⟩++⟨nm.toArray⟩:=by rw[show(⟨#[63]⟩:ByteArray)=⟨[63].toArray⟩ from rfl,Kj];rfl
 rw[hba];clear hz htx hlen hA hkc hba;exact zwl
theorem iM {l:List Nz}(hT:L3 l){v:Value}{w:World}(ht:TrZ w v l){i:Nat}(IH:Tr l i v w){x:Nz}(hx:l[i]? =some x)(hop:x.h.op=3):
 Calls Tryz.prog 64 #[v,.int .i64 (i:Int)] w fun e w'=>e= .returned (.string ⟨(txZ l i).toArray⟩)/\Below w.heap.size w w':=by
 have hA:=fun k least c hk V hV=>J9 hT ht IH hx k least (c:=c) hk V hV
 obtain⟨hil,_⟩:=List.getElem?_eq_some_iff.1 hx;obtain⟨hfits,hkids,hlen⟩:=hT.node i x hx;have hfit:=hT.fit x (List.mem_of_getElem? hx);have hlm:=ht.1;have htx:txZ l i=Cr x.h x.kids.length (B5 l (Bg l i) x.kids):=by unfold txZ;rw[hx]
 obtain⟨tr,off,tc,rfl⟩:=ht.some qO;obtain⟨kv,hn,hki⟩:=ht.get hx;obtain⟨hkl,ka,kc,rfl,hkc⟩:=hki;obtain⟨⟨op,⟨vk,vn,vs⟩,nm,ln,cl⟩,kids⟩:=x;obtain⟨x0,x1,x2,x3,x4,x5,x6,x7⟩:=hn;simp only at x0 x1 x2 x3 x4 x5 x6 x7 hkl hkc hfits hfit hA htx;have i0:(0:Int)<=(i:Int):=by omega
 have i1:(i:Int)<(l.length:Int):=by omega
 have hbx:=Bp x0;obtain⟨W1,hW1⟩:∃W1,w.alloc (.cells #[.int .u8 op,.int .u8 vk,.int .i64 vn,.string ⟨vs.toArray⟩,.string ⟨nm.toArray⟩,.slice ka kids.length kc,.int .i64 ln,.int .i64 cl] 43)=W1:=⟨_,rfl⟩;have hb1:Below w.heap.size w W1:=by rw[←hW1];exact(Aq _ w).alloc (Ak _) _
 have hp1:=Az w (.cells #[.int .u8 op,.int .u8 vk,.int .i64 vn,.string ⟨vs.toArray⟩,.string ⟨nm.toArray⟩,.slice ka kids.length kc,.int .i64 ln,.int .i64 cl] 43);rw[hW1] at hp1;obtain⟨n0,n1,n2,n3,n4,n5,n6,n7,_⟩:=A8 hp1;have HP1:=Ax hp1;have HB1:=Ax hb1;simp only at hop;subst hop;have hz:txZ l i=[63]:=by rw[htx];unfold Cr;rw[Ao qQ,Ao qQ,Ap rfl]
 rw[hz];clear hz htx hlen hA hkc;exact zwl
theorem nU {l:List Nz}(hT:L3 l){v:Value}{w:World}(ht:TrZ w v l){i:Nat}(IH:Tr l i v w){x:Nz}(hx:l[i]? =some x)(hop:x.h.op=6):
 Calls Tryz.prog 64 #[v,.int .i64 (i:Int)] w fun e w'=>e= .returned (.string ⟨(txZ l i).toArray⟩)/\Below w.heap.size w w':=by
 have hA:=fun k least c hk V hV=>J9 hT ht IH hx k least (c:=c) hk V hV
 obtain⟨hil,_⟩:=List.getElem?_eq_some_iff.1 hx;obtain⟨hfits,hkids,hlen⟩:=hT.node i x hx;have hfit:=hT.fit x (List.mem_of_getElem? hx);have hlm:=ht.1;have htx:txZ l i=Cr x.h x.kids.length (B5 l (Bg l i) x.kids):=by unfold txZ;rw[hx]
 obtain⟨tr,off,tc,rfl⟩:=ht.some qO;obtain⟨kv,hn,hki⟩:=ht.get hx;obtain⟨hkl,ka,kc,rfl,hkc⟩:=hki;obtain⟨⟨op,⟨vk,vn,vs⟩,nm,ln,cl⟩,kids⟩:=x;obtain⟨x0,x1,x2,x3,x4,x5,x6,x7⟩:=hn;simp only at x0 x1 x2 x3 x4 x5 x6 x7 hkl hkc hfits hfit hA htx;have i0:(0:Int)<=(i:Int):=by omega
 have i1:(i:Int)<(l.length:Int):=by omega
 have hbx:=Bp x0;obtain⟨W1,hW1⟩:∃W1,w.alloc (.cells #[.int .u8 op,.int .u8 vk,.int .i64 vn,.string ⟨vs.toArray⟩,.string ⟨nm.toArray⟩,.slice ka kids.length kc,.int .i64 ln,.int .i64 cl] 43)=W1:=⟨_,rfl⟩;have hb1:Below w.heap.size w W1:=by rw[←hW1];exact(Aq _ w).alloc (Ak _) _
 have hp1:=Az w (.cells #[.int .u8 op,.int .u8 vk,.int .i64 vn,.string ⟨vs.toArray⟩,.string ⟨nm.toArray⟩,.slice ka kids.length kc,.int .i64 ln,.int .i64 cl] 43);rw[hW1] at hp1;obtain⟨n0,n1,n2,n3,n4,n5,n6,n7,_⟩:=A8 hp1;have HP1:=Ax hp1;have HB1:=Ax hb1;simp only at hop;subst hop;have hk1:kids.length=1:=by obtain⟨_,_,q1,q2⟩:=of_decide_eq_true hfits;simp [Dk] at q1 q2;omega
 obtain⟨c0,hc0⟩:∃c,kids[0]? =some c:=⟨_,Ag qO⟩;obtain⟨kb,ko,rfl,y0⟩:=hkc 0 qO;rw[(List.getElem?_eq_some_iff.1 hc0).2,Nat.add_zero] at y0;have y0:=A6 hb1 y0;have k0:(0:Int)<(kids.length:Int):=by omega
 have hz:txZ l i=[110,111,116,32]++B5 l (Bg l i) kids 0 2:=by rw[htx];rfl
 have HA:Hid (Calls Tryz.prog 95 #[.slice (some ⟨tr,off,none⟩) l.length tc,.int .i64 c0,.int .i64 2] W1 fun e w'=>e= .returned (.string ⟨(B5 l (Bg l i) kids 0 2).toArray⟩)/\Below W1.heap.size W1 w'):=Ax (hA 0 2 c0 hc0 W1 hb1);rw[hz] at hlen ⊢;obtain⟨K,hK⟩:∃K,B5 l (Bg l i) kids 0 2=K:=⟨_,rfl⟩;exact zyi
theorem oM {l:List Nz}(hT:L3 l){v:Value}{w:World}(ht:TrZ w v l){i:Nat}(IH:Tr l i v w){x:Nz}(hx:l[i]? =some x)(hop:x.h.op=17):
 Calls Tryz.prog 64 #[v,.int .i64 (i:Int)] w fun e w'=>e= .returned (.string ⟨(txZ l i).toArray⟩)/\Below w.heap.size w w':=by
 have hA:=fun k least c hk V hV=>J9 hT ht IH hx k least (c:=c) hk V hV
 obtain⟨hil,_⟩:=List.getElem?_eq_some_iff.1 hx;obtain⟨hfits,hkids,hlen⟩:=hT.node i x hx;have hfit:=hT.fit x (List.mem_of_getElem? hx);have hlm:=ht.1;have htx:txZ l i=Cr x.h x.kids.length (B5 l (Bg l i) x.kids):=by unfold txZ;rw[hx]
 obtain⟨tr,off,tc,rfl⟩:=ht.some qO;obtain⟨kv,hn,hki⟩:=ht.get hx;obtain⟨hkl,ka,kc,rfl,hkc⟩:=hki;obtain⟨⟨op,⟨vk,vn,vs⟩,nm,ln,cl⟩,kids⟩:=x;obtain⟨x0,x1,x2,x3,x4,x5,x6,x7⟩:=hn;simp only at x0 x1 x2 x3 x4 x5 x6 x7 hkl hkc hfits hfit hA htx;have i0:(0:Int)<=(i:Int):=by omega
 have i1:(i:Int)<(l.length:Int):=by omega
 have hbx:=Bp x0;obtain⟨W1,hW1⟩:∃W1,w.alloc (.cells #[.int .u8 op,.int .u8 vk,.int .i64 vn,.string ⟨vs.toArray⟩,.string ⟨nm.toArray⟩,.slice ka kids.length kc,.int .i64 ln,.int .i64 cl] 43)=W1:=⟨_,rfl⟩;have hb1:Below w.heap.size w W1:=by rw[←hW1];exact(Aq _ w).alloc (Ak _) _
 have hp1:=Az w (.cells #[.int .u8 op,.int .u8 vk,.int .i64 vn,.string ⟨vs.toArray⟩,.string ⟨nm.toArray⟩,.slice ka kids.length kc,.int .i64 ln,.int .i64 cl] 43);rw[hW1] at hp1;obtain⟨n0,n1,n2,n3,n4,n5,n6,n7,_⟩:=A8 hp1;have HP1:=Ax hp1;have HB1:=Ax hb1;simp only at hop;subst hop;have hk1:kids.length=1:=by obtain⟨_,_,q1,q2⟩:=of_decide_eq_true hfits;simp [Dk] at q1 q2;omega
 obtain⟨c0,hc0⟩:∃c,kids[0]? =some c:=⟨_,Ag qO⟩;obtain⟨kb,ko,rfl,y0⟩:=hkc 0 qO;rw[(List.getElem?_eq_some_iff.1 hc0).2,Nat.add_zero] at y0;have y0:=A6 hb1 y0;have k0:(0:Int)<(kids.length:Int):=by omega
 have hz:txZ l i=[45]++B5 l (Bg l i) kids 0 6:=by rw[htx];rfl
 have HA:Hid (Calls Tryz.prog 95 #[.slice (some ⟨tr,off,none⟩) l.length tc,.int .i64 c0,.int .i64 6] W1 fun e w'=>e= .returned (.string ⟨(B5 l (Bg l i) kids 0 6).toArray⟩)/\Below W1.heap.size W1 w'):=Ax (hA 0 6 c0 hc0 W1 hb1);rw[hz] at hlen ⊢;obtain⟨K,hK⟩:∃K,B5 l (Bg l i) kids 0 6=K:=⟨_,rfl⟩;exact zyi
theorem mS {l:List Nz}(hT:L3 l){v:Value}{w:World}(ht:TrZ w v l){i:Nat}(IH:Tr l i v w){x:Nz}(hx:l[i]? =some x)(hop:A4 x.h.op=3):
 Calls Tryz.prog 64 #[v,.int .i64 (i:Int)] w fun e w'=>e= .returned (.string ⟨(txZ l i).toArray⟩)/\Below w.heap.size w w':=by
 have hA:=fun k least c hk V hV=>J9 hT ht IH hx k least (c:=c) hk V hV
 obtain⟨hil,_⟩:=List.getElem?_eq_some_iff.1 hx;obtain⟨hfits,hkids,hlen⟩:=hT.node i x hx;have hfit:=hT.fit x (List.mem_of_getElem? hx);have hlm:=ht.1;have htx:txZ l i=Cr x.h x.kids.length (B5 l (Bg l i) x.kids):=by unfold txZ;rw[hx]
 obtain⟨tr,off,tc,rfl⟩:=ht.some qO;obtain⟨kv,hn,hki⟩:=ht.get hx;obtain⟨hkl,ka,kc,rfl,hkc⟩:=hki;obtain⟨⟨op,⟨vk,vn,vs⟩,nm,ln,cl⟩,kids⟩:=x;obtain⟨x0,x1,x2,x3,x4,x5,x6,x7⟩:=hn;simp only at x0 x1 x2 x3 x4 x5 x6 x7 hkl hkc hfits hfit hA htx;have i0:(0:Int)<=(i:Int):=by omega
 have i1:(i:Int)<(l.length:Int):=by omega
 have hbx:=Bp x0;obtain⟨W1,hW1⟩:∃W1,w.alloc (.cells #[.int .u8 op,.int .u8 vk,.int .i64 vn,.string ⟨vs.toArray⟩,.string ⟨nm.toArray⟩,.slice ka kids.length kc,.int .i64 ln,.int .i64 cl] 43)=W1:=⟨_,rfl⟩;have hb1:Below w.heap.size w W1:=by rw[←hW1];exact(Aq _ w).alloc (Ak _) _
 have hp1:=Az w (.cells #[.int .u8 op,.int .u8 vk,.int .i64 vn,.string ⟨vs.toArray⟩,.string ⟨nm.toArray⟩,.slice ka kids.length kc,.int .i64 ln,.int .i64 cl] 43);rw[hW1] at hp1;obtain⟨n0,n1,n2,n3,n4,n5,n6,n7,_⟩:=A8 hp1;have HP1:=Ax hp1;have HB1:=Ax hb1;simp only at hop;obtain⟨g1,g2,g3,g4⟩:=of_decide_eq_true hfits;have hin:Er op:=Qy g1 g2 qO qO qO;have hk1:kids.length=2:=by rw[Rm hin] at g3 g4;simp only at g3 g4;omega
 have ne:∀k:Int,¬Er k->(op==k)=false:=fun k hk=>Af.2 (fun e=>hk (e▸hin))
 have e1:=ne 1 qP;have e2:=ne 2 qP;have e3:=ne 3 qP;have e6:=ne 6 qP;have e17:=ne 17 qP;clear ne g1 g2 g3 g4;obtain⟨c0,hc0⟩:∃c,kids[0]? =some c:=⟨_,Ag qO⟩;obtain⟨c1,hc1⟩:∃c,kids[1]? =some c:=⟨_,Ag qO⟩;obtain⟨kb,ko,rfl,y0⟩:=hkc 0 qO;obtain⟨kb',ko',he',y1⟩:=hkc 1 qO;injection he' with he';injection he' with e1 e2;subst e1 e2;rw[(List.getElem?_eq_some_iff.1 hc0).2,Nat.add_zero] at y0;rw[(List.getElem?_eq_some_iff.1 hc1).2] at y1;have y0:=A6 hb1 y0;have y1:=A6 hb1 y1;have k0:(0:Int)<(kids.length:Int):=by omega
 have k1:(1:Int)<(kids.length:Int):=by omega
 have HL:=Ax (Jo op W1)
 have HIX:∀V,Calls Tryz.prog 31 #[.int .u8 op] V fun e w'=>e= .returned (.string ⟨(Cc op).toArray⟩)/\Below V.heap.size V w':=fun V=>by
  have:=Ld op V
  rwa [Qs hin] at this
 have hz:txZ l i=B5 l (Bg l i) kids 0 4++32::(Cc op++32::B5 l (Bg l i) kids 1 4):=by
  rw[htx];unfold Cr;simp only;rw[Ao (Uw hin 1 qP),Ao (Uw hin 2 qP),Ao (Uw hin 3 qP),Ao qO,Ao qO,Ap hop]
 rw[hop] at HL;clear hop;have HA0:∀V,Below w.heap.size w V->Calls Tryz.prog 95 #[.slice (some ⟨tr,off,none⟩) l.length tc,.int .i64 c0,.int .i64 4] V fun e w'=>e= .returned (.string ⟨(B5 l (Bg l i) kids 0 4).toArray⟩)/\Below V.heap.size V w':=fun V hV=>hA 0 4 c0 hc0 V hV
 have HA1:∀V,Below w.heap.size w V->Calls Tryz.prog 95 #[.slice (some ⟨tr,off,none⟩) l.length tc,.int .i64 c1,.int .i64 4] V fun e w'=>e= .returned (.string ⟨(B5 l (Bg l i) kids 1 4).toArray⟩)/\Below V.heap.size V w':=fun V hV=>hA 1 4 c1 hc1 V hV
 rw[hz] at hlen ⊢;obtain⟨K0,hK0⟩:∃K,B5 l (Bg l i) kids 0 4=K:=⟨_,rfl⟩;obtain⟨K1,hK1⟩:∃K,B5 l (Bg l i) kids 1 4=K:=⟨_,rfl⟩;exact zzz
theorem mY {l:List Nz}(hT:L3 l){v:Value}{w:World}(ht:TrZ w v l){i:Nat}(IH:Tr l i v w){x:Nz}(hx:l[i]? =some x)(hop:A4 x.h.op<8/\A4 x.h.op≠2/\A4 x.h.op≠6/\A4 x.h.op≠3):
 Calls Tryz.prog 64 #[v,.int .i64 (i:Int)] w fun e w'=>e= .returned (.string ⟨(txZ l i).toArray⟩)/\Below w.heap.size w w':=by
 have hA:=fun k least c hk V hV=>J9 hT ht IH hx k least (c:=c) hk V hV
 obtain⟨hil,_⟩:=List.getElem?_eq_some_iff.1 hx;obtain⟨hfits,hkids,hlen⟩:=hT.node i x hx;have hfit:=hT.fit x (List.mem_of_getElem? hx);have hlm:=ht.1;have htx:txZ l i=Cr x.h x.kids.length (B5 l (Bg l i) x.kids):=by unfold txZ;rw[hx]
 obtain⟨tr,off,tc,rfl⟩:=ht.some qO;obtain⟨kv,hn,hki⟩:=ht.get hx;obtain⟨hkl,ka,kc,rfl,hkc⟩:=hki;obtain⟨⟨op,⟨vk,vn,vs⟩,nm,ln,cl⟩,kids⟩:=x;obtain⟨x0,x1,x2,x3,x4,x5,x6,x7⟩:=hn;simp only at x0 x1 x2 x3 x4 x5 x6 x7 hkl hkc hfits hfit hA htx;have i0:(0:Int)<=(i:Int):=by omega
 have i1:(i:Int)<(l.length:Int):=by omega
 have hbx:=Bp x0;obtain⟨W1,hW1⟩:∃W1,w.alloc (.cells #[.int .u8 op,.int .u8 vk,.int .i64 vn,.string ⟨vs.toArray⟩,.string ⟨nm.toArray⟩,.slice ka kids.length kc,.int .i64 ln,.int .i64 cl] 43)=W1:=⟨_,rfl⟩;have hb1:Below w.heap.size w W1:=by rw[←hW1];exact(Aq _ w).alloc (Ak _) _
 have hp1:=Az w (.cells #[.int .u8 op,.int .u8 vk,.int .i64 vn,.string ⟨vs.toArray⟩,.string ⟨nm.toArray⟩,.slice ka kids.length kc,.int .i64 ln,.int .i64 cl] 43);rw[hW1] at hp1;obtain⟨n0,n1,n2,n3,n4,n5,n6,n7,_⟩:=A8 hp1;have HP1:=Ax hp1;have HB1:=Ax hb1;simp only at hop;obtain⟨g1,g2,g3,g4⟩:=of_decide_eq_true hfits;have hin:Er op:=Qy g1 g2 qO qO qO;have hk1:kids.length=2:=by rw[Rm hin] at g3 g4;simp only at g3 g4;omega
 have ne:∀k:Int,¬Er k->(op==k)=false:=fun k hk=>Af.2 (fun e=>hk (e▸hin))
 have e1:=ne 1 qP;have e2:=ne 2 qP;have e3:=ne 3 qP;have e6:=ne 6 qP;have e17:=ne 17 qP;clear ne g1 g2 g3 g4;obtain⟨c0,hc0⟩:∃c,kids[0]? =some c:=⟨_,Ag qO⟩;obtain⟨c1,hc1⟩:∃c,kids[1]? =some c:=⟨_,Ag qO⟩;obtain⟨kb,ko,rfl,y0⟩:=hkc 0 qO;obtain⟨kb',ko',he',y1⟩:=hkc 1 qO;injection he' with he';injection he' with e1 e2;subst e1 e2;rw[(List.getElem?_eq_some_iff.1 hc0).2,Nat.add_zero] at y0;rw[(List.getElem?_eq_some_iff.1 hc1).2] at y1;have y0:=A6 hb1 y0;have y1:=A6 hb1 y1;have k0:(0:Int)<(kids.length:Int):=by omega
 have k1:(1:Int)<(kids.length:Int):=by omega
 have HL:=Ax (Jo op W1)
 have HIX:∀V,Calls Tryz.prog 31 #[.int .u8 op] V fun e w'=>e= .returned (.string ⟨(Cc op).toArray⟩)/\Below V.heap.size V w':=fun V=>by
  have:=Ld op V
  rwa [Qs hin] at this
 have hz:txZ l i=B5 l (Bg l i) kids 0 (A4 op)++32::(Cc op++32::B5 l (Bg l i) kids 1 (A4 op+1)):=by
  rw[htx];unfold Cr;simp only;rw[Ao (Uw hin 1 qP),Ao (Uw hin 2 qP),Ao (Uw hin 3 qP),Ao qO,Ao qO,Ao qO]
 obtain⟨lv,hlv⟩:∃lv,A4 op=lv:=⟨_,rfl⟩;rw[hlv] at HL hz hop;have t3:((lv:Int)==3)=false:=Af.2 qO;have t3':(lv==3)=false:=Af.2 qO;have t8:decide ((lv:Int)<8)=true:=Am qO;have t8':decide (lv<8)=true:=Am qO;have hlv9:(lv:Int)<=8:=by omega
 have w1:IntKind.i64.wrap ((lv:Int)+1)=(lv:Int)+1:=IntWalk.i64_in _ qO;clear hop hlv;have HA0:∀V,Below w.heap.size w V->Calls Tryz.prog 95 #[.slice (some ⟨tr,off,none⟩) l.length tc,.int .i64 c0,.int .i64 lv] V fun e w'=>e= .returned (.string ⟨(B5 l (Bg l i) kids 0 lv).toArray⟩)/\Below V.heap.size V w':=fun V hV=>hA 0 lv c0 hc0 V hV
 have HA1:∀V,Below w.heap.size w V->Calls Tryz.prog 95 #[.slice (some ⟨tr,off,none⟩) l.length tc,.int .i64 c1,.int .i64 ((lv:Int)+1)] V fun e w'=>e= .returned (.string ⟨(B5 l (Bg l i) kids 1 (lv+1)).toArray⟩)/\Below V.heap.size V w':=fun V hV=>by have:=hA 1 (lv+1) c1 hc1 V hV;simpa using this
 rw[hz] at hlen ⊢;obtain⟨K0,hK0⟩:∃K,B5 l (Bg l i) kids 0 lv=K:=⟨_,rfl⟩;obtain⟨K1,hK1⟩:∃K,B5 l (Bg l i) kids 1 (lv+1)=K:=⟨_,rfl⟩;exact zzz
theorem S6 (sep x:List UInt8):∀(l:List (List UInt8)),l≠[]->Ei sep (l++[x])=Ei sep l++(sep++x)
 |[],h=>absurd rfl h
 |[y],_=>rfl
 |y::z::l,_=>by
  have ih:=S6 sep x (z::l) qQ;show y++(sep++Ei sep ((z::l)++[x]))=(y++(sep++Ei sep (z::l)))++(sep++x);rw[ih];simp only[List.append_assoc]
def jnT (F:Nat->List UInt8)(k:Nat):List UInt8:=Ei [44,32] ((List.range k).map F)
theorem cX (F:Nat->List UInt8){k:Nat}(h:0<k):jnT F (k+1)=jnT F k++([44,32]++F k):=by
 unfold jnT;rw[Gi,S6];intro e
 have:=Ar List.length e
 rw[List.length_map,List.length_range] at this;simp at this;omega
theorem lL (F:Nat->List UInt8){n:Nat}(hF:∀k,k<n->(F k).length<=65536):∀k,k<=n->(jnT F k).length<=k*65538
 |0,_=>Nat.zero_le _
 |k+1,h=>by
  have ih:=lL F hF k qO
  have:=hF k qO
  by_cases h0:0<k
  ·rw[cX F h0,Ab,Ab];show _+(2+_)<=_;omega
  obtain rfl:k=0:=by omega
  show(F 0).length<=_
  omega
theorem kE {l:List Nz}(hT:L3 l){v:Value}{w:World}(ht:TrZ w v l){i:Nat}(IH:Tr l i v w){x:Nz}(hx:l[i]? =some x)(hop:Cm x.h.op):
 Calls Tryz.prog 64 #[v,.int .i64 (i:Int)] w fun e w'=>e= .returned (.string ⟨(txZ l i).toArray⟩)/\Below w.heap.size w w':=by
 have hA:=fun k least c hk V hV=>J9 hT ht IH hx k least (c:=c) hk V hV
 obtain⟨hil,_⟩:=List.getElem?_eq_some_iff.1 hx;obtain⟨hfits,hkids,hlen⟩:=hT.node i x hx;have hfit:=hT.fit x (List.mem_of_getElem? hx);have hlm:=ht.1;have htx:txZ l i=Cr x.h x.kids.length (B5 l (Bg l i) x.kids):=by unfold txZ;rw[hx]
 obtain⟨tr,off,tc,rfl⟩:=ht.some qO;obtain⟨kv,hn,hki⟩:=ht.get hx;obtain⟨hkl,ka,kc,rfl,hkc⟩:=hki;obtain⟨⟨op,⟨vk,vn,vs⟩,nm,ln,cl⟩,kids⟩:=x;obtain⟨x0,x1,x2,x3,x4,x5,x6,x7⟩:=hn;simp only at x0 x1 x2 x3 x4 x5 x6 x7 hkl hkc hfits hfit hA htx;have i0:(0:Int)<=(i:Int):=by omega
 have i1:(i:Int)<(l.length:Int):=by omega
 have hbx:=Bp x0;obtain⟨W1,hW1⟩:∃W1,w.alloc (.cells #[.int .u8 op,.int .u8 vk,.int .i64 vn,.string ⟨vs.toArray⟩,.string ⟨nm.toArray⟩,.slice ka kids.length kc,.int .i64 ln,.int .i64 cl] 43)=W1:=⟨_,rfl⟩;have hb1:Below w.heap.size w W1:=by rw[←hW1];exact(Aq _ w).alloc (Ak _) _
 have hp1:=Az w (.cells #[.int .u8 op,.int .u8 vk,.int .i64 vn,.string ⟨vs.toArray⟩,.string ⟨nm.toArray⟩,.slice ka kids.length kc,.int .i64 ln,.int .i64 cl] 43);rw[hW1] at hp1;obtain⟨n0,n1,n2,n3,n4,n5,n6,n7,_⟩:=A8 hp1;have HP1:=Ax hp1;have HB1:=Ax hb1;simp only at hop;obtain⟨_,_,g3,g4⟩:=of_decide_eq_true hfits;have hk8:kids.length<=8:=Al g4 (Sm op);have ne:∀k:Int,¬Cm k->(op==k)=false:=fun k hk=>Af.2 (fun e=>hk (e▸hop))
 have e1:=ne 1 qP;have e2:=ne 2 qP;have e3:=ne 3 qP;have e6:=ne 6 qP;have e17:=ne 17 qP;have hlv:=Ew hop;have HL:=Ax (Jo op W1);rw[hlv] at HL;have HW:=Ax (fun V=>Re op hop V);obtain⟨F,hF⟩:∃F:Nat->List UInt8,F=fun k=>B5 l (Bg l i) kids k 0:=⟨_,rfl⟩
 have hz:txZ l i=Cc op++Kt (jnT F kids.length):=by
  rw[htx,hF];unfold Cr jnT;simp only;have nc:∀k:Int,¬Cm k->¬op=k:=fun k hk e=>hk (e▸hop)
  rw[Ao (nc 1 qP),Ao (nc 2 qP),Ao (nc 3 qP),Ap hlv]
 have hFl:∀k,k<kids.length->(F k).length<=65536/\∃c:Nat,kids[k]? =some (c:Int)/\c<i/\txZ l c=F k:=fun k hk=>by
  have hks:kids[k]? =some kids[k]:=Ag hk;obtain⟨q0,q1⟩:=hkids kids[k] (List.getElem_mem hk);obtain⟨c,hc⟩:∃c:Nat,kids[k]=(c:Int):=⟨kids[k].toNat,by omega⟩;rw[hc] at hks q1;have hcl:c<l.length:=by omega
  have hFk:txZ l c=F k:=by
   rw[hF];simp only;rw[bZ hks qO (Ag hcl),Ao (Nat.not_lt_zero _)]
  exact⟨hFk▸(hT.node c _ (Ag hcl)).2.2,c,hks,by omega,hFk⟩
 have hJl:=lL F (fun k hk=>(hFl k hk).1);rw[hz,bS];obtain⟨wd,hwd⟩:∃wd,Cc op=wd:=⟨_,rfl⟩;have hwl:=(Jd op).1;rw[hwd] at hwl;have HW:Hid (∀V,Calls Tryz.prog 97 #[.int .u8 op] V fun e w'=>e= .returned (.string ⟨wd.toArray⟩)/\Below V.heap.size V w'):=Ax (fun V=>by rw[←hwd];exact HW.out V);rw[hwd];have HI:=Ax IH;have HFl:=Ax hFl;have HJl:=Ax hJl;have Hkc:=Ax hkc;clear hz htx hlen hA hkc hF hFl hJl hwd hop ne g3 g4 hlv;clear ht IH hx hfits hkids hp1 hb1 hfit hT;have N0:=Ax n0;go_enter Tryz.func64,Tryz.ntmps64;go_wp2_with fail;refine HL.out.mono ?_;rintro e V2 ⟨rfl,hb2⟩;have n0:=A6 hb2 N0.out;have HB2:=Ax (HB1.out.trans (hb2.mono HB1.out.size));have HC2:=Ax hb2;have HW2:=Ax (HW.out V2);clear hb2 HL N0 n1 n2 n3 n4 n5 n6 n7 HW HB1;go_wp2_with fail;refine HW2.out.mono ?_;rintro e V3 ⟨rfl,hb3⟩;have HB3:=Ax (HB2.out.trans (hb3.mono HB2.out.size));have hp3:=(hb3.block _ (by have:=Ay HP1.out;have:=HC2.out.size;omega)).trans ((HC2.out.block _ (Ay HP1.out)).trans HP1.out);have HP3:=Ax hp3;clear hb3 HW2 HB2 HC2 n0 hp3 x0 x1 x2 x3 x4 x5 x6 x7;have hJ0:(⟨(wd++40::jnT F 0).toArray⟩:ByteArray)=⟨wd.toArray⟩++⟨#[40]⟩:=by rw[show(⟨#[40]⟩:ByteArray)=⟨[40].toArray⟩ from rfl,Kj];rfl
 have HJ0:=Ax hJ0;clear hJ0;go_wp2_with fail
 go_loopw [7,8] (fun v7 v8 wr=>∃k:Nat,k<=kids.length/\v8= .int .i64 k/\v7= .string ⟨(wd++40::jnT F k).toArray⟩/\Hid (Below w.heap.size w wr/\wr.heap[w.heap.size]? =some (.cells #[.int .u8 op,.int .u8 vk,.int .i64 vn,.string ⟨vs.toArray⟩,.string ⟨nm.toArray⟩,.slice ka kids.length kc,.int .i64 ln,.int .i64 cl] 43 (0,0)))) (fun _ v8 _=>kids.length - (intOf v8).toNat)
 case atStart=>exact⟨0,Nat.zero_le _,rfl,by rw[HJ0.out],Ax ⟨HB3.out,HP3.out⟩⟩
 obtain⟨k,hk,rfl,rfl,hq⟩:=hrel;obtain⟨hb,hp⟩:=hq.out;obtain⟨n0,n1,n2,n3,n4,n5,n6,n7,_⟩:=A8 hp;have HBk:=Ax hb;have HPk:=Ax hp;have hjl:=HJl.out k hk;obtain⟨S,hS⟩:∃S:ByteArray,(⟨(wd++40::jnT F k).toArray⟩:ByteArray)=S:=⟨_,rfl⟩;have hSs:S.size<=1000000:=by rw[←hS,←A5,Db];simp only[Ab,Aa];omega
 rw[hS];have HS:=Ax hS;clear hb hp hq hS n1 n2 n3 n4 n6 n7 n0 hjl;by_cases hkl:k<kids.length
 ·obtain⟨hfl,c,hkc1,hci,hcf⟩:=HFl.out k hkl;obtain⟨kb,ko,hka,hcell⟩:=Hkc.out k hkl;subst hka;rw[(List.getElem?_eq_some_iff.1 hkc1).2] at hcell;have hcell:=A6 HBk.out hcell;have HT:=HI.out c hci wr HBk.out;rw[hcf] at HT;obtain⟨B,hB⟩:∃B:ByteArray,(⟨(F k).toArray⟩:ByteArray)=B:=⟨_,rfl⟩;have hBs:B.size<=65536:=by rw[←hB];exact hfl
  rw[hB] at HT;have HT:=Ax HT;have j0:(0:Int)<=(k:Int):=by omega
  have j1:(k:Int)<(kids.length:Int):=by omega
  have j2:decide ((k:Int)<(kids.length:Int))=true:=Am j1;have HBB:=Ax hB;clear hkc1 hci hcf hB hfl;by_cases hk0:0<k
  ·have q0:decide ((0:Int)<(k:Int))=true:=Am qO;have q0':decide (0<k)=true:=Am hk0
   have hnx:(⟨(wd++40::jnT F (k+1)).toArray⟩:ByteArray)=S++⟨#[44,32]⟩++B:=by
    rw[cX F hk0,←HS.out,←HBB.out,show(⟨#[44,32]⟩:ByteArray)=⟨[44,32].toArray⟩ from rfl,Kj,Kj];simp only[List.append_assoc,List.cons_append]
   exact zy8
  have q0:decide ((0:Int)<(k:Int))=false:=An qO;have q0':decide (0<k)=false:=An hk0
  have hnx:(⟨(wd++40::jnT F (k+1)).toArray⟩:ByteArray)=S++B:=by
   obtain rfl:k=0:=by omega
   rw[←HS.out,←HBB.out,Kj];simp [jnT,Ei]
  exact zy8
 obtain rfl:k=kids.length:=by omega
 have j2:decide ((kids.length:Int)<(kids.length:Int))=false:=by simp
 have hfin:(⟨wd.toArray⟩:ByteArray)++⟨#[40]⟩++⟨(jnT F kids.length).toArray⟩++⟨#[41]⟩=S++⟨#[41]⟩:=by
  rw[←HS.out];apply Ck;simp only[D7,Db];show wd++[40]++jnT F kids.length++[41]=(wd++40::jnT F kids.length)++[41];simp
 have Hfin:=Ax hfin;clear hfin;go_wp2_with fail;go_ret;exact⟨by rw[Hfin.out];rfl,HBk.out⟩
theorem bY {l:List Nz}(hT:L3 l):∀(n i:Nat),i<n->i<l.length->∀(v:Value) (w:World),TrZ w v l->Calls Tryz.prog 64 #[v,.int .i64 (i:Int)] w fun e w'=>e= .returned (.string ⟨(txZ l i).toArray⟩)/\Below w.heap.size w w'
 |0,i,h,_,_,_,_=>absurd h (Nat.not_lt_zero _)
 |n+1,i,h,hil,v,w,ht=>by
  have IH:Tr l i v w:=fun j hj V hV=>bY hT n j qO qO v V (ht.below hV)
  have hx:l[i]? =some l[i]:=Ag hil;obtain⟨o1,o2,_,_⟩:=of_decide_eq_true (hT.node i _ hx).1;by_cases c1:l[i].h.op=1
  ·exact nT hT ht IH hx c1
  by_cases c2:l[i].h.op=2
  ·exact oN hT ht IH hx c2
  by_cases c3:l[i].h.op=3
  ·exact iM hT ht IH hx c3
  by_cases c6:l[i].h.op=6
  ·exact nU hT ht IH hx c6
  by_cases c17:l[i].h.op=17
  ·exact oM hT ht IH hx c17
  by_cases cc:Cm l[i].h.op
  ·exact kE hT ht IH hx cc
  have hin:Er l[i].h.op:=by unfold Cm at cc;unfold Er;omega
  obtain⟨g1,g2⟩:=Te hin;by_cases c:A4 l[i].h.op=3
  ·exact mS hT ht IH hx c
  exact mY hT ht IH hx ⟨by omega,g2,by omega,c⟩
end Go.Proofs.YtgfakdobajgnfaaGreatDoor
