import Derived.Test.YtgfakdobajgnfaaGreatDoorQt16
set_option maxRecDepth 100000
set_option maxHeartbeats 16000000
namespace Go.Proofs.YtgfakdobajgnfaaGreatDoor
open Go Go.RowKit Go.Lib Go.Sort Go.Shelf
def Cr (h:Hd)(n:Nat)(kid:Nat->Nat->List UInt8):List UInt8:=
 if h.op=1 then C5 h.v.1 h.v.2.1 h.v.2.2 else if h.op=2 then 63::h.name else if h.op=3 then[63]
 else if A4 h.op=8 then Cc h.op++Kt (Ei [44,32] ((List.range n).map fun k=>kid k 0))
 else if A4 h.op=2\/A4 h.op=6 then Cc h.op++kid 0 (A4 h.op)
 else if A4 h.op=3 then kid 0 4++32::(Cc h.op++32::kid 1 4)
 else kid 0 (A4 h.op)++32::(Cc h.op++32::kid 1 (A4 h.op+1))
def Jw (h:Hd):Prop:= -9223372036854775808<=h.v.2.1/\h.v.2.1<=9223372036854775807/\h.v.2.2.length<=1000000/\h.name.length<=1000000
theorem Me {l:List Nz}{ts:List (List UInt8)}(hs:∀t∈ts,t.length<=65536)(kids:List Int)(k least:Nat):(B5 l ts kids k least).length<=65538:=by
 unfold B5
 split
 ·simp
 split
 ·split
  ·rename_i x t h1 h2
   have:=hs t (List.mem_of_getElem? h2)
   split
   ·unfold Kt;simp only[Aa,Ab,List.length_nil];omega
   omega
  simp
 simp
theorem Jd (op:Int):(Cc op).length<=8/\A4 op<=8:=by
 by_cases h:4<=op/\op<=26
 ·obtain rfl|rfl|rfl|rfl|rfl|rfl|rfl|rfl|rfl|rfl|rfl|rfl|rfl|rfl|rfl|rfl|rfl|rfl|rfl|rfl|rfl|rfl|rfl:op=4\/op=5\/op=6\/op=7\/op=8\/op=9\/op=10\/op=11\/op=12\/op=13\/op=14\/op=15\/op=16\/op=17\/op=18\/op=19\/op=20\/op=21\/op=22\/op=23\/op=24\/op=25\/op=26:=by omega
  all_goals decide
 have:K2 op=([],8):=by
  unfold K2
  repeat rw[Ao qO]
 unfold Cc A4;rw[this];decide
theorem Wo (a b c:List UInt8):(⟨(a++32::(b++32::c)).toArray⟩:ByteArray)=⟨a.toArray⟩++⟨#[32]⟩++⟨b.toArray⟩++⟨#[32]⟩++⟨c.toArray⟩:=by
 apply ByteArray.ext;simp
theorem aU (sep:List UInt8):∀l:List (List UInt8),Lib.join l sep=Ei sep l
 |[]=>rfl
 |[x]=>by rw[Lib.join_one];rfl
 |x::y::r=>by
  show Lib.join (x::y::r) sep=x++(sep++Ei sep (y::r));rw[←aU sep (y::r)];simp [Lib.join,List.intercalate]
theorem T5:∀(l:List (List UInt8)),(∀t∈l,t.length<=65538)->(Ei [44,32] l).length<=l.length*65540
 |[],_=>by simp [Ei]
 |[x],h=>by
  have:=h x Ai
  show x.length<=_;simp only[Aa,List.length_nil];omega
 |x::y::r,h=>by
  have h1:=h x Ai;have h2:=T5 (y::r) fun t ht=>h t (Aj _ ht)
  show(x++([44,32]++Ei [44,32] (y::r))).length<=_
  simp only[Ab,Aa,List.length_nil] at h2 ⊢;omega
theorem iQ {w:World}{b tb:Nat}{tv:Value}{l:List Nz}{ts:List (List UInt8)}{x:Nz}(h:Oz w b tv tb l ts)(hx:l[ts.length]? =some x)(hR:Rd w)(hf:Jw x.h)(hop:x.h.op=1):
 Calls Tryz.prog 92 #[.pointer (some ⟨b,0,none⟩),.int .i64 (ts.length:Int)] w fun e w'=>e= .returned (.string ⟨(Cr x.h x.kids.length (B5 l ts x.kids)).toArray⟩)/\Below w.heap.size w w':=by
 obtain⟨hi,_⟩:=List.getElem?_eq_some_iff.1 hx;obtain⟨tr,off,tc,rfl⟩:=h.tree.some qO;obtain⟨kv,hn,hki⟩:=h.tree.get hx;obtain⟨hkl,ka,kc,rfl,_⟩:=hki;obtain⟨⟨op,⟨vk,vn,vs⟩,nm,ln,cl⟩,kids⟩:=x;obtain⟨x0,x1,x2,x3,x4,x5,x6,x7⟩:=hn;simp only at x0 x1 x2 x3 x4 x5 x6 x7 hkl hop;have c0:=h.c0;have hlm:=h.tree.1;have hop0:0<=op:=h.ops _ (List.mem_of_getElem? hx);have i0:(0:Int)<=(ts.length:Int):=by omega
 have i1:(ts.length:Int)<(l.length:Int):=by omega
 have hbx:=Bp x0;obtain⟨W1,hW1⟩:∃W1,(w.alloc (.cells #[.int .u8 op,.int .u8 vk,.int .i64 vn,.string ⟨vs.toArray⟩,.string ⟨nm.toArray⟩,.slice ka kids.length kc,.int .i64 ln,.int .i64 cl] 43)).drew=W1:=⟨_,rfl⟩;have hp1:(w.alloc (.cells #[.int .u8 op,.int .u8 vk,.int .i64 vn,.string ⟨vs.toArray⟩,.string ⟨nm.toArray⟩,.slice ka kids.length kc,.int .i64 ln,.int .i64 cl] 43)).drew.heap[w.heap.size]? =some (.cells #[.int .u8 op,.int .u8 vk,.int .i64 vn,.string ⟨vs.toArray⟩,.string ⟨nm.toArray⟩,.slice ka kids.length kc,.int .i64 ln,.int .i64 cl] 43 (0,0)):=Az w (.cells #[.int .u8 op,.int .u8 vk,.int .i64 vn,.string ⟨vs.toArray⟩,.string ⟨nm.toArray⟩,.slice ka kids.length kc,.int .i64 ln,.int .i64 cl] 43);have hb1:Below w.heap.size w W1:=by rw[←hW1];exact((Aq _ w).alloc (Ak _) _).drew
 rw[hW1] at hp1;obtain⟨n0,_,_,_,_,_,_,_,_⟩:=A8 hp1;have ho:=fun V=>Ax (Ke op hop0 V)
 unfold Fh at ho;have hf0:=fun u v V=>Ed u v V
 have hf1:=fun u v V=>Dz u v V
 obtain⟨f1,f2,f3,f4⟩:=hf;simp only at f1 f2 f3 f4;subst hop;have hz:Cr ⟨1,(vk,vn,vs),nm,ln,cl⟩ kids.length (B5 l ts kids)=C5 vk vn vs:=by unfold Cr;rw[Ap rfl]
 rw[hz];have HT:=fun V (hV:Below w.heap.size w V)=>Ax (Ti ⟨vk,vn,⟨vs.toArray⟩⟩ V ⟨by show vs.toArray.size<=_;simp;omega,f1,f2⟩ (hR.below hV))
 have HP1:=Ax hp1;have HB1:=Ax hb1;clear h hx hR hp1 hb1 hz;go_enter Tryz.func92,Tryz.ntmps92;go_wp2_with fail
 go_region_held3 (fun V=>V.cell? ⟨w.heap.size,0,none⟩=some (.int .u8 1)) (go_keep)
  (first
   |(go_at_call 62;(with_reducible refine(ho _).out.mono ?_);rintro e V2 ⟨rfl,hb2⟩;have hc2:=A6 hb2 n0;have hB2:=Ax hb2;clear hb2)
   |(go_at_call 62;(with_reducible refine(ho _).out.mono ?_);rintro e V3 ⟨rfl,hb3⟩;have hc3:=A6 hb3 hc2;have HB3:=Ax (hB2.out.trans (hb3.mono hB2.out.size));clear hb3))
 obtain⟨m0,m1,m2,m3,m4,m5,m6,m7,_⟩:=A8 ((HB3.out.block _ (Ay HP1.out)).trans HP1.out);have HV3:=HB1.out.trans (HB3.out.mono HB1.out.size);have HT3:=HT _ HV3;have HBV:=Ax HV3;clear HT HB1 hB2 HV3;go_wp2_with fail;refine HT3.out.mono ?_;rintro e V4 ⟨rfl,hb4⟩;have HB4:=Ax (HBV.out.trans (hb4.mono HBV.out.size));clear hb4 HT3;go_wp2_with fail;go_ret;exact⟨rfl,HB4.out⟩
theorem gU {w:World}{b tb:Nat}{tv:Value}{l:List Nz}{ts:List (List UInt8)}{x:Nz}(h:Oz w b tv tb l ts)(hx:l[ts.length]? =some x)(hf:Jw x.h)(hop:x.h.op=2):
 Calls Tryz.prog 92 #[.pointer (some ⟨b,0,none⟩),.int .i64 (ts.length:Int)] w fun e w'=>e= .returned (.string ⟨(Cr x.h x.kids.length (B5 l ts x.kids)).toArray⟩)/\Below w.heap.size w w':=by
 obtain⟨hi,_⟩:=List.getElem?_eq_some_iff.1 hx;obtain⟨tr,off,tc,rfl⟩:=h.tree.some qO;obtain⟨kv,hn,hki⟩:=h.tree.get hx;obtain⟨hkl,ka,kc,rfl,_⟩:=hki;obtain⟨⟨op,⟨vk,vn,vs⟩,nm,ln,cl⟩,kids⟩:=x;obtain⟨x0,x1,x2,x3,x4,x5,x6,x7⟩:=hn;simp only at x0 x1 x2 x3 x4 x5 x6 x7 hkl hop;have c0:=h.c0;have hlm:=h.tree.1;have hop0:0<=op:=h.ops _ (List.mem_of_getElem? hx);have i0:(0:Int)<=(ts.length:Int):=by omega
 have i1:(ts.length:Int)<(l.length:Int):=by omega
 have hbx:=Bp x0;obtain⟨W1,hW1⟩:∃W1,(w.alloc (.cells #[.int .u8 op,.int .u8 vk,.int .i64 vn,.string ⟨vs.toArray⟩,.string ⟨nm.toArray⟩,.slice ka kids.length kc,.int .i64 ln,.int .i64 cl] 43)).drew=W1:=⟨_,rfl⟩;have hp1:(w.alloc (.cells #[.int .u8 op,.int .u8 vk,.int .i64 vn,.string ⟨vs.toArray⟩,.string ⟨nm.toArray⟩,.slice ka kids.length kc,.int .i64 ln,.int .i64 cl] 43)).drew.heap[w.heap.size]? =some (.cells #[.int .u8 op,.int .u8 vk,.int .i64 vn,.string ⟨vs.toArray⟩,.string ⟨nm.toArray⟩,.slice ka kids.length kc,.int .i64 ln,.int .i64 cl] 43 (0,0)):=Az w (.cells #[.int .u8 op,.int .u8 vk,.int .i64 vn,.string ⟨vs.toArray⟩,.string ⟨nm.toArray⟩,.slice ka kids.length kc,.int .i64 ln,.int .i64 cl] 43);have hb1:Below w.heap.size w W1:=by rw[←hW1];exact((Aq _ w).alloc (Ak _) _).drew
 rw[hW1] at hp1;obtain⟨n0,_,_,_,_,_,_,_,_⟩:=A8 hp1;have ho:=fun V=>Ax (Ke op hop0 V)
 unfold Fh at ho;have hf0:=fun u v V=>Ed u v V
 have hf1:=fun u v V=>Dz u v V
 obtain⟨_,_,_,f4⟩:=hf;simp only at f4;subst hop;have hz:Cr ⟨2,(vk,vn,vs),nm,ln,cl⟩ kids.length (B5 l ts kids)=63::nm:=by unfold Cr;rw[Ao (by show ¬(2:Int)=1;decide),Ap rfl]
 rw[hz,show(⟨(63::nm).toArray⟩:ByteArray)=⟨#[63]⟩++⟨nm.toArray⟩ from(Kj [63] nm).symm];have HP1:=Ax hp1;have HB1:=Ax hb1;clear h hx hp1 hb1 hz;go_enter Tryz.func92,Tryz.ntmps92;go_wp2_with fail
 go_region_held3 (fun V=>V.cell? ⟨w.heap.size,0,none⟩=some (.int .u8 2)) (go_keep)
  (first
   |(go_at_call 62;(with_reducible refine(ho _).out.mono ?_);rintro e V2 ⟨rfl,hb2⟩;have hc2:=A6 hb2 n0;have hB2:=Ax hb2;clear hb2)
   |(go_at_call 62;(with_reducible refine(ho _).out.mono ?_);rintro e V3 ⟨rfl,hb3⟩;have hc3:=A6 hb3 hc2;have HB3:=Ax (hB2.out.trans (hb3.mono hB2.out.size));clear hb3))
 exact zxr
theorem dP {w:World}{b tb:Nat}{tv:Value}{l:List Nz}{ts:List (List UInt8)}{x:Nz}(h:Oz w b tv tb l ts)(hx:l[ts.length]? =some x)(hop:x.h.op=3):
 Calls Tryz.prog 92 #[.pointer (some ⟨b,0,none⟩),.int .i64 (ts.length:Int)] w fun e w'=>e= .returned (.string ⟨(Cr x.h x.kids.length (B5 l ts x.kids)).toArray⟩)/\Below w.heap.size w w':=by
 obtain⟨hi,_⟩:=List.getElem?_eq_some_iff.1 hx;obtain⟨tr,off,tc,rfl⟩:=h.tree.some qO;obtain⟨kv,hn,hki⟩:=h.tree.get hx;obtain⟨hkl,ka,kc,rfl,_⟩:=hki;obtain⟨⟨op,⟨vk,vn,vs⟩,nm,ln,cl⟩,kids⟩:=x;obtain⟨x0,x1,x2,x3,x4,x5,x6,x7⟩:=hn;simp only at x0 x1 x2 x3 x4 x5 x6 x7 hkl hop;have c0:=h.c0;have hlm:=h.tree.1;have hop0:0<=op:=h.ops _ (List.mem_of_getElem? hx);have i0:(0:Int)<=(ts.length:Int):=by omega
 have i1:(ts.length:Int)<(l.length:Int):=by omega
 have hbx:=Bp x0;obtain⟨W1,hW1⟩:∃W1,(w.alloc (.cells #[.int .u8 op,.int .u8 vk,.int .i64 vn,.string ⟨vs.toArray⟩,.string ⟨nm.toArray⟩,.slice ka kids.length kc,.int .i64 ln,.int .i64 cl] 43)).drew=W1:=⟨_,rfl⟩;have hp1:(w.alloc (.cells #[.int .u8 op,.int .u8 vk,.int .i64 vn,.string ⟨vs.toArray⟩,.string ⟨nm.toArray⟩,.slice ka kids.length kc,.int .i64 ln,.int .i64 cl] 43)).drew.heap[w.heap.size]? =some (.cells #[.int .u8 op,.int .u8 vk,.int .i64 vn,.string ⟨vs.toArray⟩,.string ⟨nm.toArray⟩,.slice ka kids.length kc,.int .i64 ln,.int .i64 cl] 43 (0,0)):=Az w (.cells #[.int .u8 op,.int .u8 vk,.int .i64 vn,.string ⟨vs.toArray⟩,.string ⟨nm.toArray⟩,.slice ka kids.length kc,.int .i64 ln,.int .i64 cl] 43);have hb1:Below w.heap.size w W1:=by rw[←hW1];exact((Aq _ w).alloc (Ak _) _).drew
 rw[hW1] at hp1;obtain⟨n0,_,_,_,_,_,_,_,_⟩:=A8 hp1;have ho:=fun V=>Ax (Ke op hop0 V)
 unfold Fh at ho;have hf0:=fun u v V=>Ed u v V
 have hf1:=fun u v V=>Dz u v V
 subst hop;have hz:Cr ⟨3,(vk,vn,vs),nm,ln,cl⟩ kids.length (B5 l ts kids)=[63]:=by unfold Cr;rw[Ao (by show ¬(3:Int)=1;decide),Ao (by show ¬(3:Int)=2;decide),Ap rfl]
 rw[hz];have HP1:=Ax hp1;have HB1:=Ax hb1;clear h hx hp1 hb1 hz;go_enter Tryz.func92,Tryz.ntmps92;go_wp2_with fail
 go_region_held3 (fun V=>V.cell? ⟨w.heap.size,0,none⟩=some (.int .u8 3)) (go_keep)
  (first
   |(go_at_call 62;(with_reducible refine(ho _).out.mono ?_);rintro e V2 ⟨rfl,hb2⟩;have hc2:=A6 hb2 n0;have hB2:=Ax hb2;clear hb2)
   |(go_at_call 62;(with_reducible refine(ho _).out.mono ?_);rintro e V3 ⟨rfl,hb3⟩;have hc3:=A6 hb3 hc2;have HB3:=Ax (hB2.out.trans (hb3.mono hB2.out.size));clear hb3))
 exact zxr
theorem eB {w:World}{b tb:Nat}{tv:Value}{l:List Nz}{ts:List (List UInt8)}{x:Nz}(h:Oz w b tv tb l ts)(hx:l[ts.length]? =some x)(ho1:x.h.op≠1)(ho2:x.h.op≠2)(ho3:x.h.op≠3)(hLV:A4 x.h.op=2):
 Calls Tryz.prog 92 #[.pointer (some ⟨b,0,none⟩),.int .i64 (ts.length:Int)] w fun e w'=>e= .returned (.string ⟨(Cr x.h x.kids.length (B5 l ts x.kids)).toArray⟩)/\Below w.heap.size w w':=by
 obtain⟨hi,_⟩:=List.getElem?_eq_some_iff.1 hx;obtain⟨tr,off,tc,rfl⟩:=h.tree.some qO;obtain⟨kv,hn,hki⟩:=h.tree.get hx;obtain⟨hkl,ka,kc,rfl,_⟩:=hki;obtain⟨⟨op,⟨vk,vn,vs⟩,nm,ln,cl⟩,kids⟩:=x;obtain⟨x0,x1,x2,x3,x4,x5,x6,x7⟩:=hn;simp only at x0 x1 x2 x3 x4 x5 x6 x7 hkl ho1 ho2 ho3 hLV;have c0:=h.c0;have hlm:=h.tree.1;have hop0:0<=op:=h.ops _ (List.mem_of_getElem? hx);have i0:(0:Int)<=(ts.length:Int):=by omega
 have i1:(ts.length:Int)<(l.length:Int):=by omega
 have hbx:=Bp x0;obtain⟨W1,hW1⟩:∃W1,(w.alloc (.cells #[.int .u8 op,.int .u8 vk,.int .i64 vn,.string ⟨vs.toArray⟩,.string ⟨nm.toArray⟩,.slice ka kids.length kc,.int .i64 ln,.int .i64 cl] 43)).drew=W1:=⟨_,rfl⟩;have hp1:(w.alloc (.cells #[.int .u8 op,.int .u8 vk,.int .i64 vn,.string ⟨vs.toArray⟩,.string ⟨nm.toArray⟩,.slice ka kids.length kc,.int .i64 ln,.int .i64 cl] 43)).drew.heap[w.heap.size]? =some (.cells #[.int .u8 op,.int .u8 vk,.int .i64 vn,.string ⟨vs.toArray⟩,.string ⟨nm.toArray⟩,.slice ka kids.length kc,.int .i64 ln,.int .i64 cl] 43 (0,0)):=Az w (.cells #[.int .u8 op,.int .u8 vk,.int .i64 vn,.string ⟨vs.toArray⟩,.string ⟨nm.toArray⟩,.slice ka kids.length kc,.int .i64 ln,.int .i64 cl] 43);have hb1:Below w.heap.size w W1:=by rw[←hW1];exact((Aq _ w).alloc (Ak _) _).drew
 rw[hW1] at hp1;obtain⟨n0,_,_,_,_,_,_,_,_⟩:=A8 hp1;have ho:=fun V=>Ax (Ke op hop0 V)
 unfold Fh at ho;have hf0:=fun u v V=>Ed u v V
 have hf1:=fun u v V=>Dz u v V
 have o1:(op==1)=false:=by simpa using ho1
 have o2:(op==2)=false:=by simpa using ho2
 have o3:(op==3)=false:=by simpa using ho3
 obtain⟨hwl,hll⟩:=Jd op;obtain⟨lv,hlv⟩:∃lv,A4 op=lv:=⟨_,rfl⟩;obtain⟨wd,hwd⟩:∃wd,Cc op=wd:=⟨_,rfl⟩;have hK:=fun k least V (hV:Below w.heap.size w V) (hk:k<=1000000)=>Ax (Pk (h.below hV) hx k least hk)
 simp only at hK;have hKL:=fun k least=>Me (l:=l) h.short kids k least
 simp only[hlv,hwd] at ho hwl hll hLV
 have hz:Cr ⟨op,(vk,vn,vs),nm,ln,cl⟩ kids.length (B5 l ts kids)=wd++B5 l ts kids 0 lv:=by
  unfold Cr;simp only[hlv,hwd];rw[Ao ho1,Ao ho2,Ao ho3,Ao qO,Ap qO]
 rw[hz];subst hLV;have HK0:∀V,Below w.heap.size w V->Hid (Calls Tryz.prog 168 #[.pointer (some ⟨b,0,none⟩),.int .i64 (ts.length:Int),.int .i64 0,.int .i64 2] V fun e w'=>e= .returned (.string ⟨(B5 l ts kids 0 (2)).toArray⟩)/\Below V.heap.size V w'):=fun V hV=>hK 0 (2) V hV qP
 have hl0:=hKL 0 (2);obtain⟨K0,hK0⟩:∃K',B5 l ts kids 0 (2)=K':=⟨_,rfl⟩;exact zzi
theorem eV {w:World}{b tb:Nat}{tv:Value}{l:List Nz}{ts:List (List UInt8)}{x:Nz}(h:Oz w b tv tb l ts)(hx:l[ts.length]? =some x)(ho1:x.h.op≠1)(ho2:x.h.op≠2)(ho3:x.h.op≠3)(hLV:A4 x.h.op=6):
 Calls Tryz.prog 92 #[.pointer (some ⟨b,0,none⟩),.int .i64 (ts.length:Int)] w fun e w'=>e= .returned (.string ⟨(Cr x.h x.kids.length (B5 l ts x.kids)).toArray⟩)/\Below w.heap.size w w':=by
 obtain⟨hi,_⟩:=List.getElem?_eq_some_iff.1 hx;obtain⟨tr,off,tc,rfl⟩:=h.tree.some qO;obtain⟨kv,hn,hki⟩:=h.tree.get hx;obtain⟨hkl,ka,kc,rfl,_⟩:=hki;obtain⟨⟨op,⟨vk,vn,vs⟩,nm,ln,cl⟩,kids⟩:=x;obtain⟨x0,x1,x2,x3,x4,x5,x6,x7⟩:=hn;simp only at x0 x1 x2 x3 x4 x5 x6 x7 hkl ho1 ho2 ho3 hLV;have c0:=h.c0;have hlm:=h.tree.1;have hop0:0<=op:=h.ops _ (List.mem_of_getElem? hx);have i0:(0:Int)<=(ts.length:Int):=by omega
 have i1:(ts.length:Int)<(l.length:Int):=by omega
 have hbx:=Bp x0;obtain⟨W1,hW1⟩:∃W1,(w.alloc (.cells #[.int .u8 op,.int .u8 vk,.int .i64 vn,.string ⟨vs.toArray⟩,.string ⟨nm.toArray⟩,.slice ka kids.length kc,.int .i64 ln,.int .i64 cl] 43)).drew=W1:=⟨_,rfl⟩;have hp1:(w.alloc (.cells #[.int .u8 op,.int .u8 vk,.int .i64 vn,.string ⟨vs.toArray⟩,.string ⟨nm.toArray⟩,.slice ka kids.length kc,.int .i64 ln,.int .i64 cl] 43)).drew.heap[w.heap.size]? =some (.cells #[.int .u8 op,.int .u8 vk,.int .i64 vn,.string ⟨vs.toArray⟩,.string ⟨nm.toArray⟩,.slice ka kids.length kc,.int .i64 ln,.int .i64 cl] 43 (0,0)):=Az w (.cells #[.int .u8 op,.int .u8 vk,.int .i64 vn,.string ⟨vs.toArray⟩,.string ⟨nm.toArray⟩,.slice ka kids.length kc,.int .i64 ln,.int .i64 cl] 43);have hb1:Below w.heap.size w W1:=by rw[←hW1];exact((Aq _ w).alloc (Ak _) _).drew
 rw[hW1] at hp1;obtain⟨n0,_,_,_,_,_,_,_,_⟩:=A8 hp1;have ho:=fun V=>Ax (Ke op hop0 V)
 unfold Fh at ho;have hf0:=fun u v V=>Ed u v V
 have hf1:=fun u v V=>Dz u v V
 have o1:(op==1)=false:=by simpa using ho1
 have o2:(op==2)=false:=by simpa using ho2
 have o3:(op==3)=false:=by simpa using ho3
 obtain⟨hwl,hll⟩:=Jd op;obtain⟨lv,hlv⟩:∃lv,A4 op=lv:=⟨_,rfl⟩;obtain⟨wd,hwd⟩:∃wd,Cc op=wd:=⟨_,rfl⟩;have hK:=fun k least V (hV:Below w.heap.size w V) (hk:k<=1000000)=>Ax (Pk (h.below hV) hx k least hk)
 simp only at hK;have hKL:=fun k least=>Me (l:=l) h.short kids k least
 simp only[hlv,hwd] at ho hwl hll hLV
 have hz:Cr ⟨op,(vk,vn,vs),nm,ln,cl⟩ kids.length (B5 l ts kids)=wd++B5 l ts kids 0 lv:=by
  unfold Cr;simp only[hlv,hwd];rw[Ao ho1,Ao ho2,Ao ho3,Ao qO,Ap qO]
 rw[hz];subst hLV;have HK0:∀V,Below w.heap.size w V->Hid (Calls Tryz.prog 168 #[.pointer (some ⟨b,0,none⟩),.int .i64 (ts.length:Int),.int .i64 0,.int .i64 6] V fun e w'=>e= .returned (.string ⟨(B5 l ts kids 0 (6)).toArray⟩)/\Below V.heap.size V w'):=fun V hV=>hK 0 (6) V hV qP
 have hl0:=hKL 0 (6);obtain⟨K0,hK0⟩:∃K',B5 l ts kids 0 (6)=K':=⟨_,rfl⟩;exact zzi
theorem iF {w:World}{b tb:Nat}{tv:Value}{l:List Nz}{ts:List (List UInt8)}{x:Nz}(h:Oz w b tv tb l ts)(hx:l[ts.length]? =some x)(ho1:x.h.op≠1)(ho2:x.h.op≠2)(ho3:x.h.op≠3)(hLV:A4 x.h.op=3):
 Calls Tryz.prog 92 #[.pointer (some ⟨b,0,none⟩),.int .i64 (ts.length:Int)] w fun e w'=>e= .returned (.string ⟨(Cr x.h x.kids.length (B5 l ts x.kids)).toArray⟩)/\Below w.heap.size w w':=by
 obtain⟨hi,_⟩:=List.getElem?_eq_some_iff.1 hx;obtain⟨tr,off,tc,rfl⟩:=h.tree.some qO;obtain⟨kv,hn,hki⟩:=h.tree.get hx;obtain⟨hkl,ka,kc,rfl,_⟩:=hki;obtain⟨⟨op,⟨vk,vn,vs⟩,nm,ln,cl⟩,kids⟩:=x;obtain⟨x0,x1,x2,x3,x4,x5,x6,x7⟩:=hn;simp only at x0 x1 x2 x3 x4 x5 x6 x7 hkl ho1 ho2 ho3 hLV;have c0:=h.c0;have hlm:=h.tree.1;have hop0:0<=op:=h.ops _ (List.mem_of_getElem? hx);have i0:(0:Int)<=(ts.length:Int):=by omega
 have i1:(ts.length:Int)<(l.length:Int):=by omega
 have hbx:=Bp x0;obtain⟨W1,hW1⟩:∃W1,(w.alloc (.cells #[.int .u8 op,.int .u8 vk,.int .i64 vn,.string ⟨vs.toArray⟩,.string ⟨nm.toArray⟩,.slice ka kids.length kc,.int .i64 ln,.int .i64 cl] 43)).drew=W1:=⟨_,rfl⟩;have hp1:(w.alloc (.cells #[.int .u8 op,.int .u8 vk,.int .i64 vn,.string ⟨vs.toArray⟩,.string ⟨nm.toArray⟩,.slice ka kids.length kc,.int .i64 ln,.int .i64 cl] 43)).drew.heap[w.heap.size]? =some (.cells #[.int .u8 op,.int .u8 vk,.int .i64 vn,.string ⟨vs.toArray⟩,.string ⟨nm.toArray⟩,.slice ka kids.length kc,.int .i64 ln,.int .i64 cl] 43 (0,0)):=Az w (.cells #[.int .u8 op,.int .u8 vk,.int .i64 vn,.string ⟨vs.toArray⟩,.string ⟨nm.toArray⟩,.slice ka kids.length kc,.int .i64 ln,.int .i64 cl] 43);have hb1:Below w.heap.size w W1:=by rw[←hW1];exact((Aq _ w).alloc (Ak _) _).drew
 rw[hW1] at hp1;obtain⟨n0,_,_,_,_,_,_,_,_⟩:=A8 hp1;have ho:=fun V=>Ax (Ke op hop0 V)
 unfold Fh at ho;have hf0:=fun u v V=>Ed u v V
 have hf1:=fun u v V=>Dz u v V
 have o1:(op==1)=false:=by simpa using ho1
 have o2:(op==2)=false:=by simpa using ho2
 have o3:(op==3)=false:=by simpa using ho3
 obtain⟨hwl,hll⟩:=Jd op;obtain⟨lv,hlv⟩:∃lv,A4 op=lv:=⟨_,rfl⟩;obtain⟨wd,hwd⟩:∃wd,Cc op=wd:=⟨_,rfl⟩;have hK:=fun k least V (hV:Below w.heap.size w V) (hk:k<=1000000)=>Ax (Pk (h.below hV) hx k least hk)
 simp only at hK;have hKL:=fun k least=>Me (l:=l) h.short kids k least
 simp only[hlv,hwd] at ho hwl hll hLV
 have hz:Cr ⟨op,(vk,vn,vs),nm,ln,cl⟩ kids.length (B5 l ts kids)=B5 l ts kids 0 4++32::(wd++32::B5 l ts kids 1 4):=by
  unfold Cr;simp only[hlv,hwd];rw[Ao ho1,Ao ho2,Ao ho3,Ao qO,Ao qO,Ap qO]
 rw[hz];subst hLV;have HK0:∀V,Below w.heap.size w V->Hid (Calls Tryz.prog 168 #[.pointer (some ⟨b,0,none⟩),.int .i64 (ts.length:Int),.int .i64 0,.int .i64 4] V fun e w'=>e= .returned (.string ⟨(B5 l ts kids 0 (4)).toArray⟩)/\Below V.heap.size V w'):=fun V hV=>hK 0 (4) V hV qP
 have hl0:=hKL 0 (4);obtain⟨K0,hK0⟩:∃K',B5 l ts kids 0 (4)=K':=⟨_,rfl⟩;rw[hK0] at hl0 ⊢;simp only[hK0] at HK0;have HK1:∀V,Below w.heap.size w V->Hid (Calls Tryz.prog 168 #[.pointer (some ⟨b,0,none⟩),.int .i64 (ts.length:Int),.int .i64 1,.int .i64 4] V fun e w'=>e= .returned (.string ⟨(B5 l ts kids 1 (4)).toArray⟩)/\Below V.heap.size V w'):=fun V hV=>hK 1 (4) V hV qP
 have hl1:=hKL 1 (4);obtain⟨K1,hK1⟩:∃K',B5 l ts kids 1 (4)=K':=⟨_,rfl⟩;rw[hK1] at hl1 ⊢;simp only[hK1] at HK1;rw[Wo];have HP1:=Ax hp1;have HB1:=Ax hb1;have Hlv:=Ax hlv;have Hwd:=Ax hwd;clear h hx hp1 hb1 hz hK hKL hlv hwd hK0 hK1 ho1 ho2 ho3;exact zzg
theorem jA {w:World}{b tb:Nat}{tv:Value}{l:List Nz}{ts:List (List UInt8)}{x:Nz}(h:Oz w b tv tb l ts)(hx:l[ts.length]? =some x)(ho1:x.h.op≠1)(ho2:x.h.op≠2)(ho3:x.h.op≠3)(hLV:A4 x.h.op≠8/\A4 x.h.op≠2/\A4 x.h.op≠6/\A4 x.h.op≠3):
 Calls Tryz.prog 92 #[.pointer (some ⟨b,0,none⟩),.int .i64 (ts.length:Int)] w fun e w'=>e= .returned (.string ⟨(Cr x.h x.kids.length (B5 l ts x.kids)).toArray⟩)/\Below w.heap.size w w':=by
 obtain⟨hi,_⟩:=List.getElem?_eq_some_iff.1 hx;obtain⟨tr,off,tc,rfl⟩:=h.tree.some qO;obtain⟨kv,hn,hki⟩:=h.tree.get hx;obtain⟨hkl,ka,kc,rfl,_⟩:=hki;obtain⟨⟨op,⟨vk,vn,vs⟩,nm,ln,cl⟩,kids⟩:=x;obtain⟨x0,x1,x2,x3,x4,x5,x6,x7⟩:=hn;simp only at x0 x1 x2 x3 x4 x5 x6 x7 hkl ho1 ho2 ho3 hLV;have c0:=h.c0;have hlm:=h.tree.1;have hop0:0<=op:=h.ops _ (List.mem_of_getElem? hx);have i0:(0:Int)<=(ts.length:Int):=by omega
 have i1:(ts.length:Int)<(l.length:Int):=by omega
 have hbx:=Bp x0;obtain⟨W1,hW1⟩:∃W1,(w.alloc (.cells #[.int .u8 op,.int .u8 vk,.int .i64 vn,.string ⟨vs.toArray⟩,.string ⟨nm.toArray⟩,.slice ka kids.length kc,.int .i64 ln,.int .i64 cl] 43)).drew=W1:=⟨_,rfl⟩;have hp1:(w.alloc (.cells #[.int .u8 op,.int .u8 vk,.int .i64 vn,.string ⟨vs.toArray⟩,.string ⟨nm.toArray⟩,.slice ka kids.length kc,.int .i64 ln,.int .i64 cl] 43)).drew.heap[w.heap.size]? =some (.cells #[.int .u8 op,.int .u8 vk,.int .i64 vn,.string ⟨vs.toArray⟩,.string ⟨nm.toArray⟩,.slice ka kids.length kc,.int .i64 ln,.int .i64 cl] 43 (0,0)):=Az w (.cells #[.int .u8 op,.int .u8 vk,.int .i64 vn,.string ⟨vs.toArray⟩,.string ⟨nm.toArray⟩,.slice ka kids.length kc,.int .i64 ln,.int .i64 cl] 43);have hb1:Below w.heap.size w W1:=by rw[←hW1];exact((Aq _ w).alloc (Ak _) _).drew
 rw[hW1] at hp1;obtain⟨n0,_,_,_,_,_,_,_,_⟩:=A8 hp1;have ho:=fun V=>Ax (Ke op hop0 V)
 unfold Fh at ho;have hf0:=fun u v V=>Ed u v V
 have hf1:=fun u v V=>Dz u v V
 have o1:(op==1)=false:=by simpa using ho1
 have o2:(op==2)=false:=by simpa using ho2
 have o3:(op==3)=false:=by simpa using ho3
 obtain⟨hwl,hll⟩:=Jd op;obtain⟨lv,hlv⟩:∃lv,A4 op=lv:=⟨_,rfl⟩;obtain⟨wd,hwd⟩:∃wd,Cc op=wd:=⟨_,rfl⟩;have hK:=fun k least V (hV:Below w.heap.size w V) (hk:k<=1000000)=>Ax (Pk (h.below hV) hx k least hk)
 simp only at hK;have hKL:=fun k least=>Me (l:=l) h.short kids k least
 simp only[hlv,hwd] at ho hwl hll hLV
 have hz:Cr ⟨op,(vk,vn,vs),nm,ln,cl⟩ kids.length (B5 l ts kids)=B5 l ts kids 0 lv++32::(wd++32::B5 l ts kids 1 (lv+1)):=by
  unfold Cr;simp only[hlv,hwd];rw[Ao ho1,Ao ho2,Ao ho3,Ao hLV.1,Ao qO,Ao hLV.2.2.2]
 rw[hz];have l0:((lv:Int)==8)=false:=by simp;omega
 have l1:((lv:Int)==2)=false:=by simp;omega
 have l2:((lv:Int)==6)=false:=by simp;omega
 have l3:((lv:Int)==3)=false:=by simp;omega
 have l4:((lv+1:Nat):Int)=(lv:Int)+1:=by omega
 have HK0:∀V,Below w.heap.size w V->Hid (Calls Tryz.prog 168 #[.pointer (some ⟨b,0,none⟩),.int .i64 (ts.length:Int),.int .i64 0,.int .i64 ((lv:Int))] V fun e w'=>e= .returned (.string ⟨(B5 l ts kids 0 (lv)).toArray⟩)/\Below V.heap.size V w'):=fun V hV=>hK 0 (lv) V hV qP
 have hl0:=hKL 0 (lv);obtain⟨K0,hK0⟩:∃K',B5 l ts kids 0 (lv)=K':=⟨_,rfl⟩;rw[hK0] at hl0 ⊢;simp only[hK0] at HK0;have HK1:∀V,Below w.heap.size w V->Hid (Calls Tryz.prog 168 #[.pointer (some ⟨b,0,none⟩),.int .i64 (ts.length:Int),.int .i64 1,.int .i64 ((lv:Int)+1)] V fun e w'=>e= .returned (.string ⟨(B5 l ts kids 1 (lv+1)).toArray⟩)/\Below V.heap.size V w'):=fun V hV=>hK 1 (lv+1) V hV qP
 have hl1:=hKL 1 (lv+1);obtain⟨K1,hK1⟩:∃K',B5 l ts kids 1 (lv+1)=K':=⟨_,rfl⟩;rw[hK1] at hl1 ⊢;simp only[hK1] at HK1;rw[Wo];have HP1:=Ax hp1;have HB1:=Ax hb1;have Hlv:=Ax hlv;have Hwd:=Ax hwd;clear h hx hp1 hb1 hz hK hKL hlv hwd hK0 hK1 ho1 ho2 ho3 hLV;exact zzg
theorem mI:(Tryz.prog.info? 9).map (fun i=>(i.zero,i.size,i.bytes))=some (some (.string ⟨#[]⟩),1,16):=by kernel_rfl
theorem Np:∃i,Tryz.prog.info? 9=some i/\i.zero=some (.string ⟨#[]⟩)/\i.size=1/\i.bytes=16:=by
 have h:=mI;cases hi:Tryz.prog.info? 9 with
 |none=>simp [hi] at h
 |some i=>
  exact zxf
def Rf (l:List (List UInt8)):List Value:=l.map fun t=>Value.string ⟨t.toArray⟩
theorem fB (l:List (List UInt8))(t:List UInt8):Rf (l++[t])=Rf l++[.string ⟨t.toArray⟩]:=by simp [Rf]
theorem Gi {α:Type}(f:Nat->α)(k:Nat):(List.range (k+1)).map f=(List.range k).map f++[f k]:=by rw[List.range_succ,List.map_append];rfl
theorem bS (a b:List UInt8):(⟨(a++Kt b).toArray⟩:ByteArray)=⟨a.toArray⟩++⟨#[40]⟩++⟨b.toArray⟩++⟨#[41]⟩:=by
 apply ByteArray.ext;simp [Kt]
theorem dX {w:World}{b tb:Nat}{tv:Value}{l:List Nz}{ts:List (List UInt8)}{x:Nz}(h:Oz w b tv tb l ts)(hx:l[ts.length]? =some x)(ho1:x.h.op≠1)(ho2:x.h.op≠2)(ho3:x.h.op≠3)(hLV:A4 x.h.op=8):
 Calls Tryz.prog 92 #[.pointer (some ⟨b,0,none⟩),.int .i64 (ts.length:Int)] w fun e w'=>e= .returned (.string ⟨(Cr x.h x.kids.length (B5 l ts x.kids)).toArray⟩)/\Below w.heap.size w w':=by
 obtain⟨hi,_⟩:=List.getElem?_eq_some_iff.1 hx;obtain⟨tr,off,tc,rfl⟩:=h.tree.some qO;obtain⟨kv,hn,hki⟩:=h.tree.get hx;obtain⟨hkl,ka,kc,rfl,_⟩:=hki;obtain⟨⟨op,⟨vk,vn,vs⟩,nm,ln,cl⟩,kids⟩:=x;obtain⟨x0,x1,x2,x3,x4,x5,x6,x7⟩:=hn;simp only at x0 x1 x2 x3 x4 x5 x6 x7 hkl ho1 ho2 ho3 hLV;have c0:=h.c0;have hlm:=h.tree.1;have hop0:0<=op:=h.ops _ (List.mem_of_getElem? hx);have i0:(0:Int)<=(ts.length:Int):=by omega
 have i1:(ts.length:Int)<(l.length:Int):=by omega
 have hbx:=Bp x0;obtain⟨W1,hW1⟩:∃W1,(w.alloc (.cells #[.int .u8 op,.int .u8 vk,.int .i64 vn,.string ⟨vs.toArray⟩,.string ⟨nm.toArray⟩,.slice ka kids.length kc,.int .i64 ln,.int .i64 cl] 43)).drew=W1:=⟨_,rfl⟩;have hp1:(w.alloc (.cells #[.int .u8 op,.int .u8 vk,.int .i64 vn,.string ⟨vs.toArray⟩,.string ⟨nm.toArray⟩,.slice ka kids.length kc,.int .i64 ln,.int .i64 cl] 43)).drew.heap[w.heap.size]? =some (.cells #[.int .u8 op,.int .u8 vk,.int .i64 vn,.string ⟨vs.toArray⟩,.string ⟨nm.toArray⟩,.slice ka kids.length kc,.int .i64 ln,.int .i64 cl] 43 (0,0)):=Az w (.cells #[.int .u8 op,.int .u8 vk,.int .i64 vn,.string ⟨vs.toArray⟩,.string ⟨nm.toArray⟩,.slice ka kids.length kc,.int .i64 ln,.int .i64 cl] 43);have hb1:Below w.heap.size w W1:=by rw[←hW1];exact((Aq _ w).alloc (Ak _) _).drew
 rw[hW1] at hp1;obtain⟨n0,_,_,_,_,_,_,_,_⟩:=A8 hp1;have ho:=fun V=>Ax (Ke op hop0 V)
 unfold Fh at ho;have hf0:=fun u v V=>Ed u v V
 have hf1:=fun u v V=>Dz u v V
 have o1:(op==1)=false:=by simpa using ho1
 have o2:(op==2)=false:=by simpa using ho2
 have o3:(op==3)=false:=by simpa using ho3
 obtain⟨hwl,hll⟩:=Jd op;obtain⟨lv,hlv⟩:∃lv,A4 op=lv:=⟨_,rfl⟩;obtain⟨wd,hwd⟩:∃wd,Cc op=wd:=⟨_,rfl⟩;have hK:=fun k least V (hV:Below w.heap.size w V) (hk:k<=1000000)=>Ax (Pk (h.below hV) hx k least hk)
 simp only at hK;have hKL:=fun k least=>Me (l:=l) h.short kids k least
 simp only[hlv,hwd] at ho hwl hll hLV
 have hz:Cr ⟨op,(vk,vn,vs),nm,ln,cl⟩ kids.length (B5 l ts kids)=wd++Kt (Ei [44,32] ((List.range kids.length).map fun k=>B5 l ts kids k 0)):=by
  unfold Cr;simp only[hlv,hwd];rw[Ao ho1,Ao ho2,Ao ho3,Ap qO]
 rw[hz];subst hLV;obtain⟨F,hF⟩:∃F:Nat->List UInt8,F=fun k=>B5 l ts kids k 0:=⟨_,rfl⟩
 have HK:∀(k:Nat) V,k<=1000000->Below w.heap.size w V->Hid (Calls Tryz.prog 168 #[.pointer (some ⟨b,0,none⟩),.int .i64 (ts.length:Int),.int .i64 (k:Int),.int .i64 0] V fun e w'=>e= .returned (.string ⟨(F k).toArray⟩)/\Below V.heap.size V w'):=fun k V hk hV=>by rw[hF];exact hK k 0 V hV hk
 have hFl:∀k,(F k).length<=65538:=fun k=>by rw[hF];exact hKL k 0
 rw[show(fun k=>B5 l ts kids k 0)=F from hF.symm,bS]
 have hJl:=T5 ((List.range kids.length).map F) fun t ht=>by
  obtain⟨k,_,rfl⟩:=List.mem_map.1 ht;exact hFl k
 rw[List.length_map,List.length_range] at hJl;obtain⟨J,hJ⟩:∃J,Ei [44,32] ((List.range kids.length).map F)=J:=⟨_,rfl⟩;rw[hJ] at hJl ⊢;have hJb:J.length<=70000000000:=by omega
 have HJ:=Ax hJ;have HFl:=Ax hFl;have HP1:=Ax hp1;have HB1:=Ax hb1;have Hlv:=Ax hlv;have Hwd:=Ax hwd;clear h hx hp1 hb1 hz hK hKL hlv hwd ho1 ho2 ho3 hF hJ hJl hFl;go_enter Tryz.func92,Tryz.ntmps92;go_wp2_with fail
 go_region_held3 (fun V=>V.cell? ⟨w.heap.size,0,none⟩=some (.int .u8 op)) (go_keep)
  (first
   |(go_at_call 62;(with_reducible refine(ho _).out.mono ?_);rintro e V2 ⟨rfl,hb2⟩;have hc2:=A6 hb2 n0;have hB2:=Ax hb2;clear hb2)
   |(go_at_call 62;(with_reducible refine(ho _).out.mono ?_);rintro e V3 ⟨rfl,hb3⟩;have hc3:=A6 hb3 hc2;have HB3:=Ax (hB2.out.trans (hb3.mono hB2.out.size));clear hb3))
 obtain⟨m0,m1,m2,m3,m4,m5,m6,m7,_⟩:=A8 ((HB3.out.block _ (Ay HP1.out)).trans HP1.out);have hBV0:=HB1.out.trans (HB3.out.mono HB1.out.size);have HL:Hid (V3.ownsRow w.heap.size 9 1 (.slice none 0 0) 0 (Rf ((List.range 0).map F))/\Below w.heap.size w V3):=Ax ⟨World.ownsRow_nil _ _ _ _,hBV0⟩;clear HB1 hB2 hBV0;go_wp2_with fail
 go_loopw [8,63] (fun v8 v63 wr=>∃(k:Nat) (sa:Option Addr) (sc:Nat),k<=kids.length/\v63= .int .i64 k/\v8= .slice sa k sc/\Hid (wr.ownsRow w.heap.size 9 1 (.slice sa k sc) k (Rf ((List.range k).map F))/\Below w.heap.size w wr)) (fun _ v63 _=>kids.length - (intOf v63).toNat)
 case atStart=>exact⟨0,none,0,Nat.zero_le _,rfl,rfl,HL⟩
 obtain⟨k,sa,sc,hk,rfl,rfl,hq⟩:=hrel;obtain⟨hrow,hB⟩:=hq.out;clear m0 m1 m2 m3 m4 m5 m6 m7;by_cases hkl2:k<kids.length
 ·have HKk:=HK k wr qO hB;have hfl:=HFl.out k;have hms:=Gi F k;obtain⟨t,ht⟩:∃t,F k=t:=⟨_,rfl⟩;simp only[ht] at HKk;rw[ht] at hfl hms;have e3:(0:Int)<=(k:Int):=by omega
  have e9:decide ((k:Int)<(kids.length:Int))=true:=Am qO;have Hms:=Ax hms;have Hrow:=Ax hrow;have HB:=Ax hB;obtain⟨i0',hi0,hz0,hz1,hz2⟩:=Np;have Hi0:=Ax hi0;have Hy0:=Ax hz0;have Hy1:=Ax hz1;have Hy2:=Ax hz2;clear hq hrow hB ht hms hi0 hz0 hz1 hz2 HL;go_wp2_with fail;refine HKk.out.mono ?_;rintro e V ⟨rfl,hbV⟩;have hrV:=Cv Hrow.out hbV;have hBV:=HB.out.trans (hbV.mono HB.out.size);have Hrow1:=Ax (hrV.alloc (.cells #[.string ⟨t.toArray⟩] 9));have HN1:=Ax (Az V (.cells #[.string ⟨t.toArray⟩] 9));have HZ:Hid ((V.alloc (.cells #[.string ⟨t.toArray⟩] 9)).heap.size=V.heap.size+1):=Ax qQ;have hsr:=hBV.size;have Hown:=Ax (Cx hrV);have HBV:=Ax hBV;clear hbV hrV hBV HKk HB Hrow;go_wp2_with ((refine wpList_append_lies _ rfl (.tmp 66) (.tmp 71) _ rfl w.heap.size 9 i0' (.string ⟨#[]⟩) 1 16 Tryz.underlying39 Hi0.out Hy0.out Hy1.out Hy2.out rfl qP (.slice sa k sc) k (Rf ((List.range k).map F)) rfl Hrow1.out ⟨V.heap.size,0,none⟩ 1 1 [.string ⟨t.toArray⟩] rfl rfl (World.news_of_block (cs:= #[.string ⟨t.toArray⟩]) HN1.out) rB qP rA qO rF (V.heap.size+1) HZ.out ?_;intro g6 cap w6 hown6 hgrow6 hat6 hlt6));have hB6:=Ib (v:= .slice sa k sc) (HBV.out.alloc HBV.out.size (.cells #[.string ⟨t.toArray⟩] 9)) hgrow6 Hown.out rF;rw[←fB,←Hms.out] at hown6;have HR6:Hid (w6.ownsRow w.heap.size 9 1 (.slice (some ⟨g6,0,none⟩) (k+1) cap) (k+1) (Rf ((List.range (k+1)).map F))/\Below w.heap.size w w6):=Ax ⟨hown6,hB6⟩;clear hown6 hgrow6 hat6 hlt6 hB6 Hrow1 HN1 HZ hsr Hown HBV;go_wp2_with fail;go_roundw
  case rel=>exact⟨k+1,some ⟨g6,0,none⟩,cap,by omega,by go_num,rfl,HR6⟩
  case measure=>simp [intOf];omega
 obtain rfl:k=kids.length:=by omega
 have e9:decide ((kids.length:Int)<(kids.length:Int))=false:=by simp
 have hjoin:Calls Tryz.prog 169 #[.slice sa kids.length sc,.string ⟨#[44,32]⟩] wr fun e w'=>e= .returned (.string ⟨J.toArray⟩)/\Below wr.heap.size wr w':=by
  rcases hrow.2 with ⟨e2,h0⟩|⟨g,cap,cur,e2,_,hg,hc,_⟩
  ·rw[h0] at e2 ⊢;have hj0:J=[]:=by rw[←HJ.out,h0];rfl
   rw[hj0];refine(Tryz.strings_Join_none sa sc ⟨#[44,32]⟩ wr).mono ?_;rintro e w' ⟨rfl,rfl⟩;exact⟨rfl,Aq _ _⟩
  injection e2 with e3 _ e4;subst e3 e4
  have hj:=Tryz.strings_Join g 0 sc ((List.range kids.length).map fun k=>(⟨(F k).toArray⟩:ByteArray)) ⟨#[44,32]⟩ wr (fun j x hj=>by
   obtain⟨hj1,rfl⟩:=List.getElem?_eq_some_iff.1 hj;have hj2:j<kids.length:=by simpa using hj1
   have:=hrow.cells (g:=g) rfl j (.string ⟨(F j).toArray⟩) (by simp [Rf,hj2])
   rw[Addr.add_lit] at this
   simpa using this) (Ay hg) qV (by simpa using hc) (by
   rw[List.map_map,show((fun x:ByteArray=>x.data.toList)∘fun k=>(⟨(F k).toArray⟩:ByteArray))=F from rfl,aU]
   show(Ei [44,32] ((List.range kids.length).map F)).length<=_
   rw[HJ.out]
   omega)
  rw[List.map_map,show((fun x:ByteArray=>x.data.toList)∘fun k=>(⟨(F k).toArray⟩:ByteArray))=F from rfl,aU,List.length_map,List.length_range] at hj;rw[←HJ.out];exact hj
 have Hjoin:=Ax hjoin;have HB:=Ax hB;clear hq hrow hB hkl2 HL hjoin;go_wp2_with fail;refine Hjoin.out.mono ?_;rintro e V ⟨rfl,hbV⟩;have HBV:=Ax (HB.out.trans (hbV.mono HB.out.size));clear hbV HB Hjoin;go_wp2_with fail;go_ret;exact⟨rfl,HBV.out⟩
theorem fR {w:World}{b tb:Nat}{tv:Value}{l:List Nz}{ts:List (List UInt8)}{x:Nz}(h:Oz w b tv tb l ts)(hx:l[ts.length]? =some x)(hR:Rd w)(hf:Jw x.h):
 Calls Tryz.prog 92 #[.pointer (some ⟨b,0,none⟩),.int .i64 (ts.length:Int)] w fun e w'=>e= .returned (.string ⟨(Cr x.h x.kids.length (B5 l ts x.kids)).toArray⟩)/\Below w.heap.size w w':=by
 by_cases h1:x.h.op=1
 ·exact iQ h hx hR hf h1
 by_cases h2:x.h.op=2
 ·exact gU h hx hf h2
 by_cases h3:x.h.op=3
 ·exact dP h hx h3
 by_cases l8:A4 x.h.op=8
 ·exact dX h hx h1 h2 h3 l8
 by_cases l2:A4 x.h.op=2
 ·exact eB h hx h1 h2 h3 l2
 by_cases l6:A4 x.h.op=6
 ·exact eV h hx h1 h2 h3 l6
 by_cases l3:A4 x.h.op=3
 ·exact iF h hx h1 h2 h3 l3
 exact jA h hx h1 h2 h3 ⟨l8,l2,l6,l3⟩
open Go Go.RowKit Go.Lib Go.Sort Go.Shelf
def Bg (l:List Nz):Nat->List (List UInt8)
 |0=>[]
 |k+1=>Bg l k++[match l[k]? with
  |some x=>Cr x.h x.kids.length (B5 l (Bg l k) x.kids)
  |none=>[]]
theorem Dt (l:List Nz):∀k,(Bg l k).length=k
 |0=>rfl
 |k+1=>by rw[Bg,Ab,Dt l k];rfl
theorem Qw (l:List Nz){k:Nat}:∀m,k<=m->∀t∈Bg l k,t∈Bg l m
 |0,h,t,ht=>by
  obtain rfl:k=0:=by omega
  exact ht
 |m+1,h,t,ht=>by
  by_cases e:k=m+1
  ·rw[←e];exact ht
  rw[Bg];exact List.mem_append.2 (.inl (Qw l m qO t ht))
def Iq (ts:List (List UInt8)):Bool:=ts.all fun t=>decide (t.length<=65536)
def Om (l:List Nz):List UInt8:=if Iq (Bg l l.length)=true then((Bg l l.length).getLast?).getD [] else[]
theorem N7 {ts:List (List UInt8)}(h:Iq ts=true):∀t∈ts,t.length<=65536:=fun t ht=>by
 have:=List.all_eq_true.1 h t ht
 simpa using this
def cC (l:List Nz)(k:Nat):List UInt8:=((Bg l k).getLast?).getD []
theorem iI (l:List Nz):(Om l).length<=65536:=by
 unfold Om
 split
 ·rename_i h
  cases hl:(Bg l l.length).getLast? with
  |none=>simp
  |some t=>exact N7 h t (List.mem_of_getLast? hl)
 simp
def Ia (w:World)(b:Nat)(l:List (List UInt8)):Prop:=w.heap[b]? =some (.cells (Rf l).toArray 9 (0,0))
theorem Ia.cell {w:World}{b:Nat}{l:List (List UInt8)}(h:Ia w b l){i:Nat}{x:List UInt8}(hx:l[i]? =some x):w.cell? ⟨b,i,none⟩=some (.string ⟨x.toArray⟩):=by
 unfold Ia at h;simp only[World.cell?,h];simp [Rf,hx]
theorem Ia.frozen {w:World}{b:Nat}{l:List (List UInt8)}(h:Ia w b l)(i:Nat):w.frozen? ⟨b,i,none⟩=false:=by
 unfold Ia at h;simp only[World.frozen?,h];simp
theorem Ia.set {w:World}{b:Nat}{l:List (List UInt8)}(h:Ia w b l)(i:Nat)(x:List UInt8):Ia (w.setCell ⟨b,i,none⟩ (.string ⟨x.toArray⟩)) b (l.set i x):=by
 unfold Ia at h ⊢;rw[A2 h];congr 2;apply Array.ext';simp [Rf,List.map_set]
theorem Ia.below {w w':World}{b:Nat}{l:List (List UInt8)}(h:Ia w b l)(hb:Below w.heap.size w w'):Ia w' b l:=(hb.block b (Ay h)).trans h
theorem dO (n:Nat)(hn:n<=1000000)(w:World):∃w',(Instr.makeSlice 39 (.int .i64 (n:Int)) (.int .i64 (n:Int))).run Tryz.prog w= .ok (.slice (some ⟨w.heap.size,0,none⟩) n n) w'/\Below w.heap.size w w'/\Ia w' w.heap.size (List.replicate n []):=by
 obtain⟨i0,hi,hz0,hz1,hz2⟩:=Np;obtain⟨w',hrun,hown,hg⟩:=run_make_full (P:=Tryz.prog) w w.heap.size 39 9 i0 (.string ⟨#[]⟩) 1 Tryz.underlying39 hi hz0 hz1 .i64 .i64 n (by rw[hz2];omega) rA (Ak _);refine⟨w',hrun,(Bb.of_grown hg [] (fun k e=>by cases e)).below,?_⟩;rcases hown.2 with ⟨e,_⟩|⟨g,cap,cur,e,_,hgb,_,_,hcs,hct⟩
 ·cases e
 injection e with e1 _ e3;injection e1 with e1;injection e1 with e1;subst e1;subst e3;unfold Ia;rw[hgb];congr 2;apply Array.ext';rw[List.take_of_length_le (by rw[Array.length_toList,hcs];omega)] at hct;rw[hct];simp [madeCells,Rf];rw[List.eq_replicate_iff];refine⟨by simp,fun u hu=>?_⟩;obtain⟨x,_,rfl⟩:=List.mem_map.1 hu
 show(#[Value.string ⟨#[]⟩]:Array Value)[x % 1]! =_
 rw[Nat.mod_one];rfl
def Tm (l:List Nz)(k:Nat):List (List UInt8):=Bg l k++List.replicate (l.length - k) []
theorem iD {l:List Nz}{k j:Nat}{t:List UInt8}(h:(Bg l k)[j]? =some t):(Tm l k)[j]? =some t:=by
 unfold Tm;rw[List.getElem?_append_left (List.getElem?_eq_some_iff.1 h).1];exact h
theorem kR {l:List Nz}{k:Nat}(hk:k<l.length){t:List UInt8}(ht:Bg l (k+1)=Bg l k++[t]):(Tm l k).set k t=Tm l (k+1):=by
 unfold Tm;have hl:=Dt l k;obtain⟨m,hm⟩:∃m,l.length - k=m+1:=⟨l.length - k - 1,by omega⟩;rw[List.set_append_right _ _ qO,hl,Nat.sub_self,hm,List.replicate_succ,Ad,ht,show l.length - (k+1)=m by omega,List.append_assoc];rfl
structure aG (w wr:World)(b tb:Nat)(tv:Value)(l:List Nz)(k:Nat):Prop where
 box:wr.heap[b]? =some (.cells #[tv,.slice (some ⟨tb,0,none⟩) l.length l.length] 139 (0,0))
 row:Ia wr tb (Tm l k)
 bel:Below w.heap.size w wr
 ne:tb<b
 hi:w.heap.size<=tb
 short:Iq (Bg l k)=true
theorem Qt {ts:List (List UInt8)}{t:List UInt8}(h:Iq ts=true)(ht:t.length<=65536):Iq (ts++[t])=true:=by
 unfold Iq at h ⊢;rw[List.all_append,h];simpa using ht
theorem aG.at {w wr:World}{b tb:Nat}{tv:Value}{l:List Nz}{k:Nat}(h:aG w wr b tb tv l k)(ht:TrZ w tv l)(hk:k<=l.length)(ho:∀x∈l,0<=x.h.op):Oz wr b tv tb l (Bg l k):=by
 obtain⟨c0,c1,_⟩:=B9 h.box;exact⟨ht.below h.bel,c0,c1,fun j t hj=>h.row.cell (iD hj),by rw[Dt];exact hk,ho,N7 h.short⟩
theorem aG.next {w wr V:World}{b tb:Nat}{tv:Value}{l:List Nz}{k:Nat}(h:aG w wr b tb tv l k)(hb:Below wr.heap.size wr V)(hk:k<l.length){t:List UInt8}(ht:Bg l (k+1)=Bg l k++[t])(hs:t.length<=65536):
 aG w (V.setCell ⟨tb,k,none⟩ (.string ⟨t.toArray⟩)) b tb tv l (k+1):=by
 refine⟨?_,?_,(h.bel.trans (hb.mono h.bel.size)).setCell h.hi _,h.ne,h.hi,by rw[ht];exact Qt h.short hs⟩
 ·rw[Below.heap_setCell _ _ _ _ (by show b≠tb;have:=h.ne;omega)];exact(hb.block b (Ay h.box)).trans h.box
 rw[←kR hk ht];exact(h.row.below hb).set k t
theorem Ya {w:World}{tv:Value}{l:List Nz}(ht:TrZ w tv l)(ho:∀x∈l,0<=x.h.op)(hf:∀x∈l,Jw x.h)(hR:Rd w):
 Calls Tryz.prog 61 #[tv] w fun e w'=>e= .returned (.string ⟨(Om l).toArray⟩)/\Below w.heap.size w w':=by
 have hlm:=ht.1;have HT:=Ax ht;obtain⟨ta,tc,rfl⟩:=ht.slice;obtain⟨W0,hmk,hb0,hrow⟩:=dO l.length hlm w;obtain⟨tb,htb⟩:∃tb,w.heap.size=tb:=⟨_,rfl⟩;obtain⟨W1,hW1⟩:∃W1,W0.alloc (.cells #[.slice ta l.length tc,.slice (some ⟨tb,0,none⟩) l.length l.length] 139)=W1:=⟨_,rfl⟩;have hp1:=Az W0 (.cells #[.slice ta l.length tc,.slice (some ⟨tb,0,none⟩) l.length l.length] 139);have hb1:Below W0.heap.size W0 W1:=by rw[←hW1];exact(Aq _ _).alloc (Ak _) _
 rw[hW1] at hp1;rw[htb] at hmk;have hlt:tb<W0.heap.size:=by rw[←htb];exact Ay hrow
 have HS:Hid (aG w W1 W0.heap.size tb (.slice ta l.length tc) l 0):=Ax ⟨hp1,by rw[←htb];exact(show Ia W0 w.heap.size (Tm l 0) from hrow).below hb1,hb0.trans (hb1.mono hb0.size),hlt,by omega,rfl⟩;have Htb:=Ax htb;have HO:=Ax ho;have HF:=Ax hf;have HR:=Ax hR;clear ht ho hf hR hb0 hrow hp1 hb1 htb hlt;go_enter Tryz.func61,Tryz.ntmps61;go_wp2_with fail
 go_loopw [4,14] (fun v4 v14 wr=>∃k:Nat,k<=l.length/\v14= .int .i64 k/\v4= .string ⟨(cC l k).toArray⟩/\Hid (aG w wr W0.heap.size tb (.slice ta l.length tc) l k)) (fun _ v14 _=>l.length - (intOf v14).toNat)
 case atStart=>exact⟨0,Nat.zero_le _,rfl,rfl,HS⟩
 obtain⟨k,hk,rfl,rfl,hq⟩:=hrel;have hwd:=hq.out;by_cases hkl:k<l.length
 ·have hN:=fR (x:=l[k]) (hwd.at HT.out hk HO.out) (by rw[Dt];exact Ag hkl) (HR.out.below hwd.bel) (HF.out _ (List.getElem_mem hkl));rw[Dt] at hN
  have hnx:Bg l (k+1)=Bg l k++[Cr l[k].h l[k].kids.length (B5 l (Bg l k) l[k].kids)]:=by
   rw[Bg,Ag hkl]
  obtain⟨t,htt⟩:∃t,Cr l[k].h l[k].kids.length (B5 l (Bg l k) l[k].kids)=t:=⟨_,rfl⟩;rw[htt] at hN hnx;have i0:(0:Int)<=(k:Int):=by omega
  have i1:(k:Int)<(l.length:Int):=by omega
  have i2:decide ((k:Int)<(l.length:Int))=true:=Am i1;have HN:=Ax hN;have HW:=Ax hwd;have Hnx:=Ax hnx;obtain⟨c0,c1,_⟩:=B9 hwd.box;clear hN hwd hnx htt hq HS hmk;go_wp2_with fail;refine HN.out.mono ?_;rintro e V ⟨rfl,hbV⟩;have HV:=Ax hbV;obtain⟨d0,d1,_⟩:=B9 ((hbV.block _ (Ay HW.out.box)).trans HW.out.box);clear hbV HN c0 c1;by_cases hbig:65536<t.length
  ·have j1:decide ((65536:Int)<(t.length:Int))=true:=Am qO
   have HZ:Hid (Om l=[]):=Ax (by
    unfold Om;rw[Ao];intro hs;have h1:t∈Bg l (k+1):=by rw[Hnx.out];simp
    have:=N7 hs t (Qw l l.length qO t h1)
    omega)
   clear hbig;go_wp2_with fail;go_ret;exact⟨by rw[HZ.out];rfl,HW.out.bel.trans (HV.out.mono HW.out.bel.size)⟩
  have j1:decide ((65536:Int)<(t.length:Int))=false:=An qO;have hs:t.length<=65536:=by omega
  have hnw:=HW.out.next HV.out hkl Hnx.out hs;have HNW:=Ax hnw;have HL:Hid (cC l (k+1)=t):=Ax (by unfold cC;rw[Hnx.out];simp);have hfz:=(HW.out.row.below HV.out).frozen k
  have hrk:=(HW.out.row.below HV.out).cell (i:=k) (x:=((Tm l k)[k]?).getD []) (by
   have:k<(Tm l k).length:=by unfold Tm;rw[Ab,List.length_replicate,Dt];omega
   rw[Ag this];rfl)
  clear hbig hnw;go_wp2_with fail;go_roundw
  case rel=>exact⟨k+1,by omega,by go_num,by rw[HL.out],HNW⟩
  case measure=>simp [intOf];omega
 obtain rfl:k=l.length:=by omega
 have i2:decide ((l.length:Int)<(l.length:Int))=false:=by simp
 have HZ:Hid (Om l=cC l l.length):=Ax (by unfold Om;rw[Ap hwd.short];rfl);have HB:=Ax hwd.bel;clear hwd hq HS hmk hkl;go_wp2_with fail;go_ret;exact⟨by rw[HZ.out];rfl,HB.out⟩
def Ls (l:List Nz):Option (List UInt8):=if 60<l.length then none else match Cf (Om l) with
 | .ok u=>if Dm l ((u.flat 0).map Nd.z)=true then some (Om l) else none
 | .error _=>none
def Xr:Option (List UInt8)->Int
 |some _=>0
 |none=>4
theorem Px {w:World}{tv:Value}{l:List Nz}(ht:TrZ w tv l)(ho:∀x∈l,0<=x.h.op)(hf:∀x∈l,Jw x.h)(hR:Rd w):
 Calls Tryz.prog 25 #[tv] w fun e w'=>e= .returned (.tuple #[.string ⟨((Ls l).getD []).toArray⟩,.int .i64 (Xr (Ls l))])/\Below w.heap.size w w':=by
 obtain⟨ta,tc,rfl⟩:=ht.slice;have hlm:=ht.1;by_cases h60:60<l.length
 ·have hz:Ls l=none:=by unfold Ls;rw[Ap h60]
  rw[hz];have i1:decide ((60:Int)<(l.length:Int))=true:=Am qO;clear ht ho hf hR hz h60;go_enter Tryz.func25,Tryz.ntmps25;go_wp2_with fail;go_ret2;exact⟨rfl,Aq _ _⟩
 have i1:decide ((60:Int)<(l.length:Int))=false:=An qO;have HW:=Ax (Ya ht ho hf hR);have hsz:=iI l;obtain⟨s,hs⟩:∃s,Om l=s:=⟨_,rfl⟩
 have hz:Ls l=match Cf s with
  | .ok u=>if Dm l ((u.flat 0).map Nd.z)=true then some s else none
  | .error _=>none:=by unfold Ls;rw[Ao h60,hs]
 rw[hs] at HW hsz;have HT:=Ax ht;cases hr:Cf s with
 |error p=>
  obtain⟨⟨x,y⟩,q⟩:=p;rw[hr] at hz;simp only at hz;rw[hz];have hq:=U0 hr;have hq1:(q !=0)=true:=by simpa using hq
  have HL:=fun V hV=>Ax (pU (s:=⟨s.toArray⟩) V (by show s.toArray.size<=_;simp;omega) hV (show Cf (dl ⟨s.toArray⟩)=_ from hr))
  have HR:=Ax hR;clear ht ho hf hR hz h60 hs hr hq;go_enter Tryz.func25,Tryz.ntmps25;go_wp2_with fail;refine HW.out.mono ?_;rintro e V1 ⟨rfl,hb1⟩;have HB1:=Ax hb1;clear hb1 HW;go_wp2_with fail;refine(HL _ (HR.out.below HB1.out)).out.mono ?_;rintro e V2 ⟨rfl,hb2⟩;have HB2:=Ax (HB1.out.trans (hb2.mono HB1.out.size));clear hb2 HL;go_wp2_with fail;go_ret2;exact⟨rfl,HB2.out.alloc HB2.out.size _⟩
 |ok u=>
  rw[hr] at hz;simp only at hz;have HL:=fun V hV=>Ax (qD (s:=⟨s.toArray⟩) V (by show s.toArray.size<=_;simp;omega) hV (show Cf (dl ⟨s.toArray⟩)=_ from hr))
  have HSL:=Ax (Uv hr);have hu60:u.size<=60:=by obtain⟨_,_,_,h3⟩:=Ii hr;exact h3
  have HR:=Ax hR;obtain⟨m,hm⟩:∃m,Dm l ((u.flat 0).map Nd.z)=m:=⟨_,rfl⟩;rw[hm] at hz;have HM:=Ax hm;have HZ:=Ax hz;clear ht ho hf hR h60 hs hr hm hz;go_enter Tryz.func25,Tryz.ntmps25;go_wp2_with fail;refine HW.out.mono ?_;rintro e V1 ⟨rfl,hb1⟩;have HB1:=Ax hb1;clear hb1 HW;go_wp2_with fail;refine(HL _ (HR.out.below HB1.out)).out.mono ?_;rintro e V2 ⟨uv,rfl,htu,hb2⟩;have hb3:=HB1.out.trans (hb2.mono HB1.out.size);have hV3:Below V2.heap.size V2 (V2.alloc (.cells #[.int .i64 0,.int .i64 0] 33)):=(Aq _ V2).alloc (Ak _) _;have hzu:=(htu.z tT HSL.out).below hV3;have hb4:=hb3.trans (hV3.mono hb3.size);have hsm:=kA _ (HT.out.below hb4) hzu;rw[HM.out] at hsm;have HSM:=Ax hsm;have HB4:=Ax hb4;obtain⟨ua,uc,rfl⟩:=htu.slice;clear hb2 hb3 hV3 hzu hb4 hsm htu HL;go_wp2_with fail;refine HSM.out.mono ?_;rintro e V5 ⟨rfl,hb5⟩;have HB5:=Ax (HB4.out.trans (hb5.mono HB4.out.size));clear hb5 HSM;cases m with
  |true=>
   exact zxb
  |false=>
   exact zxb
theorem kU {w:World}{tv:Value}{l:List Nz}(ht:TrZ w tv l)(ho:∀x∈l,0<=x.h.op)(hf:∀x∈l,Jw x.h)(hR:Rd w):
 Calls Tryz.prog 30 #[tv] w fun e w'=>e= .returned (.bool (Ls l).isSome)/\Below w.heap.size w w':=by
 have HT:=Ax (Px ht ho hf hR);obtain⟨ta,tc,rfl⟩:=ht.slice;cases hz:Ls l with
 |some t=>
  exact zxz
 |none=>
  exact zxz
end Go.Proofs.YtgfakdobajgnfaaGreatDoor
