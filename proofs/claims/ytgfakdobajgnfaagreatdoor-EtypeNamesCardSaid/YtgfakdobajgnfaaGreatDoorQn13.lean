import Derived.Test.YtgfakdobajgnfaaGreatDoorQn12
set_option maxRecDepth 100000
set_option maxHeartbeats 16000000
namespace Go.Proofs.YtgfakdobajgnfaaGreatDoor
open Go Go.RowKit Go.Lib Go.Sort Go.Shelf
def D5 (h:Hd)(n:Nat)(kid:Nat->Nat->List UInt8):List UInt8:=
 if h.op=1 then Cy h.v.1 h.v.2.1 h.v.2.2 else if h.op=2 then 63::h.name else if h.op=3 then[63]
 else if Bc h.op=8 then D0 h.op++Ny (I6 [44,32] ((List.range n).map fun k=>kid k 0))
 else if Bc h.op=2\/Bc h.op=6 then D0 h.op++kid 0 (Bc h.op)
 else if Bc h.op=3 then kid 0 4++32::(D0 h.op++32::kid 1 4)
 else kid 0 (Bc h.op)++32::(D0 h.op++32::kid 1 (Bc h.op+1))
def Kt (h:Hd):Prop:= -9223372036854775808<=h.v.2.1/\h.v.2.1<=9223372036854775807/\h.v.2.2.length<=1000000/\h.name.length<=1000000
theorem Kk {l:List Nz}{ts:List (List UInt8)}(hs:∀t∈ts,t.length<=65536)(kids:List Int)(k least:Nat):(Dl l ts kids k least).length<=65538:=by
 unfold Dl
 split
 ·simp
 split
 ·split
  ·rename_i x t h1 h2
   have:=hs t (List.mem_of_getElem? h2)
   split
   ·unfold Ny;simp only[Aa,Ab,List.length_nil];omega
   omega
  simp
 simp
theorem Ko (op:Int):(D0 op).length<=8/\Bc op<=8:=by
 by_cases h:4<=op/\op<=26
 ·obtain rfl|rfl|rfl|rfl|rfl|rfl|rfl|rfl|rfl|rfl|rfl|rfl|rfl|rfl|rfl|rfl|rfl|rfl|rfl|rfl|rfl|rfl|rfl:op=4\/op=5\/op=6\/op=7\/op=8\/op=9\/op=10\/op=11\/op=12\/op=13\/op=14\/op=15\/op=16\/op=17\/op=18\/op=19\/op=20\/op=21\/op=22\/op=23\/op=24\/op=25\/op=26:=by omega
  all_goals decide
 have:Mw op=([],8):=by
  unfold Mw
  repeat rw[Ao nU]
 unfold D0 Bc;rw[this];decide
theorem fB (a b c:List UInt8):(⟨(a++32::(b++32::c)).toArray⟩:ByteArray)=⟨a.toArray⟩++⟨#[32]⟩++⟨b.toArray⟩++⟨#[32]⟩++⟨c.toArray⟩:=by
 apply ByteArray.ext;simp
theorem Yv (sep:List UInt8):∀l:List (List UInt8),Lib.join l sep=I6 sep l
 |[]=>rfl
 |[x]=>by rw[Lib.join_one];rfl
 |x::y::r=>by
  show Lib.join (x::y::r) sep=x++(sep++I6 sep (y::r));rw[←Yv sep (y::r)];simp [Lib.join,List.intercalate]
theorem Sz:∀(l:List (List UInt8)),(∀t∈l,t.length<=65538)->(I6 [44,32] l).length<=l.length*65540
 |[],_=>by simp [I6]
 |[x],h=>by
  have:=h x Ai
  show x.length<=_;simp only[Aa,List.length_nil];omega
 |x::y::r,h=>by
  have h1:=h x Ai;have h2:=Sz (y::r) fun t ht=>h t (Aj _ ht)
  show(x++([44,32]++I6 [44,32] (y::r))).length<=_
  simp only[Ab,Aa,List.length_nil] at h2 ⊢;omega
theorem iB {w:World}{b tb:Nat}{tv:Value}{l:List Nz}{ts:List (List UInt8)}{x:Nz}(h:Nl w b tv tb l ts)(hx:l[ts.length]? =some x)(hR:Rd w)(hf:Kt x.h)(hop:x.h.op=1):
 Calls Tryz.prog 92 #[.pointer (some ⟨b,0,none⟩),.int .i64 (ts.length:Int)] w fun e w'=>e= .returned (.string ⟨(D5 x.h x.kids.length (Dl l ts x.kids)).toArray⟩)/\Below w.heap.size w w':=by
 obtain⟨hi,_⟩:=List.getElem?_eq_some_iff.1 hx;obtain⟨tr,off,tc,rfl⟩:=h.tree.some nU;obtain⟨kv,hn,hki⟩:=h.tree.get hx;obtain⟨hkl,ka,kc,rfl,_⟩:=hki;obtain⟨⟨op,⟨vk,vn,vs⟩,nm,ln,cl⟩,kids⟩:=x;obtain⟨x0,x1,x2,x3,x4,x5,x6,x7⟩:=hn;simp only at x0 x1 x2 x3 x4 x5 x6 x7 hkl hop;have c0:=h.c0;have hlm:=h.tree.1;have hop0:0<=op:=h.ops _ (List.mem_of_getElem? hx);have i0:(0:Int)<=(ts.length:Int):=by omega
 have i1:(ts.length:Int)<(l.length:Int):=by omega
 have hbx:=B1 x0;obtain⟨W1,hW1⟩:∃W1,(w.alloc (.cells #[.int .u8 op,.int .u8 vk,.int .i64 vn,.string ⟨vs.toArray⟩,.string ⟨nm.toArray⟩,.slice ka kids.length kc,.int .i64 ln,.int .i64 cl] 43)).drew=W1:=⟨_,rfl⟩;have hp1:(w.alloc (.cells #[.int .u8 op,.int .u8 vk,.int .i64 vn,.string ⟨vs.toArray⟩,.string ⟨nm.toArray⟩,.slice ka kids.length kc,.int .i64 ln,.int .i64 cl] 43)).drew.heap[w.heap.size]? =some (.cells #[.int .u8 op,.int .u8 vk,.int .i64 vn,.string ⟨vs.toArray⟩,.string ⟨nm.toArray⟩,.slice ka kids.length kc,.int .i64 ln,.int .i64 cl] 43 (0,0)):=A0 w (.cells #[.int .u8 op,.int .u8 vk,.int .i64 vn,.string ⟨vs.toArray⟩,.string ⟨nm.toArray⟩,.slice ka kids.length kc,.int .i64 ln,.int .i64 cl] 43);have hb1:Below w.heap.size w W1:=by rw[←hW1];exact((Aq _ w).alloc (Ak _) _).drew
 rw[hW1] at hp1;obtain⟨n0,_,_,_,_,_,_,_,_⟩:=Bp hp1;have ho:=fun V=>Ax (Ju op hop0 V)
 unfold E6 at ho;have hf0:=fun u v V=>D2 u v V
 have hf1:=fun u v V=>Dk u v V
 obtain⟨f1,f2,f3,f4⟩:=hf;simp only at f1 f2 f3 f4;subst hop;have hz:D5 ⟨1,(vk,vn,vs),nm,ln,cl⟩ kids.length (Dl l ts kids)=Cy vk vn vs:=by unfold D5;rw[Ap rfl]
 rw[hz];have HT:=fun V (hV:Below w.heap.size w V)=>Ax (Ra ⟨vk,vn,⟨vs.toArray⟩⟩ V ⟨by show vs.toArray.size<=_;simp;omega,f1,f2⟩ (hR.below hV))
 have HP1:=Ax hp1;have HB1:=Ax hb1;clear h hx hR hp1 hb1 hz;go_enter Tryz.func92,Tryz.ntmps92;go_wp2_with fail
 go_region_held3 (fun V=>V.cell? ⟨w.heap.size,0,none⟩=some (.int .u8 1)) (go_keep)
  (first
   |(go_at_call 62;(with_reducible refine(ho _).out.mono ?_);rintro e V2 ⟨rfl,hb2⟩;have hc2:=A6 hb2 n0;have hB2:=Ax hb2;clear hb2)
   |(go_at_call 62;(with_reducible refine(ho _).out.mono ?_);rintro e V3 ⟨rfl,hb3⟩;have hc3:=A6 hb3 hc2;have HB3:=Ax (hB2.out.trans (hb3.mono hB2.out.size));clear hb3))
 obtain⟨m0,m1,m2,m3,m4,m5,m6,m7,_⟩:=Bp ((HB3.out.block _ (Ay HP1.out)).trans HP1.out);have HV3:=HB1.out.trans (HB3.out.mono HB1.out.size);have HT3:=HT _ HV3;have HBV:=Ax HV3;clear HT HB1 hB2 HV3;go_wp2_with fail;refine HT3.out.mono ?_;rintro e V4 ⟨rfl,hb4⟩;have HB4:=Ax (HBV.out.trans (hb4.mono HBV.out.size));clear hb4 HT3;go_wp2_with fail;go_ret;exact⟨rfl,HB4.out⟩
theorem gH {w:World}{b tb:Nat}{tv:Value}{l:List Nz}{ts:List (List UInt8)}{x:Nz}(h:Nl w b tv tb l ts)(hx:l[ts.length]? =some x)(hf:Kt x.h)(hop:x.h.op=2):
 Calls Tryz.prog 92 #[.pointer (some ⟨b,0,none⟩),.int .i64 (ts.length:Int)] w fun e w'=>e= .returned (.string ⟨(D5 x.h x.kids.length (Dl l ts x.kids)).toArray⟩)/\Below w.heap.size w w':=by
 obtain⟨hi,_⟩:=List.getElem?_eq_some_iff.1 hx;obtain⟨tr,off,tc,rfl⟩:=h.tree.some nU;obtain⟨kv,hn,hki⟩:=h.tree.get hx;obtain⟨hkl,ka,kc,rfl,_⟩:=hki;obtain⟨⟨op,⟨vk,vn,vs⟩,nm,ln,cl⟩,kids⟩:=x;obtain⟨x0,x1,x2,x3,x4,x5,x6,x7⟩:=hn;simp only at x0 x1 x2 x3 x4 x5 x6 x7 hkl hop;have c0:=h.c0;have hlm:=h.tree.1;have hop0:0<=op:=h.ops _ (List.mem_of_getElem? hx);have i0:(0:Int)<=(ts.length:Int):=by omega
 have i1:(ts.length:Int)<(l.length:Int):=by omega
 have hbx:=B1 x0;obtain⟨W1,hW1⟩:∃W1,(w.alloc (.cells #[.int .u8 op,.int .u8 vk,.int .i64 vn,.string ⟨vs.toArray⟩,.string ⟨nm.toArray⟩,.slice ka kids.length kc,.int .i64 ln,.int .i64 cl] 43)).drew=W1:=⟨_,rfl⟩;have hp1:(w.alloc (.cells #[.int .u8 op,.int .u8 vk,.int .i64 vn,.string ⟨vs.toArray⟩,.string ⟨nm.toArray⟩,.slice ka kids.length kc,.int .i64 ln,.int .i64 cl] 43)).drew.heap[w.heap.size]? =some (.cells #[.int .u8 op,.int .u8 vk,.int .i64 vn,.string ⟨vs.toArray⟩,.string ⟨nm.toArray⟩,.slice ka kids.length kc,.int .i64 ln,.int .i64 cl] 43 (0,0)):=A0 w (.cells #[.int .u8 op,.int .u8 vk,.int .i64 vn,.string ⟨vs.toArray⟩,.string ⟨nm.toArray⟩,.slice ka kids.length kc,.int .i64 ln,.int .i64 cl] 43);have hb1:Below w.heap.size w W1:=by rw[←hW1];exact((Aq _ w).alloc (Ak _) _).drew
 rw[hW1] at hp1;obtain⟨n0,_,_,_,_,_,_,_,_⟩:=Bp hp1;have ho:=fun V=>Ax (Ju op hop0 V)
 unfold E6 at ho;have hf0:=fun u v V=>D2 u v V
 have hf1:=fun u v V=>Dk u v V
 obtain⟨_,_,_,f4⟩:=hf;simp only at f4;subst hop;have hz:D5 ⟨2,(vk,vn,vs),nm,ln,cl⟩ kids.length (Dl l ts kids)=63::nm:=by unfold D5;rw[Ao (by show ¬(2:Int)=1;decide),Ap rfl]
 rw[hz,show(⟨(63::nm).toArray⟩:ByteArray)=⟨#[63]⟩++⟨nm.toArray⟩ from(Ye [63] nm).symm];have HP1:=Ax hp1;have HB1:=Ax hb1;clear h hx hp1 hb1 hz;go_enter Tryz.func92,Tryz.ntmps92;go_wp2_with fail
 go_region_held3 (fun V=>V.cell? ⟨w.heap.size,0,none⟩=some (.int .u8 2)) (go_keep)
  (first
   |(go_at_call 62;(with_reducible refine(ho _).out.mono ?_);rintro e V2 ⟨rfl,hb2⟩;have hc2:=A6 hb2 n0;have hB2:=Ax hb2;clear hb2)
   |(go_at_call 62;(with_reducible refine(ho _).out.mono ?_);rintro e V3 ⟨rfl,hb3⟩;have hc3:=A6 hb3 hc2;have HB3:=Ax (hB2.out.trans (hb3.mono hB2.out.size));clear hb3))
 exact zxw
theorem cE {w:World}{b tb:Nat}{tv:Value}{l:List Nz}{ts:List (List UInt8)}{x:Nz}(h:Nl w b tv tb l ts)(hx:l[ts.length]? =some x)(hop:x.h.op=3):
 Calls Tryz.prog 92 #[.pointer (some ⟨b,0,none⟩),.int .i64 (ts.length:Int)] w fun e w'=>e= .returned (.string ⟨(D5 x.h x.kids.length (Dl l ts x.kids)).toArray⟩)/\Below w.heap.size w w':=by
 obtain⟨hi,_⟩:=List.getElem?_eq_some_iff.1 hx;obtain⟨tr,off,tc,rfl⟩:=h.tree.some nU;obtain⟨kv,hn,hki⟩:=h.tree.get hx;obtain⟨hkl,ka,kc,rfl,_⟩:=hki;obtain⟨⟨op,⟨vk,vn,vs⟩,nm,ln,cl⟩,kids⟩:=x;obtain⟨x0,x1,x2,x3,x4,x5,x6,x7⟩:=hn;simp only at x0 x1 x2 x3 x4 x5 x6 x7 hkl hop;have c0:=h.c0;have hlm:=h.tree.1;have hop0:0<=op:=h.ops _ (List.mem_of_getElem? hx);have i0:(0:Int)<=(ts.length:Int):=by omega
 have i1:(ts.length:Int)<(l.length:Int):=by omega
 have hbx:=B1 x0;obtain⟨W1,hW1⟩:∃W1,(w.alloc (.cells #[.int .u8 op,.int .u8 vk,.int .i64 vn,.string ⟨vs.toArray⟩,.string ⟨nm.toArray⟩,.slice ka kids.length kc,.int .i64 ln,.int .i64 cl] 43)).drew=W1:=⟨_,rfl⟩;have hp1:(w.alloc (.cells #[.int .u8 op,.int .u8 vk,.int .i64 vn,.string ⟨vs.toArray⟩,.string ⟨nm.toArray⟩,.slice ka kids.length kc,.int .i64 ln,.int .i64 cl] 43)).drew.heap[w.heap.size]? =some (.cells #[.int .u8 op,.int .u8 vk,.int .i64 vn,.string ⟨vs.toArray⟩,.string ⟨nm.toArray⟩,.slice ka kids.length kc,.int .i64 ln,.int .i64 cl] 43 (0,0)):=A0 w (.cells #[.int .u8 op,.int .u8 vk,.int .i64 vn,.string ⟨vs.toArray⟩,.string ⟨nm.toArray⟩,.slice ka kids.length kc,.int .i64 ln,.int .i64 cl] 43);have hb1:Below w.heap.size w W1:=by rw[←hW1];exact((Aq _ w).alloc (Ak _) _).drew
 rw[hW1] at hp1;obtain⟨n0,_,_,_,_,_,_,_,_⟩:=Bp hp1;have ho:=fun V=>Ax (Ju op hop0 V)
 unfold E6 at ho;have hf0:=fun u v V=>D2 u v V
 have hf1:=fun u v V=>Dk u v V
 subst hop;have hz:D5 ⟨3,(vk,vn,vs),nm,ln,cl⟩ kids.length (Dl l ts kids)=[63]:=by unfold D5;rw[Ao (by show ¬(3:Int)=1;decide),Ao (by show ¬(3:Int)=2;decide),Ap rfl]
 rw[hz];have HP1:=Ax hp1;have HB1:=Ax hb1;clear h hx hp1 hb1 hz;go_enter Tryz.func92,Tryz.ntmps92;go_wp2_with fail
 go_region_held3 (fun V=>V.cell? ⟨w.heap.size,0,none⟩=some (.int .u8 3)) (go_keep)
  (first
   |(go_at_call 62;(with_reducible refine(ho _).out.mono ?_);rintro e V2 ⟨rfl,hb2⟩;have hc2:=A6 hb2 n0;have hB2:=Ax hb2;clear hb2)
   |(go_at_call 62;(with_reducible refine(ho _).out.mono ?_);rintro e V3 ⟨rfl,hb3⟩;have hc3:=A6 hb3 hc2;have HB3:=Ax (hB2.out.trans (hb3.mono hB2.out.size));clear hb3))
 exact zxw
theorem bT {w:World}{b tb:Nat}{tv:Value}{l:List Nz}{ts:List (List UInt8)}{x:Nz}(h:Nl w b tv tb l ts)(hx:l[ts.length]? =some x)(ho1:x.h.op≠1)(ho2:x.h.op≠2)(ho3:x.h.op≠3)(hLV:Bc x.h.op=2):
 Calls Tryz.prog 92 #[.pointer (some ⟨b,0,none⟩),.int .i64 (ts.length:Int)] w fun e w'=>e= .returned (.string ⟨(D5 x.h x.kids.length (Dl l ts x.kids)).toArray⟩)/\Below w.heap.size w w':=by
 obtain⟨hi,_⟩:=List.getElem?_eq_some_iff.1 hx;obtain⟨tr,off,tc,rfl⟩:=h.tree.some nU;obtain⟨kv,hn,hki⟩:=h.tree.get hx;obtain⟨hkl,ka,kc,rfl,_⟩:=hki;obtain⟨⟨op,⟨vk,vn,vs⟩,nm,ln,cl⟩,kids⟩:=x;obtain⟨x0,x1,x2,x3,x4,x5,x6,x7⟩:=hn;simp only at x0 x1 x2 x3 x4 x5 x6 x7 hkl ho1 ho2 ho3 hLV;have c0:=h.c0;have hlm:=h.tree.1;have hop0:0<=op:=h.ops _ (List.mem_of_getElem? hx);have i0:(0:Int)<=(ts.length:Int):=by omega
 have i1:(ts.length:Int)<(l.length:Int):=by omega
 have hbx:=B1 x0;obtain⟨W1,hW1⟩:∃W1,(w.alloc (.cells #[.int .u8 op,.int .u8 vk,.int .i64 vn,.string ⟨vs.toArray⟩,.string ⟨nm.toArray⟩,.slice ka kids.length kc,.int .i64 ln,.int .i64 cl] 43)).drew=W1:=⟨_,rfl⟩;have hp1:(w.alloc (.cells #[.int .u8 op,.int .u8 vk,.int .i64 vn,.string ⟨vs.toArray⟩,.string ⟨nm.toArray⟩,.slice ka kids.length kc,.int .i64 ln,.int .i64 cl] 43)).drew.heap[w.heap.size]? =some (.cells #[.int .u8 op,.int .u8 vk,.int .i64 vn,.string ⟨vs.toArray⟩,.string ⟨nm.toArray⟩,.slice ka kids.length kc,.int .i64 ln,.int .i64 cl] 43 (0,0)):=A0 w (.cells #[.int .u8 op,.int .u8 vk,.int .i64 vn,.string ⟨vs.toArray⟩,.string ⟨nm.toArray⟩,.slice ka kids.length kc,.int .i64 ln,.int .i64 cl] 43);have hb1:Below w.heap.size w W1:=by rw[←hW1];exact((Aq _ w).alloc (Ak _) _).drew
 rw[hW1] at hp1;obtain⟨n0,_,_,_,_,_,_,_,_⟩:=Bp hp1;have ho:=fun V=>Ax (Ju op hop0 V)
 unfold E6 at ho;have hf0:=fun u v V=>D2 u v V
 have hf1:=fun u v V=>Dk u v V
 have o1:(op==1)=false:=by simpa using ho1
 have o2:(op==2)=false:=by simpa using ho2
 have o3:(op==3)=false:=by simpa using ho3
 obtain⟨hwl,hll⟩:=Ko op;obtain⟨lv,hlv⟩:∃lv,Bc op=lv:=⟨_,rfl⟩;obtain⟨wd,hwd⟩:∃wd,D0 op=wd:=⟨_,rfl⟩;have hK:=fun k least V (hV:Below w.heap.size w V) (hk:k<=1000000)=>Ax (My (h.below hV) hx k least hk)
 simp only at hK;have hKL:=fun k least=>Kk (l:=l) h.short kids k least
 simp only[hlv,hwd] at ho hwl hll hLV
 have hz:D5 ⟨op,(vk,vn,vs),nm,ln,cl⟩ kids.length (Dl l ts kids)=wd++Dl l ts kids 0 lv:=by
  unfold D5;simp only[hlv,hwd];rw[Ao ho1,Ao ho2,Ao ho3,Ao nU,Ap nU]
 rw[hz];subst hLV;have HK0:∀V,Below w.heap.size w V->Hid (Calls Tryz.prog 168 #[.pointer (some ⟨b,0,none⟩),.int .i64 (ts.length:Int),.int .i64 0,.int .i64 2] V fun e w'=>e= .returned (.string ⟨(Dl l ts kids 0 (2)).toArray⟩)/\Below V.heap.size V w'):=fun V hV=>hK 0 (2) V hV nV
 have hl0:=hKL 0 (2);obtain⟨K0,hK0⟩:∃K',Dl l ts kids 0 (2)=K':=⟨_,rfl⟩;exact zzk
theorem bP {w:World}{b tb:Nat}{tv:Value}{l:List Nz}{ts:List (List UInt8)}{x:Nz}(h:Nl w b tv tb l ts)(hx:l[ts.length]? =some x)(ho1:x.h.op≠1)(ho2:x.h.op≠2)(ho3:x.h.op≠3)(hLV:Bc x.h.op=6):
 Calls Tryz.prog 92 #[.pointer (some ⟨b,0,none⟩),.int .i64 (ts.length:Int)] w fun e w'=>e= .returned (.string ⟨(D5 x.h x.kids.length (Dl l ts x.kids)).toArray⟩)/\Below w.heap.size w w':=by
 obtain⟨hi,_⟩:=List.getElem?_eq_some_iff.1 hx;obtain⟨tr,off,tc,rfl⟩:=h.tree.some nU;obtain⟨kv,hn,hki⟩:=h.tree.get hx;obtain⟨hkl,ka,kc,rfl,_⟩:=hki;obtain⟨⟨op,⟨vk,vn,vs⟩,nm,ln,cl⟩,kids⟩:=x;obtain⟨x0,x1,x2,x3,x4,x5,x6,x7⟩:=hn;simp only at x0 x1 x2 x3 x4 x5 x6 x7 hkl ho1 ho2 ho3 hLV;have c0:=h.c0;have hlm:=h.tree.1;have hop0:0<=op:=h.ops _ (List.mem_of_getElem? hx);have i0:(0:Int)<=(ts.length:Int):=by omega
 have i1:(ts.length:Int)<(l.length:Int):=by omega
 have hbx:=B1 x0;obtain⟨W1,hW1⟩:∃W1,(w.alloc (.cells #[.int .u8 op,.int .u8 vk,.int .i64 vn,.string ⟨vs.toArray⟩,.string ⟨nm.toArray⟩,.slice ka kids.length kc,.int .i64 ln,.int .i64 cl] 43)).drew=W1:=⟨_,rfl⟩;have hp1:(w.alloc (.cells #[.int .u8 op,.int .u8 vk,.int .i64 vn,.string ⟨vs.toArray⟩,.string ⟨nm.toArray⟩,.slice ka kids.length kc,.int .i64 ln,.int .i64 cl] 43)).drew.heap[w.heap.size]? =some (.cells #[.int .u8 op,.int .u8 vk,.int .i64 vn,.string ⟨vs.toArray⟩,.string ⟨nm.toArray⟩,.slice ka kids.length kc,.int .i64 ln,.int .i64 cl] 43 (0,0)):=A0 w (.cells #[.int .u8 op,.int .u8 vk,.int .i64 vn,.string ⟨vs.toArray⟩,.string ⟨nm.toArray⟩,.slice ka kids.length kc,.int .i64 ln,.int .i64 cl] 43);have hb1:Below w.heap.size w W1:=by rw[←hW1];exact((Aq _ w).alloc (Ak _) _).drew
 rw[hW1] at hp1;obtain⟨n0,_,_,_,_,_,_,_,_⟩:=Bp hp1;have ho:=fun V=>Ax (Ju op hop0 V)
 unfold E6 at ho;have hf0:=fun u v V=>D2 u v V
 have hf1:=fun u v V=>Dk u v V
 have o1:(op==1)=false:=by simpa using ho1
 have o2:(op==2)=false:=by simpa using ho2
 have o3:(op==3)=false:=by simpa using ho3
 obtain⟨hwl,hll⟩:=Ko op;obtain⟨lv,hlv⟩:∃lv,Bc op=lv:=⟨_,rfl⟩;obtain⟨wd,hwd⟩:∃wd,D0 op=wd:=⟨_,rfl⟩;have hK:=fun k least V (hV:Below w.heap.size w V) (hk:k<=1000000)=>Ax (My (h.below hV) hx k least hk)
 simp only at hK;have hKL:=fun k least=>Kk (l:=l) h.short kids k least
 simp only[hlv,hwd] at ho hwl hll hLV
 have hz:D5 ⟨op,(vk,vn,vs),nm,ln,cl⟩ kids.length (Dl l ts kids)=wd++Dl l ts kids 0 lv:=by
  unfold D5;simp only[hlv,hwd];rw[Ao ho1,Ao ho2,Ao ho3,Ao nU,Ap nU]
 rw[hz];subst hLV;have HK0:∀V,Below w.heap.size w V->Hid (Calls Tryz.prog 168 #[.pointer (some ⟨b,0,none⟩),.int .i64 (ts.length:Int),.int .i64 0,.int .i64 6] V fun e w'=>e= .returned (.string ⟨(Dl l ts kids 0 (6)).toArray⟩)/\Below V.heap.size V w'):=fun V hV=>hK 0 (6) V hV nV
 have hl0:=hKL 0 (6);obtain⟨K0,hK0⟩:∃K',Dl l ts kids 0 (6)=K':=⟨_,rfl⟩;exact zzk
theorem fS {w:World}{b tb:Nat}{tv:Value}{l:List Nz}{ts:List (List UInt8)}{x:Nz}(h:Nl w b tv tb l ts)(hx:l[ts.length]? =some x)(ho1:x.h.op≠1)(ho2:x.h.op≠2)(ho3:x.h.op≠3)(hLV:Bc x.h.op=3):
 Calls Tryz.prog 92 #[.pointer (some ⟨b,0,none⟩),.int .i64 (ts.length:Int)] w fun e w'=>e= .returned (.string ⟨(D5 x.h x.kids.length (Dl l ts x.kids)).toArray⟩)/\Below w.heap.size w w':=by
 obtain⟨hi,_⟩:=List.getElem?_eq_some_iff.1 hx;obtain⟨tr,off,tc,rfl⟩:=h.tree.some nU;obtain⟨kv,hn,hki⟩:=h.tree.get hx;obtain⟨hkl,ka,kc,rfl,_⟩:=hki;obtain⟨⟨op,⟨vk,vn,vs⟩,nm,ln,cl⟩,kids⟩:=x;obtain⟨x0,x1,x2,x3,x4,x5,x6,x7⟩:=hn;simp only at x0 x1 x2 x3 x4 x5 x6 x7 hkl ho1 ho2 ho3 hLV;have c0:=h.c0;have hlm:=h.tree.1;have hop0:0<=op:=h.ops _ (List.mem_of_getElem? hx);have i0:(0:Int)<=(ts.length:Int):=by omega
 have i1:(ts.length:Int)<(l.length:Int):=by omega
 have hbx:=B1 x0;obtain⟨W1,hW1⟩:∃W1,(w.alloc (.cells #[.int .u8 op,.int .u8 vk,.int .i64 vn,.string ⟨vs.toArray⟩,.string ⟨nm.toArray⟩,.slice ka kids.length kc,.int .i64 ln,.int .i64 cl] 43)).drew=W1:=⟨_,rfl⟩;have hp1:(w.alloc (.cells #[.int .u8 op,.int .u8 vk,.int .i64 vn,.string ⟨vs.toArray⟩,.string ⟨nm.toArray⟩,.slice ka kids.length kc,.int .i64 ln,.int .i64 cl] 43)).drew.heap[w.heap.size]? =some (.cells #[.int .u8 op,.int .u8 vk,.int .i64 vn,.string ⟨vs.toArray⟩,.string ⟨nm.toArray⟩,.slice ka kids.length kc,.int .i64 ln,.int .i64 cl] 43 (0,0)):=A0 w (.cells #[.int .u8 op,.int .u8 vk,.int .i64 vn,.string ⟨vs.toArray⟩,.string ⟨nm.toArray⟩,.slice ka kids.length kc,.int .i64 ln,.int .i64 cl] 43);have hb1:Below w.heap.size w W1:=by rw[←hW1];exact((Aq _ w).alloc (Ak _) _).drew
 rw[hW1] at hp1;obtain⟨n0,_,_,_,_,_,_,_,_⟩:=Bp hp1;have ho:=fun V=>Ax (Ju op hop0 V)
 unfold E6 at ho;have hf0:=fun u v V=>D2 u v V
 have hf1:=fun u v V=>Dk u v V
 have o1:(op==1)=false:=by simpa using ho1
 have o2:(op==2)=false:=by simpa using ho2
 have o3:(op==3)=false:=by simpa using ho3
 obtain⟨hwl,hll⟩:=Ko op;obtain⟨lv,hlv⟩:∃lv,Bc op=lv:=⟨_,rfl⟩;obtain⟨wd,hwd⟩:∃wd,D0 op=wd:=⟨_,rfl⟩;have hK:=fun k least V (hV:Below w.heap.size w V) (hk:k<=1000000)=>Ax (My (h.below hV) hx k least hk)
 simp only at hK;have hKL:=fun k least=>Kk (l:=l) h.short kids k least
 simp only[hlv,hwd] at ho hwl hll hLV
 have hz:D5 ⟨op,(vk,vn,vs),nm,ln,cl⟩ kids.length (Dl l ts kids)=Dl l ts kids 0 4++32::(wd++32::Dl l ts kids 1 4):=by
  unfold D5;simp only[hlv,hwd];rw[Ao ho1,Ao ho2,Ao ho3,Ao nU,Ao nU,Ap nU]
 rw[hz];subst hLV;have HK0:∀V,Below w.heap.size w V->Hid (Calls Tryz.prog 168 #[.pointer (some ⟨b,0,none⟩),.int .i64 (ts.length:Int),.int .i64 0,.int .i64 4] V fun e w'=>e= .returned (.string ⟨(Dl l ts kids 0 (4)).toArray⟩)/\Below V.heap.size V w'):=fun V hV=>hK 0 (4) V hV nV
 have hl0:=hKL 0 (4);obtain⟨K0,hK0⟩:∃K',Dl l ts kids 0 (4)=K':=⟨_,rfl⟩;rw[hK0] at hl0 ⊢;simp only[hK0] at HK0;have HK1:∀V,Below w.heap.size w V->Hid (Calls Tryz.prog 168 #[.pointer (some ⟨b,0,none⟩),.int .i64 (ts.length:Int),.int .i64 1,.int .i64 4] V fun e w'=>e= .returned (.string ⟨(Dl l ts kids 1 (4)).toArray⟩)/\Below V.heap.size V w'):=fun V hV=>hK 1 (4) V hV nV
 have hl1:=hKL 1 (4);obtain⟨K1,hK1⟩:∃K',Dl l ts kids 1 (4)=K':=⟨_,rfl⟩;rw[hK1] at hl1 ⊢;simp only[hK1] at HK1;rw[fB];have HP1:=Ax hp1;have HB1:=Ax hb1;have Hlv:=Ax hlv;have Hwd:=Ax hwd;clear h hx hp1 hb1 hz hK hKL hlv hwd hK0 hK1 ho1 ho2 ho3;exact zzi
theorem gW {w:World}{b tb:Nat}{tv:Value}{l:List Nz}{ts:List (List UInt8)}{x:Nz}(h:Nl w b tv tb l ts)(hx:l[ts.length]? =some x)(ho1:x.h.op≠1)(ho2:x.h.op≠2)(ho3:x.h.op≠3)(hLV:Bc x.h.op≠8/\Bc x.h.op≠2/\Bc x.h.op≠6/\Bc x.h.op≠3):
 Calls Tryz.prog 92 #[.pointer (some ⟨b,0,none⟩),.int .i64 (ts.length:Int)] w fun e w'=>e= .returned (.string ⟨(D5 x.h x.kids.length (Dl l ts x.kids)).toArray⟩)/\Below w.heap.size w w':=by
 obtain⟨hi,_⟩:=List.getElem?_eq_some_iff.1 hx;obtain⟨tr,off,tc,rfl⟩:=h.tree.some nU;obtain⟨kv,hn,hki⟩:=h.tree.get hx;obtain⟨hkl,ka,kc,rfl,_⟩:=hki;obtain⟨⟨op,⟨vk,vn,vs⟩,nm,ln,cl⟩,kids⟩:=x;obtain⟨x0,x1,x2,x3,x4,x5,x6,x7⟩:=hn;simp only at x0 x1 x2 x3 x4 x5 x6 x7 hkl ho1 ho2 ho3 hLV;have c0:=h.c0;have hlm:=h.tree.1;have hop0:0<=op:=h.ops _ (List.mem_of_getElem? hx);have i0:(0:Int)<=(ts.length:Int):=by omega
 have i1:(ts.length:Int)<(l.length:Int):=by omega
 have hbx:=B1 x0;obtain⟨W1,hW1⟩:∃W1,(w.alloc (.cells #[.int .u8 op,.int .u8 vk,.int .i64 vn,.string ⟨vs.toArray⟩,.string ⟨nm.toArray⟩,.slice ka kids.length kc,.int .i64 ln,.int .i64 cl] 43)).drew=W1:=⟨_,rfl⟩;have hp1:(w.alloc (.cells #[.int .u8 op,.int .u8 vk,.int .i64 vn,.string ⟨vs.toArray⟩,.string ⟨nm.toArray⟩,.slice ka kids.length kc,.int .i64 ln,.int .i64 cl] 43)).drew.heap[w.heap.size]? =some (.cells #[.int .u8 op,.int .u8 vk,.int .i64 vn,.string ⟨vs.toArray⟩,.string ⟨nm.toArray⟩,.slice ka kids.length kc,.int .i64 ln,.int .i64 cl] 43 (0,0)):=A0 w (.cells #[.int .u8 op,.int .u8 vk,.int .i64 vn,.string ⟨vs.toArray⟩,.string ⟨nm.toArray⟩,.slice ka kids.length kc,.int .i64 ln,.int .i64 cl] 43);have hb1:Below w.heap.size w W1:=by rw[←hW1];exact((Aq _ w).alloc (Ak _) _).drew
 rw[hW1] at hp1;obtain⟨n0,_,_,_,_,_,_,_,_⟩:=Bp hp1;have ho:=fun V=>Ax (Ju op hop0 V)
 unfold E6 at ho;have hf0:=fun u v V=>D2 u v V
 have hf1:=fun u v V=>Dk u v V
 have o1:(op==1)=false:=by simpa using ho1
 have o2:(op==2)=false:=by simpa using ho2
 have o3:(op==3)=false:=by simpa using ho3
 obtain⟨hwl,hll⟩:=Ko op;obtain⟨lv,hlv⟩:∃lv,Bc op=lv:=⟨_,rfl⟩;obtain⟨wd,hwd⟩:∃wd,D0 op=wd:=⟨_,rfl⟩;have hK:=fun k least V (hV:Below w.heap.size w V) (hk:k<=1000000)=>Ax (My (h.below hV) hx k least hk)
 simp only at hK;have hKL:=fun k least=>Kk (l:=l) h.short kids k least
 simp only[hlv,hwd] at ho hwl hll hLV
 have hz:D5 ⟨op,(vk,vn,vs),nm,ln,cl⟩ kids.length (Dl l ts kids)=Dl l ts kids 0 lv++32::(wd++32::Dl l ts kids 1 (lv+1)):=by
  unfold D5;simp only[hlv,hwd];rw[Ao ho1,Ao ho2,Ao ho3,Ao hLV.1,Ao nU,Ao hLV.2.2.2]
 rw[hz];have l0:((lv:Int)==8)=false:=by simp;omega
 have l1:((lv:Int)==2)=false:=by simp;omega
 have l2:((lv:Int)==6)=false:=by simp;omega
 have l3:((lv:Int)==3)=false:=by simp;omega
 have l4:((lv+1:Nat):Int)=(lv:Int)+1:=by omega
 have HK0:∀V,Below w.heap.size w V->Hid (Calls Tryz.prog 168 #[.pointer (some ⟨b,0,none⟩),.int .i64 (ts.length:Int),.int .i64 0,.int .i64 ((lv:Int))] V fun e w'=>e= .returned (.string ⟨(Dl l ts kids 0 (lv)).toArray⟩)/\Below V.heap.size V w'):=fun V hV=>hK 0 (lv) V hV nV
 have hl0:=hKL 0 (lv);obtain⟨K0,hK0⟩:∃K',Dl l ts kids 0 (lv)=K':=⟨_,rfl⟩;rw[hK0] at hl0 ⊢;simp only[hK0] at HK0;have HK1:∀V,Below w.heap.size w V->Hid (Calls Tryz.prog 168 #[.pointer (some ⟨b,0,none⟩),.int .i64 (ts.length:Int),.int .i64 1,.int .i64 ((lv:Int)+1)] V fun e w'=>e= .returned (.string ⟨(Dl l ts kids 1 (lv+1)).toArray⟩)/\Below V.heap.size V w'):=fun V hV=>hK 1 (lv+1) V hV nV
 have hl1:=hKL 1 (lv+1);obtain⟨K1,hK1⟩:∃K',Dl l ts kids 1 (lv+1)=K':=⟨_,rfl⟩;rw[hK1] at hl1 ⊢;simp only[hK1] at HK1;rw[fB];have HP1:=Ax hp1;have HB1:=Ax hb1;have Hlv:=Ax hlv;have Hwd:=Ax hwd;clear h hx hp1 hb1 hz hK hKL hlv hwd hK0 hK1 ho1 ho2 ho3 hLV;exact zzi
theorem lA:(Tryz.prog.info? 9).map (fun i=>(i.zero,i.size,i.bytes))=some (some (.string ⟨#[]⟩),1,16):=by kernel_rfl
theorem Jh:∃i,Tryz.prog.info? 9=some i/\i.zero=some (.string ⟨#[]⟩)/\i.size=1/\i.bytes=16:=by
 have h:=lA;cases hi:Tryz.prog.info? 9 with
 |none=>simp [hi] at h
 |some i=>
  exact zyc
def Jp (l:List (List UInt8)):List Value:=l.map fun t=>Value.string ⟨t.toArray⟩
theorem S8 (l:List (List UInt8))(t:List UInt8):Jp (l++[t])=Jp l++[.string ⟨t.toArray⟩]:=by simp [Jp]
theorem Qs {α:Type}(f:Nat->α)(k:Nat):(List.range (k+1)).map f=(List.range k).map f++[f k]:=by rw[List.range_succ,List.map_append];rfl
theorem jQ (a b:List UInt8):(⟨(a++Ny b).toArray⟩:ByteArray)=⟨a.toArray⟩++⟨#[40]⟩++⟨b.toArray⟩++⟨#[41]⟩:=by
 apply ByteArray.ext;simp [Ny]
theorem bG {w:World}{b tb:Nat}{tv:Value}{l:List Nz}{ts:List (List UInt8)}{x:Nz}(h:Nl w b tv tb l ts)(hx:l[ts.length]? =some x)(ho1:x.h.op≠1)(ho2:x.h.op≠2)(ho3:x.h.op≠3)(hLV:Bc x.h.op=8):
 Calls Tryz.prog 92 #[.pointer (some ⟨b,0,none⟩),.int .i64 (ts.length:Int)] w fun e w'=>e= .returned (.string ⟨(D5 x.h x.kids.length (Dl l ts x.kids)).toArray⟩)/\Below w.heap.size w w':=by
 obtain⟨hi,_⟩:=List.getElem?_eq_some_iff.1 hx;obtain⟨tr,off,tc,rfl⟩:=h.tree.some nU;obtain⟨kv,hn,hki⟩:=h.tree.get hx;obtain⟨hkl,ka,kc,rfl,_⟩:=hki;obtain⟨⟨op,⟨vk,vn,vs⟩,nm,ln,cl⟩,kids⟩:=x;obtain⟨x0,x1,x2,x3,x4,x5,x6,x7⟩:=hn;simp only at x0 x1 x2 x3 x4 x5 x6 x7 hkl ho1 ho2 ho3 hLV;have c0:=h.c0;have hlm:=h.tree.1;have hop0:0<=op:=h.ops _ (List.mem_of_getElem? hx);have i0:(0:Int)<=(ts.length:Int):=by omega
 have i1:(ts.length:Int)<(l.length:Int):=by omega
 have hbx:=B1 x0;obtain⟨W1,hW1⟩:∃W1,(w.alloc (.cells #[.int .u8 op,.int .u8 vk,.int .i64 vn,.string ⟨vs.toArray⟩,.string ⟨nm.toArray⟩,.slice ka kids.length kc,.int .i64 ln,.int .i64 cl] 43)).drew=W1:=⟨_,rfl⟩;have hp1:(w.alloc (.cells #[.int .u8 op,.int .u8 vk,.int .i64 vn,.string ⟨vs.toArray⟩,.string ⟨nm.toArray⟩,.slice ka kids.length kc,.int .i64 ln,.int .i64 cl] 43)).drew.heap[w.heap.size]? =some (.cells #[.int .u8 op,.int .u8 vk,.int .i64 vn,.string ⟨vs.toArray⟩,.string ⟨nm.toArray⟩,.slice ka kids.length kc,.int .i64 ln,.int .i64 cl] 43 (0,0)):=A0 w (.cells #[.int .u8 op,.int .u8 vk,.int .i64 vn,.string ⟨vs.toArray⟩,.string ⟨nm.toArray⟩,.slice ka kids.length kc,.int .i64 ln,.int .i64 cl] 43);have hb1:Below w.heap.size w W1:=by rw[←hW1];exact((Aq _ w).alloc (Ak _) _).drew
 rw[hW1] at hp1;obtain⟨n0,_,_,_,_,_,_,_,_⟩:=Bp hp1;have ho:=fun V=>Ax (Ju op hop0 V)
 unfold E6 at ho;have hf0:=fun u v V=>D2 u v V
 have hf1:=fun u v V=>Dk u v V
 have o1:(op==1)=false:=by simpa using ho1
 have o2:(op==2)=false:=by simpa using ho2
 have o3:(op==3)=false:=by simpa using ho3
 obtain⟨hwl,hll⟩:=Ko op;obtain⟨lv,hlv⟩:∃lv,Bc op=lv:=⟨_,rfl⟩;obtain⟨wd,hwd⟩:∃wd,D0 op=wd:=⟨_,rfl⟩;have hK:=fun k least V (hV:Below w.heap.size w V) (hk:k<=1000000)=>Ax (My (h.below hV) hx k least hk)
 simp only at hK;have hKL:=fun k least=>Kk (l:=l) h.short kids k least
 simp only[hlv,hwd] at ho hwl hll hLV
 have hz:D5 ⟨op,(vk,vn,vs),nm,ln,cl⟩ kids.length (Dl l ts kids)=wd++Ny (I6 [44,32] ((List.range kids.length).map fun k=>Dl l ts kids k 0)):=by
  unfold D5;simp only[hlv,hwd];rw[Ao ho1,Ao ho2,Ao ho3,Ap nU]
 rw[hz];subst hLV;obtain⟨F,hF⟩:∃F:Nat->List UInt8,F=fun k=>Dl l ts kids k 0:=⟨_,rfl⟩
 have HK:∀(k:Nat) V,k<=1000000->Below w.heap.size w V->Hid (Calls Tryz.prog 168 #[.pointer (some ⟨b,0,none⟩),.int .i64 (ts.length:Int),.int .i64 (k:Int),.int .i64 0] V fun e w'=>e= .returned (.string ⟨(F k).toArray⟩)/\Below V.heap.size V w'):=fun k V hk hV=>by rw[hF];exact hK k 0 V hV hk
 have hFl:∀k,(F k).length<=65538:=fun k=>by rw[hF];exact hKL k 0
 rw[show(fun k=>Dl l ts kids k 0)=F from hF.symm,jQ]
 have hJl:=Sz ((List.range kids.length).map F) fun t ht=>by
  obtain⟨k,_,rfl⟩:=List.mem_map.1 ht;exact hFl k
 rw[List.length_map,List.length_range] at hJl;obtain⟨J,hJ⟩:∃J,I6 [44,32] ((List.range kids.length).map F)=J:=⟨_,rfl⟩;rw[hJ] at hJl ⊢;have hJb:J.length<=70000000000:=by omega
 have HJ:=Ax hJ;have HFl:=Ax hFl;have HP1:=Ax hp1;have HB1:=Ax hb1;have Hlv:=Ax hlv;have Hwd:=Ax hwd;clear h hx hp1 hb1 hz hK hKL hlv hwd ho1 ho2 ho3 hF hJ hJl hFl;go_enter Tryz.func92,Tryz.ntmps92;go_wp2_with fail
 go_region_held3 (fun V=>V.cell? ⟨w.heap.size,0,none⟩=some (.int .u8 op)) (go_keep)
  (first
   |(go_at_call 62;(with_reducible refine(ho _).out.mono ?_);rintro e V2 ⟨rfl,hb2⟩;have hc2:=A6 hb2 n0;have hB2:=Ax hb2;clear hb2)
   |(go_at_call 62;(with_reducible refine(ho _).out.mono ?_);rintro e V3 ⟨rfl,hb3⟩;have hc3:=A6 hb3 hc2;have HB3:=Ax (hB2.out.trans (hb3.mono hB2.out.size));clear hb3))
 obtain⟨m0,m1,m2,m3,m4,m5,m6,m7,_⟩:=Bp ((HB3.out.block _ (Ay HP1.out)).trans HP1.out);have hBV0:=HB1.out.trans (HB3.out.mono HB1.out.size);have HL:Hid (V3.ownsRow w.heap.size 9 1 (.slice none 0 0) 0 (Jp ((List.range 0).map F))/\Below w.heap.size w V3):=Ax ⟨World.ownsRow_nil _ _ _ _,hBV0⟩;clear HB1 hB2 hBV0;go_wp2_with fail
 go_loopw [8,63] (fun v8 v63 wr=>∃(k:Nat) (sa:Option Addr) (sc:Nat),k<=kids.length/\v63= .int .i64 k/\v8= .slice sa k sc/\Hid (wr.ownsRow w.heap.size 9 1 (.slice sa k sc) k (Jp ((List.range k).map F))/\Below w.heap.size w wr)) (fun _ v63 _=>kids.length - (intOf v63).toNat)
 case atStart=>exact⟨0,none,0,Nat.zero_le _,rfl,rfl,HL⟩
 obtain⟨k,sa,sc,hk,rfl,rfl,hq⟩:=hrel;obtain⟨hrow,hB⟩:=hq.out;clear m0 m1 m2 m3 m4 m5 m6 m7;by_cases hkl2:k<kids.length
 ·have HKk:=HK k wr nU hB;have hfl:=HFl.out k;have hms:=Qs F k;obtain⟨t,ht⟩:∃t,F k=t:=⟨_,rfl⟩;simp only[ht] at HKk;rw[ht] at hfl hms;have e3:(0:Int)<=(k:Int):=by omega
  have e9:decide ((k:Int)<(kids.length:Int))=true:=Am nU;have Hms:=Ax hms;have Hrow:=Ax hrow;have HB:=Ax hB;obtain⟨i0',hi0,hz0,hz1,hz2⟩:=Jh;have Hi0:=Ax hi0;have Hy0:=Ax hz0;have Hy1:=Ax hz1;have Hy2:=Ax hz2;clear hq hrow hB ht hms hi0 hz0 hz1 hz2 HL;go_wp2_with fail;refine HKk.out.mono ?_;rintro e V ⟨rfl,hbV⟩;have hrV:=Cc Hrow.out hbV;have hBV:=HB.out.trans (hbV.mono HB.out.size);have Hrow1:=Ax (hrV.alloc (.cells #[.string ⟨t.toArray⟩] 9));have HN1:=Ax (A0 V (.cells #[.string ⟨t.toArray⟩] 9));have HZ:Hid ((V.alloc (.cells #[.string ⟨t.toArray⟩] 9)).heap.size=V.heap.size+1):=Ax nW;have hsr:=hBV.size;have Hown:=Ax (Cf hrV);have HBV:=Ax hBV;clear hbV hrV hBV HKk HB Hrow;go_wp2_with ((refine wpList_append_lies _ rfl (.tmp 66) (.tmp 71) _ rfl w.heap.size 9 i0' (.string ⟨#[]⟩) 1 16 Tryz.underlying39 Hi0.out Hy0.out Hy1.out Hy2.out rfl nV (.slice sa k sc) k (Jp ((List.range k).map F)) rfl Hrow1.out ⟨V.heap.size,0,none⟩ 1 1 [.string ⟨t.toArray⟩] rfl rfl (World.news_of_block (cs:= #[.string ⟨t.toArray⟩]) HN1.out) oH nV oF nU oL (V.heap.size+1) HZ.out ?_;intro g6 cap w6 hown6 hgrow6 hat6 hlt6));have hB6:=Pi (v:= .slice sa k sc) (HBV.out.alloc HBV.out.size (.cells #[.string ⟨t.toArray⟩] 9)) hgrow6 Hown.out oL;rw[←S8,←Hms.out] at hown6;have HR6:Hid (w6.ownsRow w.heap.size 9 1 (.slice (some ⟨g6,0,none⟩) (k+1) cap) (k+1) (Jp ((List.range (k+1)).map F))/\Below w.heap.size w w6):=Ax ⟨hown6,hB6⟩;clear hown6 hgrow6 hat6 hlt6 hB6 Hrow1 HN1 HZ hsr Hown HBV;go_wp2_with fail;go_roundw
  case rel=>exact⟨k+1,some ⟨g6,0,none⟩,cap,by omega,by go_num,rfl,HR6⟩
  case measure=>simp [intOf];omega
 obtain rfl:k=kids.length:=by omega
 have e9:decide ((kids.length:Int)<(kids.length:Int))=false:=by simp
 have hjoin:Calls Tryz.prog 169 #[.slice sa kids.length sc,.string ⟨#[44,32]⟩] wr fun e w'=>e= .returned (.string ⟨J.toArray⟩)/\Below wr.heap.size wr w':=by
  rcases hrow.2 with ⟨e2,h0⟩|⟨g,cap,cur,e2,_,hg,hc,_⟩
  ·rw[h0] at e2 ⊢;have hj0:J=[]:=by rw[←HJ.out,h0];rfl
   rw[hj0];refine(Tryz.strings_Join_none sa sc ⟨#[44,32]⟩ wr).mono ?_;rintro e w' ⟨rfl,rfl⟩;exact⟨rfl,Aq _ _⟩
  injection e2 with e3 _ e4;subst e3 e4
  have hj:=Tryz.strings_Join g 0 sc ((List.range kids.length).map fun k=>(⟨(F k).toArray⟩:ByteArray)) ⟨#[44,32]⟩ wr (fun j x hj=>by
   obtain⟨hj1,rfl⟩:=List.getElem?_eq_some_iff.1 hj;have hj2:j<kids.length:=by simpa using hj1
   have:=hrow.cells (g:=g) rfl j (.string ⟨(F j).toArray⟩) (by simp [Jp,hj2])
   rw[Addr.add_lit] at this
   simpa using this) (Ay hg) oB (by simpa using hc) (by
   rw[List.map_map,show((fun x:ByteArray=>x.data.toList)∘fun k=>(⟨(F k).toArray⟩:ByteArray))=F from rfl,Yv]
   show(I6 [44,32] ((List.range kids.length).map F)).length<=_
   rw[HJ.out]
   omega)
  rw[List.map_map,show((fun x:ByteArray=>x.data.toList)∘fun k=>(⟨(F k).toArray⟩:ByteArray))=F from rfl,Yv,List.length_map,List.length_range] at hj;rw[←HJ.out];exact hj
 have Hjoin:=Ax hjoin;have HB:=Ax hB;clear hq hrow hB hkl2 HL hjoin;go_wp2_with fail;refine Hjoin.out.mono ?_;rintro e V ⟨rfl,hbV⟩;have HBV:=Ax (HB.out.trans (hbV.mono HB.out.size));clear hbV HB Hjoin;go_wp2_with fail;go_ret;exact⟨rfl,HBV.out⟩
theorem dL {w:World}{b tb:Nat}{tv:Value}{l:List Nz}{ts:List (List UInt8)}{x:Nz}(h:Nl w b tv tb l ts)(hx:l[ts.length]? =some x)(hR:Rd w)(hf:Kt x.h):
 Calls Tryz.prog 92 #[.pointer (some ⟨b,0,none⟩),.int .i64 (ts.length:Int)] w fun e w'=>e= .returned (.string ⟨(D5 x.h x.kids.length (Dl l ts x.kids)).toArray⟩)/\Below w.heap.size w w':=by
 by_cases h1:x.h.op=1
 ·exact iB h hx hR hf h1
 by_cases h2:x.h.op=2
 ·exact gH h hx hf h2
 by_cases h3:x.h.op=3
 ·exact cE h hx h3
 by_cases l8:Bc x.h.op=8
 ·exact bG h hx h1 h2 h3 l8
 by_cases l2:Bc x.h.op=2
 ·exact bT h hx h1 h2 h3 l2
 by_cases l6:Bc x.h.op=6
 ·exact bP h hx h1 h2 h3 l6
 by_cases l3:Bc x.h.op=3
 ·exact fS h hx h1 h2 h3 l3
 exact gW h hx h1 h2 h3 ⟨l8,l2,l6,l3⟩
open Go Go.ChangeShapes Go.WideShapes Go.ChangeAt Go.RowKit Go.Deep Go.Lib
def Xg (w:World)(v:Value)(l:List (List UInt8×Int)):Prop:=(∀y∈l,0<=y.2/\y.2<=255)/\∃a c,v= .slice a l.length c/\(a=none->l.length=0/\c=0)/\∀i (h:i<l.length),∃b off,a=some ⟨b,off,none⟩/\w.cell? ⟨b,off+i*2,none⟩=some (.string ⟨l[i].1.toArray⟩)/\w.cell? ⟨b,off+i*2+1,none⟩=some (.int .u8 l[i].2)
theorem Xg.rd {w:World}{v:Value}{l:List (List UInt8×Int)}(h:Xg w v l)(hl:l.length<=1000000):Nj w v l:=by
 obtain⟨_,a,c,e,_,k⟩:=h;exact⟨hl,a,c,e,k⟩
section
variable {H:Type} {enc:TypeId×Value->H} {w:World} {base:Nat} {spare:Nat->Bool} {held:Bool}
theorem Y8 {fuel:Nat}{v:Value}{x:DataW H×List MemPlace}(h:DataW.trod enc Tryz.prog w base spare held fuel 57 [v]=some x):∃l,Xg w v l:=by
 rcases open_slice Tryz.underlying57 h with ⟨hc,_⟩|⟨a,len,cap,m,n,D,Pl,hc,hb,hle,hcap,hm,rfl,hi⟩
 ·simp only[List.cons.injEq,and_true] at hc;subst hc;exact⟨[],by simp,none,0,rfl,fun _=>⟨rfl,rfl⟩,fun i hi=>by simp at hi⟩
 simp only[List.cons.injEq,and_true] at hc;subst hc;have hml:len<=m:=by rw[hm];split<;>omega
 have hsp:∀i,i<len->a=⟨a.block,a.off,none⟩:=by
  intro i hil;obtain⟨cs,hcs,ht⟩:=hi 0 nU;rw[show Tryz.prog.cellsOf 71=2 from by kernel_rfl] at hcs;obtain⟨hlen,hcl,hat⟩:=World.cells?_some hcs;have h0:=hat 0 nU;rw[Ag nU] at h0;exact Jr (a:=a) h0
 have hcells:∀i,i<len->∃y:List UInt8×Int,(0<=y.2/\y.2<=255)/\w.cell? ⟨a.block,a.off+i*2,none⟩=some (.string ⟨y.1.toArray⟩)/\w.cell? ⟨a.block,a.off+i*2+1,none⟩=some (.int .u8 y.2)/\w.cell? (a.add (i*2))=some (.string ⟨y.1.toArray⟩):=by
  intro i hil;obtain⟨cs,hcs,ht⟩:=hi i nU;rw[show Tryz.prog.cellsOf 71=2 from by kernel_rfl] at hcs;obtain⟨ys,n',_,hxd,hlen,hyl,hf⟩:=DataW.trod_struct Tryz.underlying71 ht;rw[show Tryz.prog.cellsOf 71=2 from by kernel_rfl] at hlen;obtain⟨_,hcl,hat⟩:=World.cells?_some hcs
  obtain⟨c0,c1,rfl⟩:∃c0 c1,cs=[c0,c1]:=by
   match cs,hlen with
   |[c0,c1],_=>exact⟨_,_,rfl⟩
  have hys:∀i,i<2->∃y,ys[i]? =some y:=fun i hi=>⟨ys[i]'(by rw[hyl];exact hi),Ag (by rw[hyl];exact hi)⟩
  obtain⟨y0,hy0⟩:=hys 0 nU;obtain⟨y1,hy1⟩:=hys 1 nU;have g0:DataW.trod enc Tryz.prog w base spare held n' 9 (([c0,c1].drop 0).take (Tryz.prog.cellsOf 9))=ys[0]?:=hf 0 _ rfl;rw[show Tryz.prog.cellsOf 9=1 from by kernel_rfl] at g0;have g1:DataW.trod enc Tryz.prog w base spare held n' 5 (([c0,c1].drop 1).take (Tryz.prog.cellsOf 5))=ys[1]?:=hf 1 _ rfl;rw[show Tryz.prog.cellsOf 5=1 from by kernel_rfl] at g1;obtain⟨nm,e0,_,_⟩:=DataW.trod_string Tryz.underlying9 (g0.trans hy0);obtain⟨k,e1,_,hk⟩:=DataW.trod_int Tryz.underlying5 (g1.trans hy1);simp only[List.drop_zero,List.drop_succ_cons,List.take_succ_cons,List.take_zero,List.cons.injEq,and_true] at e0 e1;subst e0 e1;have h0:=hat 0 nU;have h1:=hat 1 nU;rw[hsp i hil] at h0 h1 ⊢;simp only[Addr.add_lit,Nat.add_zero] at h0 h1 ⊢;exact⟨(nm.data.toList,k),eN hk,h0,h1,h0⟩
 obtain⟨l,hl,hp⟩:=Gq _ len hcells;refine⟨l,fun y hy=>?_,some a,cap,by rw[hl],(fun e=>by cases e),fun i hil=>?_⟩
 ·obtain⟨i,hi,rfl⟩:=List.getElem_of_mem hy;exact(hp i hi).1
 have hs:=Jr (hp 0 nU).2.2.2;simp only[Nat.zero_mul,Addr.add,if_true] at hs;obtain⟨_,q1,q2,_⟩:=hp i hil;exact⟨a.block,a.off,by rw[hs],q1,q2⟩
theorem Xt {r:Reach}{b0:Nat}{v:Value}{d:DataW H}{p:List MemPlace}(hv:Value.okWide Tryz.prog w r b0 59 v)(h:DataW.Trod enc Tryz.prog w base spare held 59 v d p):
 ∃a l c sf,v= .agg #[.slice a (List.length l) c,.int .u8 sf]/\(0<=sf/\sf<=255)/\Xg w (.slice a (List.length l) c) l:=by
 obtain⟨v0,v1,y0,y1,n,rfl,_,_,h0,h1⟩:=Joins.open_agg2 Tryz.underlying59 nT nT hv h;obtain⟨l,hl⟩:=Y8 h0;obtain⟨k,e1,_,hk⟩:=DataW.trod_int Tryz.underlying5 h1;simp only[List.cons.injEq,and_true] at e1;subst e1;have hl':=hl;obtain⟨_,a,c,rfl,_⟩:=hl';exact⟨a,l,c,k,rfl,eN hk,hl⟩
end
theorem Yl {l:List Na}{n:Nat}(h:I3 l n=false):l.length<=70/\Kd l<=3000/\n<=40:=by
 unfold I3 Uh at h;rw[Bool.or_eq_false_iff,Bool.or_eq_false_iff] at h;exact⟨by have:=of_decide_eq_false h.1.1;omega,by have:=of_decide_eq_false h.1.2;omega,by have:=of_decide_eq_false h.2;omega⟩
theorem aL:∀{l:List Nat} {x:Nat},x∈l->x<=l.sum
 |y::l,_,.head _=>by rw[List.sum_cons];omega
 |y::l,_,.tail _ h=>by have:=aL h;rw[List.sum_cons];omega
theorem Qp.small {w:World}{v:Value}{l:List Na}(h:Qp w v l)(h70:l.length<=70)(h3:Kd l<=3000):
 ∃zs:List Nz,zs.length=l.length/\zs.length<=70/\TrZ w v zs/\(∀x∈zs,0<=x.h.op)/\∀x∈zs,Kt x.h:=by
 have hat:∀i (hi:i<l.length),l[i].h.name.length+l[i].h.v.2.2.length+l[i].n<=3000:=fun i hi=>Al (aL (List.mem_map.2 ⟨l[i],List.getElem_mem hi,rfl⟩)) h3
 obtain⟨zs,hzl,hzk,hz⟩:=h.z nU (fun x hx=>by
  obtain⟨i,hi,rfl⟩:=List.getElem_of_mem hx
  have:=hat i hi
  omega)
 obtain⟨_,_,_,_,hc0⟩:=h;refine⟨zs,hzl,by omega,hz,fun x hx=>?_,fun x hx=>?_⟩
 all_goals
  obtain⟨i,hi,rfl⟩:=List.getElem_of_mem hx;obtain⟨_,_,_,_,ok⟩:=hc0 i nU;rw[(hzk i nU hi).1]
 ·exact ok.op0
 have:=hat i nU
 exact⟨ok.v0,ok.v1,by omega,by omega⟩
open Go Go.RowKit Go.Lib
def Ln {α:Type}(l:List α)(p:α->Bool):Int:=match l.findIdx? p with|some i=>i|none=> -1
theorem P6 {α:Type}{l:List α}{p:α->Bool}{k:Nat}(hk:k<l.length)(h0:∀j (h:j<l.length),j<k->p l[j]=false)(h1:p l[k]=true):Ln l p=k:=by
 unfold Ln;rw[(List.findIdx?_eq_some_iff_getElem (p:=p) (i:=k)).2 ⟨hk,h1,fun j hj=>by simpa using h0 j nU hj⟩]
theorem Oq {α:Type}{l:List α}{p:α->Bool}(h0:∀j (h:j<l.length),p l[j]=false):Ln l p= -1:=by
 unfold Ln;rw[List.findIdx?_eq_none_iff.2 (fun e he=>by obtain⟨j,hj,rfl⟩:=List.getElem_of_mem he;exact h0 j hj)]
theorem Wl {α:Type}(l:List α)(p:α->Bool):decide (0<=Ln l p)=l.any p:=by
 unfold Ln;cases h:l.findIdx? p with
 |none=>
  rw[List.findIdx?_eq_none_iff] at h
  have:l.any p=false:=List.any_eq_false.2 fun x hx=>by simpa using h x hx
  rw[this];rfl
 |some i=>
  obtain⟨hi,hp,_⟩:=List.findIdx?_eq_some_iff_getElem.1 h
  have:l.any p=true:=List.any_eq_true.2 ⟨l[i],List.getElem_mem hi,hp⟩
  rw[this];exact Am (by show(0:Int)<=(i:Int);omega)
def nH (l:List Int)(w:World)(fn:Nat)(caps:Array Value)(p:Int->Bool):Prop:=
 ∀(t:Int) (V:World),t∈l->Below w.heap.size w V->Calls Tryz.prog fn (#[.int .u8 t]++caps) V fun r V'=>r= .returned (.bool (p t))/\Below V.heap.size V V'
theorem Xw (fn:Nat)(caps:Array Value)(p:Int->Bool)(eg:∀args w,(callFunc fn args).run Tryz.prog w= .ok (.enter fn args) w){v:Value}(l:List Int)(w:World)(h:Kc w v l)(ha:nH l w fn caps p):
 Calls Tryz.prog 220 #[v,.func (.func fn) #[] caps] w fun r w'=>r= .returned (.int .i64 (Ln l p))/\Below w.heap.size w w':=by
 have hlm:=h.1;obtain⟨_,a,c,rfl,hcs⟩:=h;have HC:=Ax hcs;have HA:=Ax ha;clear hcs ha;go_enter Tryz.func220,Tryz.ntmps220
 go_wp2
 go_loopw [8] (fun vi wr=>∃k:Nat,k<=l.length/\vi= .int .i64 k/\Hid (∀j (h:j<l.length),j<k->p l[j]=false)/\Hid (Below w.heap.size w wr)) (fun i _=>l.length - (intOf i).toNat)
 case atStart=>exact⟨0,Nat.zero_le _,rfl,fun j h hj=>absurd hj nU,Aq _ _⟩
 obtain⟨wo,rfl⟩:∃wo:World,wo=wr:=⟨_,rfl⟩;obtain⟨k,hk,rfl,hq,hb⟩:=hrel;by_cases hlk:k<l.length
 ·obtain⟨g,off,rfl,c0⟩:=HC.out k hlk;have c0:=A6 hb.out c0;exact zzd
 obtain rfl:k=l.length:=by omega
 go_wp2
 go_ret;exact⟨by rw[Oq (fun j h=>hq.out j h h)];rfl,hb.out⟩
theorem Sb (fn:Nat)(caps:Array Value)(p:Int->Bool)(eg:∀args w,(callFunc fn args).run Tryz.prog w= .ok (.enter fn args) w){v:Value}(l:List Int)(w:World)(h:Kc w v l)(ha:nH l w fn caps p):
 Calls Tryz.prog 175 #[v,.func (.func fn) #[] caps] w fun r w'=>r= .returned (.bool (l.any p))/\Below w.heap.size w w':=by
 have Hi:=Ax (Xw fn caps p eg l w h ha);have He:=Ax (Wl l p);obtain⟨_,a,c,rfl,_⟩:=h;clear ha;obtain⟨i,hi⟩:∃i,Ln l p=i:=⟨_,rfl⟩;rw[hi] at Hi He;clear hi;go_enter Tryz.func175,Tryz.ntmps175;go_wp2_with fail;refine Hi.out.mono ?_;rintro r V ⟨rfl,hb⟩;have HB:=Ax hb;clear hb
 go_wp2
 go_ret;exact⟨by rw[←He.out];rfl,HB.out⟩
def nR (l:List (List UInt8×Int))(w:World)(fn:Nat)(caps:Array Value)(p:(List UInt8×Int)->Bool):Prop:=
 ∀(t:(List UInt8×Int)) (V:World),t∈l->Below w.heap.size w V->Calls Tryz.prog fn (#[.agg #[.string ⟨t.1.toArray⟩,.int .u8 t.2]]++caps) V fun r V'=>r= .returned (.bool (p t))/\Below V.heap.size V V'
theorem Yn (fn:Nat)(caps:Array Value)(p:(List UInt8×Int)->Bool)(eg:∀args w,(callFunc fn args).run Tryz.prog w= .ok (.enter fn args) w){v:Value}(l:List (List UInt8×Int))(w:World)(h:Nj w v l)(ha:nR l w fn caps p):
 Calls Tryz.prog 99 #[v,.func (.func fn) #[] caps] w fun r w'=>r= .returned (.int .i64 (Ln l p))/\Below w.heap.size w w':=by
 have hlm:=h.1;obtain⟨_,a,c,rfl,hcs⟩:=h;have HC:=Ax hcs;have HA:=Ax ha;clear hcs ha;go_enter Tryz.func99,Tryz.ntmps99
 go_wp2
 go_loopw [8] (fun vi wr=>∃k:Nat,k<=l.length/\vi= .int .i64 k/\Hid (∀j (h:j<l.length),j<k->p l[j]=false)/\Hid (Below w.heap.size w wr)) (fun i _=>l.length - (intOf i).toNat)
 case atStart=>exact⟨0,Nat.zero_le _,rfl,fun j h hj=>absurd hj nU,Aq _ _⟩
 obtain⟨wo,rfl⟩:∃wo:World,wo=wr:=⟨_,rfl⟩;obtain⟨k,hk,rfl,hq,hb⟩:=hrel;by_cases hlk:k<l.length
 ·obtain⟨g,off,rfl,c0,c1⟩:=HC.out k hlk;have c0:=A6 hb.out c0;have c1:=A6 hb.out c1;exact zzd
 obtain rfl:k=l.length:=by omega
 go_wp2
 go_ret;exact⟨by rw[Oq (fun j h=>hq.out j h h)];rfl,hb.out⟩
open Go Go.RowKit Go.Lib
theorem X7 (k c:Int)(b:Nat)(w:World)(hc:w.cell? ⟨b,0,none⟩=some (.int .u8 c)):Calls Tryz.prog 176 #[.int .u8 k,.pointer (some ⟨b,0,none⟩)] w fun e w'=>e= .returned (.bool (k !=c && k !=0))/\Below w.heap.size w w':=by
 obtain⟨x,hx⟩:∃x,(k !=c)=x:=⟨_,rfl⟩;rw[hx];cases x
 all_goals
  go_enter Tryz.func176,Tryz.ntmps176;exact zyq
theorem Pv (c:Int):∀l:List Int,(!(l.any fun k=>k !=c && k !=0))=O9 c l
 |[]=>rfl
 |x::l=>by
  have h:=Pv c l;unfold O9 at h ⊢;rw[List.any_cons,List.all_cons,←h,Bool.not_or,Bool.not_and,bne,bne,Bool.not_not,Bool.not_not]
theorem O0 {v:Value}{l:List Int}(c:Int)(w:World)(h:Kc w v l):Calls Tryz.prog 103 #[.int .u8 c,v] w fun e w'=>e= .returned (.bool (O9 c l))/\Below w.heap.size w w':=by
 have hb:=(Aq w.heap.size w).alloc (Ak _) (.cells #[.int .u8 c] 5)
 have hcc:(w.alloc (.cells #[.int .u8 c] 5)).cell? ⟨w.heap.size,0,none⟩=some (.int .u8 c):=by
  have:=A0 w (.cells #[.int .u8 c] 5)
  simp only[World.cell?,this];rfl
 have Hi:=Ax (Sb 176 #[.pointer (some ⟨w.heap.size,0,none⟩)] (fun k=>k !=c && k !=0) (enters_of Tryz.func176 nT rfl) l (w.alloc (.cells #[.int .u8 c] 5)) (h.below hb)
  fun t V _ hV=>X7 t c w.heap.size V (A6 hV hcc))
 have HB:=Ax hb;have hn:=Pv c l;obtain⟨_,a,cc,rfl,_⟩:=h;obtain⟨q,hq⟩:∃q,(l.any fun k=>k !=c && k !=0)=q:=⟨_,rfl⟩;rw[hq] at Hi hn;have Hn:=Ax hn;clear hb hcc hq hn;go_enter Tryz.func103,Tryz.ntmps103;go_wp2_with fail;refine Hi.out.mono ?_;rintro r V ⟨rfl,hb⟩;have HB1:=Ax (HB.out.trans (hb.mono nW));clear hb;go_wp2_with fail;go_ret;exact⟨by rw[←Hn.out];rfl,HB1.out⟩
theorem eO (a b:Int)(ha:0<=a)(hb:0<=b):(Gm 0 [a,b] !=255)=(decide (a<=2) && decide (b<=2)):=by
 unfold Gm;by_cases h1:2<a
 ·rw[Ap h1,An nU];rfl
 rw[Ao h1,Am nU,Gm];by_cases h2:2<b
 ·rw[Ap h2,An nU];rfl
 rw[Ao h2,Am nU,Gm];exact bne_iff_ne.2 nU
theorem Vb (a b:Int)(ha:0<=a)(hb:0<=b)(w:World):Calls Tryz.prog 104 #[.int .u8 a,.int .u8 b] w fun e w'=>e= .returned (.bool (Pg a b))/\Below w.heap.size w w':=by
 have hn:=eO a b ha hb;unfold Pg;rw[←hn];have hW:=(Aq w.heap.size w).alloc (Ak _) (.cells #[.int .u8 a,.int .u8 b] 5)
 have hk:Kc (w.alloc (.cells #[.int .u8 a,.int .u8 b] 5)) (.slice (some ⟨w.heap.size,0,none⟩) 2 2) [a,b]:=by
  have hp:=A0 w (.cells #[.int .u8 a,.int .u8 b] 5);obtain⟨c0,c1,_⟩:=Rc hp;refine⟨by simp,_,_,rfl,fun i hi=>⟨w.heap.size,0,rfl,?_⟩⟩
  match i,hi with
  |0,_=>exact c0
  |1,_=>exact c1
 have HA:=Ax (Ks _ hk);have HW:=Ax hW;obtain⟨x,hx⟩:∃x,(a==0)=x:=⟨_,rfl⟩;obtain⟨y,hy⟩:∃y,(b==0)=y:=⟨_,rfl⟩;obtain⟨z,hz⟩:∃z,(a==b)=z:=⟨_,rfl⟩;obtain⟨m,hm⟩:∃m,Gm 0 [a,b]=m:=⟨_,rfl⟩;rw[hx,hy,hz,hm];rw[hm] at HA;clear hn hW hk hm;cases x;rotate_left
 ·clear HA;go_enter Tryz.func104,Tryz.ntmps104;exact zyq
 cases y;rotate_left
 ·clear HA;go_enter Tryz.func104,Tryz.ntmps104;exact zyq
 cases z;rotate_left
 ·clear HA;go_enter Tryz.func104,Tryz.ntmps104;exact zyq
 go_enter Tryz.func104,Tryz.ntmps104;go_wp2_with fail;refine HA.out.mono ?_;rintro e V ⟨rfl,hb⟩;have HB:=Ax (HW.out.trans (hb.mono HW.out.size));clear hb HA HW;go_wp2_with fail;go_ret;exact⟨rfl,HB.out⟩
end Go.Proofs.YtgfakdobajgnfaaGreatDoor
