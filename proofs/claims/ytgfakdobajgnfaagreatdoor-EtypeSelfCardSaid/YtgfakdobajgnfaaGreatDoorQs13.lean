import Derived.Test.YtgfakdobajgnfaaGreatDoorQs12
set_option maxRecDepth 100000
set_option maxHeartbeats 16000000
namespace Go.Proofs.YtgfakdobajgnfaaGreatDoor
open Go Go.RowKit Go.Lib Go.Sort Go.Shelf
def D2 (h:Hd)(n:Nat)(kid:Nat->Nat->List UInt8):List UInt8:=
 if h.op=1 then Cx h.v.1 h.v.2.1 h.v.2.2 else if h.op=2 then 63::h.name else if h.op=3 then[63]
 else if Bc h.op=8 then Dy h.op++Ml (Iu [44,32] ((List.range n).map fun k=>kid k 0))
 else if Bc h.op=2\/Bc h.op=6 then Dy h.op++kid 0 (Bc h.op)
 else if Bc h.op=3 then kid 0 4++32::(Dy h.op++32::kid 1 4)
 else kid 0 (Bc h.op)++32::(Dy h.op++32::kid 1 (Bc h.op+1))
def K7 (h:Hd):Prop:= -9223372036854775808<=h.v.2.1/\h.v.2.1<=9223372036854775807/\h.v.2.2.length<=1000000/\h.name.length<=1000000
theorem J9 {l:List Nz}{ts:List (List UInt8)}(hs:∀t∈ts,t.length<=65536)(kids:List Int)(k least:Nat):(Dl l ts kids k least).length<=65538:=by
 unfold Dl
 split
 ·simp
 split
 ·split
  ·rename_i x t h1 h2
   have:=hs t (List.mem_of_getElem? h2)
   split
   ·unfold Ml;simp only[Aa,Ab,List.length_nil];omega
   omega
  simp
 simp
theorem J5 (op:Int):(Dy op).length<=8/\Bc op<=8:=by
 by_cases h:4<=op/\op<=26
 ·obtain rfl|rfl|rfl|rfl|rfl|rfl|rfl|rfl|rfl|rfl|rfl|rfl|rfl|rfl|rfl|rfl|rfl|rfl|rfl|rfl|rfl|rfl|rfl:op=4\/op=5\/op=6\/op=7\/op=8\/op=9\/op=10\/op=11\/op=12\/op=13\/op=14\/op=15\/op=16\/op=17\/op=18\/op=19\/op=20\/op=21\/op=22\/op=23\/op=24\/op=25\/op=26:=by omega
  all_goals decide
 have:Lr op=([],8):=by
  unfold Lr
  repeat rw[Ao mN]
 unfold Dy Bc;rw[this];decide
theorem eZ (a b c:List UInt8):(⟨(a++32::(b++32::c)).toArray⟩:ByteArray)=⟨a.toArray⟩++⟨#[32]⟩++⟨b.toArray⟩++⟨#[32]⟩++⟨c.toArray⟩:=by
 apply ByteArray.ext;simp
theorem Yd (sep:List UInt8):∀l:List (List UInt8),Lib.join l sep=Iu sep l
 |[]=>rfl
 |[x]=>by rw[Lib.join_one];rfl
 |x::y::r=>by
  show Lib.join (x::y::r) sep=x++(sep++Iu sep (y::r));rw[←Yd sep (y::r)];simp [Lib.join,List.intercalate]
theorem Sv:∀(l:List (List UInt8)),(∀t∈l,t.length<=65538)->(Iu [44,32] l).length<=l.length*65540
 |[],_=>by simp [Iu]
 |[x],h=>by
  have:=h x Ai
  show x.length<=_;simp only[Aa,List.length_nil];omega
 |x::y::r,h=>by
  have h1:=h x Ai;have h2:=Sv (y::r) fun t ht=>h t (Aj _ ht)
  show(x++([44,32]++Iu [44,32] (y::r))).length<=_
  simp only[Ab,Aa,List.length_nil] at h2 ⊢;omega
theorem gB {w:World}{b tb:Nat}{tv:Value}{l:List Nz}{ts:List (List UInt8)}{x:Nz}(h:Mu w b tv tb l ts)(hx:l[ts.length]? =some x)(hR:Rd w)(hf:K7 x.h)(hop:x.h.op=1):
 Calls Tryz.prog 92 #[.pointer (some ⟨b,0,none⟩),.int .i64 (ts.length:Int)] w fun e w'=>e= .returned (.string ⟨(D2 x.h x.kids.length (Dl l ts x.kids)).toArray⟩)/\Below w.heap.size w w':=by
 obtain⟨hi,_⟩:=List.getElem?_eq_some_iff.1 hx;obtain⟨tr,off,tc,rfl⟩:=h.tree.some mN;obtain⟨kv,hn,hki⟩:=h.tree.get hx;obtain⟨hkl,ka,kc,rfl,_⟩:=hki;obtain⟨⟨op,⟨vk,vn,vs⟩,nm,ln,cl⟩,kids⟩:=x;obtain⟨x0,x1,x2,x3,x4,x5,x6,x7⟩:=hn;simp only at x0 x1 x2 x3 x4 x5 x6 x7 hkl hop;have c0:=h.c0;have hlm:=h.tree.1;have hop0:0<=op:=h.ops _ (List.mem_of_getElem? hx);have i0:(0:Int)<=(ts.length:Int):=by omega
 have i1:(ts.length:Int)<(l.length:Int):=by omega
 have hbx:=B4 x0;obtain⟨W1,hW1⟩:∃W1,(w.alloc (.cells #[.int .u8 op,.int .u8 vk,.int .i64 vn,.string ⟨vs.toArray⟩,.string ⟨nm.toArray⟩,.slice ka kids.length kc,.int .i64 ln,.int .i64 cl] 43)).drew=W1:=⟨_,rfl⟩;have hp1:(w.alloc (.cells #[.int .u8 op,.int .u8 vk,.int .i64 vn,.string ⟨vs.toArray⟩,.string ⟨nm.toArray⟩,.slice ka kids.length kc,.int .i64 ln,.int .i64 cl] 43)).drew.heap[w.heap.size]? =some (.cells #[.int .u8 op,.int .u8 vk,.int .i64 vn,.string ⟨vs.toArray⟩,.string ⟨nm.toArray⟩,.slice ka kids.length kc,.int .i64 ln,.int .i64 cl] 43 (0,0)):=A1 w (.cells #[.int .u8 op,.int .u8 vk,.int .i64 vn,.string ⟨vs.toArray⟩,.string ⟨nm.toArray⟩,.slice ka kids.length kc,.int .i64 ln,.int .i64 cl] 43);have hb1:Below w.heap.size w W1:=by rw[←hW1];exact((Aq _ w).alloc (Ak _) _).drew
 rw[hW1] at hp1;obtain⟨n0,_,_,_,_,_,_,_,_⟩:=Bp hp1;have ho:=fun V=>Ax (Jo op hop0 V)
 unfold Ey at ho;have hf0:=fun u v V=>Dv u v V
 have hf1:=fun u v V=>Dj u v V
 obtain⟨f1,f2,f3,f4⟩:=hf;simp only at f1 f2 f3 f4;subst hop;have hz:D2 ⟨1,(vk,vn,vs),nm,ln,cl⟩ kids.length (Dl l ts kids)=Cx vk vn vs:=by unfold D2;rw[Ap rfl]
 rw[hz];have HT:=fun V (hV:Below w.heap.size w V)=>Ax (P8 ⟨vk,vn,⟨vs.toArray⟩⟩ V ⟨by show vs.toArray.size<=_;simp;omega,f1,f2⟩ (hR.below hV))
 have HP1:=Ax hp1;have HB1:=Ax hb1;clear h hx hR hp1 hb1 hz;go_enter Tryz.func92,Tryz.ntmps92;go_wp2_with fail
 go_region_held3 (fun V=>V.cell? ⟨w.heap.size,0,none⟩=some (.int .u8 1)) (go_keep)
  (first
   |(go_at_call 62;(with_reducible refine(ho _).out.mono ?_);rintro e V2 ⟨rfl,hb2⟩;have hc2:=A7 hb2 n0;have hB2:=Ax hb2;clear hb2)
   |(go_at_call 62;(with_reducible refine(ho _).out.mono ?_);rintro e V3 ⟨rfl,hb3⟩;have hc3:=A7 hb3 hc2;have HB3:=Ax (hB2.out.trans (hb3.mono hB2.out.size));clear hb3))
 obtain⟨m0,m1,m2,m3,m4,m5,m6,m7,_⟩:=Bp ((HB3.out.block _ (Ay HP1.out)).trans HP1.out);have HV3:=HB1.out.trans (HB3.out.mono HB1.out.size);have HT3:=HT _ HV3;have HBV:=Ax HV3;clear HT HB1 hB2 HV3;go_wp2_with fail;refine HT3.out.mono ?_;rintro e V4 ⟨rfl,hb4⟩;have HB4:=Ax (HBV.out.trans (hb4.mono HBV.out.size));clear hb4 HT3;go_wp2_with fail;go_ret;exact⟨rfl,HB4.out⟩
theorem gP {w:World}{b tb:Nat}{tv:Value}{l:List Nz}{ts:List (List UInt8)}{x:Nz}(h:Mu w b tv tb l ts)(hx:l[ts.length]? =some x)(hf:K7 x.h)(hop:x.h.op=2):
 Calls Tryz.prog 92 #[.pointer (some ⟨b,0,none⟩),.int .i64 (ts.length:Int)] w fun e w'=>e= .returned (.string ⟨(D2 x.h x.kids.length (Dl l ts x.kids)).toArray⟩)/\Below w.heap.size w w':=by
 obtain⟨hi,_⟩:=List.getElem?_eq_some_iff.1 hx;obtain⟨tr,off,tc,rfl⟩:=h.tree.some mN;obtain⟨kv,hn,hki⟩:=h.tree.get hx;obtain⟨hkl,ka,kc,rfl,_⟩:=hki;obtain⟨⟨op,⟨vk,vn,vs⟩,nm,ln,cl⟩,kids⟩:=x;obtain⟨x0,x1,x2,x3,x4,x5,x6,x7⟩:=hn;simp only at x0 x1 x2 x3 x4 x5 x6 x7 hkl hop;have c0:=h.c0;have hlm:=h.tree.1;have hop0:0<=op:=h.ops _ (List.mem_of_getElem? hx);have i0:(0:Int)<=(ts.length:Int):=by omega
 have i1:(ts.length:Int)<(l.length:Int):=by omega
 have hbx:=B4 x0;obtain⟨W1,hW1⟩:∃W1,(w.alloc (.cells #[.int .u8 op,.int .u8 vk,.int .i64 vn,.string ⟨vs.toArray⟩,.string ⟨nm.toArray⟩,.slice ka kids.length kc,.int .i64 ln,.int .i64 cl] 43)).drew=W1:=⟨_,rfl⟩;have hp1:(w.alloc (.cells #[.int .u8 op,.int .u8 vk,.int .i64 vn,.string ⟨vs.toArray⟩,.string ⟨nm.toArray⟩,.slice ka kids.length kc,.int .i64 ln,.int .i64 cl] 43)).drew.heap[w.heap.size]? =some (.cells #[.int .u8 op,.int .u8 vk,.int .i64 vn,.string ⟨vs.toArray⟩,.string ⟨nm.toArray⟩,.slice ka kids.length kc,.int .i64 ln,.int .i64 cl] 43 (0,0)):=A1 w (.cells #[.int .u8 op,.int .u8 vk,.int .i64 vn,.string ⟨vs.toArray⟩,.string ⟨nm.toArray⟩,.slice ka kids.length kc,.int .i64 ln,.int .i64 cl] 43);have hb1:Below w.heap.size w W1:=by rw[←hW1];exact((Aq _ w).alloc (Ak _) _).drew
 rw[hW1] at hp1;obtain⟨n0,_,_,_,_,_,_,_,_⟩:=Bp hp1;have ho:=fun V=>Ax (Jo op hop0 V)
 unfold Ey at ho;have hf0:=fun u v V=>Dv u v V
 have hf1:=fun u v V=>Dj u v V
 obtain⟨_,_,_,f4⟩:=hf;simp only at f4;subst hop;have hz:D2 ⟨2,(vk,vn,vs),nm,ln,cl⟩ kids.length (Dl l ts kids)=63::nm:=by unfold D2;rw[Ao (by show ¬(2:Int)=1;decide),Ap rfl]
 rw[hz,show(⟨(63::nm).toArray⟩:ByteArray)=⟨#[63]⟩++⟨nm.toArray⟩ from(Yi [63] nm).symm];have HP1:=Ax hp1;have HB1:=Ax hb1;clear h hx hp1 hb1 hz;go_enter Tryz.func92,Tryz.ntmps92;go_wp2_with fail
 go_region_held3 (fun V=>V.cell? ⟨w.heap.size,0,none⟩=some (.int .u8 2)) (go_keep)
  (first
   |(go_at_call 62;(with_reducible refine(ho _).out.mono ?_);rintro e V2 ⟨rfl,hb2⟩;have hc2:=A7 hb2 n0;have hB2:=Ax hb2;clear hb2)
   |(go_at_call 62;(with_reducible refine(ho _).out.mono ?_);rintro e V3 ⟨rfl,hb3⟩;have hc3:=A7 hb3 hc2;have HB3:=Ax (hB2.out.trans (hb3.mono hB2.out.size));clear hb3))
 exact zx0
theorem bQ {w:World}{b tb:Nat}{tv:Value}{l:List Nz}{ts:List (List UInt8)}{x:Nz}(h:Mu w b tv tb l ts)(hx:l[ts.length]? =some x)(hop:x.h.op=3):
 Calls Tryz.prog 92 #[.pointer (some ⟨b,0,none⟩),.int .i64 (ts.length:Int)] w fun e w'=>e= .returned (.string ⟨(D2 x.h x.kids.length (Dl l ts x.kids)).toArray⟩)/\Below w.heap.size w w':=by
 obtain⟨hi,_⟩:=List.getElem?_eq_some_iff.1 hx;obtain⟨tr,off,tc,rfl⟩:=h.tree.some mN;obtain⟨kv,hn,hki⟩:=h.tree.get hx;obtain⟨hkl,ka,kc,rfl,_⟩:=hki;obtain⟨⟨op,⟨vk,vn,vs⟩,nm,ln,cl⟩,kids⟩:=x;obtain⟨x0,x1,x2,x3,x4,x5,x6,x7⟩:=hn;simp only at x0 x1 x2 x3 x4 x5 x6 x7 hkl hop;have c0:=h.c0;have hlm:=h.tree.1;have hop0:0<=op:=h.ops _ (List.mem_of_getElem? hx);have i0:(0:Int)<=(ts.length:Int):=by omega
 have i1:(ts.length:Int)<(l.length:Int):=by omega
 have hbx:=B4 x0;obtain⟨W1,hW1⟩:∃W1,(w.alloc (.cells #[.int .u8 op,.int .u8 vk,.int .i64 vn,.string ⟨vs.toArray⟩,.string ⟨nm.toArray⟩,.slice ka kids.length kc,.int .i64 ln,.int .i64 cl] 43)).drew=W1:=⟨_,rfl⟩;have hp1:(w.alloc (.cells #[.int .u8 op,.int .u8 vk,.int .i64 vn,.string ⟨vs.toArray⟩,.string ⟨nm.toArray⟩,.slice ka kids.length kc,.int .i64 ln,.int .i64 cl] 43)).drew.heap[w.heap.size]? =some (.cells #[.int .u8 op,.int .u8 vk,.int .i64 vn,.string ⟨vs.toArray⟩,.string ⟨nm.toArray⟩,.slice ka kids.length kc,.int .i64 ln,.int .i64 cl] 43 (0,0)):=A1 w (.cells #[.int .u8 op,.int .u8 vk,.int .i64 vn,.string ⟨vs.toArray⟩,.string ⟨nm.toArray⟩,.slice ka kids.length kc,.int .i64 ln,.int .i64 cl] 43);have hb1:Below w.heap.size w W1:=by rw[←hW1];exact((Aq _ w).alloc (Ak _) _).drew
 rw[hW1] at hp1;obtain⟨n0,_,_,_,_,_,_,_,_⟩:=Bp hp1;have ho:=fun V=>Ax (Jo op hop0 V)
 unfold Ey at ho;have hf0:=fun u v V=>Dv u v V
 have hf1:=fun u v V=>Dj u v V
 subst hop;have hz:D2 ⟨3,(vk,vn,vs),nm,ln,cl⟩ kids.length (Dl l ts kids)=[63]:=by unfold D2;rw[Ao (by show ¬(3:Int)=1;decide),Ao (by show ¬(3:Int)=2;decide),Ap rfl]
 rw[hz];have HP1:=Ax hp1;have HB1:=Ax hb1;clear h hx hp1 hb1 hz;go_enter Tryz.func92,Tryz.ntmps92;go_wp2_with fail
 go_region_held3 (fun V=>V.cell? ⟨w.heap.size,0,none⟩=some (.int .u8 3)) (go_keep)
  (first
   |(go_at_call 62;(with_reducible refine(ho _).out.mono ?_);rintro e V2 ⟨rfl,hb2⟩;have hc2:=A7 hb2 n0;have hB2:=Ax hb2;clear hb2)
   |(go_at_call 62;(with_reducible refine(ho _).out.mono ?_);rintro e V3 ⟨rfl,hb3⟩;have hc3:=A7 hb3 hc2;have HB3:=Ax (hB2.out.trans (hb3.mono hB2.out.size));clear hb3))
 exact zx0
theorem bB {w:World}{b tb:Nat}{tv:Value}{l:List Nz}{ts:List (List UInt8)}{x:Nz}(h:Mu w b tv tb l ts)(hx:l[ts.length]? =some x)(ho1:x.h.op≠1)(ho2:x.h.op≠2)(ho3:x.h.op≠3)(hLV:Bc x.h.op=2):
 Calls Tryz.prog 92 #[.pointer (some ⟨b,0,none⟩),.int .i64 (ts.length:Int)] w fun e w'=>e= .returned (.string ⟨(D2 x.h x.kids.length (Dl l ts x.kids)).toArray⟩)/\Below w.heap.size w w':=by
 obtain⟨hi,_⟩:=List.getElem?_eq_some_iff.1 hx;obtain⟨tr,off,tc,rfl⟩:=h.tree.some mN;obtain⟨kv,hn,hki⟩:=h.tree.get hx;obtain⟨hkl,ka,kc,rfl,_⟩:=hki;obtain⟨⟨op,⟨vk,vn,vs⟩,nm,ln,cl⟩,kids⟩:=x;obtain⟨x0,x1,x2,x3,x4,x5,x6,x7⟩:=hn;simp only at x0 x1 x2 x3 x4 x5 x6 x7 hkl ho1 ho2 ho3 hLV;have c0:=h.c0;have hlm:=h.tree.1;have hop0:0<=op:=h.ops _ (List.mem_of_getElem? hx);have i0:(0:Int)<=(ts.length:Int):=by omega
 have i1:(ts.length:Int)<(l.length:Int):=by omega
 have hbx:=B4 x0;obtain⟨W1,hW1⟩:∃W1,(w.alloc (.cells #[.int .u8 op,.int .u8 vk,.int .i64 vn,.string ⟨vs.toArray⟩,.string ⟨nm.toArray⟩,.slice ka kids.length kc,.int .i64 ln,.int .i64 cl] 43)).drew=W1:=⟨_,rfl⟩;have hp1:(w.alloc (.cells #[.int .u8 op,.int .u8 vk,.int .i64 vn,.string ⟨vs.toArray⟩,.string ⟨nm.toArray⟩,.slice ka kids.length kc,.int .i64 ln,.int .i64 cl] 43)).drew.heap[w.heap.size]? =some (.cells #[.int .u8 op,.int .u8 vk,.int .i64 vn,.string ⟨vs.toArray⟩,.string ⟨nm.toArray⟩,.slice ka kids.length kc,.int .i64 ln,.int .i64 cl] 43 (0,0)):=A1 w (.cells #[.int .u8 op,.int .u8 vk,.int .i64 vn,.string ⟨vs.toArray⟩,.string ⟨nm.toArray⟩,.slice ka kids.length kc,.int .i64 ln,.int .i64 cl] 43);have hb1:Below w.heap.size w W1:=by rw[←hW1];exact((Aq _ w).alloc (Ak _) _).drew
 rw[hW1] at hp1;obtain⟨n0,_,_,_,_,_,_,_,_⟩:=Bp hp1;have ho:=fun V=>Ax (Jo op hop0 V)
 unfold Ey at ho;have hf0:=fun u v V=>Dv u v V
 have hf1:=fun u v V=>Dj u v V
 have o1:(op==1)=false:=by simpa using ho1
 have o2:(op==2)=false:=by simpa using ho2
 have o3:(op==3)=false:=by simpa using ho3
 obtain⟨hwl,hll⟩:=J5 op;obtain⟨lv,hlv⟩:∃lv,Bc op=lv:=⟨_,rfl⟩;obtain⟨wd,hwd⟩:∃wd,Dy op=wd:=⟨_,rfl⟩;have hK:=fun k least V (hV:Below w.heap.size w V) (hk:k<=1000000)=>Ax (My (h.below hV) hx k least hk)
 simp only at hK;have hKL:=fun k least=>J9 (l:=l) h.short kids k least
 simp only[hlv,hwd] at ho hwl hll hLV
 have hz:D2 ⟨op,(vk,vn,vs),nm,ln,cl⟩ kids.length (Dl l ts kids)=wd++Dl l ts kids 0 lv:=by
  unfold D2;simp only[hlv,hwd];rw[Ao ho1,Ao ho2,Ao ho3,Ao mN,Ap mN]
 rw[hz];subst hLV;have HK0:∀V,Below w.heap.size w V->Hid (Calls Tryz.prog 168 #[.pointer (some ⟨b,0,none⟩),.int .i64 (ts.length:Int),.int .i64 0,.int .i64 2] V fun e w'=>e= .returned (.string ⟨(Dl l ts kids 0 (2)).toArray⟩)/\Below V.heap.size V w'):=fun V hV=>hK 0 (2) V hV mO
 have hl0:=hKL 0 (2);obtain⟨K0,hK0⟩:∃K',Dl l ts kids 0 (2)=K':=⟨_,rfl⟩;exact zzk
theorem aU {w:World}{b tb:Nat}{tv:Value}{l:List Nz}{ts:List (List UInt8)}{x:Nz}(h:Mu w b tv tb l ts)(hx:l[ts.length]? =some x)(ho1:x.h.op≠1)(ho2:x.h.op≠2)(ho3:x.h.op≠3)(hLV:Bc x.h.op=6):
 Calls Tryz.prog 92 #[.pointer (some ⟨b,0,none⟩),.int .i64 (ts.length:Int)] w fun e w'=>e= .returned (.string ⟨(D2 x.h x.kids.length (Dl l ts x.kids)).toArray⟩)/\Below w.heap.size w w':=by
 obtain⟨hi,_⟩:=List.getElem?_eq_some_iff.1 hx;obtain⟨tr,off,tc,rfl⟩:=h.tree.some mN;obtain⟨kv,hn,hki⟩:=h.tree.get hx;obtain⟨hkl,ka,kc,rfl,_⟩:=hki;obtain⟨⟨op,⟨vk,vn,vs⟩,nm,ln,cl⟩,kids⟩:=x;obtain⟨x0,x1,x2,x3,x4,x5,x6,x7⟩:=hn;simp only at x0 x1 x2 x3 x4 x5 x6 x7 hkl ho1 ho2 ho3 hLV;have c0:=h.c0;have hlm:=h.tree.1;have hop0:0<=op:=h.ops _ (List.mem_of_getElem? hx);have i0:(0:Int)<=(ts.length:Int):=by omega
 have i1:(ts.length:Int)<(l.length:Int):=by omega
 have hbx:=B4 x0;obtain⟨W1,hW1⟩:∃W1,(w.alloc (.cells #[.int .u8 op,.int .u8 vk,.int .i64 vn,.string ⟨vs.toArray⟩,.string ⟨nm.toArray⟩,.slice ka kids.length kc,.int .i64 ln,.int .i64 cl] 43)).drew=W1:=⟨_,rfl⟩;have hp1:(w.alloc (.cells #[.int .u8 op,.int .u8 vk,.int .i64 vn,.string ⟨vs.toArray⟩,.string ⟨nm.toArray⟩,.slice ka kids.length kc,.int .i64 ln,.int .i64 cl] 43)).drew.heap[w.heap.size]? =some (.cells #[.int .u8 op,.int .u8 vk,.int .i64 vn,.string ⟨vs.toArray⟩,.string ⟨nm.toArray⟩,.slice ka kids.length kc,.int .i64 ln,.int .i64 cl] 43 (0,0)):=A1 w (.cells #[.int .u8 op,.int .u8 vk,.int .i64 vn,.string ⟨vs.toArray⟩,.string ⟨nm.toArray⟩,.slice ka kids.length kc,.int .i64 ln,.int .i64 cl] 43);have hb1:Below w.heap.size w W1:=by rw[←hW1];exact((Aq _ w).alloc (Ak _) _).drew
 rw[hW1] at hp1;obtain⟨n0,_,_,_,_,_,_,_,_⟩:=Bp hp1;have ho:=fun V=>Ax (Jo op hop0 V)
 unfold Ey at ho;have hf0:=fun u v V=>Dv u v V
 have hf1:=fun u v V=>Dj u v V
 have o1:(op==1)=false:=by simpa using ho1
 have o2:(op==2)=false:=by simpa using ho2
 have o3:(op==3)=false:=by simpa using ho3
 obtain⟨hwl,hll⟩:=J5 op;obtain⟨lv,hlv⟩:∃lv,Bc op=lv:=⟨_,rfl⟩;obtain⟨wd,hwd⟩:∃wd,Dy op=wd:=⟨_,rfl⟩;have hK:=fun k least V (hV:Below w.heap.size w V) (hk:k<=1000000)=>Ax (My (h.below hV) hx k least hk)
 simp only at hK;have hKL:=fun k least=>J9 (l:=l) h.short kids k least
 simp only[hlv,hwd] at ho hwl hll hLV
 have hz:D2 ⟨op,(vk,vn,vs),nm,ln,cl⟩ kids.length (Dl l ts kids)=wd++Dl l ts kids 0 lv:=by
  unfold D2;simp only[hlv,hwd];rw[Ao ho1,Ao ho2,Ao ho3,Ao mN,Ap mN]
 rw[hz];subst hLV;have HK0:∀V,Below w.heap.size w V->Hid (Calls Tryz.prog 168 #[.pointer (some ⟨b,0,none⟩),.int .i64 (ts.length:Int),.int .i64 0,.int .i64 6] V fun e w'=>e= .returned (.string ⟨(Dl l ts kids 0 (6)).toArray⟩)/\Below V.heap.size V w'):=fun V hV=>hK 0 (6) V hV mO
 have hl0:=hKL 0 (6);obtain⟨K0,hK0⟩:∃K',Dl l ts kids 0 (6)=K':=⟨_,rfl⟩;exact zzk
theorem hH {w:World}{b tb:Nat}{tv:Value}{l:List Nz}{ts:List (List UInt8)}{x:Nz}(h:Mu w b tv tb l ts)(hx:l[ts.length]? =some x)(ho1:x.h.op≠1)(ho2:x.h.op≠2)(ho3:x.h.op≠3)(hLV:Bc x.h.op=3):
 Calls Tryz.prog 92 #[.pointer (some ⟨b,0,none⟩),.int .i64 (ts.length:Int)] w fun e w'=>e= .returned (.string ⟨(D2 x.h x.kids.length (Dl l ts x.kids)).toArray⟩)/\Below w.heap.size w w':=by
 obtain⟨hi,_⟩:=List.getElem?_eq_some_iff.1 hx;obtain⟨tr,off,tc,rfl⟩:=h.tree.some mN;obtain⟨kv,hn,hki⟩:=h.tree.get hx;obtain⟨hkl,ka,kc,rfl,_⟩:=hki;obtain⟨⟨op,⟨vk,vn,vs⟩,nm,ln,cl⟩,kids⟩:=x;obtain⟨x0,x1,x2,x3,x4,x5,x6,x7⟩:=hn;simp only at x0 x1 x2 x3 x4 x5 x6 x7 hkl ho1 ho2 ho3 hLV;have c0:=h.c0;have hlm:=h.tree.1;have hop0:0<=op:=h.ops _ (List.mem_of_getElem? hx);have i0:(0:Int)<=(ts.length:Int):=by omega
 have i1:(ts.length:Int)<(l.length:Int):=by omega
 have hbx:=B4 x0;obtain⟨W1,hW1⟩:∃W1,(w.alloc (.cells #[.int .u8 op,.int .u8 vk,.int .i64 vn,.string ⟨vs.toArray⟩,.string ⟨nm.toArray⟩,.slice ka kids.length kc,.int .i64 ln,.int .i64 cl] 43)).drew=W1:=⟨_,rfl⟩;have hp1:(w.alloc (.cells #[.int .u8 op,.int .u8 vk,.int .i64 vn,.string ⟨vs.toArray⟩,.string ⟨nm.toArray⟩,.slice ka kids.length kc,.int .i64 ln,.int .i64 cl] 43)).drew.heap[w.heap.size]? =some (.cells #[.int .u8 op,.int .u8 vk,.int .i64 vn,.string ⟨vs.toArray⟩,.string ⟨nm.toArray⟩,.slice ka kids.length kc,.int .i64 ln,.int .i64 cl] 43 (0,0)):=A1 w (.cells #[.int .u8 op,.int .u8 vk,.int .i64 vn,.string ⟨vs.toArray⟩,.string ⟨nm.toArray⟩,.slice ka kids.length kc,.int .i64 ln,.int .i64 cl] 43);have hb1:Below w.heap.size w W1:=by rw[←hW1];exact((Aq _ w).alloc (Ak _) _).drew
 rw[hW1] at hp1;obtain⟨n0,_,_,_,_,_,_,_,_⟩:=Bp hp1;have ho:=fun V=>Ax (Jo op hop0 V)
 unfold Ey at ho;have hf0:=fun u v V=>Dv u v V
 have hf1:=fun u v V=>Dj u v V
 have o1:(op==1)=false:=by simpa using ho1
 have o2:(op==2)=false:=by simpa using ho2
 have o3:(op==3)=false:=by simpa using ho3
 obtain⟨hwl,hll⟩:=J5 op;obtain⟨lv,hlv⟩:∃lv,Bc op=lv:=⟨_,rfl⟩;obtain⟨wd,hwd⟩:∃wd,Dy op=wd:=⟨_,rfl⟩;have hK:=fun k least V (hV:Below w.heap.size w V) (hk:k<=1000000)=>Ax (My (h.below hV) hx k least hk)
 simp only at hK;have hKL:=fun k least=>J9 (l:=l) h.short kids k least
 simp only[hlv,hwd] at ho hwl hll hLV
 have hz:D2 ⟨op,(vk,vn,vs),nm,ln,cl⟩ kids.length (Dl l ts kids)=Dl l ts kids 0 4++32::(wd++32::Dl l ts kids 1 4):=by
  unfold D2;simp only[hlv,hwd];rw[Ao ho1,Ao ho2,Ao ho3,Ao mN,Ao mN,Ap mN]
 rw[hz];subst hLV;have HK0:∀V,Below w.heap.size w V->Hid (Calls Tryz.prog 168 #[.pointer (some ⟨b,0,none⟩),.int .i64 (ts.length:Int),.int .i64 0,.int .i64 4] V fun e w'=>e= .returned (.string ⟨(Dl l ts kids 0 (4)).toArray⟩)/\Below V.heap.size V w'):=fun V hV=>hK 0 (4) V hV mO
 have hl0:=hKL 0 (4);obtain⟨K0,hK0⟩:∃K',Dl l ts kids 0 (4)=K':=⟨_,rfl⟩;rw[hK0] at hl0 ⊢;simp only[hK0] at HK0;have HK1:∀V,Below w.heap.size w V->Hid (Calls Tryz.prog 168 #[.pointer (some ⟨b,0,none⟩),.int .i64 (ts.length:Int),.int .i64 1,.int .i64 4] V fun e w'=>e= .returned (.string ⟨(Dl l ts kids 1 (4)).toArray⟩)/\Below V.heap.size V w'):=fun V hV=>hK 1 (4) V hV mO
 have hl1:=hKL 1 (4);obtain⟨K1,hK1⟩:∃K',Dl l ts kids 1 (4)=K':=⟨_,rfl⟩;rw[hK1] at hl1 ⊢;simp only[hK1] at HK1;rw[eZ];have HP1:=Ax hp1;have HB1:=Ax hb1;have Hlv:=Ax hlv;have Hwd:=Ax hwd;clear h hx hp1 hb1 hz hK hKL hlv hwd hK0 hK1 ho1 ho2 ho3;exact zzi
theorem gI {w:World}{b tb:Nat}{tv:Value}{l:List Nz}{ts:List (List UInt8)}{x:Nz}(h:Mu w b tv tb l ts)(hx:l[ts.length]? =some x)(ho1:x.h.op≠1)(ho2:x.h.op≠2)(ho3:x.h.op≠3)(hLV:Bc x.h.op≠8/\Bc x.h.op≠2/\Bc x.h.op≠6/\Bc x.h.op≠3):
 Calls Tryz.prog 92 #[.pointer (some ⟨b,0,none⟩),.int .i64 (ts.length:Int)] w fun e w'=>e= .returned (.string ⟨(D2 x.h x.kids.length (Dl l ts x.kids)).toArray⟩)/\Below w.heap.size w w':=by
 obtain⟨hi,_⟩:=List.getElem?_eq_some_iff.1 hx;obtain⟨tr,off,tc,rfl⟩:=h.tree.some mN;obtain⟨kv,hn,hki⟩:=h.tree.get hx;obtain⟨hkl,ka,kc,rfl,_⟩:=hki;obtain⟨⟨op,⟨vk,vn,vs⟩,nm,ln,cl⟩,kids⟩:=x;obtain⟨x0,x1,x2,x3,x4,x5,x6,x7⟩:=hn;simp only at x0 x1 x2 x3 x4 x5 x6 x7 hkl ho1 ho2 ho3 hLV;have c0:=h.c0;have hlm:=h.tree.1;have hop0:0<=op:=h.ops _ (List.mem_of_getElem? hx);have i0:(0:Int)<=(ts.length:Int):=by omega
 have i1:(ts.length:Int)<(l.length:Int):=by omega
 have hbx:=B4 x0;obtain⟨W1,hW1⟩:∃W1,(w.alloc (.cells #[.int .u8 op,.int .u8 vk,.int .i64 vn,.string ⟨vs.toArray⟩,.string ⟨nm.toArray⟩,.slice ka kids.length kc,.int .i64 ln,.int .i64 cl] 43)).drew=W1:=⟨_,rfl⟩;have hp1:(w.alloc (.cells #[.int .u8 op,.int .u8 vk,.int .i64 vn,.string ⟨vs.toArray⟩,.string ⟨nm.toArray⟩,.slice ka kids.length kc,.int .i64 ln,.int .i64 cl] 43)).drew.heap[w.heap.size]? =some (.cells #[.int .u8 op,.int .u8 vk,.int .i64 vn,.string ⟨vs.toArray⟩,.string ⟨nm.toArray⟩,.slice ka kids.length kc,.int .i64 ln,.int .i64 cl] 43 (0,0)):=A1 w (.cells #[.int .u8 op,.int .u8 vk,.int .i64 vn,.string ⟨vs.toArray⟩,.string ⟨nm.toArray⟩,.slice ka kids.length kc,.int .i64 ln,.int .i64 cl] 43);have hb1:Below w.heap.size w W1:=by rw[←hW1];exact((Aq _ w).alloc (Ak _) _).drew
 rw[hW1] at hp1;obtain⟨n0,_,_,_,_,_,_,_,_⟩:=Bp hp1;have ho:=fun V=>Ax (Jo op hop0 V)
 unfold Ey at ho;have hf0:=fun u v V=>Dv u v V
 have hf1:=fun u v V=>Dj u v V
 have o1:(op==1)=false:=by simpa using ho1
 have o2:(op==2)=false:=by simpa using ho2
 have o3:(op==3)=false:=by simpa using ho3
 obtain⟨hwl,hll⟩:=J5 op;obtain⟨lv,hlv⟩:∃lv,Bc op=lv:=⟨_,rfl⟩;obtain⟨wd,hwd⟩:∃wd,Dy op=wd:=⟨_,rfl⟩;have hK:=fun k least V (hV:Below w.heap.size w V) (hk:k<=1000000)=>Ax (My (h.below hV) hx k least hk)
 simp only at hK;have hKL:=fun k least=>J9 (l:=l) h.short kids k least
 simp only[hlv,hwd] at ho hwl hll hLV
 have hz:D2 ⟨op,(vk,vn,vs),nm,ln,cl⟩ kids.length (Dl l ts kids)=Dl l ts kids 0 lv++32::(wd++32::Dl l ts kids 1 (lv+1)):=by
  unfold D2;simp only[hlv,hwd];rw[Ao ho1,Ao ho2,Ao ho3,Ao hLV.1,Ao mN,Ao hLV.2.2.2]
 rw[hz];have l0:((lv:Int)==8)=false:=by simp;omega
 have l1:((lv:Int)==2)=false:=by simp;omega
 have l2:((lv:Int)==6)=false:=by simp;omega
 have l3:((lv:Int)==3)=false:=by simp;omega
 have l4:((lv+1:Nat):Int)=(lv:Int)+1:=by omega
 have HK0:∀V,Below w.heap.size w V->Hid (Calls Tryz.prog 168 #[.pointer (some ⟨b,0,none⟩),.int .i64 (ts.length:Int),.int .i64 0,.int .i64 ((lv:Int))] V fun e w'=>e= .returned (.string ⟨(Dl l ts kids 0 (lv)).toArray⟩)/\Below V.heap.size V w'):=fun V hV=>hK 0 (lv) V hV mO
 have hl0:=hKL 0 (lv);obtain⟨K0,hK0⟩:∃K',Dl l ts kids 0 (lv)=K':=⟨_,rfl⟩;rw[hK0] at hl0 ⊢;simp only[hK0] at HK0;have HK1:∀V,Below w.heap.size w V->Hid (Calls Tryz.prog 168 #[.pointer (some ⟨b,0,none⟩),.int .i64 (ts.length:Int),.int .i64 1,.int .i64 ((lv:Int)+1)] V fun e w'=>e= .returned (.string ⟨(Dl l ts kids 1 (lv+1)).toArray⟩)/\Below V.heap.size V w'):=fun V hV=>hK 1 (lv+1) V hV mO
 have hl1:=hKL 1 (lv+1);obtain⟨K1,hK1⟩:∃K',Dl l ts kids 1 (lv+1)=K':=⟨_,rfl⟩;rw[hK1] at hl1 ⊢;simp only[hK1] at HK1;rw[eZ];have HP1:=Ax hp1;have HB1:=Ax hb1;have Hlv:=Ax hlv;have Hwd:=Ax hwd;clear h hx hp1 hb1 hz hK hKL hlv hwd hK0 hK1 ho1 ho2 ho3 hLV;exact zzi
theorem kN:(Tryz.prog.info? 9).map (fun i=>(i.zero,i.size,i.bytes))=some (some (.string ⟨#[]⟩),1,16):=by kernel_rfl
theorem Lf:∃i,Tryz.prog.info? 9=some i/\i.zero=some (.string ⟨#[]⟩)/\i.size=1/\i.bytes=16:=by
 have h:=kN;cases hi:Tryz.prog.info? 9 with
 |none=>simp [hi] at h
 |some i=>
  exact zx9
def Pf (l:List (List UInt8)):List Value:=l.map fun t=>Value.string ⟨t.toArray⟩
theorem Z6 (l:List (List UInt8))(t:List UInt8):Pf (l++[t])=Pf l++[.string ⟨t.toArray⟩]:=by simp [Pf]
theorem P1 {α:Type}(f:Nat->α)(k:Nat):(List.range (k+1)).map f=(List.range k).map f++[f k]:=by rw[List.range_succ,List.map_append];rfl
theorem iL (a b:List UInt8):(⟨(a++Ml b).toArray⟩:ByteArray)=⟨a.toArray⟩++⟨#[40]⟩++⟨b.toArray⟩++⟨#[41]⟩:=by
 apply ByteArray.ext;simp [Ml]
theorem aM {w:World}{b tb:Nat}{tv:Value}{l:List Nz}{ts:List (List UInt8)}{x:Nz}(h:Mu w b tv tb l ts)(hx:l[ts.length]? =some x)(ho1:x.h.op≠1)(ho2:x.h.op≠2)(ho3:x.h.op≠3)(hLV:Bc x.h.op=8):
 Calls Tryz.prog 92 #[.pointer (some ⟨b,0,none⟩),.int .i64 (ts.length:Int)] w fun e w'=>e= .returned (.string ⟨(D2 x.h x.kids.length (Dl l ts x.kids)).toArray⟩)/\Below w.heap.size w w':=by
 obtain⟨hi,_⟩:=List.getElem?_eq_some_iff.1 hx;obtain⟨tr,off,tc,rfl⟩:=h.tree.some mN;obtain⟨kv,hn,hki⟩:=h.tree.get hx;obtain⟨hkl,ka,kc,rfl,_⟩:=hki;obtain⟨⟨op,⟨vk,vn,vs⟩,nm,ln,cl⟩,kids⟩:=x;obtain⟨x0,x1,x2,x3,x4,x5,x6,x7⟩:=hn;simp only at x0 x1 x2 x3 x4 x5 x6 x7 hkl ho1 ho2 ho3 hLV;have c0:=h.c0;have hlm:=h.tree.1;have hop0:0<=op:=h.ops _ (List.mem_of_getElem? hx);have i0:(0:Int)<=(ts.length:Int):=by omega
 have i1:(ts.length:Int)<(l.length:Int):=by omega
 have hbx:=B4 x0;obtain⟨W1,hW1⟩:∃W1,(w.alloc (.cells #[.int .u8 op,.int .u8 vk,.int .i64 vn,.string ⟨vs.toArray⟩,.string ⟨nm.toArray⟩,.slice ka kids.length kc,.int .i64 ln,.int .i64 cl] 43)).drew=W1:=⟨_,rfl⟩;have hp1:(w.alloc (.cells #[.int .u8 op,.int .u8 vk,.int .i64 vn,.string ⟨vs.toArray⟩,.string ⟨nm.toArray⟩,.slice ka kids.length kc,.int .i64 ln,.int .i64 cl] 43)).drew.heap[w.heap.size]? =some (.cells #[.int .u8 op,.int .u8 vk,.int .i64 vn,.string ⟨vs.toArray⟩,.string ⟨nm.toArray⟩,.slice ka kids.length kc,.int .i64 ln,.int .i64 cl] 43 (0,0)):=A1 w (.cells #[.int .u8 op,.int .u8 vk,.int .i64 vn,.string ⟨vs.toArray⟩,.string ⟨nm.toArray⟩,.slice ka kids.length kc,.int .i64 ln,.int .i64 cl] 43);have hb1:Below w.heap.size w W1:=by rw[←hW1];exact((Aq _ w).alloc (Ak _) _).drew
 rw[hW1] at hp1;obtain⟨n0,_,_,_,_,_,_,_,_⟩:=Bp hp1;have ho:=fun V=>Ax (Jo op hop0 V)
 unfold Ey at ho;have hf0:=fun u v V=>Dv u v V
 have hf1:=fun u v V=>Dj u v V
 have o1:(op==1)=false:=by simpa using ho1
 have o2:(op==2)=false:=by simpa using ho2
 have o3:(op==3)=false:=by simpa using ho3
 obtain⟨hwl,hll⟩:=J5 op;obtain⟨lv,hlv⟩:∃lv,Bc op=lv:=⟨_,rfl⟩;obtain⟨wd,hwd⟩:∃wd,Dy op=wd:=⟨_,rfl⟩;have hK:=fun k least V (hV:Below w.heap.size w V) (hk:k<=1000000)=>Ax (My (h.below hV) hx k least hk)
 simp only at hK;have hKL:=fun k least=>J9 (l:=l) h.short kids k least
 simp only[hlv,hwd] at ho hwl hll hLV
 have hz:D2 ⟨op,(vk,vn,vs),nm,ln,cl⟩ kids.length (Dl l ts kids)=wd++Ml (Iu [44,32] ((List.range kids.length).map fun k=>Dl l ts kids k 0)):=by
  unfold D2;simp only[hlv,hwd];rw[Ao ho1,Ao ho2,Ao ho3,Ap mN]
 rw[hz];subst hLV;obtain⟨F,hF⟩:∃F:Nat->List UInt8,F=fun k=>Dl l ts kids k 0:=⟨_,rfl⟩
 have HK:∀(k:Nat) V,k<=1000000->Below w.heap.size w V->Hid (Calls Tryz.prog 168 #[.pointer (some ⟨b,0,none⟩),.int .i64 (ts.length:Int),.int .i64 (k:Int),.int .i64 0] V fun e w'=>e= .returned (.string ⟨(F k).toArray⟩)/\Below V.heap.size V w'):=fun k V hk hV=>by rw[hF];exact hK k 0 V hV hk
 have hFl:∀k,(F k).length<=65538:=fun k=>by rw[hF];exact hKL k 0
 rw[show(fun k=>Dl l ts kids k 0)=F from hF.symm,iL]
 have hJl:=Sv ((List.range kids.length).map F) fun t ht=>by
  obtain⟨k,_,rfl⟩:=List.mem_map.1 ht;exact hFl k
 rw[List.length_map,List.length_range] at hJl;obtain⟨J,hJ⟩:∃J,Iu [44,32] ((List.range kids.length).map F)=J:=⟨_,rfl⟩;rw[hJ] at hJl ⊢;have hJb:J.length<=70000000000:=by omega
 have HJ:=Ax hJ;have HFl:=Ax hFl;have HP1:=Ax hp1;have HB1:=Ax hb1;have Hlv:=Ax hlv;have Hwd:=Ax hwd;clear h hx hp1 hb1 hz hK hKL hlv hwd ho1 ho2 ho3 hF hJ hJl hFl;go_enter Tryz.func92,Tryz.ntmps92;go_wp2_with fail
 go_region_held3 (fun V=>V.cell? ⟨w.heap.size,0,none⟩=some (.int .u8 op)) (go_keep)
  (first
   |(go_at_call 62;(with_reducible refine(ho _).out.mono ?_);rintro e V2 ⟨rfl,hb2⟩;have hc2:=A7 hb2 n0;have hB2:=Ax hb2;clear hb2)
   |(go_at_call 62;(with_reducible refine(ho _).out.mono ?_);rintro e V3 ⟨rfl,hb3⟩;have hc3:=A7 hb3 hc2;have HB3:=Ax (hB2.out.trans (hb3.mono hB2.out.size));clear hb3))
 obtain⟨m0,m1,m2,m3,m4,m5,m6,m7,_⟩:=Bp ((HB3.out.block _ (Ay HP1.out)).trans HP1.out);have hBV0:=HB1.out.trans (HB3.out.mono HB1.out.size);have HL:Hid (V3.ownsRow w.heap.size 9 1 (.slice none 0 0) 0 (Pf ((List.range 0).map F))/\Below w.heap.size w V3):=Ax ⟨World.ownsRow_nil _ _ _ _,hBV0⟩;clear HB1 hB2 hBV0;go_wp2_with fail
 go_loopw [8,63] (fun v8 v63 wr=>∃(k:Nat) (sa:Option Addr) (sc:Nat),k<=kids.length/\v63= .int .i64 k/\v8= .slice sa k sc/\Hid (wr.ownsRow w.heap.size 9 1 (.slice sa k sc) k (Pf ((List.range k).map F))/\Below w.heap.size w wr)) (fun _ v63 _=>kids.length - (intOf v63).toNat)
 case atStart=>exact⟨0,none,0,Nat.zero_le _,rfl,rfl,HL⟩
 obtain⟨k,sa,sc,hk,rfl,rfl,hq⟩:=hrel;obtain⟨hrow,hB⟩:=hq.out;clear m0 m1 m2 m3 m4 m5 m6 m7;by_cases hkl2:k<kids.length
 ·have HKk:=HK k wr mN hB;have hfl:=HFl.out k;have hms:=P1 F k;obtain⟨t,ht⟩:∃t,F k=t:=⟨_,rfl⟩;simp only[ht] at HKk;rw[ht] at hfl hms;have e3:(0:Int)<=(k:Int):=by omega
  have e9:decide ((k:Int)<(kids.length:Int))=true:=Am mN;have Hms:=Ax hms;have Hrow:=Ax hrow;have HB:=Ax hB;obtain⟨i0',hi0,hz0,hz1,hz2⟩:=Lf;have Hi0:=Ax hi0;have Hy0:=Ax hz0;have Hy1:=Ax hz1;have Hy2:=Ax hz2;clear hq hrow hB ht hms hi0 hz0 hz1 hz2 HL;go_wp2_with fail;refine HKk.out.mono ?_;rintro e V ⟨rfl,hbV⟩;have hrV:=C6 Hrow.out hbV;have hBV:=HB.out.trans (hbV.mono HB.out.size);have Hrow1:=Ax (hrV.alloc (.cells #[.string ⟨t.toArray⟩] 9));have HN1:=Ax (A1 V (.cells #[.string ⟨t.toArray⟩] 9));have HZ:Hid ((V.alloc (.cells #[.string ⟨t.toArray⟩] 9)).heap.size=V.heap.size+1):=Ax mP;have hsr:=hBV.size;have Hown:=Ax (Cu hrV);have HBV:=Ax hBV;clear hbV hrV hBV HKk HB Hrow;go_wp2_with ((refine wpList_append_lies _ rfl (.tmp 66) (.tmp 71) _ rfl w.heap.size 9 i0' (.string ⟨#[]⟩) 1 16 Tryz.underlying39 Hi0.out Hy0.out Hy1.out Hy2.out rfl mO (.slice sa k sc) k (Pf ((List.range k).map F)) rfl Hrow1.out ⟨V.heap.size,0,none⟩ 1 1 [.string ⟨t.toArray⟩] rfl rfl (World.news_of_block (cs:= #[.string ⟨t.toArray⟩]) HN1.out) nB mO mZ mN nE (V.heap.size+1) HZ.out ?_;intro g6 cap w6 hown6 hgrow6 hat6 hlt6));have hB6:=Vo (v:= .slice sa k sc) (HBV.out.alloc HBV.out.size (.cells #[.string ⟨t.toArray⟩] 9)) hgrow6 Hown.out nE;rw[←Z6,←Hms.out] at hown6;have HR6:Hid (w6.ownsRow w.heap.size 9 1 (.slice (some ⟨g6,0,none⟩) (k+1) cap) (k+1) (Pf ((List.range (k+1)).map F))/\Below w.heap.size w w6):=Ax ⟨hown6,hB6⟩;clear hown6 hgrow6 hat6 hlt6 hB6 Hrow1 HN1 HZ hsr Hown HBV;go_wp2_with fail;go_roundw
  case rel=>exact⟨k+1,some ⟨g6,0,none⟩,cap,by omega,by go_num,rfl,HR6⟩
  case measure=>simp [intOf];omega
 obtain rfl:k=kids.length:=by omega
 have e9:decide ((kids.length:Int)<(kids.length:Int))=false:=by simp
 have hjoin:Calls Tryz.prog 169 #[.slice sa kids.length sc,.string ⟨#[44,32]⟩] wr fun e w'=>e= .returned (.string ⟨J.toArray⟩)/\Below wr.heap.size wr w':=by
  rcases hrow.2 with ⟨e2,h0⟩|⟨g,cap,cur,e2,_,hg,hc,_⟩
  ·rw[h0] at e2 ⊢;have hj0:J=[]:=by rw[←HJ.out,h0];rfl
   rw[hj0];refine(Tryz.strings_Join_none sa sc ⟨#[44,32]⟩ wr).mono ?_;rintro e w' ⟨rfl,rfl⟩;exact⟨rfl,Aq _ _⟩
  injection e2 with e3 _ e4;subst e3 e4
  have hj:=Tryz.strings_Join g 0 sc ((List.range kids.length).map fun k=>(⟨(F k).toArray⟩:ByteArray)) ⟨#[44,32]⟩ wr (fun j x hj=>by
   obtain⟨hj1,rfl⟩:=List.getElem?_eq_some_iff.1 hj;have hj2:j<kids.length:=by simpa using hj1
   have:=hrow.cells (g:=g) rfl j (.string ⟨(F j).toArray⟩) (by simp [Pf,hj2])
   rw[Addr.add_lit] at this
   simpa using this) (Ay hg) mU (by simpa using hc) (by
   rw[List.map_map,show((fun x:ByteArray=>x.data.toList)∘fun k=>(⟨(F k).toArray⟩:ByteArray))=F from rfl,Yd]
   show(Iu [44,32] ((List.range kids.length).map F)).length<=_
   rw[HJ.out]
   omega)
  rw[List.map_map,show((fun x:ByteArray=>x.data.toList)∘fun k=>(⟨(F k).toArray⟩:ByteArray))=F from rfl,Yd,List.length_map,List.length_range] at hj;rw[←HJ.out];exact hj
 have Hjoin:=Ax hjoin;have HB:=Ax hB;clear hq hrow hB hkl2 HL hjoin;go_wp2_with fail;refine Hjoin.out.mono ?_;rintro e V ⟨rfl,hbV⟩;have HBV:=Ax (HB.out.trans (hbV.mono HB.out.size));clear hbV HB Hjoin;go_wp2_with fail;go_ret;exact⟨rfl,HBV.out⟩
theorem cL {w:World}{b tb:Nat}{tv:Value}{l:List Nz}{ts:List (List UInt8)}{x:Nz}(h:Mu w b tv tb l ts)(hx:l[ts.length]? =some x)(hR:Rd w)(hf:K7 x.h):
 Calls Tryz.prog 92 #[.pointer (some ⟨b,0,none⟩),.int .i64 (ts.length:Int)] w fun e w'=>e= .returned (.string ⟨(D2 x.h x.kids.length (Dl l ts x.kids)).toArray⟩)/\Below w.heap.size w w':=by
 by_cases h1:x.h.op=1
 ·exact gB h hx hR hf h1
 by_cases h2:x.h.op=2
 ·exact gP h hx hf h2
 by_cases h3:x.h.op=3
 ·exact bQ h hx h3
 by_cases l8:Bc x.h.op=8
 ·exact aM h hx h1 h2 h3 l8
 by_cases l2:Bc x.h.op=2
 ·exact bB h hx h1 h2 h3 l2
 by_cases l6:Bc x.h.op=6
 ·exact aU h hx h1 h2 h3 l6
 by_cases l3:Bc x.h.op=3
 ·exact hH h hx h1 h2 h3 l3
 exact gI h hx h1 h2 h3 ⟨l8,l2,l6,l3⟩
open Go Go.ChangeShapes Go.WideShapes Go.ChangeAt Go.RowKit Go.Deep Go.Lib
def iE (w:World)(v:Value)(l:List (List UInt8×Int)):Prop:=(∀y∈l,0<=y.2/\y.2<=255)/\∃a c,v= .slice a l.length c/\∀i (h:i<l.length),∃b off,a=some ⟨b,off,none⟩/\w.cell? ⟨b,off+i*2,none⟩=some (.string ⟨l[i].1.toArray⟩)/\w.cell? ⟨b,off+i*2+1,none⟩=some (.int .u8 l[i].2)
theorem iE.rd {w:World}{v:Value}{l:List (List UInt8×Int)}(h:iE w v l)(hl:l.length<=1000000):Uk w v l:=⟨hl,h.2⟩
section
variable {H:Type} {enc:TypeId×Value->H} {w:World} {base:Nat} {spare:Nat->Bool} {held:Bool}
theorem Wy {fuel:Nat}{v:Value}{x:DataW H×List MemPlace}(h:DataW.trod enc Tryz.prog w base spare held fuel 57 [v]=some x):∃l,iE w v l:=by
 rcases open_slice Tryz.underlying57 h with ⟨hc,_⟩|⟨a,len,cap,m,n,D,Pl,hc,hb,hle,hcap,hm,rfl,hi⟩
 ·simp only[List.cons.injEq,and_true] at hc;subst hc;exact⟨[],by simp,none,0,rfl,fun i hi=>by simp at hi⟩
 simp only[List.cons.injEq,and_true] at hc;subst hc;have hml:len<=m:=by rw[hm];split<;>omega
 have hsp:∀i,i<len->a=⟨a.block,a.off,none⟩:=by
  intro i hil;obtain⟨cs,hcs,ht⟩:=hi 0 mN;rw[show Tryz.prog.cellsOf 71=2 from by kernel_rfl] at hcs;obtain⟨hlen,hcl,hat⟩:=World.cells?_some hcs;have h0:=hat 0 mN;rw[Ag mN] at h0;exact Ji (a:=a) h0
 have hcells:∀i,i<len->∃y:List UInt8×Int,(0<=y.2/\y.2<=255)/\w.cell? ⟨a.block,a.off+i*2,none⟩=some (.string ⟨y.1.toArray⟩)/\w.cell? ⟨a.block,a.off+i*2+1,none⟩=some (.int .u8 y.2)/\w.cell? (a.add (i*2))=some (.string ⟨y.1.toArray⟩):=by
  intro i hil;obtain⟨cs,hcs,ht⟩:=hi i mN;rw[show Tryz.prog.cellsOf 71=2 from by kernel_rfl] at hcs;obtain⟨ys,n',_,hxd,hlen,hyl,hf⟩:=DataW.trod_struct Tryz.underlying71 ht;rw[show Tryz.prog.cellsOf 71=2 from by kernel_rfl] at hlen;obtain⟨_,hcl,hat⟩:=World.cells?_some hcs
  obtain⟨c0,c1,rfl⟩:∃c0 c1,cs=[c0,c1]:=by
   match cs,hlen with
   |[c0,c1],_=>exact⟨_,_,rfl⟩
  have hys:∀i,i<2->∃y,ys[i]? =some y:=fun i hi=>⟨ys[i]'(by rw[hyl];exact hi),Ag (by rw[hyl];exact hi)⟩
  obtain⟨y0,hy0⟩:=hys 0 mN;obtain⟨y1,hy1⟩:=hys 1 mN;have g0:DataW.trod enc Tryz.prog w base spare held n' 9 (([c0,c1].drop 0).take (Tryz.prog.cellsOf 9))=ys[0]?:=hf 0 _ rfl;rw[show Tryz.prog.cellsOf 9=1 from by kernel_rfl] at g0;have g1:DataW.trod enc Tryz.prog w base spare held n' 5 (([c0,c1].drop 1).take (Tryz.prog.cellsOf 5))=ys[1]?:=hf 1 _ rfl;rw[show Tryz.prog.cellsOf 5=1 from by kernel_rfl] at g1;obtain⟨nm,e0,_,_⟩:=DataW.trod_string Tryz.underlying9 (g0.trans hy0);obtain⟨k,e1,_,hk⟩:=DataW.trod_int Tryz.underlying5 (g1.trans hy1);simp only[List.drop_zero,List.drop_succ_cons,List.take_succ_cons,List.take_zero,List.cons.injEq,and_true] at e0 e1;subst e0 e1;have h0:=hat 0 mN;have h1:=hat 1 mN;rw[hsp i hil] at h0 h1 ⊢;simp only[Addr.add_lit,Nat.add_zero] at h0 h1 ⊢;exact⟨(nm.data.toList,k),gO hk,h0,h1,h0⟩
 obtain⟨l,hl,hp⟩:=Gi _ len hcells;refine⟨l,fun y hy=>?_,some a,cap,by rw[hl],fun i hil=>?_⟩
 ·obtain⟨i,hi,rfl⟩:=List.getElem_of_mem hy;exact(hp i hi).1
 have hs:=Ji (hp 0 mN).2.2.2;simp only[Nat.zero_mul,Addr.add,if_true] at hs;obtain⟨_,q1,q2,_⟩:=hp i hil;exact⟨a.block,a.off,by rw[hs],q1,q2⟩
theorem Xh {r:Reach}{b0:Nat}{v:Value}{d:DataW H}{p:List MemPlace}(hv:Value.okWide Tryz.prog w r b0 59 v)(h:DataW.Trod enc Tryz.prog w base spare held 59 v d p):
 ∃a l c sf,v= .agg #[.slice a (List.length l) c,.int .u8 sf]/\(0<=sf/\sf<=255)/\iE w (.slice a (List.length l) c) l:=by
 obtain⟨v0,v1,y0,y1,n,rfl,_,_,h0,h1⟩:=Joins.open_agg2 Tryz.underlying59 mM mM hv h;obtain⟨l,hl⟩:=Wy h0;obtain⟨k,e1,_,hk⟩:=DataW.trod_int Tryz.underlying5 h1;simp only[List.cons.injEq,and_true] at e1;subst e1;have hl':=hl;obtain⟨_,a,c,rfl,_⟩:=hl';exact⟨a,l,c,k,rfl,gO hk,hl⟩
end
theorem X9 {l:List Na}{n:Nat}(h:I1 l n=false):l.length<=70/\Kc l<=3000/\n<=40:=by
 unfold I1 Tc at h;rw[Bool.or_eq_false_iff,Bool.or_eq_false_iff] at h;exact⟨by have:=of_decide_eq_false h.1.1;omega,by have:=of_decide_eq_false h.1.2;omega,by have:=of_decide_eq_false h.2;omega⟩
theorem Y7:∀{l:List Nat} {x:Nat},x∈l->x<=l.sum
 |y::l,_,.head _=>by rw[List.sum_cons];omega
 |y::l,_,.tail _ h=>by have:=Y7 h;rw[List.sum_cons];omega
theorem Py.small {w:World}{v:Value}{l:List Na}(h:Py w v l)(h70:l.length<=70)(h3:Kc l<=3000):
 ∃zs:List Nz,zs.length=l.length/\zs.length<=70/\TrZ w v zs/\(∀x∈zs,0<=x.h.op)/\∀x∈zs,K7 x.h:=by
 have hat:∀i (hi:i<l.length),l[i].h.name.length+l[i].h.v.2.2.length+l[i].n<=3000:=fun i hi=>Al (Y7 (List.mem_map.2 ⟨l[i],List.getElem_mem hi,rfl⟩)) h3
 obtain⟨zs,hzl,hzk,hz⟩:=h.z mN (fun x hx=>by
  obtain⟨i,hi,rfl⟩:=List.getElem_of_mem hx
  have:=hat i hi
  omega)
 obtain⟨_,_,_,_,hc0⟩:=h;refine⟨zs,hzl,by omega,hz,fun x hx=>?_,fun x hx=>?_⟩
 all_goals
  obtain⟨i,hi,rfl⟩:=List.getElem_of_mem hx;obtain⟨_,_,_,_,ok⟩:=hc0 i mN;rw[(hzk i mN hi).1]
 ·exact ok.op0
 have:=hat i mN
 exact⟨ok.v0,ok.v1,by omega,by omega⟩
open Go Go.RowKit Go.Lib
def Mt {α:Type}(l:List α)(p:α->Bool):Int:=match l.findIdx? p with|some i=>i|none=> -1
theorem Ti {α:Type}{l:List α}{p:α->Bool}{k:Nat}(hk:k<l.length)(h0:∀j (h:j<l.length),j<k->p l[j]=false)(h1:p l[k]=true):Mt l p=k:=by
 unfold Mt;rw[(List.findIdx?_eq_some_iff_getElem (p:=p) (i:=k)).2 ⟨hk,h1,fun j hj=>by simpa using h0 j mN hj⟩]
theorem R3 {α:Type}{l:List α}{p:α->Bool}(h0:∀j (h:j<l.length),p l[j]=false):Mt l p= -1:=by
 unfold Mt;rw[List.findIdx?_eq_none_iff.2 (fun e he=>by obtain⟨j,hj,rfl⟩:=List.getElem_of_mem he;exact h0 j hj)]
theorem gL {α:Type}(l:List α)(p:α->Bool):decide (0<=Mt l p)=l.any p:=by
 unfold Mt;cases h:l.findIdx? p with
 |none=>
  rw[List.findIdx?_eq_none_iff] at h
  have:l.any p=false:=List.any_eq_false.2 fun x hx=>by simpa using h x hx
  rw[this];rfl
 |some i=>
  obtain⟨hi,hp,_⟩:=List.findIdx?_eq_some_iff_getElem.1 h
  have:l.any p=true:=List.any_eq_true.2 ⟨l[i],List.getElem_mem hi,hp⟩
  rw[this];exact Am (by show(0:Int)<=(i:Int);omega)
def mE (l:List Int)(w:World)(fn:Nat)(caps:Array Value)(p:Int->Bool):Prop:=
 ∀(t:Int) (V:World),t∈l->Below w.heap.size w V->Calls Tryz.prog fn (#[.int .u8 t]++caps) V fun r V'=>r= .returned (.bool (p t))/\Below V.heap.size V V'
theorem Wk (fn:Nat)(caps:Array Value)(p:Int->Bool)(eg:∀args w,(callFunc fn args).run Tryz.prog w= .ok (.enter fn args) w){v:Value}(l:List Int)(w:World)(h:J3 w v l)(ha:mE l w fn caps p):
 Calls Tryz.prog 220 #[v,.func (.func fn) #[] caps] w fun r w'=>r= .returned (.int .i64 (Mt l p))/\Below w.heap.size w w':=by
 have hlm:=h.1;obtain⟨_,a,c,rfl,hcs⟩:=h;have HC:=Ax hcs;have HA:=Ax ha;clear hcs ha;go_enter Tryz.func220,Tryz.ntmps220
 go_wp2
 go_loopw [8] (fun vi wr=>∃k:Nat,k<=l.length/\vi= .int .i64 k/\Hid (∀j (h:j<l.length),j<k->p l[j]=false)/\Hid (Below w.heap.size w wr)) (fun i _=>l.length - (intOf i).toNat)
 case atStart=>exact⟨0,Nat.zero_le _,rfl,fun j h hj=>absurd hj mN,Aq _ _⟩
 obtain⟨wo,rfl⟩:∃wo:World,wo=wr:=⟨_,rfl⟩;obtain⟨k,hk,rfl,hq,hb⟩:=hrel;by_cases hlk:k<l.length
 ·obtain⟨g,off,rfl,c0⟩:=HC.out k hlk;have c0:=A7 hb.out c0;exact zzd
 obtain rfl:k=l.length:=by omega
 go_wp2
 go_ret;exact⟨by rw[R3 (fun j h=>hq.out j h h)];rfl,hb.out⟩
theorem Rf (fn:Nat)(caps:Array Value)(p:Int->Bool)(eg:∀args w,(callFunc fn args).run Tryz.prog w= .ok (.enter fn args) w){v:Value}(l:List Int)(w:World)(h:J3 w v l)(ha:mE l w fn caps p):
 Calls Tryz.prog 175 #[v,.func (.func fn) #[] caps] w fun r w'=>r= .returned (.bool (l.any p))/\Below w.heap.size w w':=by
 have Hi:=Ax (Wk fn caps p eg l w h ha);have He:=Ax (gL l p);obtain⟨_,a,c,rfl,_⟩:=h;clear ha;obtain⟨i,hi⟩:∃i,Mt l p=i:=⟨_,rfl⟩;rw[hi] at Hi He;clear hi;go_enter Tryz.func175,Tryz.ntmps175;go_wp2_with fail;refine Hi.out.mono ?_;rintro r V ⟨rfl,hb⟩;have HB:=Ax hb;clear hb
 go_wp2
 go_ret;exact⟨by rw[←He.out];rfl,HB.out⟩
def mK (l:List (List UInt8×Int))(w:World)(fn:Nat)(caps:Array Value)(p:(List UInt8×Int)->Bool):Prop:=
 ∀(t:(List UInt8×Int)) (V:World),t∈l->Below w.heap.size w V->Calls Tryz.prog fn (#[.agg #[.string ⟨t.1.toArray⟩,.int .u8 t.2]]++caps) V fun r V'=>r= .returned (.bool (p t))/\Below V.heap.size V V'
theorem Yf (fn:Nat)(caps:Array Value)(p:(List UInt8×Int)->Bool)(eg:∀args w,(callFunc fn args).run Tryz.prog w= .ok (.enter fn args) w){v:Value}(l:List (List UInt8×Int))(w:World)(h:Uk w v l)(ha:mK l w fn caps p):
 Calls Tryz.prog 99 #[v,.func (.func fn) #[] caps] w fun r w'=>r= .returned (.int .i64 (Mt l p))/\Below w.heap.size w w':=by
 have hlm:=h.1;obtain⟨_,a,c,rfl,hcs⟩:=h;have HC:=Ax hcs;have HA:=Ax ha;clear hcs ha;go_enter Tryz.func99,Tryz.ntmps99
 go_wp2
 go_loopw [8] (fun vi wr=>∃k:Nat,k<=l.length/\vi= .int .i64 k/\Hid (∀j (h:j<l.length),j<k->p l[j]=false)/\Hid (Below w.heap.size w wr)) (fun i _=>l.length - (intOf i).toNat)
 case atStart=>exact⟨0,Nat.zero_le _,rfl,fun j h hj=>absurd hj mN,Aq _ _⟩
 obtain⟨wo,rfl⟩:∃wo:World,wo=wr:=⟨_,rfl⟩;obtain⟨k,hk,rfl,hq,hb⟩:=hrel;by_cases hlk:k<l.length
 ·obtain⟨g,off,rfl,c0,c1⟩:=HC.out k hlk;have c0:=A7 hb.out c0;have c1:=A7 hb.out c1;exact zzd
 obtain rfl:k=l.length:=by omega
 go_wp2
 go_ret;exact⟨by rw[R3 (fun j h=>hq.out j h h)];rfl,hb.out⟩
open Go Go.RowKit Go.Lib
theorem Xt (k c:Int)(b:Nat)(w:World)(hc:w.cell? ⟨b,0,none⟩=some (.int .u8 c)):Calls Tryz.prog 176 #[.int .u8 k,.pointer (some ⟨b,0,none⟩)] w fun e w'=>e= .returned (.bool (k !=c && k !=0))/\Below w.heap.size w w':=by
 obtain⟨x,hx⟩:∃x,(k !=c)=x:=⟨_,rfl⟩;rw[hx];cases x
 all_goals
  go_enter Tryz.func176,Tryz.ntmps176;exact zyr
theorem O8 (c:Int):∀l:List Int,(!(l.any fun k=>k !=c && k !=0))=Oe c l
 |[]=>rfl
 |x::l=>by
  have h:=O8 c l;unfold Oe at h ⊢;rw[List.any_cons,List.all_cons,←h,Bool.not_or,Bool.not_and,bne,bne,Bool.not_not,Bool.not_not]
theorem Nx {v:Value}{l:List Int}(c:Int)(w:World)(h:J3 w v l):Calls Tryz.prog 103 #[.int .u8 c,v] w fun e w'=>e= .returned (.bool (Oe c l))/\Below w.heap.size w w':=by
 have hb:=(Aq w.heap.size w).alloc (Ak _) (.cells #[.int .u8 c] 5)
 have hcc:(w.alloc (.cells #[.int .u8 c] 5)).cell? ⟨w.heap.size,0,none⟩=some (.int .u8 c):=by
  have:=A1 w (.cells #[.int .u8 c] 5)
  simp only[World.cell?,this];rfl
 have Hi:=Ax (Rf 176 #[.pointer (some ⟨w.heap.size,0,none⟩)] (fun k=>k !=c && k !=0) (enters_of Tryz.func176 mM rfl) l (w.alloc (.cells #[.int .u8 c] 5)) (h.below hb)
  fun t V _ hV=>Xt t c w.heap.size V (A7 hV hcc))
 have HB:=Ax hb;have hn:=O8 c l;obtain⟨_,a,cc,rfl,_⟩:=h;obtain⟨q,hq⟩:∃q,(l.any fun k=>k !=c && k !=0)=q:=⟨_,rfl⟩;rw[hq] at Hi hn;have Hn:=Ax hn;clear hb hcc hq hn;go_enter Tryz.func103,Tryz.ntmps103;go_wp2_with fail;refine Hi.out.mono ?_;rintro r V ⟨rfl,hb⟩;have HB1:=Ax (HB.out.trans (hb.mono mP));clear hb;go_wp2_with fail;go_ret;exact⟨by rw[←Hn.out];rfl,HB1.out⟩
theorem eV (a b:Int)(ha:0<=a)(hb:0<=b):(Im 0 [a,b] !=255)=(decide (a<=2) && decide (b<=2)):=by
 unfold Im;by_cases h1:2<a
 ·rw[Ap h1,An mN];rfl
 rw[Ao h1,Am mN,Im];by_cases h2:2<b
 ·rw[Ap h2,An mN];rfl
 rw[Ao h2,Am mN,Im];exact bne_iff_ne.2 mN
theorem Vf (a b:Int)(ha:0<=a)(hb:0<=b)(w:World):Calls Tryz.prog 104 #[.int .u8 a,.int .u8 b] w fun e w'=>e= .returned (.bool (O7 a b))/\Below w.heap.size w w':=by
 have hn:=eV a b ha hb;unfold O7;rw[←hn];have hW:=(Aq w.heap.size w).alloc (Ak _) (.cells #[.int .u8 a,.int .u8 b] 5)
 have hk:J3 (w.alloc (.cells #[.int .u8 a,.int .u8 b] 5)) (.slice (some ⟨w.heap.size,0,none⟩) 2 2) [a,b]:=by
  have hp:=A1 w (.cells #[.int .u8 a,.int .u8 b] 5);obtain⟨c0,c1,_⟩:=Q6 hp;refine⟨by simp,_,_,rfl,fun i hi=>⟨w.heap.size,0,rfl,?_⟩⟩
  match i,hi with
  |0,_=>exact c0
  |1,_=>exact c1
 have HA:=Ax (J8 _ hk);have HW:=Ax hW;obtain⟨x,hx⟩:∃x,(a==0)=x:=⟨_,rfl⟩;obtain⟨y,hy⟩:∃y,(b==0)=y:=⟨_,rfl⟩;obtain⟨z,hz⟩:∃z,(a==b)=z:=⟨_,rfl⟩;obtain⟨m,hm⟩:∃m,Im 0 [a,b]=m:=⟨_,rfl⟩;rw[hx,hy,hz,hm];rw[hm] at HA;clear hn hW hk hm;cases x;rotate_left
 ·clear HA;go_enter Tryz.func104,Tryz.ntmps104;exact zyr
 cases y;rotate_left
 ·clear HA;go_enter Tryz.func104,Tryz.ntmps104;exact zyr
 cases z;rotate_left
 ·clear HA;go_enter Tryz.func104,Tryz.ntmps104;exact zyr
 go_enter Tryz.func104,Tryz.ntmps104;go_wp2_with fail;refine HA.out.mono ?_;rintro e V ⟨rfl,hb⟩;have HB:=Ax (HW.out.trans (hb.mono HW.out.size));clear hb HA HW;go_wp2_with fail;go_ret;exact⟨rfl,HB.out⟩
end Go.Proofs.YtgfakdobajgnfaaGreatDoor
