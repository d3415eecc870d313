import Derived.Deep.RegionWith
import Derived.Test.YtgfakdobajgnfaaGreatDoorQk13
set_option maxRecDepth 100000
set_option maxHeartbeats 16000000
namespace Go.Proofs.YtgfakdobajgnfaaGreatDoor
open Go Go.RowKit Go.Lib Go.Sort Go.Shelf
def Q5 (w:World)(c:Nat)(ts:List (List UInt8)):Prop:=∀(j:Nat) t,ts[j]? =some t->w.cell? ⟨c,j,none⟩=some (.string ⟨t.toArray⟩)
theorem Q5.below {w w':World}{c:Nat}{ts:List (List UInt8)}(h:Q5 w c ts)(d:Below w.heap.size w w'):Q5 w' c ts:=fun j t e=>A4 d (h j t e)
structure Oi (w:World)(b:Nat)(tv:Value)(tb:Nat)(l:List Nz)(ts:List (List UInt8)):Prop where
 tree:TrZ w tv l
 c0:w.cell? ⟨b,0,none⟩=some tv
 c1:w.cell? ⟨b,1,none⟩=some (.slice (some ⟨tb,0,none⟩) l.length l.length)
 texts:Q5 w tb ts
 few:ts.length<=l.length
 ops:∀x∈l,0<=x.h.op
 short:∀t∈ts,t.length<=65536
theorem Oi.below {w w':World}{b d:Nat}{e:Value}{l:List Nz}{ts:List (List UInt8)}(h:Oi w b e d l ts)(c:Below w.heap.size w w'):Oi w' b e d l ts:=
 ⟨h.tree.below c,A4 c h.c0,A4 c h.c1,h.texts.below c,h.few,h.ops,h.short⟩
def B4 (l:List Nz)(ts:List (List UInt8))(kids:List Int)(k least:Nat):List UInt8:=match kids[k]? with
 |none=>[]
 |some c=>if 0<=c/\c<(ts.length:Int) then(match l[c.toNat]?,ts[c.toNat]? with
  |some x,some t=>if A9 x.h.op<least then K6 t else t
  |_,_=>[]) else[]
theorem D6 (a b:Value)(w:World):(Instr.field 102 (.agg #[a,b]) 0).run Tryz.prog w= .ok a w:=by kernel_rfl
theorem Du (a b:Value)(w:World):(Instr.field 102 (.agg #[a,b]) 1).run Tryz.prog w= .ok b w:=by kernel_rfl
theorem TrZ.slice {w:World}{v:Value}{l:List Nz}(h:TrZ w v l):∃a c,v= .slice a l.length c:=by
 obtain⟨_,a,c,rfl,_⟩:=h;exact⟨a,c,rfl⟩
theorem TrZ.some {w:World}{v:Value}{l:List Nz}(h:TrZ w v l)(d:0<l.length):∃b off c,v= .slice (some ⟨b,off,none⟩) l.length c:=by
 obtain⟨_,a,c,rfl,e⟩:=h;obtain⟨b,off,_,rfl,_⟩:=e 0 d;exact⟨b,off,c,rfl⟩
theorem J3 (a b:List UInt8):(⟨a.toArray⟩++⟨b.toArray⟩:ByteArray)=⟨(a++b).toArray⟩:=by
 apply ByteArray.ext;simp
theorem kN (t:List UInt8):(⟨#[40]⟩++⟨t.toArray⟩++⟨#[41]⟩:ByteArray)=⟨(K6 t).toArray⟩:=by
 apply ByteArray.ext;simp [K6]
theorem N2 {w:World}{b M:Nat}{N:Value}{l:List Nz}{ts:List (List UInt8)}{x:Nz}(h:Oi w b N M l ts)(r:l[ts.length]? =some x)(k least:Nat)(hk:k<=1000000):
 Calls Tryz.prog 168 #[.pointer (some ⟨b,0,none⟩),.int .i64 (ts.length:Int),.int .i64 (k:Int),.int .i64 (least:Int)] w fun e w'=>e= .returned (.string ⟨(B4 l ts x.kids k least).toArray⟩)/\Below w.heap.size w w':=by
 obtain⟨hi,_⟩:=List.getElem?_eq_some_iff.1 r;obtain⟨tr,off,tc,rfl⟩:=h.tree.some rF;obtain⟨kv,v,G⟩:=h.tree.get r;obtain⟨O,ka,kc,rfl,d⟩:=G;have x5:=v.2.2.2.2.2.1;have c0:=h.c0;have c1:=h.c1;have R:=h.tree.1;have i0:(0:Int)<=(ts.length:Int):=by omega
 have i1:(ts.length:Int)<(l.length:Int):=by omega
 by_cases hkk:k<x.kids.length
 ·obtain⟨kb,ko,rfl,f⟩:=d k hkk
  have i:B4 l ts x.kids k least=if 0<=x.kids[k]/\x.kids[k]<(ts.length:Int) then(match l[x.kids[k].toNat]?,ts[x.kids[k].toNat]? with
   |some x,some t=>if A9 x.h.op<least then K6 t else t
   |_,_=>[]) else[]:=by
   unfold B4;rw[Ag hkk]
  rw[i];obtain⟨c,F⟩:∃c,x.kids[k]=c:=⟨_,rfl⟩;rw[F] at f ⊢;have j0:(0:Int)<=(k:Int):=by omega
  have j1:(k:Int)<(x.kids.length:Int):=by omega
  have T:decide ((x.kids.length:Int)<=(k:Int))=false:=An rF;by_cases hc0:0<=c
  ·have U:decide (c<0)=false:=An rF;by_cases hci:c<(ts.length:Int)
   ·have W:decide ((ts.length:Int)<=c)=false:=An rF;obtain⟨m,rfl⟩:∃m:Nat,c=(m:Int):=⟨c.toNat,by omega⟩;have I:m<ts.length:=by omega
    have A:m<l.length:=by omega
    have j:ts[m]? =some ts[m]:=Ag I;have n:l[m]? =some l[m]:=Ag A;rw[Ap ⟨hc0,hci⟩,Int.toNat_natCast,j,n];simp only;have X:=h.texts m _ j;have o:=h.short _ (List.getElem_mem I);have p:=h.ops _ (List.getElem_mem A);obtain⟨Y,C,_⟩:=h.tree.get n;have Z:=C.1;obtain⟨t,D⟩:∃t,ts[m]=t:=⟨_,rfl⟩;obtain⟨y,E⟩:∃y,l[m]=y:=⟨_,rfl⟩;rw[D] at X o ⊢;rw[E] at Z p ⊢;have m0:(0:Int)<=(m:Int):=by omega
    have m1:(m:Int)<(l.length:Int):=by omega
    have ho:=fun V=>Ax (Kk y.h.op p V)
    obtain⟨g,q⟩:∃g,A9 y.h.op=g:=⟨_,rfl⟩;have a8:=fun u V=>Du u (.int .i64 (g:Int)) V
    unfold Fj at ho;simp only[q] at ho ⊢;have b7:t.length<=65536:=o;have b8:=Ax q;have L:decide (x.kids.length<=k)=false:=An rF;have n2:decide (ts.length<=m)=false:=An rF;have HD:=fun nq=>Ax (show Below w.heap.size w (w.drewN nq) from Below.drewN' nq (Aq _ w))
    clear h v d r i F j n D E C q o p;by_cases hll:g<least
    ·rw[Ap hll,←kN];have n3:decide (g<least)=true:=Am hll;have n4:decide ((g:Int)<(least:Int))=true:=Am rF;exact zx3
    rw[Ao hll];have n3:decide (g<least)=false:=An hll;have n4:decide ((g:Int)<(least:Int))=false:=An rF;exact zx3
   rw[Ao (fun h=>hci h.2)];have W:decide ((ts.length:Int)<=c)=true:=Am rF;clear h v d r i F;go_enter Tryz.func168,Tryz.ntmps168;exact zy8
  rw[Ao (fun h=>hc0 h.1)];have U:decide (c<0)=true:=Am rF;have L:decide (x.kids.length<=k)=false:=An rF;clear h v d r i F;go_enter Tryz.func168,Tryz.ntmps168;exact zy8
 have i:B4 l ts x.kids k least=[]:=by
  unfold B4;rw[List.getElem?_eq_none rF]
 rw[i];have T:decide ((x.kids.length:Int)<=(k:Int))=true:=Am rF;have L:decide (x.kids.length<=k)=true:=Am rF;clear h v d r i;go_enter Tryz.func168,Tryz.ntmps168;exact zy8
open Go Go.RowKit Go.Lib Go.Sort Go.Shelf
def Ct (h:Hd)(n:Nat)(c:Nat->Nat->List UInt8):List UInt8:=
 if h.op=1 then C3 h.v.1 h.v.2.1 h.v.2.2 else if h.op=2 then 63::h.name else if h.op=3 then[63]
 else if A9 h.op=8 then Cw h.op++K6 (E5 [44,32] ((List.range n).map fun k=>c k 0))
 else if A9 h.op=2\/A9 h.op=6 then Cw h.op++c 0 (A9 h.op)
 else if A9 h.op=3 then c 0 4++32::(Cw h.op++32::c 1 4)
 else c 0 (A9 h.op)++32::(Cw h.op++32::c 1 (A9 h.op+1))
def Gk (h:Hd):Prop:= -9223372036854775808<=h.v.2.1/\h.v.2.1<=9223372036854775807/\h.v.2.2.length<=1000000/\h.name.length<=1000000
theorem Ln {l:List Nz}{ts:List (List UInt8)}(c:∀t∈ts,t.length<=65536)(kids:List Int)(k least:Nat):(B4 l ts kids k least).length<=65538:=by
 unfold B4
 split
 ·simp
 split
 ·split
  ·rename_i x t e d
   have:=c t (List.mem_of_getElem? d)
   split
   ·unfold K6;simp only[Aa,Ab,List.length_nil];omega
   omega
  simp
 simp
theorem Jc (op:Int):(Cw op).length<=8/\A9 op<=8:=by
 by_cases h:4<=op/\op<=26
 ·obtain rfl|rfl|rfl|rfl|rfl|rfl|rfl|rfl|rfl|rfl|rfl|rfl|rfl|rfl|rfl|rfl|rfl|rfl|rfl|rfl|rfl|rfl|rfl:op=4\/op=5\/op=6\/op=7\/op=8\/op=9\/op=10\/op=11\/op=12\/op=13\/op=14\/op=15\/op=16\/op=17\/op=18\/op=19\/op=20\/op=21\/op=22\/op=23\/op=24\/op=25\/op=26:=by omega
  all_goals decide
 have:Ks op=([],8):=by
  unfold Ks
  repeat rw[Ao rF]
 unfold Cw A9;rw[this];decide
theorem Vz (a b c:List UInt8):(⟨(a++32::(b++32::c)).toArray⟩:ByteArray)=⟨a.toArray⟩++⟨#[32]⟩++⟨b.toArray⟩++⟨#[32]⟩++⟨c.toArray⟩:=by
 apply ByteArray.ext;simp
theorem Zn (c:List UInt8):∀l:List (List UInt8),Lib.join l c=E5 c l
 |[]=>rfl
 |[x]=>by rw[Lib.join_one];rfl
 |x::y::r=>by
  show Lib.join (x::y::r) c=x++(c++E5 c (y::r));rw[←Zn c (y::r)];simp [Lib.join,List.intercalate]
theorem Ur:∀(l:List (List UInt8)),(∀t∈l,t.length<=65538)->(E5 [44,32] l).length<=l.length*65540
 |[],_=>by simp [E5]
 |[x],h=>by
  have:=h x Ai
  show x.length<=_;simp only[Aa,List.length_nil];omega
 |x::y::r,h=>by
  have e:=h x Ai;have c:=Ur (y::r) fun t d=>h t (Aj _ d)
  show(x++([44,32]++E5 [44,32] (y::r))).length<=_
  simp only[Ab,Aa,List.length_nil] at c ⊢;omega
theorem iZ {w:World}{b tb:Nat}{tv:Value}{l:List Nz}{ts:List (List UInt8)}{x:Nz}(h:Oi w b tv tb l ts)(F:l[ts.length]? =some x)(U:Rd w)(hf:Gk x.h)(k:x.h.op=1):
 Calls Tryz.prog 92 #[.pointer (some ⟨b,0,none⟩),.int .i64 (ts.length:Int)] w fun e w'=>e= .returned (.string ⟨(Ct x.h x.kids.length (B4 l ts x.kids)).toArray⟩)/\Below w.heap.size w w':=by
 obtain⟨hi,_⟩:=List.getElem?_eq_some_iff.1 F;obtain⟨tr,off,tc,rfl⟩:=h.tree.some rF;obtain⟨kv,hn,L⟩:=h.tree.get F;obtain⟨M,G,I,rfl,_⟩:=L;obtain⟨⟨op,⟨vk,vn,vs⟩,m,n,o⟩,kids⟩:=x;obtain⟨W,x1,x2,x3,x4,x5,x6,x7⟩:=hn;simp only at W x1 x2 x3 x4 x5 x6 x7 M k;have c0:=h.c0;have a8:=h.tree.1;have p:0<=op:=h.ops _ (List.mem_of_getElem? F);have i0:(0:Int)<=(ts.length:Int):=by omega
 have i1:(ts.length:Int)<(l.length:Int):=by omega
 have b7:=Bn W;obtain⟨N,q⟩:∃N,(w.alloc (.cells #[.int .u8 op,.int .u8 vk,.int .i64 vn,.string ⟨vs.toArray⟩,.string ⟨m.toArray⟩,.slice G kids.length I,.int .i64 n,.int .i64 o] 43)).drew=N:=⟨_,rfl⟩;have c:(w.alloc (.cells #[.int .u8 op,.int .u8 vk,.int .i64 vn,.string ⟨vs.toArray⟩,.string ⟨m.toArray⟩,.slice G kids.length I,.int .i64 n,.int .i64 o] 43)).drew.heap[w.heap.size]? =some (.cells #[.int .u8 op,.int .u8 vk,.int .i64 vn,.string ⟨vs.toArray⟩,.string ⟨m.toArray⟩,.slice G kids.length I,.int .i64 n,.int .i64 o] 43 (0,0)):=Az w (.cells #[.int .u8 op,.int .u8 vk,.int .i64 vn,.string ⟨vs.toArray⟩,.string ⟨m.toArray⟩,.slice G kids.length I,.int .i64 n,.int .i64 o] 43);have r:Below w.heap.size w N:=by rw[←q];exact((Aq _ w).alloc (Ak _) _).drew
 rw[q] at c;obtain⟨n0,_,_,_,_,_,_,_,_⟩:=A6 c;have O:=fun V=>Ax (Kk op p V)
 unfold Fj at O;have b8:=fun u v V=>D6 u v V
 have d8:=fun u v V=>Du u v V
 obtain⟨X,Y,f3,f4⟩:=hf;simp only at X Y f3 f4;subst k;have Z:Ct ⟨1,(vk,vn,vs),m,n,o⟩ kids.length (B4 l ts kids)=C3 vk vn vs:=by unfold Ct;rw[Ap rfl]
 rw[Z];have HT:=fun V (hV:Below w.heap.size w V)=>Ax (Sn ⟨vk,vn,⟨vs.toArray⟩⟩ V ⟨by show vs.toArray.size<=_;simp;omega,X,Y⟩ (U.below hV))
 have y:=Ax c;have d:=Ax r;clear h F U c r Z;go_enter Tryz.func92,Tryz.ntmps92;go_wp2_with fail
 go_region_held3 (fun V=>V.cell? ⟨w.heap.size,0,none⟩=some (.int .u8 1)) (go_keep)
  (first
   |(go_at_call 62;(with_reducible refine(O _).out.mono ?_);rintro e V2 ⟨rfl,f⟩;have R:=A4 f n0;have g:=Ax f;clear f)
   |(go_at_call 62;(with_reducible refine(O _).out.mono ?_);rintro e V3 ⟨rfl,i⟩;have f7:=A4 i R;have A:=Ax (g.out.trans (i.mono g.out.size));clear i))
 obtain⟨m0,m1,m2,m3,m4,m5,m6,m7,_⟩:=A6 ((A.out.block _ (Ay y.out)).trans y.out);have j:=d.out.trans (A.out.mono d.out.size);have C:=HT _ j;have D:=Ax j;clear HT d g j;go_wp2_with fail;refine C.out.mono ?_;rintro e V4 ⟨rfl,E⟩;have T:=Ax (D.out.trans (E.mono D.out.size));clear E C;go_wp2_with fail;go_ret;exact⟨rfl,T.out⟩
theorem lR {w:World}{b I:Nat}{L:Value}{l:List Nz}{ts:List (List UInt8)}{x:Nz}(h:Oi w b L I l ts)(p:l[ts.length]? =some x)(M:Gk x.h)(i:x.h.op=2):
 Calls Tryz.prog 92 #[.pointer (some ⟨b,0,none⟩),.int .i64 (ts.length:Int)] w fun e w'=>e= .returned (.string ⟨(Ct x.h x.kids.length (B4 l ts x.kids)).toArray⟩)/\Below w.heap.size w w':=by
 obtain⟨hi,_⟩:=List.getElem?_eq_some_iff.1 p;obtain⟨tr,off,tc,rfl⟩:=h.tree.some rF;obtain⟨kv,N,y⟩:=h.tree.get p;obtain⟨A,q,r,rfl,_⟩:=y;obtain⟨⟨op,⟨vk,vn,vs⟩,c,j,k⟩,kids⟩:=x;obtain⟨F,O,R,T,U,W,X,Y⟩:=N;simp only at F O R T U W X Y A i;have c0:=h.c0;have Z:=h.tree.1;have m:0<=op:=h.ops _ (List.mem_of_getElem? p);have i0:(0:Int)<=(ts.length:Int):=by omega
 have i1:(ts.length:Int)<(l.length:Int):=by omega
 have a8:=Bn F;obtain⟨C,n⟩:∃C,(w.alloc (.cells #[.int .u8 op,.int .u8 vk,.int .i64 vn,.string ⟨vs.toArray⟩,.string ⟨c.toArray⟩,.slice q kids.length r,.int .i64 j,.int .i64 k] 43)).drew=C:=⟨_,rfl⟩;have d:(w.alloc (.cells #[.int .u8 op,.int .u8 vk,.int .i64 vn,.string ⟨vs.toArray⟩,.string ⟨c.toArray⟩,.slice q kids.length r,.int .i64 j,.int .i64 k] 43)).drew.heap[w.heap.size]? =some (.cells #[.int .u8 op,.int .u8 vk,.int .i64 vn,.string ⟨vs.toArray⟩,.string ⟨c.toArray⟩,.slice q kids.length r,.int .i64 j,.int .i64 k] 43 (0,0)):=Az w (.cells #[.int .u8 op,.int .u8 vk,.int .i64 vn,.string ⟨vs.toArray⟩,.string ⟨c.toArray⟩,.slice q kids.length r,.int .i64 j,.int .i64 k] 43);have o:Below w.heap.size w C:=by rw[←n];exact((Aq _ w).alloc (Ak _) _).drew
 rw[n] at d;obtain⟨n0,_,_,_,_,_,_,_,_⟩:=A6 d;have D:=fun V=>Ax (Kk op m V)
 unfold Fj at D;have b7:=fun u v V=>D6 u v V
 have b8:=fun u v V=>Du u v V
 obtain⟨_,_,_,f4⟩:=M;simp only at f4;subst i;have G:Ct ⟨2,(vk,vn,vs),c,j,k⟩ kids.length (B4 l ts kids)=63::c:=by unfold Ct;rw[Ao (by show ¬(2:Int)=1;decide),Ap rfl]
 rw[G,show(⟨(63::c).toArray⟩:ByteArray)=⟨#[63]⟩++⟨c.toArray⟩ from(J3 [63] c).symm];have HP1:=Ax d;have HB1:=Ax o;clear h p d o G;go_enter Tryz.func92,Tryz.ntmps92;go_wp2_with fail
 go_region_held3 (fun V=>V.cell? ⟨w.heap.size,0,none⟩=some (.int .u8 2)) (go_keep)
  (first
   |(go_at_call 62;(with_reducible refine(D _).out.mono ?_);rintro e V2 ⟨rfl,f⟩;have E:=A4 f n0;have hB2:=Ax f;clear f)
   |(go_at_call 62;(with_reducible refine(D _).out.mono ?_);rintro e V3 ⟨rfl,g⟩;have d8:=A4 g E;have HB3:=Ax (hB2.out.trans (g.mono hB2.out.size));clear g))
 exact zxe
theorem cX {w:World}{b I:Nat}{L:Value}{l:List Nz}{ts:List (List UInt8)}{x:Nz}(h:Oi w b L I l ts)(p:l[ts.length]? =some x)(g:x.h.op=3):
 Calls Tryz.prog 92 #[.pointer (some ⟨b,0,none⟩),.int .i64 (ts.length:Int)] w fun e w'=>e= .returned (.string ⟨(Ct x.h x.kids.length (B4 l ts x.kids)).toArray⟩)/\Below w.heap.size w w':=by
 obtain⟨hi,_⟩:=List.getElem?_eq_some_iff.1 p;obtain⟨tr,off,tc,rfl⟩:=h.tree.some rF;obtain⟨kv,M,y⟩:=h.tree.get p;obtain⟨A,q,r,rfl,_⟩:=y;obtain⟨⟨op,⟨vk,vn,vs⟩,i,j,k⟩,kids⟩:=x;obtain⟨F,N,O,R,T,U,W,X⟩:=M;simp only at F N O R T U W X A g;have c0:=h.c0;have Y:=h.tree.1;have m:0<=op:=h.ops _ (List.mem_of_getElem? p);have i0:(0:Int)<=(ts.length:Int):=by omega
 have i1:(ts.length:Int)<(l.length:Int):=by omega
 have Z:=Bn F;obtain⟨C,n⟩:∃C,(w.alloc (.cells #[.int .u8 op,.int .u8 vk,.int .i64 vn,.string ⟨vs.toArray⟩,.string ⟨i.toArray⟩,.slice q kids.length r,.int .i64 j,.int .i64 k] 43)).drew=C:=⟨_,rfl⟩;have c:(w.alloc (.cells #[.int .u8 op,.int .u8 vk,.int .i64 vn,.string ⟨vs.toArray⟩,.string ⟨i.toArray⟩,.slice q kids.length r,.int .i64 j,.int .i64 k] 43)).drew.heap[w.heap.size]? =some (.cells #[.int .u8 op,.int .u8 vk,.int .i64 vn,.string ⟨vs.toArray⟩,.string ⟨i.toArray⟩,.slice q kids.length r,.int .i64 j,.int .i64 k] 43 (0,0)):=Az w (.cells #[.int .u8 op,.int .u8 vk,.int .i64 vn,.string ⟨vs.toArray⟩,.string ⟨i.toArray⟩,.slice q kids.length r,.int .i64 j,.int .i64 k] 43);have o:Below w.heap.size w C:=by rw[←n];exact((Aq _ w).alloc (Ak _) _).drew
 rw[n] at c;obtain⟨n0,_,_,_,_,_,_,_,_⟩:=A6 c;have D:=fun V=>Ax (Kk op m V)
 unfold Fj at D;have a8:=fun u v V=>D6 u v V
 have b7:=fun u v V=>Du u v V
 subst g;have G:Ct ⟨3,(vk,vn,vs),i,j,k⟩ kids.length (B4 l ts kids)=[63]:=by unfold Ct;rw[Ao (by show ¬(3:Int)=1;decide),Ao (by show ¬(3:Int)=2;decide),Ap rfl]
 rw[G];have HP1:=Ax c;have HB1:=Ax o;clear h p c o G;go_enter Tryz.func92,Tryz.ntmps92;go_wp2_with fail
 go_region_held3 (fun V=>V.cell? ⟨w.heap.size,0,none⟩=some (.int .u8 3)) (go_keep)
  (first
   |(go_at_call 62;(with_reducible refine(D _).out.mono ?_);rintro e V2 ⟨rfl,d⟩;have E:=A4 d n0;have hB2:=Ax d;clear d)
   |(go_at_call 62;(with_reducible refine(D _).out.mono ?_);rintro e V3 ⟨rfl,f⟩;have b8:=A4 f E;have HB3:=Ax (hB2.out.trans (f.mono hB2.out.size));clear f))
 exact zxe
theorem eJ {w:World}{b F:Nat}{G:Value}{l:List Nz}{ts:List (List UInt8)}{x:Nz}(h:Oi w b G F l ts)(hx:l[ts.length]? =some x)(ho1:x.h.op≠1)(ho2:x.h.op≠2)(ho3:x.h.op≠3)(c:A9 x.h.op=2):
 Calls Tryz.prog 92 #[.pointer (some ⟨b,0,none⟩),.int .i64 (ts.length:Int)] w fun e w'=>e= .returned (.string ⟨(Ct x.h x.kids.length (B4 l ts x.kids)).toArray⟩)/\Below w.heap.size w w':=by
 obtain⟨hi,_⟩:=List.getElem?_eq_some_iff.1 hx;obtain⟨tr,off,tc,rfl⟩:=h.tree.some rF;obtain⟨kv,I,o⟩:=h.tree.get hx;obtain⟨p,m,n,rfl,_⟩:=o;obtain⟨⟨op,⟨vk,vn,vs⟩,d,f,g⟩,kids⟩:=x;obtain⟨E,L,M,N,O,R,T,U⟩:=I;simp only at E L M N O R T U p ho1 ho2 ho3 c;have c0:=h.c0;have W:=h.tree.1;have i:0<=op:=h.ops _ (List.mem_of_getElem? hx);have i0:(0:Int)<=(ts.length:Int):=by omega
 have i1:(ts.length:Int)<(l.length:Int):=by omega
 have X:=Bn E;obtain⟨q,j⟩:∃q,(w.alloc (.cells #[.int .u8 op,.int .u8 vk,.int .i64 vn,.string ⟨vs.toArray⟩,.string ⟨d.toArray⟩,.slice m kids.length n,.int .i64 f,.int .i64 g] 43)).drew=q:=⟨_,rfl⟩;have hp1:(w.alloc (.cells #[.int .u8 op,.int .u8 vk,.int .i64 vn,.string ⟨vs.toArray⟩,.string ⟨d.toArray⟩,.slice m kids.length n,.int .i64 f,.int .i64 g] 43)).drew.heap[w.heap.size]? =some (.cells #[.int .u8 op,.int .u8 vk,.int .i64 vn,.string ⟨vs.toArray⟩,.string ⟨d.toArray⟩,.slice m kids.length n,.int .i64 f,.int .i64 g] 43 (0,0)):=Az w (.cells #[.int .u8 op,.int .u8 vk,.int .i64 vn,.string ⟨vs.toArray⟩,.string ⟨d.toArray⟩,.slice m kids.length n,.int .i64 f,.int .i64 g] 43);have hb1:Below w.heap.size w q:=by rw[←j];exact((Aq _ w).alloc (Ak _) _).drew
 rw[j] at hp1;obtain⟨n0,_,_,_,_,_,_,_,_⟩:=A6 hp1;have ho:=fun V=>Ax (Kk op i V)
 unfold Fj at ho;have Y:=fun u v V=>D6 u v V
 have Z:=fun u v V=>Du u v V
 have o1:(op==1)=false:=by simpa using ho1
 have o2:(op==2)=false:=by simpa using ho2
 have o3:(op==3)=false:=by simpa using ho3
 obtain⟨r,y⟩:=Jc op;obtain⟨A,hlv⟩:∃A,A9 op=A:=⟨_,rfl⟩;obtain⟨C,hwd⟩:∃C,Cw op=C:=⟨_,rfl⟩;have hK:=fun k least V (D:Below w.heap.size w V) (hk:k<=1000000)=>Ax (N2 (h.below D) hx k least hk)
 simp only at hK;have hKL:=fun k least=>Ln (l:=l) h.short kids k least
 simp only[hlv,hwd] at ho r y c
 have hz:Ct ⟨op,(vk,vn,vs),d,f,g⟩ kids.length (B4 l ts kids)=C++B4 l ts kids 0 A:=by
  unfold Ct;simp only[hlv,hwd];rw[Ao ho1,Ao ho2,Ao ho3,Ao rF,Ap rF]
 rw[hz];subst c;have HK0:∀V,Below w.heap.size w V->Hid (Calls Tryz.prog 168 #[.pointer (some ⟨b,0,none⟩),.int .i64 (ts.length:Int),.int .i64 0,.int .i64 2] V fun e w'=>e= .returned (.string ⟨(B4 l ts kids 0 (2)).toArray⟩)/\Below V.heap.size V w'):=fun V D=>hK 0 (2) V D rH
 have hl0:=hKL 0 (2);obtain⟨K0,hK0⟩:∃K',B4 l ts kids 0 (2)=K':=⟨_,rfl⟩;exact zze
theorem dJ {w:World}{b F:Nat}{G:Value}{l:List Nz}{ts:List (List UInt8)}{x:Nz}(h:Oi w b G F l ts)(hx:l[ts.length]? =some x)(ho1:x.h.op≠1)(ho2:x.h.op≠2)(ho3:x.h.op≠3)(c:A9 x.h.op=6):
 Calls Tryz.prog 92 #[.pointer (some ⟨b,0,none⟩),.int .i64 (ts.length:Int)] w fun e w'=>e= .returned (.string ⟨(Ct x.h x.kids.length (B4 l ts x.kids)).toArray⟩)/\Below w.heap.size w w':=by
 obtain⟨hi,_⟩:=List.getElem?_eq_some_iff.1 hx;obtain⟨tr,off,tc,rfl⟩:=h.tree.some rF;obtain⟨kv,I,o⟩:=h.tree.get hx;obtain⟨p,m,n,rfl,_⟩:=o;obtain⟨⟨op,⟨vk,vn,vs⟩,d,f,g⟩,kids⟩:=x;obtain⟨E,L,M,N,O,R,T,U⟩:=I;simp only at E L M N O R T U p ho1 ho2 ho3 c;have c0:=h.c0;have W:=h.tree.1;have i:0<=op:=h.ops _ (List.mem_of_getElem? hx);have i0:(0:Int)<=(ts.length:Int):=by omega
 have i1:(ts.length:Int)<(l.length:Int):=by omega
 have X:=Bn E;obtain⟨q,j⟩:∃q,(w.alloc (.cells #[.int .u8 op,.int .u8 vk,.int .i64 vn,.string ⟨vs.toArray⟩,.string ⟨d.toArray⟩,.slice m kids.length n,.int .i64 f,.int .i64 g] 43)).drew=q:=⟨_,rfl⟩;have hp1:(w.alloc (.cells #[.int .u8 op,.int .u8 vk,.int .i64 vn,.string ⟨vs.toArray⟩,.string ⟨d.toArray⟩,.slice m kids.length n,.int .i64 f,.int .i64 g] 43)).drew.heap[w.heap.size]? =some (.cells #[.int .u8 op,.int .u8 vk,.int .i64 vn,.string ⟨vs.toArray⟩,.string ⟨d.toArray⟩,.slice m kids.length n,.int .i64 f,.int .i64 g] 43 (0,0)):=Az w (.cells #[.int .u8 op,.int .u8 vk,.int .i64 vn,.string ⟨vs.toArray⟩,.string ⟨d.toArray⟩,.slice m kids.length n,.int .i64 f,.int .i64 g] 43);have hb1:Below w.heap.size w q:=by rw[←j];exact((Aq _ w).alloc (Ak _) _).drew
 rw[j] at hp1;obtain⟨n0,_,_,_,_,_,_,_,_⟩:=A6 hp1;have ho:=fun V=>Ax (Kk op i V)
 unfold Fj at ho;have Y:=fun u v V=>D6 u v V
 have Z:=fun u v V=>Du u v V
 have o1:(op==1)=false:=by simpa using ho1
 have o2:(op==2)=false:=by simpa using ho2
 have o3:(op==3)=false:=by simpa using ho3
 obtain⟨r,y⟩:=Jc op;obtain⟨A,hlv⟩:∃A,A9 op=A:=⟨_,rfl⟩;obtain⟨C,hwd⟩:∃C,Cw op=C:=⟨_,rfl⟩;have hK:=fun k least V (D:Below w.heap.size w V) (hk:k<=1000000)=>Ax (N2 (h.below D) hx k least hk)
 simp only at hK;have hKL:=fun k least=>Ln (l:=l) h.short kids k least
 simp only[hlv,hwd] at ho r y c
 have hz:Ct ⟨op,(vk,vn,vs),d,f,g⟩ kids.length (B4 l ts kids)=C++B4 l ts kids 0 A:=by
  unfold Ct;simp only[hlv,hwd];rw[Ao ho1,Ao ho2,Ao ho3,Ao rF,Ap rF]
 rw[hz];subst c;have HK0:∀V,Below w.heap.size w V->Hid (Calls Tryz.prog 168 #[.pointer (some ⟨b,0,none⟩),.int .i64 (ts.length:Int),.int .i64 0,.int .i64 6] V fun e w'=>e= .returned (.string ⟨(B4 l ts kids 0 (6)).toArray⟩)/\Below V.heap.size V w'):=fun V D=>hK 0 (6) V D rH
 have hl0:=hKL 0 (6);obtain⟨K0,hK0⟩:∃K',B4 l ts kids 0 (6)=K':=⟨_,rfl⟩;exact zze
theorem iM {w:World}{b tb:Nat}{tv:Value}{l:List Nz}{ts:List (List UInt8)}{x:Nz}(h:Oi w b tv tb l ts)(q:l[ts.length]? =some x)(c:x.h.op≠1)(d:x.h.op≠2)(f:x.h.op≠3)(m:A9 x.h.op=3):
 Calls Tryz.prog 92 #[.pointer (some ⟨b,0,none⟩),.int .i64 (ts.length:Int)] w fun e w'=>e= .returned (.string ⟨(Ct x.h x.kids.length (B4 l ts x.kids)).toArray⟩)/\Below w.heap.size w w':=by
 obtain⟨hi,_⟩:=List.getElem?_eq_some_iff.1 q;obtain⟨tr,off,tc,rfl⟩:=h.tree.some rF;obtain⟨kv,hn,M⟩:=h.tree.get q;obtain⟨N,G,I,rfl,_⟩:=M;obtain⟨⟨op,⟨vk,vn,vs⟩,r,y,A⟩,kids⟩:=x;obtain⟨Z,x1,x2,x3,x4,x5,x6,x7⟩:=hn;simp only at Z x1 x2 x3 x4 x5 x6 x7 N c d f m;have c0:=h.c0;have a8:=h.tree.1;have C:0<=op:=h.ops _ (List.mem_of_getElem? q);have i0:(0:Int)<=(ts.length:Int):=by omega
 have i1:(ts.length:Int)<(l.length:Int):=by omega
 have b7:=Bn Z;obtain⟨O,D⟩:∃O,(w.alloc (.cells #[.int .u8 op,.int .u8 vk,.int .i64 vn,.string ⟨vs.toArray⟩,.string ⟨r.toArray⟩,.slice G kids.length I,.int .i64 y,.int .i64 A] 43)).drew=O:=⟨_,rfl⟩;have g:(w.alloc (.cells #[.int .u8 op,.int .u8 vk,.int .i64 vn,.string ⟨vs.toArray⟩,.string ⟨r.toArray⟩,.slice G kids.length I,.int .i64 y,.int .i64 A] 43)).drew.heap[w.heap.size]? =some (.cells #[.int .u8 op,.int .u8 vk,.int .i64 vn,.string ⟨vs.toArray⟩,.string ⟨r.toArray⟩,.slice G kids.length I,.int .i64 y,.int .i64 A] 43 (0,0)):=Az w (.cells #[.int .u8 op,.int .u8 vk,.int .i64 vn,.string ⟨vs.toArray⟩,.string ⟨r.toArray⟩,.slice G kids.length I,.int .i64 y,.int .i64 A] 43);have E:Below w.heap.size w O:=by rw[←D];exact((Aq _ w).alloc (Ak _) _).drew
 rw[D] at g;obtain⟨n0,_,_,_,_,_,_,_,_⟩:=A6 g;have ho:=fun V=>Ax (Kk op C V)
 unfold Fj at ho;have b8:=fun u v V=>D6 u v V
 have d8:=fun u v V=>Du u v V
 have o1:(op==1)=false:=by simpa using c
 have o2:(op==2)=false:=by simpa using d
 have o3:(op==3)=false:=by simpa using f
 obtain⟨R,T⟩:=Jc op;obtain⟨lv,i⟩:∃lv,A9 op=lv:=⟨_,rfl⟩;obtain⟨U,j⟩:∃U,Cw op=U:=⟨_,rfl⟩;have L:=fun k least V (F:Below w.heap.size w V) (hk:k<=1000000)=>Ax (N2 (h.below F) q k least hk)
 simp only at L;have n:=fun k least=>Ln (l:=l) h.short kids k least
 simp only[i,j] at ho R T m
 have hz:Ct ⟨op,(vk,vn,vs),r,y,A⟩ kids.length (B4 l ts kids)=B4 l ts kids 0 4++32::(U++32::B4 l ts kids 1 4):=by
  unfold Ct;simp only[i,j];rw[Ao c,Ao d,Ao f,Ao rF,Ao rF,Ap rF]
 rw[hz];subst m;have HK0:∀V,Below w.heap.size w V->Hid (Calls Tryz.prog 168 #[.pointer (some ⟨b,0,none⟩),.int .i64 (ts.length:Int),.int .i64 0,.int .i64 4] V fun e w'=>e= .returned (.string ⟨(B4 l ts kids 0 (4)).toArray⟩)/\Below V.heap.size V w'):=fun V F=>L 0 (4) V F rH
 have W:=n 0 (4);obtain⟨K0,o⟩:∃X,B4 l ts kids 0 (4)=X:=⟨_,rfl⟩;rw[o] at W ⊢;simp only[o] at HK0;have HK1:∀V,Below w.heap.size w V->Hid (Calls Tryz.prog 168 #[.pointer (some ⟨b,0,none⟩),.int .i64 (ts.length:Int),.int .i64 1,.int .i64 4] V fun e w'=>e= .returned (.string ⟨(B4 l ts kids 1 (4)).toArray⟩)/\Below V.heap.size V w'):=fun V F=>L 1 (4) V F rH
 have Y:=n 1 (4);obtain⟨K1,p⟩:∃X,B4 l ts kids 1 (4)=X:=⟨_,rfl⟩;rw[p] at Y ⊢;simp only[p] at HK1;rw[Vz];have HP1:=Ax g;have HB1:=Ax E;have f7:=Ax i;have f8:=Ax j;clear h q g E hz L n i j o p c d f;exact zzc
theorem gP {w:World}{b tb:Nat}{tv:Value}{l:List Nz}{ts:List (List UInt8)}{x:Nz}(h:Oi w b tv tb l ts)(r:l[ts.length]? =some x)(f:x.h.op≠1)(g:x.h.op≠2)(i:x.h.op≠3)(d:A9 x.h.op≠8/\A9 x.h.op≠2/\A9 x.h.op≠6/\A9 x.h.op≠3):
 Calls Tryz.prog 92 #[.pointer (some ⟨b,0,none⟩),.int .i64 (ts.length:Int)] w fun e w'=>e= .returned (.string ⟨(Ct x.h x.kids.length (B4 l ts x.kids)).toArray⟩)/\Below w.heap.size w w':=by
 obtain⟨hi,_⟩:=List.getElem?_eq_some_iff.1 r;obtain⟨tr,off,tc,rfl⟩:=h.tree.some rF;obtain⟨kv,hn,N⟩:=h.tree.get r;obtain⟨O,I,L,rfl,_⟩:=N;obtain⟨⟨op,⟨vk,vn,vs⟩,y,A,C⟩,kids⟩:=x;obtain⟨x0,x1,x2,x3,x4,x5,x6,x7⟩:=hn;simp only at x0 x1 x2 x3 x4 x5 x6 x7 O f g i d;have c0:=h.c0;have a8:=h.tree.1;have D:0<=op:=h.ops _ (List.mem_of_getElem? r);have i0:(0:Int)<=(ts.length:Int):=by omega
 have i1:(ts.length:Int)<(l.length:Int):=by omega
 have b7:=Bn x0;obtain⟨R,E⟩:∃R,(w.alloc (.cells #[.int .u8 op,.int .u8 vk,.int .i64 vn,.string ⟨vs.toArray⟩,.string ⟨y.toArray⟩,.slice I kids.length L,.int .i64 A,.int .i64 C] 43)).drew=R:=⟨_,rfl⟩;have j:(w.alloc (.cells #[.int .u8 op,.int .u8 vk,.int .i64 vn,.string ⟨vs.toArray⟩,.string ⟨y.toArray⟩,.slice I kids.length L,.int .i64 A,.int .i64 C] 43)).drew.heap[w.heap.size]? =some (.cells #[.int .u8 op,.int .u8 vk,.int .i64 vn,.string ⟨vs.toArray⟩,.string ⟨y.toArray⟩,.slice I kids.length L,.int .i64 A,.int .i64 C] 43 (0,0)):=Az w (.cells #[.int .u8 op,.int .u8 vk,.int .i64 vn,.string ⟨vs.toArray⟩,.string ⟨y.toArray⟩,.slice I kids.length L,.int .i64 A,.int .i64 C] 43);have F:Below w.heap.size w R:=by rw[←E];exact((Aq _ w).alloc (Ak _) _).drew
 rw[E] at j;obtain⟨n0,_,_,_,_,_,_,_,_⟩:=A6 j;have ho:=fun V=>Ax (Kk op D V)
 unfold Fj at ho;have b8:=fun u v V=>D6 u v V
 have d8:=fun u v V=>Du u v V
 have o1:(op==1)=false:=by simpa using f
 have o2:(op==2)=false:=by simpa using g
 have o3:(op==3)=false:=by simpa using i
 obtain⟨T,U⟩:=Jc op;obtain⟨c,m⟩:∃c,A9 op=c:=⟨_,rfl⟩;obtain⟨W,n⟩:∃W,Cw op=W:=⟨_,rfl⟩;have M:=fun k least V (G:Below w.heap.size w V) (hk:k<=1000000)=>Ax (N2 (h.below G) r k least hk)
 simp only at M;have o:=fun k least=>Ln (l:=l) h.short kids k least
 simp only[m,n] at ho T U d
 have hz:Ct ⟨op,(vk,vn,vs),y,A,C⟩ kids.length (B4 l ts kids)=B4 l ts kids 0 c++32::(W++32::B4 l ts kids 1 (c+1)):=by
  unfold Ct;simp only[m,n];rw[Ao f,Ao g,Ao i,Ao d.1,Ao rF,Ao d.2.2.2]
 rw[hz];have l0:((c:Int)==8)=false:=by simp;omega
 have l1:((c:Int)==2)=false:=by simp;omega
 have l2:((c:Int)==6)=false:=by simp;omega
 have l3:((c:Int)==3)=false:=by simp;omega
 have l4:((c+1:Nat):Int)=(c:Int)+1:=by omega
 have HK0:∀V,Below w.heap.size w V->Hid (Calls Tryz.prog 168 #[.pointer (some ⟨b,0,none⟩),.int .i64 (ts.length:Int),.int .i64 0,.int .i64 ((c:Int))] V fun e w'=>e= .returned (.string ⟨(B4 l ts kids 0 (c)).toArray⟩)/\Below V.heap.size V w'):=fun V G=>M 0 (c) V G rH
 have X:=o 0 (c);obtain⟨K0,p⟩:∃Y,B4 l ts kids 0 (c)=Y:=⟨_,rfl⟩;rw[p] at X ⊢;simp only[p] at HK0;have HK1:∀V,Below w.heap.size w V->Hid (Calls Tryz.prog 168 #[.pointer (some ⟨b,0,none⟩),.int .i64 (ts.length:Int),.int .i64 1,.int .i64 ((c:Int)+1)] V fun e w'=>e= .returned (.string ⟨(B4 l ts kids 1 (c+1)).toArray⟩)/\Below V.heap.size V w'):=fun V G=>M 1 (c+1) V G rH
 have Z:=o 1 (c+1);obtain⟨K1,q⟩:∃Y,B4 l ts kids 1 (c+1)=Y:=⟨_,rfl⟩;rw[q] at Z ⊢;simp only[q] at HK1;rw[Vz];have HP1:=Ax j;have HB1:=Ax F;have f7:=Ax m;have f8:=Ax n;clear h r j F hz M o m n p q f g i d;exact zzc
theorem oZ:(Tryz.prog.info? 9).map (fun i=>(i.zero,i.size,i.bytes))=some (some (.string ⟨#[]⟩),1,16):=by kernel_rfl
theorem G1:∃i,Tryz.prog.info? 9=some i/\i.zero=some (.string ⟨#[]⟩)/\i.size=1/\i.bytes=16:=by
 have h:=oZ;cases hi:Tryz.prog.info? 9 with
 |none=>simp [hi] at h
 |some i=>
  exact zxn
def Ib (l:List (List UInt8)):List Value:=l.map fun t=>Value.string ⟨t.toArray⟩
theorem Pu (l:List (List UInt8))(t:List UInt8):Ib (l++[t])=Ib l++[.string ⟨t.toArray⟩]:=by simp [Ib]
theorem F6 {α:Type}(f:Nat->α)(k:Nat):(List.range (k+1)).map f=(List.range k).map f++[f k]:=by rw[List.range_succ,List.map_append];rfl
theorem cI (a b:List UInt8):(⟨(a++K6 b).toArray⟩:ByteArray)=⟨a.toArray⟩++⟨#[40]⟩++⟨b.toArray⟩++⟨#[41]⟩:=by
 apply ByteArray.ext;simp [K6]
theorem dZ {w:World}{b tb:Nat}{tv:Value}{l:List Nz}{ts:List (List UInt8)}{x:Nz}(h:Oi w b tv tb l ts)(hx:l[ts.length]? =some x)(q:x.h.op≠1)(r:x.h.op≠2)(y:x.h.op≠3)(M:A9 x.h.op=8):
 Calls Tryz.prog 92 #[.pointer (some ⟨b,0,none⟩),.int .i64 (ts.length:Int)] w fun e w'=>e= .returned (.string ⟨(Ct x.h x.kids.length (B4 l ts x.kids)).toArray⟩)/\Below w.heap.size w w':=by
 obtain⟨hi,_⟩:=List.getElem?_eq_some_iff.1 hx;obtain⟨tr,off,tc,rfl⟩:=h.tree.some rF;obtain⟨kv,hn,r9⟩:=h.tree.get hx;obtain⟨s7,ka,kc,rfl,_⟩:=r9;obtain⟨⟨op,⟨vk,vn,vs⟩,nm,ln,cl⟩,kids⟩:=x;obtain⟨x0,x1,x2,x3,x4,x5,x6,x7⟩:=hn;simp only at x0 x1 x2 x3 x4 x5 x6 x7 s7 q r y M;have c0:=h.c0;have uY:=h.tree.1;have d8:0<=op:=h.ops _ (List.mem_of_getElem? hx);have i0:(0:Int)<=(ts.length:Int):=by omega
 have i1:(ts.length:Int)<(l.length:Int):=by omega
 have uZ:=Bn x0;obtain⟨W1,f7⟩:∃W1,(w.alloc (.cells #[.int .u8 op,.int .u8 vk,.int .i64 vn,.string ⟨vs.toArray⟩,.string ⟨nm.toArray⟩,.slice ka kids.length kc,.int .i64 ln,.int .i64 cl] 43)).drew=W1:=⟨_,rfl⟩;have A:(w.alloc (.cells #[.int .u8 op,.int .u8 vk,.int .i64 vn,.string ⟨vs.toArray⟩,.string ⟨nm.toArray⟩,.slice ka kids.length kc,.int .i64 ln,.int .i64 cl] 43)).drew.heap[w.heap.size]? =some (.cells #[.int .u8 op,.int .u8 vk,.int .i64 vn,.string ⟨vs.toArray⟩,.string ⟨nm.toArray⟩,.slice ka kids.length kc,.int .i64 ln,.int .i64 cl] 43 (0,0)):=Az w (.cells #[.int .u8 op,.int .u8 vk,.int .i64 vn,.string ⟨vs.toArray⟩,.string ⟨nm.toArray⟩,.slice ka kids.length kc,.int .i64 ln,.int .i64 cl] 43);have f8:Below w.heap.size w W1:=by rw[←f7];exact((Aq _ w).alloc (Ak _) _).drew
 rw[f7] at A;obtain⟨n0,_,_,_,_,_,_,_,_⟩:=A6 A;have ho:=fun V=>Ax (Kk op d8 V)
 unfold Fj at ho;have vA:=fun u v V=>D6 u v V
 have vB:=fun u v V=>Du u v V
 have o1:(op==1)=false:=by simpa using q
 have o2:(op==2)=false:=by simpa using r
 have o3:(op==3)=false:=by simpa using y
 obtain⟨s8,s9⟩:=Jc op;obtain⟨lv,C⟩:∃lv,A9 op=lv:=⟨_,rfl⟩;obtain⟨wd,D⟩:∃wd,Cw op=wd:=⟨_,rfl⟩;have hK:=fun k least V (hV:Below w.heap.size w V) (hk:k<=1000000)=>Ax (N2 (h.below hV) hx k least hk)
 simp only at hK;have f9:=fun k least=>Ln (l:=l) h.short kids k least
 simp only[C,D] at ho s8 s9 M
 have hz:Ct ⟨op,(vk,vn,vs),nm,ln,cl⟩ kids.length (B4 l ts kids)=wd++K6 (E5 [44,32] ((List.range kids.length).map fun k=>B4 l ts kids k 0)):=by
  unfold Ct;simp only[C,D];rw[Ao q,Ao r,Ao y,Ap rF]
 rw[hz];subst M;obtain⟨F,hF⟩:∃F:Nat->List UInt8,F=fun k=>B4 l ts kids k 0:=⟨_,rfl⟩
 have HK:∀(k:Nat) V,k<=1000000->Below w.heap.size w V->Hid (Calls Tryz.prog 168 #[.pointer (some ⟨b,0,none⟩),.int .i64 (ts.length:Int),.int .i64 (k:Int),.int .i64 0] V fun e w'=>e= .returned (.string ⟨(F k).toArray⟩)/\Below V.heap.size V w'):=fun k V hk hV=>by rw[hF];exact hK k 0 V hV hk
 have N:∀k,(F k).length<=65538:=fun k=>by rw[hF];exact f9 k 0
 rw[show(fun k=>B4 l ts kids k 0)=F from hF.symm,cI]
 have O:=Ur ((List.range kids.length).map F) fun t ht=>by
  obtain⟨k,_,rfl⟩:=List.mem_map.1 ht;exact N k
 rw[List.length_map,List.length_range] at O;obtain⟨J,hJ⟩:∃J,E5 [44,32] ((List.range kids.length).map F)=J:=⟨_,rfl⟩;rw[hJ] at O ⊢;have vC:J.length<=70000000000:=by omega
 have HJ:=Ax hJ;have w7:=Ax N;have i6:=Ax A;have R:=Ax f8;have vD:=Ax C;have vE:=Ax D;clear h hx A f8 hz hK f9 C D q r y hF hJ O N;go_enter Tryz.func92,Tryz.ntmps92;go_wp2_with fail
 go_region_held3 (fun V=>V.cell? ⟨w.heap.size,0,none⟩=some (.int .u8 op)) (go_keep)
  (first
   |(go_at_call 62;(with_reducible refine(ho _).out.mono ?_);rintro e V2 ⟨rfl,T⟩;have w8:=A4 T n0;have U:=Ax T;clear T)
   |(go_at_call 62;(with_reducible refine(ho _).out.mono ?_);rintro e V3 ⟨rfl,W⟩;have vF:=A4 W w8;have i7:=Ax (U.out.trans (W.mono U.out.size));clear W))
 obtain⟨m0,m1,m2,m3,m4,m5,m6,m7,_⟩:=A6 ((i7.out.block _ (Ay i6.out)).trans i6.out);have E:=R.out.trans (i7.out.mono R.out.size);have HL:Hid (V3.ownsRow w.heap.size 9 1 (.slice none 0 0) 0 (Ib ((List.range 0).map F))/\Below w.heap.size w V3):=Ax ⟨World.ownsRow_nil _ _ _ _,E⟩;clear R U E;go_wp2_with fail
 go_loopw [8,63] (fun v8 v63 wr=>∃(k:Nat) (X:Option Addr) (G:Nat),k<=kids.length/\v63= .int .i64 k/\v8= .slice X k G/\Hid (wr.ownsRow w.heap.size 9 1 (.slice X k G) k (Ib ((List.range k).map F))/\Below w.heap.size w wr)) (fun _ v63 _=>kids.length - (intOf v63).toNat)
 case atStart=>exact⟨0,none,0,Nat.zero_le _,rfl,rfl,HL⟩
 obtain⟨k,X,G,hk,rfl,rfl,hq⟩:=hrel;obtain⟨c,hB⟩:=hq.out;clear m0 m1 m2 m3 m4 m5 m6 m7;by_cases hkl2:k<kids.length
 ·have Y:=HK k wr rF hB;have w9:=w7.out k;have Z:=F6 F k;obtain⟨t,ht⟩:∃t,F k=t:=⟨_,rfl⟩;simp only[ht] at Y;rw[ht] at w9 Z;have e3:(0:Int)<=(k:Int):=by omega
  have e9:decide ((k:Int)<(kids.length:Int))=true:=Am rF;have x8:=Ax Z;have I:=Ax c;have HB:=Ax hB;obtain⟨x9,j8,j9,k8,l7⟩:=G1;have y8:=Ax j8;have y9:=Ax j9;have uR:=Ax k8;have uS:=Ax l7;clear hq c hB ht Z j8 j9 k8 l7 HL;go_wp2_with fail;refine Y.out.mono ?_;rintro e V ⟨rfl,i⟩;have a8:=Cg I.out i;have b7:=HB.out.trans (i.mono HB.out.size);have m:=Ax (a8.alloc (.cells #[.string ⟨t.toArray⟩] 9));have n9:=Ax (Az V (.cells #[.string ⟨t.toArray⟩] 9));have HZ:Hid ((V.alloc (.cells #[.string ⟨t.toArray⟩] 9)).heap.size=V.heap.size+1):=Ax rI;have uT:=b7.size;have L:=Ax (Co a8);have n:=Ax b7;clear i a8 b7 Y HB I;go_wp2_with ((refine wpList_append_lies _ rfl (.tmp 66) (.tmp 71) _ rfl w.heap.size 9 x9 (.string ⟨#[]⟩) 1 16 Tryz.underlying39 y8.out y9.out uR.out uS.out rfl rH (.slice X k G) k (Ib ((List.range k).map F)) rfl m.out ⟨V.heap.size,0,none⟩ 1 1 [.string ⟨t.toArray⟩] rfl rfl (World.news_of_block (cs:= #[.string ⟨t.toArray⟩]) n9.out) rS rH rP rF rW (V.heap.size+1) HZ.out ?_;intro g6 b8 w6 d f p8 r7));have r8:=G5 (v:= .slice X k G) (n.out.alloc n.out.size (.cells #[.string ⟨t.toArray⟩] 9)) f L.out rW;rw[←Pu,←x8.out] at d;have uU:Hid (w6.ownsRow w.heap.size 9 1 (.slice (some ⟨g6,0,none⟩) (k+1) b8) (k+1) (Ib ((List.range (k+1)).map F))/\Below w.heap.size w w6):=Ax ⟨d,r8⟩;clear d f p8 r7 r8 m n9 HZ uT L n;go_wp2_with fail;go_roundw
  case rel=>exact⟨k+1,some ⟨g6,0,none⟩,b8,by omega,by go_num,rfl,uU⟩
  case measure=>simp [intOf];omega
 obtain rfl:k=kids.length:=by omega
 have e9:decide ((kids.length:Int)<(kids.length:Int))=false:=by simp
 have o:Calls Tryz.prog 169 #[.slice X kids.length G,.string ⟨#[44,32]⟩] wr fun e w'=>e= .returned (.string ⟨J.toArray⟩)/\Below wr.heap.size wr w':=by
  rcases c.2 with ⟨e2,h0⟩|⟨g,b8,vG,e2,_,hg,hc,_⟩
  ·rw[h0] at e2 ⊢;have uV:J=[]:=by rw[←HJ.out,h0];rfl
   rw[uV];refine(Tryz.strings_Join_none X G ⟨#[44,32]⟩ wr).mono ?_;rintro e w' ⟨rfl,rfl⟩;exact⟨rfl,Aq _ _⟩
  injection e2 with e3 _ e4;subst e3 e4
  have hj:=Tryz.strings_Join g 0 G ((List.range kids.length).map fun k=>(⟨(F k).toArray⟩:ByteArray)) ⟨#[44,32]⟩ wr (fun j x hj=>by
   obtain⟨uW,rfl⟩:=List.getElem?_eq_some_iff.1 hj;have uX:j<kids.length:=by simpa using uW
   have:=c.cells (g:=g) rfl j (.string ⟨(F j).toArray⟩) (by simp [Ib,uX])
   rw[Addr.add_lit] at this
   simpa using this) (Ay hg) rM (by simpa using hc) (by
   rw[List.map_map,show((fun x:ByteArray=>x.data.toList)∘fun k=>(⟨(F k).toArray⟩:ByteArray))=F from rfl,Zn]
   show(E5 [44,32] ((List.range kids.length).map F)).length<=_
   rw[HJ.out]
   omega)
  rw[List.map_map,show((fun x:ByteArray=>x.data.toList)∘fun k=>(⟨(F k).toArray⟩:ByteArray))=F from rfl,Zn,List.length_map,List.length_range] at hj;rw[←HJ.out];exact hj
 have p:=Ax o;have HB:=Ax hB;clear hq c hB hkl2 HL o;go_wp2_with fail;refine p.out.mono ?_;rintro e V ⟨rfl,i⟩;have n:=Ax (HB.out.trans (i.mono HB.out.size));clear i HB p;go_wp2_with fail;go_ret;exact⟨rfl,n.out⟩
theorem eL {w:World}{b f:Nat}{g:Value}{l:List Nz}{ts:List (List UInt8)}{x:Nz}(h:Oi w b g f l ts)(c:l[ts.length]? =some x)(i:Rd w)(d:Gk x.h):
 Calls Tryz.prog 92 #[.pointer (some ⟨b,0,none⟩),.int .i64 (ts.length:Int)] w fun e w'=>e= .returned (.string ⟨(Ct x.h x.kids.length (B4 l ts x.kids)).toArray⟩)/\Below w.heap.size w w':=by
 by_cases h1:x.h.op=1
 ·exact iZ h c i d h1
 by_cases h2:x.h.op=2
 ·exact lR h c d h2
 by_cases h3:x.h.op=3
 ·exact cX h c h3
 by_cases l8:A9 x.h.op=8
 ·exact dZ h c h1 h2 h3 l8
 by_cases l2:A9 x.h.op=2
 ·exact eJ h c h1 h2 h3 l2
 by_cases l6:A9 x.h.op=6
 ·exact dJ h c h1 h2 h3 l6
 by_cases l3:A9 x.h.op=3
 ·exact iM h c h1 h2 h3 l3
 exact gP h c h1 h2 h3 ⟨l8,l2,l6,l3⟩
end Go.Proofs.YtgfakdobajgnfaaGreatDoor
