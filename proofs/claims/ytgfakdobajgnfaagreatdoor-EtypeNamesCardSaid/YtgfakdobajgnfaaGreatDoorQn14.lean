import Derived.Deep.CutRange
import Derived.Test.YtgfakdobajgnfaaGreatDoorQn13
set_option maxRecDepth 100000
set_option maxHeartbeats 16000000
namespace Go.Proofs.YtgfakdobajgnfaaGreatDoor
open Go Go.RowKit Go.Lib
def J0 (k:Int):Int×Int:=if 5<k then(0,8) else(k,0)
def Lu (h:Hd)(vars:List (List UInt8×Int))(self:Int):Int×Int:=
 if h.op=1 then(h.v.1,0) else if h.op=2 then(match Di h.name vars with|some k=>J0 k|none=>(0,11)) else if self=0 then(0,11) else J0 self
theorem Sk (n:List UInt8):∀l:List (List UInt8×Int),(∃i,∃h:i<l.length,Ln l (fun x=>x.1==n)=(i:Int)/\Di n l=some l[i].2)\/(Ln l (fun x=>x.1==n)= -1/\Di n l=none)
 |[]=> .inr ⟨rfl,rfl⟩
 |x::l=>by
  by_cases hx:(x.1==n)=true
  ·refine .inl ⟨0,by simp,?_,by rw[Di,Ap hx];rfl⟩;exact P6 (k:=0) nW (fun j _ h=>absurd h (Nat.not_lt_zero _)) hx
  have hx':(x.1==n)=false:=by simpa using hx
  have hi:(x::l).findIdx? (fun x=>x.1==n)=(l.findIdx? (fun x=>x.1==n)).map (· +1):=by rw[List.findIdx?_cons,hx'];rfl
  have hf:Di n (x::l)=Di n l:=by rw[Di,Ao hx]
  unfold Ln;rw[hi,hf];rcases Sk n l with ⟨i,h,h1,h2⟩|⟨h1,h2⟩
  ·unfold Ln at h1;cases hc:l.findIdx? (fun x=>x.1==n) with
   |none=>rw[hc] at h1;simp only at h1;omega
   |some j=>
    rw[hc] at h1;simp only at h1;refine .inl ⟨i+1,by simpa using h,?_,h2⟩
    show((j+1:Nat):Int)=_
    omega
  unfold Ln at h1;cases hc:l.findIdx? (fun x=>x.1==n) with
  |none=>exact .inr ⟨rfl,h2⟩
  |some j=>rw[hc] at h1;simp only at h1;omega
theorem dG (x:List UInt8×Int)(n:List UInt8)(b:Nat)(w:World)(hc:w.cell? ⟨b,4,none⟩=some (.string ⟨n.toArray⟩)):Calls Tryz.prog 100 #[.agg #[.string ⟨x.1.toArray⟩,.int .u8 x.2],.pointer (some ⟨b,0,none⟩)] w fun e w'=>e= .returned (.bool (x.1==n))/\Below w.heap.size w w':=by
 obtain⟨xn,xk⟩:=x;have hlt:=B1 hc;go_enter Tryz.func100,Tryz.ntmps100;go_wp2_with fail;go_ret;exact⟨rfl,(Aq _ _).alloc (Ak _) _⟩
theorem gK (op vk vn:Int)(vs nm:List UInt8)(ka:Option Addr)(kn kc:Nat)(ln cl:Int){va:Option Addr}{vc:Nat}{vars:List (List UInt8×Int)}(self:Int)(w:World)(hv:Nj w (.slice va vars.length vc) vars):
 Calls Tryz.prog 67 #[.agg #[.int .u8 op,.int .u8 vk,.int .i64 vn,.string ⟨vs.toArray⟩,.string ⟨nm.toArray⟩,.slice ka kn kc,.int .i64 ln,.int .i64 cl],.agg #[.slice va vars.length vc,.int .u8 self]] w fun e w'=>
  e= .returned (.tuple #[.int .u8 (Lu ⟨op,(vk,vn,vs),nm,ln,cl⟩ vars self).1,.int .i64 (Lu ⟨op,(vk,vn,vs),nm,ln,cl⟩ vars self).2])/\Below w.heap.size w w':=by
 have hlm:=hv.1;obtain⟨W1,hW1⟩:∃W1,w.alloc (.cells #[.int .u8 op,.int .u8 vk,.int .i64 vn,.string ⟨vs.toArray⟩,.string ⟨nm.toArray⟩,.slice ka kn kc,.int .i64 ln,.int .i64 cl] 43)=W1:=⟨_,rfl⟩;have hp1:=A0 w (.cells #[.int .u8 op,.int .u8 vk,.int .i64 vn,.string ⟨vs.toArray⟩,.string ⟨nm.toArray⟩,.slice ka kn kc,.int .i64 ln,.int .i64 cl] 43);have hb1:Below w.heap.size w W1:=by rw[←hW1];exact(Aq _ w).alloc (Ak _) _
 have hz1:W1.heap.size=w.heap.size+1:=by rw[←hW1];simp
 rw[hW1] at hp1;obtain⟨W2,hW2⟩:∃W2,W1.alloc (.cells #[.slice va vars.length vc,.int .u8 self] 59)=W2:=⟨_,rfl⟩;have hp2:=A0 W1 (.cells #[.slice va vars.length vc,.int .u8 self] 59);have hb2:Below W1.heap.size W1 W2:=by rw[←hW2];exact(Aq _ W1).alloc (Ak _) _
 rw[hW2] at hp2;rw[hz1] at hp2;have hp1':=(hb2.block _ (Ay hp1)).trans hp1;obtain⟨n0,n1,n2,n3,n4,n5,n6,n7,_⟩:=Bp hp1';obtain⟨s0,s1,_⟩:=Rc hp2;have hb:=hb1.trans (hb2.mono hb1.size);have HB:=Ax hb;have HW1:=Ax hW1;have HW2:=Ax hW2
 have Hi:=Ax (Yn 100 #[.pointer (some ⟨w.heap.size,0,none⟩)] (fun x=>x.1==nm) (enters_of Tryz.func100 nT rfl) vars W2 (hv.below hb)
  fun t V _ hV=>dG t nm w.heap.size V (A6 hV n4))
 have HX:=Ax (Sk nm vars);have Hvr:=Ax (hv.below hb).2;have hsz:=Ay hp2;clear hW1 hp1 hb1 hz1 hW2 hp2 hb2 hp1' hb hv;unfold Lu;simp only;by_cases h1:op=1
 ·subst h1;rw[Ap rfl];clear Hi HX Hvr;exact zyu
 have g1:(op==1)=false:=Af.2 h1;rw[Ao h1];by_cases h2:op=2
 ·subst h2;rw[Ap rfl];rcases HX.out with ⟨i,hi,e1,e2⟩|⟨e1,e2⟩
  ·rw[e1] at Hi;rw[e2];simp only;obtain⟨a',c',ev,hcell⟩:=Hvr.out;injection ev with ev1 _ ev2;subst ev1 ev2;obtain⟨bv,ov,rfl,_,c1⟩:=hcell i hi;obtain⟨k,hk⟩:∃k,vars[i].2=k:=⟨_,rfl⟩;rw[hk] at c1 ⊢;have j0:(0:Int)<=(i:Int):=by omega
   have j1:(i:Int)<(vars.length:Int):=by omega
   have j2:decide ((i:Int)<0)=false:=An nU;have Hs0:=Ax s0;have Hc1:=Ax c1;clear HX Hvr e1 e2 hcell hk c1 g1 h1;unfold J0;by_cases h5:5<k
   all_goals
    first
     |(have g5:decide (5<k)=true:=Am h5;rw[Ap h5];clear h5)
     |(have g5:decide (5<k)=false:=An h5;rw[Ao h5];clear h5)
    go_enter Tryz.func67,Tryz.ntmps67;go_upto_region 1 with fail
    rw[HW1.out,HW2.out];clear HW1 HW2;go_wp2_with fail;refine Hi.out.mono ?_;rintro e V ⟨rfl,hb⟩;have s0:=A6 hb Hs0.out;have c1:=A6 hb Hc1.out;have HB2:=Ax (HB.out.trans (hb.mono HB.out.size));clear hb Hi HB;go_wp2_with fail;go_ret2;exact⟨rfl,HB2.out⟩
  rw[e1] at Hi;rw[e2];simp only;clear HX Hvr e1 e2 g1 h1;go_enter Tryz.func67,Tryz.ntmps67;go_upto_region 1 with fail
  rw[HW1.out,HW2.out];clear HW1 HW2;go_wp2_with fail;refine Hi.out.mono ?_;rintro e V ⟨rfl,hb⟩;have HB2:=Ax (HB.out.trans (hb.mono HB.out.size));clear hb Hi HB;go_wp2_with fail;go_ret2;exact⟨rfl,HB2.out⟩
 have g2:(op==2)=false:=Af.2 h2;rw[Ao h2];clear Hi HX Hvr h1 h2;by_cases h0:self=0
 ·subst h0;rw[Ap rfl];exact zyu
 have g0:(self==0)=false:=Af.2 h0;rw[Ao h0];unfold J0;clear h0;by_cases h5:5<self
 ·have g5:decide (5<self)=true:=Am h5;rw[Ap h5];clear h5;exact zyu
 have g5:decide (5<self)=false:=An h5;rw[Ao h5];clear h5;exact zyu
open Go Go.RowKit Go.Lib
def J9 (op:Int)(ks:List Int):Int:=match Ii op with
 |some c=>if O9 c.1 ks then c.2 else 255
 |none=>
  if op=7\/op=8 then(if Pg (ks.getD 0 0) (ks.getD 1 0) then 4 else 255)
  else if 9<=op/\op<=12 then(if Pg (ks.getD 0 0) (ks.getD 1 0) && (Gm 0 ks !=255||O9 3 ks) then 4 else 255)
  else if op=26 then(if O9 4 [ks.getD 0 0] && (ks.getD 1 0==ks.getD 2 0||ks.getD 1 0==0||ks.getD 2 0==0) then max (ks.getD 1 0) (ks.getD 2 0) else 255)
  else Gm 0 ks
open Go Go.RowKit Go.Lib
theorem Xh (op:Int){v:Value}{ks:List Int}(c k:Int)(hc:Ii op=some (c,k))(w:World)(h:Kc w v ks):Calls Tryz.prog 68 #[.int .u8 op,v] w fun e w'=>e= .returned (.int .u8 (if O9 c ks then k else 255))/\Below w.heap.size w w':=by
 have HC:=Ax (Ia op w);rw[hc] at HC;have HK:=Ax h;have HE:=fun V (hV:Below w.heap.size w V)=>Ax (O0 c V (h.below hV))
 obtain⟨q,hq⟩:∃q,O9 c ks=q:=⟨_,rfl⟩;rw[hq] at HE ⊢;obtain⟨r,hr⟩:∃r,(if q then k else 255)=r:=⟨_,rfl⟩;have HS:=fun V=>Ax (Jo q k V)
 rw[hr] at HS ⊢;clear hr;obtain⟨_,a,cc,rfl,_⟩:=h;clear hc hq;simp only[Option.getD_some,Option.isSome_some,ofV] at HC;go_enter Tryz.func68,Tryz.ntmps68;go_wp2_with fail;refine HC.out.mono ?_;rintro e V ⟨rfl,hb⟩;have HB:=Ax hb;clear hb HC;obtain⟨W1,hW1⟩:∃W1,V.alloc (.cells #[.int .u8 c,.int .u8 k] 149)=W1:=⟨_,rfl⟩;have hp:=A0 V (.cells #[.int .u8 c,.int .u8 k] 149);have hb1:Below V.heap.size V W1:=by rw[←hW1];exact(Aq _ V).alloc (Ak _) _
 rw[hW1] at hp;obtain⟨s0,s1,_⟩:=Rc hp;have HW1:=Ax hW1;have HB1:=Ax (HB.out.trans (hb1.mono HB.out.size));have hlt:=Ay hp;clear hW1 hp hb1;go_upto_region 3 with fail
 rw[HW1.out];clear HW1;have S1:=Ax (show W1.drew.cell? ⟨V.heap.size,1,none⟩=some (.int .u8 k) from s1);have HD:=Ax HB1.out.drew
 go_region_with (first
  |(go_at_call 103
    refine(HE _ HD.out).out.mono ?_;rintro e V2 ⟨rfl,hb2⟩;have s1:=A6 hb2 S1.out;have HB2:=Ax (HD.out.trans (hb2.mono HD.out.size))
    clear hb2)
  |(go_at_call 102
    refine(HS _).out.mono ?_;rintro e V3 ⟨rfl,hb3⟩;have HB3:=Ax (HB2.out.trans (hb3.mono HB2.out.size))
    clear hb3))
 all_goals
  go_wp2_with fail;go_ret;exact⟨rfl,HB3.out⟩
theorem aT (op:Int)(ho:op=7\/op=8){v:Value}{ks:List Int}(h2:2<=ks.length)(h0:∀x∈ks,0<=x)(w:World)(h:Kc w v ks):Calls Tryz.prog 68 #[.int .u8 op,v] w fun e w'=>e= .returned (.int .u8 (if Pg (ks.getD 0 0) (ks.getD 1 0) then 4 else 255))/\Below w.heap.size w w':=by
 have hn:Ii op=none:=by rcases ho with rfl|rfl<;>rfl
 have HC:=Ax (Ia op w);rw[hn] at HC;obtain⟨hlm,a,cc,rfl,hcell⟩:=h;obtain⟨b,off,rfl,c0⟩:=hcell 0 nU;obtain⟨_,_,e1,c1⟩:=hcell 1 nU;injection e1 with e1;injection e1 with e2 e3;subst e2 e3;have p0:0<=ks[0]:=h0 _ (List.getElem_mem nU);have p1:0<=ks[1]:=h0 _ (List.getElem_mem nU);rw[List.getD_eq_getElem?_getD,List.getD_eq_getElem?_getD,Ag (show 0<ks.length by omega),Ag (show 1<ks.length by omega),Option.getD_some,Option.getD_some];obtain⟨x,hx⟩:∃x,ks[0]=x:=⟨_,rfl⟩;obtain⟨y,hy⟩:∃y,ks[1]=y:=⟨_,rfl⟩;rw[hx] at c0 p0 ⊢;rw[hy] at c1 p1 ⊢;have HM:=fun V=>Ax (Vb x y p0 p1 V)
 obtain⟨q,hq⟩:∃q,Pg x y=q:=⟨_,rfl⟩;rw[hq] at HM ⊢;obtain⟨r,hr⟩:∃r,(if q then(4:Int) else 255)=r:=⟨_,rfl⟩;have HS:=fun V=>Ax (Jo q 4 V)
 rw[hr] at HS ⊢;rw[Nat.add_zero] at c0;have C0:=Ax c0;have C1:=Ax c1;have i0:(0:Int)<(ks.length:Int):=by omega
 have i1:(1:Int)<(ks.length:Int):=by omega
 clear hcell h0 hx hy hq hr hn c0 c1;simp only[Option.getD_none,Option.isSome_none,ofV] at HC;rcases ho with rfl|rfl
 all_goals
  go_enter Tryz.func68,Tryz.ntmps68;go_wp2_with fail;refine HC.out.mono ?_;rintro e V ⟨rfl,hb⟩;obtain⟨W1,hW1⟩:∃W1,V.alloc (.cells #[.int .u8 0,.int .u8 0] 149)=W1:=⟨_,rfl⟩;have hb1:Below V.heap.size V W1:=by rw[←hW1];exact(Aq _ V).alloc (Ak _) _
  have hb':=hb.trans (hb1.mono hb.size);have c0:=A6 hb' C0.out;have c1:=A6 hb' C1.out;have HW1:=Ax hW1;have HB1:=Ax hb';have HD:=Ax hb'.drew;clear hW1 hb1 hb hb' HC;go_upto_region 7 with fail
  rw[HW1.out];clear HW1
  go_region_with (first
   |(go_at_call 104
     refine(HM _).out.mono ?_;rintro e V2 ⟨rfl,hb2⟩;have HB2:=Ax (HD.out.trans (hb2.mono HD.out.size))
     clear hb2)
   |(go_at_call 102
     refine(HS _).out.mono ?_;rintro e V3 ⟨rfl,hb3⟩;have HB3:=Ax (HB2.out.trans (hb3.mono HB2.out.size))
     clear hb3))
  all_goals
   go_wp2_with fail;go_ret;exact⟨rfl,HB3.out⟩
open Go Go.RowKit Go.Lib
theorem gL (op:Int)(h9:9<=op)(h12:op<=12){v:Value}{ks:List Int}(h2:2<=ks.length)(h0:∀x∈ks,0<=x)(w:World)(h:Kc w v ks):Calls Tryz.prog 68 #[.int .u8 op,v] w fun e w'=>e= .returned (.int .u8 (if Pg (ks.getD 0 0) (ks.getD 1 0) && (Gm 0 ks !=255||O9 3 ks) then 4 else 255))/\Below w.heap.size w w':=by
 have hn:Ii op=none:=by
  rcases (show op=9\/op=10\/op=11\/op=12 by omega) with rfl|rfl|rfl|rfl<;>rfl
 have HC:=Ax (Ia op w);rw[hn] at HC;have HN:=fun V (hV:Below w.heap.size w V)=>Ax (Ks V (h.below hV))
 have HE:=fun V (hV:Below w.heap.size w V)=>Ax (O0 3 V (h.below hV))
 obtain⟨hlm,a,cc,rfl,hcell⟩:=h;obtain⟨b,off,rfl,c0⟩:=hcell 0 nU;obtain⟨_,_,e1,c1⟩:=hcell 1 nU;injection e1 with e1;injection e1 with e2 e3;subst e2 e3;have p0:0<=ks[0]:=h0 _ (List.getElem_mem nU);have p1:0<=ks[1]:=h0 _ (List.getElem_mem nU);rw[List.getD_eq_getElem?_getD,List.getD_eq_getElem?_getD,Ag (show 0<ks.length by omega),Ag (show 1<ks.length by omega),Option.getD_some,Option.getD_some];obtain⟨x,hx⟩:∃x,ks[0]=x:=⟨_,rfl⟩;obtain⟨y,hy⟩:∃y,ks[1]=y:=⟨_,rfl⟩;rw[hx] at c0 p0 ⊢;rw[hy] at c1 p1 ⊢;have HM:=fun V=>Ax (Vb x y p0 p1 V)
 obtain⟨q,hq⟩:∃q,Pg x y=q:=⟨_,rfl⟩;obtain⟨n,hn0⟩:∃n,Gm 0 ks=n:=⟨_,rfl⟩;obtain⟨o,ho⟩:∃o,O9 3 ks=o:=⟨_,rfl⟩;rw[hq] at HM ⊢;rw[hn0] at HN ⊢;rw[ho] at HE ⊢;rw[Nat.add_zero] at c0;have C0:=Ax c0;have C1:=Ax c1;have i0:(0:Int)<(ks.length:Int):=by omega
 have i1:(1:Int)<(ks.length:Int):=by omega
 have n0:0<ks.length:=by omega
 have n1:1<ks.length:=by omega
 have g7:(op==7)=false:=Af.2 nU;have g8:(op==8)=false:=Af.2 nU;clear hcell h0 hx hy hq hn0 ho hn c0 c1;simp only[Option.getD_none,Option.isSome_none,ofV] at HC;obtain⟨z,hz⟩:∃z:Int,(if q && (n !=255||o) then(4:Int) else 255)=z:=⟨_,rfl⟩;have HZ:=Ax hz;rw[hz];have HS:=fun(t:Bool) V=>Ax (Jo t 4 V)
 clear hz;have H9:=Ax h9;have H12:=Ax h12;clear h9 h12;go_enter Tryz.func68,Tryz.ntmps68;go_wp2_with fail;refine HC.out.mono ?_;rintro e V ⟨rfl,hb⟩;obtain⟨W1,hW1⟩:∃W1,V.alloc (.cells #[.int .u8 0,.int .u8 0] 149)=W1:=⟨_,rfl⟩;have hb1:Below V.heap.size V W1:=by rw[←hW1];exact(Aq _ V).alloc (Ak _) _
 have hb':=hb.trans (hb1.mono hb.size);have c0:=A6 hb' C0.out;have c1:=A6 hb' C1.out;have HW1:=Ax hW1;have HB1:=Ax hb';have HD:=Ax hb'.drew;clear hW1 hb1 hb hb' HC;go_upto_region 8 with fail
 rw[HW1.out];clear HW1;obtain⟨q9,hq9⟩:∃q,(op==9)=q:=⟨_,rfl⟩;obtain⟨q10,hq10⟩:∃q,(op==10)=q:=⟨_,rfl⟩;obtain⟨q11,hq11⟩:∃q,(op==11)=q:=⟨_,rfl⟩;obtain⟨q12,hq12⟩:∃q,(op==12)=q:=⟨_,rfl⟩
 have hor:(((q9||q10)||q11)||q12)=true:=by
  have:=H9.out
  have:=H12.out
  subst hq9 hq10 hq11 hq12;rcases (show op=9\/op=10\/op=11\/op=12 by omega) with rfl|rfl|rfl|rfl<;>rfl
 have HO:=Ax hor;clear hor
 go_cut [34] from 35 to 35 (fun u34 wx=>u34= .bool q9/\wx=W1)
 case first=>
  clear hq10 hq11 hq12;exact zyl
 obtain⟨rfl,hwx⟩:=hcut;rw[hwx];clear hwx
 go_upto_if 34 with fail
 go_cut [34] from 36 to 38 (fun u34 wx=>u34= .bool true/\wx=W1)
 case first=>
  cases q9 with
  |true=>
   exact zyl
  |false=>
   cases q10 with
   |true=>
    exact zyl
   |false=>
    cases q11 with
    |true=>
     exact zyl
    |false=>
     cases q12 with
     |true=>
      exact zyl
     |false=>cases HO.out
 case rest=>
  obtain⟨rfl,rfl⟩:=hcut;clear HO hq9 hq10 hq11 hq12;have HSV:Hid (∀V,Below w.heap.size w V->(Below w.heap.size w V/\V.cell? ⟨b,off,none⟩=some (.int .u8 x)/\V.cell? ⟨b,off+1,none⟩=some (.int .u8 y))):=Ax fun V hV=>⟨hV,A6 hV C0.out,A6 hV C1.out⟩
  clear c0 c1;cases q with
  |false=>
   go_upto_region 12 with fail
   refine wp_region_noPanic ?_;refine wp_region_held_drew (S:=fun V=>Below w.heap.size w V/\V.cell? ⟨b,off,none⟩=some (.int .u8 x)/\V.cell? ⟨b,off+1,none⟩=some (.int .u8 y)) nT ?_ (fun hHeld=>?_)
   ·exact HSV.out _ HD.out
   refine wpAnyH_take (i:=0) (oi:=⟨some 39,_,_,_,_,_⟩) (v:=?vq1) rfl nT nT nT (fun _ _ _ h=>h) (Or.inl ⟨by rfl,?hq1⟩) nX ?rq1
   case hq1=>(intro w hSw;(try dsimp only at hSw);(obtain⟨_,hSw1,hSw2⟩:=hSw);(first|(go_simp;done)|(go_simp;with_reducible rfl)))
   try simp only[Act.put,Ac,Ad,Ae]
   refine wpAnyH_take (i:=1) (oi:=⟨some 40,_,_,_,_,_⟩) (v:=?vq2) rfl nT nT nT (fun _ _ _ h=>h) (Or.inl ⟨by rfl,?hq2⟩) nX ?rq2
   case hq2=>(intro w hSw;(try dsimp only at hSw);(obtain⟨_,hSw1,hSw2⟩:=hSw);(first|(go_simp;done)|(go_simp;with_reducible rfl)))
   try simp only[Act.put,Ac,Ad,Ae]
   refine wpAnyH_take (i:=2) (oi:=⟨some 41,_,_,_,_,_⟩) (v:=?vq3) rfl nT nT nT (fun _ _ _ h=>h) (Or.inl ⟨by rfl,?hq3⟩) nX ?rq3
   case hq3=>(intro w hSw;(try dsimp only at hSw);(obtain⟨_,hSw1,hSw2⟩:=hSw);(first|(go_simp;done)|(go_simp;with_reducible rfl)))
   try simp only[Act.put,Ac,Ad,Ae]
   refine wpAnyH_take (i:=3) (oi:=⟨some 42,_,_,_,_,_⟩) (v:=?vq4) rfl nT nT nT (fun _ _ _ h=>h) (Or.inl ⟨by rfl,?hq4⟩) nX ?rq4
   case hq4=>(intro w hSw;(try dsimp only at hSw);(obtain⟨_,hSw1,hSw2⟩:=hSw);(first|(go_simp;done)|(go_simp;with_reducible rfl)))
   try simp only[Act.put,Ac,Ad,Ae]
   refine wpAnyH_take (i:=4) (oi:=⟨some 43,_,_,_,_,_⟩) (v:=?vq5) rfl nT nT nT (fun _ _ _ h=>h) (Or.inl ⟨by rfl,?hq5⟩) nX ?rq5
   case hq5=>(intro w hSw;(try dsimp only at hSw);(obtain⟨_,hSw1,hSw2⟩:=hSw);(first|(go_simp;done)|(go_simp;with_reducible rfl)))
   try simp only[Act.put,Ac,Ad,Ae]
   refine wpAnyH_take (i:=5) (oi:=⟨some 44,_,_,_,_,_⟩) (v:=?vq6) rfl nT nT nT (fun _ _ _ h=>h) (Or.inl ⟨by rfl,?hq6⟩) nX ?rq6
   case hq6=>(intro w hSw;(try dsimp only at hSw);(obtain⟨_,hSw1,hSw2⟩:=hSw);(first|(go_simp;done)|(go_simp;with_reducible rfl)))
   try simp only[Act.put,Ac,Ad,Ae]
   refine wpAnyH_ready (rs:=[6]) nT nW ?_;refine AllReadyH.cons (o:=⟨some 45,_,_,_,_,_⟩) (rs:=[]) rfl (fun K hK=>?_) AllReadyH.nil
   go_simp
   go_at_call 104
   refine(HM _).out.mono ?_;rintro e V2 ⟨rfl,hb2⟩;have HB2:=Ax (HD.out.trans (hb2.mono HD.out.size));clear hb2
   try go_wp2_with fail
   clear hHeld;refine hK.out _ _ ?_ (fun hHeld=>?_)
   ·exact HSV.out _ HB2.out
   clear hK K
   try simp only[Act.put,Ac,Ad,Ae]
   refine wpAnyH_take (i:=7) (oi:=⟨some 46,_,_,_,_,_⟩) (v:=?vq7) rfl nT nT nT (fun _ _ _ h=>h) (Or.inl ⟨by rfl,?hq7⟩) nX ?rq7
   case hq7=>(intro w hSw;(try dsimp only at hSw);(obtain⟨_,hSw1,hSw2⟩:=hSw);(first|(go_simp;done)|(go_simp;with_reducible rfl)))
   try simp only[Act.put,Ac,Ad,Ae]
   refine wpAnyH_take (i:=8) (oi:=⟨some 47,_,_,_,_,_⟩) rfl nT nT nT (fun _ _ _ h=>h) (Or.inr ⟨by rfl,rfl⟩) nX ?_
   try simp only[Act.put,Ac,Ad,Ae]
   refine wpAnyH_take (i:=9) (oi:=⟨some 48,_,_,_,_,_⟩) rfl nT nT nT (fun _ _ _ h=>h) (Or.inr ⟨by rfl,rfl⟩) nX ?_
   try simp only[Act.put,Ac,Ad,Ae]
   refine wpAnyH_take (i:=10) (oi:=⟨some 49,_,_,_,_,_⟩) rfl nT nT nT (fun _ _ _ h=>h) (Or.inr ⟨by rfl,rfl⟩) nX ?_
   try simp only[Act.put,Ac,Ad,Ae]
   refine wpAnyH_take (i:=11) (oi:=⟨some 50,_,_,_,_,_⟩) rfl nT nT nT (fun _ _ _ h=>h) (Or.inr ⟨by rfl,rfl⟩) nX ?_
   try simp only[Act.put,Ac,Ad,Ae]
   refine wpAnyH_take (i:=12) (oi:=⟨some 51,_,_,_,_,_⟩) rfl nT nT nT (fun _ _ _ h=>h) (Or.inr ⟨by rfl,rfl⟩) nX ?_
   try simp only[Act.put,Ac,Ad,Ae]
   refine wpAnyH_take (i:=13) (oi:=⟨some 52,_,_,_,_,_⟩) rfl nT nT nT (fun _ _ _ h=>h) (Or.inr ⟨by rfl,rfl⟩) nX ?_
   try simp only[Act.put,Ac,Ad,Ae]
   refine wpAnyH_take (i:=14) (oi:=⟨some 53,_,_,_,_,_⟩) rfl nT nT nT (fun _ _ _ h=>h) (Or.inr ⟨by rfl,rfl⟩) nX ?_
   try simp only[Act.put,Ac,Ad,Ae]
   refine wpAnyH_take (i:=15) (oi:=⟨some 54,_,_,_,_,_⟩) (v:=?vq8) rfl nT nT nT (fun _ _ _ h=>h) (Or.inl ⟨by rfl,?hq8⟩) nX ?rq8
   case hq8=>(intro w hSw;(try dsimp only at hSw);(obtain⟨_,hSw1,hSw2⟩:=hSw);(first|(go_simp;done)|(go_simp;with_reducible rfl)))
   try simp only[Act.put,Ac,Ad,Ae]
   refine wpAnyH_ready (rs:=[16]) nT nW ?_;refine AllReadyH.cons (o:=⟨some 55,_,_,_,_,_⟩) (rs:=[]) rfl (fun K hK=>?_) AllReadyH.nil
   go_simp
   go_at_call 102
   refine(HS _ _).out.mono ?_;rintro e V3 ⟨rfl,hb3⟩;have HB3:=Ax (HB2.out.trans (hb3.mono HB2.out.size));clear hb3
   try go_wp2_with fail
   clear hHeld;refine hK.out _ _ ?_ (fun hHeld=>?_)
   ·exact HSV.out _ HB3.out
   clear hK K
   try simp only[Act.put,Ac,Ad,Ae]
   refine wpAnyH_take (i:=17) (oi:=⟨some 4,_,_,_,_,_⟩) (v:=?vq9) rfl nT nT nT (fun _ _ _ h=>h) (Or.inl ⟨by rfl,?hq9⟩) nX ?rq9
   case hq9=>(intro w hSw;(try dsimp only at hSw);(obtain⟨_,hSw1,hSw2⟩:=hSw);(first|(go_simp;done)|(go_simp;with_reducible rfl)))
   exact zw3
  |true=>
   cases hn:(n !=255) with
   |true=>
    rw[hn] at HZ;go_upto_region 12 with fail
    refine wp_region_noPanic ?_;refine wp_region_held_drew (S:=fun V=>Below w.heap.size w V/\V.cell? ⟨b,off,none⟩=some (.int .u8 x)/\V.cell? ⟨b,off+1,none⟩=some (.int .u8 y)) nT ?_ (fun hHeld=>?_)
    ·exact HSV.out _ HD.out
    refine wpAnyH_take (i:=0) (oi:=⟨some 39,_,_,_,_,_⟩) (v:=?vq10) rfl nT nT nT (fun _ _ _ h=>h) (Or.inl ⟨by rfl,?hq10⟩) nX ?rq10
    case hq10=>(intro w hSw;(try dsimp only at hSw);(obtain⟨_,hSw1,hSw2⟩:=hSw);(first|(go_simp;done)|(go_simp;with_reducible rfl)))
    try simp only[Act.put,Ac,Ad,Ae]
    refine wpAnyH_take (i:=1) (oi:=⟨some 40,_,_,_,_,_⟩) (v:=?vq11) rfl nT nT nT (fun _ _ _ h=>h) (Or.inl ⟨by rfl,?hq11⟩) nX ?rq11
    case hq11=>(intro w hSw;(try dsimp only at hSw);(obtain⟨_,hSw1,hSw2⟩:=hSw);(first|(go_simp;done)|(go_simp;with_reducible rfl)))
    try simp only[Act.put,Ac,Ad,Ae]
    refine wpAnyH_take (i:=2) (oi:=⟨some 41,_,_,_,_,_⟩) (v:=?vq12) rfl nT nT nT (fun _ _ _ h=>h) (Or.inl ⟨by rfl,?hq12⟩) nX ?rq12
    case hq12=>(intro w hSw;(try dsimp only at hSw);(obtain⟨_,hSw1,hSw2⟩:=hSw);(first|(go_simp;done)|(go_simp;with_reducible rfl)))
    try simp only[Act.put,Ac,Ad,Ae]
    refine wpAnyH_take (i:=3) (oi:=⟨some 42,_,_,_,_,_⟩) (v:=?vq13) rfl nT nT nT (fun _ _ _ h=>h) (Or.inl ⟨by rfl,?hq13⟩) nX ?rq13
    case hq13=>(intro w hSw;(try dsimp only at hSw);(obtain⟨_,hSw1,hSw2⟩:=hSw);(first|(go_simp;done)|(go_simp;with_reducible rfl)))
    try simp only[Act.put,Ac,Ad,Ae]
    refine wpAnyH_take (i:=4) (oi:=⟨some 43,_,_,_,_,_⟩) (v:=?vq14) rfl nT nT nT (fun _ _ _ h=>h) (Or.inl ⟨by rfl,?hq14⟩) nX ?rq14
    case hq14=>(intro w hSw;(try dsimp only at hSw);(obtain⟨_,hSw1,hSw2⟩:=hSw);(first|(go_simp;done)|(go_simp;with_reducible rfl)))
    try simp only[Act.put,Ac,Ad,Ae]
    refine wpAnyH_take (i:=5) (oi:=⟨some 44,_,_,_,_,_⟩) (v:=?vq15) rfl nT nT nT (fun _ _ _ h=>h) (Or.inl ⟨by rfl,?hq15⟩) nX ?rq15
    case hq15=>(intro w hSw;(try dsimp only at hSw);(obtain⟨_,hSw1,hSw2⟩:=hSw);(first|(go_simp;done)|(go_simp;with_reducible rfl)))
    try simp only[Act.put,Ac,Ad,Ae]
    refine wpAnyH_ready (rs:=[6]) nT nW ?_;refine AllReadyH.cons (o:=⟨some 45,_,_,_,_,_⟩) (rs:=[]) rfl (fun K hK=>?_) AllReadyH.nil
    go_simp
    go_at_call 104
    refine(HM _).out.mono ?_;rintro e V2 ⟨rfl,hb2⟩;have HB2:=Ax (HD.out.trans (hb2.mono HD.out.size));clear hb2
    try go_wp2_with fail
    clear hHeld;refine hK.out _ _ ?_ (fun hHeld=>?_)
    ·exact HSV.out _ HB2.out
    clear hK K
    try simp only[Act.put,Ac,Ad,Ae]
    refine wpAnyH_take (i:=7) (oi:=⟨some 46,_,_,_,_,_⟩) (v:=?vq16) rfl nT nT nT (fun _ _ _ h=>h) (Or.inl ⟨by rfl,?hq16⟩) nX ?rq16
    case hq16=>(intro w hSw;(try dsimp only at hSw);(obtain⟨_,hSw1,hSw2⟩:=hSw);(first|(go_simp;done)|(go_simp;with_reducible rfl)))
    try simp only[Act.put,Ac,Ad,Ae]
    refine wpAnyH_take (i:=8) (oi:=⟨some 47,_,_,_,_,_⟩) (v:=?vq17) rfl nT nT nT (fun _ _ _ h=>h) (Or.inl ⟨by rfl,?hq17⟩) nX ?rq17
    case hq17=>(intro w hSw;(try dsimp only at hSw);(obtain⟨_,hSw1,hSw2⟩:=hSw);(first|(go_simp;done)|(go_simp;with_reducible rfl)))
    try simp only[Act.put,Ac,Ad,Ae]
    refine wpAnyH_ready (rs:=[9]) nT nW ?_;refine AllReadyH.cons (o:=⟨some 48,_,_,_,_,_⟩) (rs:=[]) rfl (fun K hK=>?_) AllReadyH.nil
    go_simp
    go_at_call 105
    refine(HN _ HB2.out).out.mono ?_;rintro e V4 ⟨rfl,hb4⟩;have HB4:=Ax (HB2.out.trans (hb4.mono HB2.out.size));clear hb4
    try go_wp2_with fail
    clear hHeld;refine hK.out _ _ ?_ (fun hHeld=>?_)
    ·exact HSV.out _ HB4.out
    clear hK K
    try simp only[Act.put,Ac,Ad,Ae]
    refine wpAnyH_take (i:=10) (oi:=⟨some 49,_,_,_,_,_⟩) (v:=?vq18) rfl nT nT nT (fun _ _ _ h=>h) (Or.inl ⟨by rfl,?hq18⟩) nX ?rq18
    case hq18=>(intro w hSw;(try dsimp only at hSw);(obtain⟨_,hSw1,hSw2⟩:=hSw);(first|(go_simp;done)|(go_simp;with_reducible rfl)))
    try simp only[Act.put,Ac,Ad,Ae]
    refine wpAnyH_take (i:=11) (oi:=⟨some 50,_,_,_,_,_⟩) (v:=?vq19) rfl nT nT nT (fun _ _ _ h=>h) (Or.inl ⟨by rfl,?hq19⟩) nX ?rq19
    case hq19=>(intro w hSw;(try dsimp only at hSw);(obtain⟨_,hSw1,hSw2⟩:=hSw);(first|(go_simp;done)|(go_simp;with_reducible rfl)))
    try simp only[Act.put,Ac,Ad,Ae]
    refine wpAnyH_take (i:=12) (oi:=⟨some 51,_,_,_,_,_⟩) rfl nT nT nT (fun _ _ _ h=>h) (Or.inr ⟨by rfl,rfl⟩) nX ?_
    try simp only[Act.put,Ac,Ad,Ae]
    refine wpAnyH_take (i:=13) (oi:=⟨some 52,_,_,_,_,_⟩) rfl nT nT nT (fun _ _ _ h=>h) (Or.inr ⟨by rfl,rfl⟩) nX ?_
    try simp only[Act.put,Ac,Ad,Ae]
    refine wpAnyH_take (i:=14) (oi:=⟨some 53,_,_,_,_,_⟩) (v:=?vq20) rfl nT nT nT (fun _ _ _ h=>h) (Or.inl ⟨by rfl,?hq20⟩) nX ?rq20
    case hq20=>(intro w hSw;(try dsimp only at hSw);(obtain⟨_,hSw1,hSw2⟩:=hSw);(first|(go_simp;done)|(go_simp;with_reducible rfl)))
    try simp only[Act.put,Ac,Ad,Ae]
    refine wpAnyH_take (i:=15) (oi:=⟨some 54,_,_,_,_,_⟩) (v:=?vq21) rfl nT nT nT (fun _ _ _ h=>h) (Or.inl ⟨by rfl,?hq21⟩) nX ?rq21
    case hq21=>(intro w hSw;(try dsimp only at hSw);(obtain⟨_,hSw1,hSw2⟩:=hSw);(first|(go_simp;done)|(go_simp;with_reducible rfl)))
    try simp only[Act.put,Ac,Ad,Ae]
    refine wpAnyH_ready (rs:=[16]) nT nW ?_;refine AllReadyH.cons (o:=⟨some 55,_,_,_,_,_⟩) (rs:=[]) rfl (fun K hK=>?_) AllReadyH.nil
    go_simp
    go_at_call 102
    refine(HS _ _).out.mono ?_;rintro e V3 ⟨rfl,hb3⟩;have HB3:=Ax (HB4.out.trans (hb3.mono HB4.out.size));clear hb3
    try go_wp2_with fail
    clear hHeld;refine hK.out _ _ ?_ (fun hHeld=>?_)
    ·exact HSV.out _ HB3.out
    clear hK K
    try simp only[Act.put,Ac,Ad,Ae]
    refine wpAnyH_take (i:=17) (oi:=⟨some 4,_,_,_,_,_⟩) (v:=?vq22) rfl nT nT nT (fun _ _ _ h=>h) (Or.inl ⟨by rfl,?hq22⟩) nX ?rq22
    case hq22=>(intro w hSw;(try dsimp only at hSw);(obtain⟨_,hSw1,hSw2⟩:=hSw);(first|(go_simp;done)|(go_simp;with_reducible rfl)))
    exact zw3
   |false=>
    rw[hn] at HZ;obtain⟨r,hr⟩:∃r:Int,(if o then(4:Int) else 255)=r:=⟨_,rfl⟩;have HSo:=fun V=>Ax (Jo o 4 V)
    rw[hr] at HSo;have Hr:=Ax hr;clear hr;go_upto_region 12 with fail
    refine wp_region_noPanic ?_;refine wp_region_held_drew (S:=fun V=>Below w.heap.size w V/\V.cell? ⟨b,off,none⟩=some (.int .u8 x)/\V.cell? ⟨b,off+1,none⟩=some (.int .u8 y)) nT ?_ (fun hHeld=>?_)
    ·exact HSV.out _ HD.out
    refine wpAnyH_take (i:=0) (oi:=⟨some 39,_,_,_,_,_⟩) (v:=?vq23) rfl nT nT nT (fun _ _ _ h=>h) (Or.inl ⟨by rfl,?hq23⟩) nX ?rq23
    case hq23=>(intro w hSw;(try dsimp only at hSw);(obtain⟨_,hSw1,hSw2⟩:=hSw);(first|(go_simp;done)|(go_simp;with_reducible rfl)))
    try simp only[Act.put,Ac,Ad,Ae]
    refine wpAnyH_take (i:=1) (oi:=⟨some 40,_,_,_,_,_⟩) (v:=?vq24) rfl nT nT nT (fun _ _ _ h=>h) (Or.inl ⟨by rfl,?hq24⟩) nX ?rq24
    case hq24=>(intro w hSw;(try dsimp only at hSw);(obtain⟨_,hSw1,hSw2⟩:=hSw);(first|(go_simp;done)|(go_simp;with_reducible rfl)))
    try simp only[Act.put,Ac,Ad,Ae]
    refine wpAnyH_take (i:=2) (oi:=⟨some 41,_,_,_,_,_⟩) (v:=?vq25) rfl nT nT nT (fun _ _ _ h=>h) (Or.inl ⟨by rfl,?hq25⟩) nX ?rq25
    case hq25=>(intro w hSw;(try dsimp only at hSw);(obtain⟨_,hSw1,hSw2⟩:=hSw);(first|(go_simp;done)|(go_simp;with_reducible rfl)))
    try simp only[Act.put,Ac,Ad,Ae]
    refine wpAnyH_take (i:=3) (oi:=⟨some 42,_,_,_,_,_⟩) (v:=?vq26) rfl nT nT nT (fun _ _ _ h=>h) (Or.inl ⟨by rfl,?hq26⟩) nX ?rq26
    case hq26=>(intro w hSw;(try dsimp only at hSw);(obtain⟨_,hSw1,hSw2⟩:=hSw);(first|(go_simp;done)|(go_simp;with_reducible rfl)))
    try simp only[Act.put,Ac,Ad,Ae]
    refine wpAnyH_take (i:=4) (oi:=⟨some 43,_,_,_,_,_⟩) (v:=?vq27) rfl nT nT nT (fun _ _ _ h=>h) (Or.inl ⟨by rfl,?hq27⟩) nX ?rq27
    case hq27=>(intro w hSw;(try dsimp only at hSw);(obtain⟨_,hSw1,hSw2⟩:=hSw);(first|(go_simp;done)|(go_simp;with_reducible rfl)))
    try simp only[Act.put,Ac,Ad,Ae]
    refine wpAnyH_take (i:=5) (oi:=⟨some 44,_,_,_,_,_⟩) (v:=?vq28) rfl nT nT nT (fun _ _ _ h=>h) (Or.inl ⟨by rfl,?hq28⟩) nX ?rq28
    case hq28=>(intro w hSw;(try dsimp only at hSw);(obtain⟨_,hSw1,hSw2⟩:=hSw);(first|(go_simp;done)|(go_simp;with_reducible rfl)))
    try simp only[Act.put,Ac,Ad,Ae]
    refine wpAnyH_ready (rs:=[6]) nT nW ?_;refine AllReadyH.cons (o:=⟨some 45,_,_,_,_,_⟩) (rs:=[]) rfl (fun K hK=>?_) AllReadyH.nil
    go_simp
    go_at_call 104
    refine(HM _).out.mono ?_;rintro e V2 ⟨rfl,hb2⟩;have HB2:=Ax (HD.out.trans (hb2.mono HD.out.size));clear hb2
    try go_wp2_with fail
    clear hHeld;refine hK.out _ _ ?_ (fun hHeld=>?_)
    ·exact HSV.out _ HB2.out
    clear hK K
    try simp only[Act.put,Ac,Ad,Ae]
    refine wpAnyH_take (i:=7) (oi:=⟨some 46,_,_,_,_,_⟩) (v:=?vq29) rfl nT nT nT (fun _ _ _ h=>h) (Or.inl ⟨by rfl,?hq29⟩) nX ?rq29
    case hq29=>(intro w hSw;(try dsimp only at hSw);(obtain⟨_,hSw1,hSw2⟩:=hSw);(first|(go_simp;done)|(go_simp;with_reducible rfl)))
    try simp only[Act.put,Ac,Ad,Ae]
    refine wpAnyH_take (i:=8) (oi:=⟨some 47,_,_,_,_,_⟩) (v:=?vq30) rfl nT nT nT (fun _ _ _ h=>h) (Or.inl ⟨by rfl,?hq30⟩) nX ?rq30
    case hq30=>(intro w hSw;(try dsimp only at hSw);(obtain⟨_,hSw1,hSw2⟩:=hSw);(first|(go_simp;done)|(go_simp;with_reducible rfl)))
    try simp only[Act.put,Ac,Ad,Ae]
    refine wpAnyH_ready (rs:=[9]) nT nW ?_;refine AllReadyH.cons (o:=⟨some 48,_,_,_,_,_⟩) (rs:=[]) rfl (fun K hK=>?_) AllReadyH.nil
    go_simp
    go_at_call 105
    refine(HN _ HB2.out).out.mono ?_;rintro e V4 ⟨rfl,hb4⟩;have HB4:=Ax (HB2.out.trans (hb4.mono HB2.out.size));clear hb4
    try go_wp2_with fail
    clear hHeld;refine hK.out _ _ ?_ (fun hHeld=>?_)
    ·exact HSV.out _ HB4.out
    clear hK K
    try simp only[Act.put,Ac,Ad,Ae]
    refine wpAnyH_take (i:=10) (oi:=⟨some 49,_,_,_,_,_⟩) (v:=?vq31) rfl nT nT nT (fun _ _ _ h=>h) (Or.inl ⟨by rfl,?hq31⟩) nX ?rq31
    case hq31=>(intro w hSw;(try dsimp only at hSw);(obtain⟨_,hSw1,hSw2⟩:=hSw);(first|(go_simp;done)|(go_simp;with_reducible rfl)))
    try simp only[Act.put,Ac,Ad,Ae]
    refine wpAnyH_take (i:=11) (oi:=⟨some 50,_,_,_,_,_⟩) (v:=?vq32) rfl nT nT nT (fun _ _ _ h=>h) (Or.inl ⟨by rfl,?hq32⟩) nX ?rq32
    case hq32=>(intro w hSw;(try dsimp only at hSw);(obtain⟨_,hSw1,hSw2⟩:=hSw);(first|(go_simp;done)|(go_simp;with_reducible rfl)))
    try simp only[Act.put,Ac,Ad,Ae]
    refine wpAnyH_take (i:=12) (oi:=⟨some 51,_,_,_,_,_⟩) (v:=?vq33) rfl nT nT nT (fun _ _ _ h=>h) (Or.inl ⟨by rfl,?hq33⟩) nX ?rq33
    case hq33=>(intro w hSw;(try dsimp only at hSw);(obtain⟨_,hSw1,hSw2⟩:=hSw);(first|(go_simp;done)|(go_simp;with_reducible rfl)))
    try simp only[Act.put,Ac,Ad,Ae]
    refine wpAnyH_ready (rs:=[13]) nT nW ?_;refine AllReadyH.cons (o:=⟨some 52,_,_,_,_,_⟩) (rs:=[]) rfl (fun K hK=>?_) AllReadyH.nil
    go_simp
    go_at_call 103
    refine(HE _ HB4.out).out.mono ?_;rintro e V5 ⟨rfl,hb5⟩;have HB5:=Ax (HB4.out.trans (hb5.mono HB4.out.size));clear hb5
    try go_wp2_with fail
    clear hHeld;refine hK.out _ _ ?_ (fun hHeld=>?_)
    ·exact HSV.out _ HB5.out
    clear hK K
    try simp only[Act.put,Ac,Ad,Ae]
    refine wpAnyH_take (i:=14) (oi:=⟨some 53,_,_,_,_,_⟩) (v:=?vq34) rfl nT nT nT (fun _ _ _ h=>h) (Or.inl ⟨by rfl,?hq34⟩) nX ?rq34
    case hq34=>(intro w hSw;(try dsimp only at hSw);(obtain⟨_,hSw1,hSw2⟩:=hSw);(first|(go_simp;done)|(go_simp;with_reducible rfl)))
    try simp only[Act.put,Ac,Ad,Ae]
    refine wpAnyH_take (i:=15) (oi:=⟨some 54,_,_,_,_,_⟩) (v:=?vq35) rfl nT nT nT (fun _ _ _ h=>h) (Or.inl ⟨by rfl,?hq35⟩) nX ?rq35
    case hq35=>(intro w hSw;(try dsimp only at hSw);(obtain⟨_,hSw1,hSw2⟩:=hSw);(first|(go_simp;done)|(go_simp;with_reducible rfl)))
    try simp only[Act.put,Ac,Ad,Ae]
    refine wpAnyH_ready (rs:=[16]) nT nW ?_;refine AllReadyH.cons (o:=⟨some 55,_,_,_,_,_⟩) (rs:=[]) rfl (fun K hK=>?_) AllReadyH.nil
    go_simp
    go_at_call 102
    refine(HSo _).out.mono ?_;rintro e V3 ⟨rfl,hb3⟩;have HB3:=Ax (HB5.out.trans (hb3.mono HB5.out.size));clear hb3
    try go_wp2_with fail
    clear hHeld;refine hK.out _ _ ?_ (fun hHeld=>?_)
    ·exact HSV.out _ HB3.out
    clear hK K
    try simp only[Act.put,Ac,Ad,Ae]
    refine wpAnyH_take (i:=17) (oi:=⟨some 4,_,_,_,_,_⟩) (v:=?vq36) rfl nT nT nT (fun _ _ _ h=>h) (Or.inl ⟨by rfl,?hq36⟩) nX ?rq36
    case hq36=>(intro w hSw;(try dsimp only at hSw);(obtain⟨_,hSw1,hSw2⟩:=hSw);(first|(go_simp;done)|(go_simp;with_reducible rfl)))
    try simp only[Act.put,Ac,Ad,Ae]
    refine wpAnyH_done nT ?_ _;refine NoPanic.normal ?_;go_wp2_with fail;go_ret;exact⟨by rw[←HZ.out,←Hr.out];cases o<;>rfl,HB3.out⟩
open Go Go.RowKit Go.Lib
theorem gC (op:Int)(hn:Ii op=none)(h7:op≠7)(h8:op≠8)(h9:¬(9<=op/\op<=12))(h26:op≠26){v:Value}{ks:List Int}(w:World)(h:Kc w v ks):Calls Tryz.prog 68 #[.int .u8 op,v] w fun e w'=>e= .returned (.int .u8 (Gm 0 ks))/\Below w.heap.size w w':=by
 have HC:=Ax (Ia op w);rw[hn] at HC;have HN:=fun V (hV:Below w.heap.size w V)=>Ax (Ks V (h.below hV))
 obtain⟨_,a,cc,rfl,_⟩:=h;have g7:(op==7)=false:=Af.2 h7;have g8:(op==8)=false:=Af.2 h8;have g9:(op==9)=false:=Af.2 nU;have g10:(op==10)=false:=Af.2 nU;have g11:(op==11)=false:=Af.2 nU;have g12:(op==12)=false:=Af.2 nU;have g26:(op==26)=false:=Af.2 h26;clear hn h7 h8 h9 h26;simp only[Option.getD_none,Option.isSome_none,ofV] at HC;go_enter Tryz.func68,Tryz.ntmps68;go_wp2_with fail;refine HC.out.mono ?_;rintro e V ⟨rfl,hb⟩;obtain⟨W1,hW1⟩:∃W1,V.alloc (.cells #[.int .u8 0,.int .u8 0] 149)=W1:=⟨_,rfl⟩;have hb1:Below V.heap.size V W1:=by rw[←hW1];exact(Aq _ V).alloc (Ak _) _
 have HW1:=Ax hW1;have HB1:=Ax (hb.trans (hb1.mono hb.size));clear hW1 hb1 hb HC;go_upto_region 5 with fail
 rw[HW1.out];clear HW1;go_wp2_with fail;refine(HN _ HB1.out).out.mono ?_;rintro e V2 ⟨rfl,hb2⟩;have HB2:=Ax (HB1.out.trans (hb2.mono HB1.out.size));clear hb2;go_wp2_with fail;go_ret;exact⟨rfl,HB2.out⟩
open Go Go.RowKit Go.Lib
theorem kZ {v:Value}{ks:List Int}(h3:3<=ks.length)(w:World)(h:Kc w v ks):Calls Tryz.prog 68 #[.int .u8 26,v] w fun e w'=>e= .returned (.int .u8 (if O9 4 [ks.getD 0 0] && (ks.getD 1 0==ks.getD 2 0||ks.getD 1 0==0||ks.getD 2 0==0) then max (ks.getD 1 0) (ks.getD 2 0) else 255))/\Below w.heap.size w w':=by
 have HC:=Ax (Ia 26 w);obtain⟨hlm,a,cc,rfl,hcell⟩:=h;obtain⟨b,off,rfl,c0⟩:=hcell 0 nU;obtain⟨_,_,e1,c1⟩:=hcell 1 nU;injection e1 with e1;injection e1 with e2 e3;subst e2 e3;obtain⟨_,_,e1,c2⟩:=hcell 2 nU;injection e1 with e1;injection e1 with e2 e3;subst e2 e3;simp only[List.getD_eq_getElem?_getD,Ag (show 0<ks.length by omega),Ag (show 1<ks.length by omega),Ag (show 2<ks.length by omega),Option.getD_some];obtain⟨x,hx⟩:∃x,ks[0]=x:=⟨_,rfl⟩;obtain⟨y,hy⟩:∃y,ks[1]=y:=⟨_,rfl⟩;obtain⟨z,hz⟩:∃z,ks[2]=z:=⟨_,rfl⟩;rw[hx] at c0;rw[hy] at c1;rw[hz] at c2;simp only[hx,hy,hz];rw[Nat.add_zero] at c0;have C0:=Ax c0;have C1:=Ax c1;have C2:=Ax c2;have i0:(0:Int)<(ks.length:Int):=by omega
 have i1:(1:Int)<(ks.length:Int):=by omega
 have i2:(2:Int)<(ks.length:Int):=by omega
 have HE:∀V:World,Hid (Calls Tryz.prog 103 #[.int .u8 4,.slice (some ⟨V.heap.size,0,none⟩) 1 1] (V.alloc (.cells #[.int .u8 x] 5)) fun e w'=>e= .returned (.bool (O9 4 [x]))/\Below (V.alloc (.cells #[.int .u8 x] 5)).heap.size (V.alloc (.cells #[.int .u8 x] 5)) w'):=fun V=>by
  have hp:=A0 V (.cells #[.int .u8 x] 5);refine Ax (O0 4 _ ⟨by simp,_,_,rfl,fun i hi=>⟨V.heap.size,0,rfl,?_⟩⟩);obtain rfl:i=0:=by simpa using hi
  simp only[World.cell?,hp];rfl
 obtain⟨q,hq⟩:∃q,O9 4 [x]=q:=⟨_,rfl⟩;obtain⟨f,hf⟩:∃f,(y==z)=f:=⟨_,rfl⟩;obtain⟨g,hg⟩:∃g,(y==0)=g:=⟨_,rfl⟩;obtain⟨t,ht⟩:∃t,(z==0)=t:=⟨_,rfl⟩;obtain⟨m,hm⟩:∃m,max y z=m:=⟨_,rfl⟩;rw[hq,hf,hg,ht,hm];rw[hq] at HE;have HS:=fun(b:Bool) V=>Ax (Jo b m V)
 clear hcell hx hy hz hq c0 c1 c2;obtain⟨r,hr⟩:∃r:Int,(if q && (f||g||t) then m else 255)=r:=⟨_,rfl⟩;have HR:=Ax hr;rw[hr];clear hr;have HC:Hid (Calls Tryz.prog 101 #[.int .u8 26] w fun e w'=>e= .returned (.tuple #[.agg #[.int .u8 0,.int .u8 0],.bool false])/\Below w.heap.size w w'):=HC;go_enter Tryz.func68,Tryz.ntmps68;go_wp2_with fail;refine HC.out.mono ?_;rintro e V ⟨rfl,hb⟩;obtain⟨W1,hW1⟩:∃W1,V.alloc (.cells #[.int .u8 0,.int .u8 0] 149)=W1:=⟨_,rfl⟩;have hb1:Below V.heap.size V W1:=by rw[←hW1];exact(Aq _ V).alloc (Ak _) _
 have hb':=hb.trans (hb1.mono hb.size);have c1:=A6 hb' C1.out;have c2:=A6 hb' C2.out;have HW1:=Ax hW1;have HB1:=Ax hb';clear hW1 hb1 hb hb' HC;go_upto_region 14 with fail
 rw[HW1.out];clear HW1;go_quiet (fail);obtain⟨W2,hW2⟩:∃W2,W1.drewN nq=W2:=⟨_,rfl⟩;have HB2:Hid (Below w.heap.size w W2):=Ax (by rw[←hW2];exact Bd HB1.out nq);rw[hW2];clear hW2 c1 c2;have c0:=A6 HB2.out C0.out;have hbA:Below w.heap.size w (W2.alloc (.cells #[.int .u8 x] 5)):=HB2.out.alloc HB2.out.size _;have HA:=Ax hbA;have HEA:=HE W2;clear hbA;cases q with
 |false=>
  exact zyi
 |true=>
  cases f
  all_goals
   cases g
   all_goals
    cases t
    all_goals
     exact zyi
open Go Go.RowKit Go.Lib
theorem bK (op:Int){v:Value}{ks:List Int}(h2:7<=op->op<=12->2<=ks.length)(h3:op=26->3<=ks.length)(h0:∀x∈ks,0<=x)(w:World)(h:Kc w v ks):Calls Tryz.prog 68 #[.int .u8 op,v] w fun e w'=>e= .returned (.int .u8 (J9 op ks))/\Below w.heap.size w w':=by
 unfold J9;cases hc:Ii op with
 |some c=>exact Xh op c.1 c.2 hc w h
 |none=>
  simp only;by_cases h78:op=7\/op=8
  ·rw[Ap h78];exact aT op h78 (h2 nU nU) h0 w h
  rw[Ao h78];by_cases h9:9<=op/\op<=12
  ·rw[Ap h9];exact gL op h9.1 h9.2 (h2 nU nU) h0 w h
  rw[Ao h9];by_cases h26:op=26
  ·subst h26;rw[Ap rfl];exact kZ (h3 rfl) w h
  rw[Ao h26];exact gC op hc (fun e=>h78 (.inl e)) (fun e=>h78 (.inr e)) h9 h26 w h
end Go.Proofs.YtgfakdobajgnfaaGreatDoor
