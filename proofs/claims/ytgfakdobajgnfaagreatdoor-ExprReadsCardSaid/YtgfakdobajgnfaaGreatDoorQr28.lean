import Derived.BigQuiet
import Derived.WalkKit
import Derived.ProofKit
import Derived.OpenShut
import Derived.Below
import Derived.ChangeSame
import Derived.Test.YtgfakdobajgnfaaGreatDoorQr27
import Derived.Test.YtgfakdobajgnfaaGreatDoorRows
namespace Go.Proofs.YtgfakdobajgnfaaGreatDoor
open Go Go.RowKit Go.Lib
def eqB (bare:Bool)(x y:Nz):Bool:=sameZ x y && (bare||(decide (x.h.line=y.h.line) && decide (x.h.col=y.h.col)))
def eqsB (bare:Bool):List Nz→List Nz→Bool
 |[],[]=>true
 |x::l,y::m=>eqB bare x y && eqsB bare l m
 |_,_=>false
theorem eqsB_len {bare:Bool}:∀{l m:List Nz},eqsB bare l m=true→l.length=m.length
 |[],[],_=>rfl
 |[],_::_,h=>by cases h
 |_::_,[],h=>by cases h
 |x::l,y::m,h=>by
  simp only[eqsB,Bool.and_eq_true] at h
  simp only[List.length_cons,eqsB_len h.2]
theorem eqsB_at {bare:Bool}:∀{l m:List Nz},eqsB bare l m=true→∀(i:Nat) (h1:i<l.length) (h2:i<m.length),eqB bare l[i] m[i]=true
 |x::l,y::m,h,0,_,_=>by
  simp only[eqsB,Bool.and_eq_true] at h
  exact h.1
 |x::l,y::m,h,i+1,h1,h2=>by
  simp only[eqsB,Bool.and_eq_true] at h
  exact eqsB_at h.2 i (by simpa using h1) (by simpa using h2)
theorem eqsB_all {bare:Bool}:∀{l m:List Nz},l.length=m.length→(∀(i:Nat) (h1:i<l.length) (h2:i<m.length),eqB bare l[i] m[i]=true)→eqsB bare l m=true
 |[],[],_,_=>rfl
 |[],_::_,h,_=>by simp at h
 |_::_,[],h,_=>by simp at h
 |x::l,y::m,h,g=>by
  simp only[eqsB,Bool.and_eq_true]
  exact⟨g 0 (by simp) (by simp),eqsB_all (by simpa using h) fun i h1 h2=>g (i+1) (by simpa using h1) (by simpa using h2)⟩
theorem eqsB_bare:∀(l m:List Nz),eqsB true l m=samesZ l m
 |[],[]=>rfl
 |[],_::_=>rfl
 |_::_,[]=>rfl
 |x::l,y::m=>by simp [eqsB,samesZ,eqB,eqsB_bare l m]
theorem sameZ_self (x:Nz):sameZ x x=true:=(sameZ_iff x x).2 ⟨rfl,rfl⟩
theorem eqsB_refl (bare:Bool):∀l:List Nz,eqsB bare l l=true
 |[]=>rfl
 |x::l=>by simp [eqsB,eqB,sameZ_self,eqsB_refl bare l]
theorem Qw20{P:Prop}(h:P:=by
 obtain⟨b1,o1,e1,c1⟩:=HKX.out k hkl
 obtain⟨b2,o2,e2,c2⟩:=HKY.out k hkm
 have c1:=bcell hbk.out (bcell HBW.out c1)
 have c2:=bcell hbk.out (bcell HBW.out c2)
 obtain⟨kv,hkv⟩:∃kv,k1[k]=kv:=⟨_,rfl⟩
 obtain⟨ku,hku⟩:∃ku,k2[k]=ku:=⟨_,rfl⟩
 rw[hkv] at c1
 rw[hku] at c2
 subst e1 e2
 have l1:(0:Int)≤(k:Int):=by omega
 have l2:(k:Int)<(k1.length:Int):=by omega
 have l2':(k:Int)<(k2.length:Int):=by omega
 have l3:decide ((k:Int)<(k1.length:Int))=true:=decide_eq_true l2
 have HN2:=fun nq=>hide (show Below W2.heap.size W2 (wr.drewN nq) from below_drewN hbk.out nq)
 have HKV:=hide (And.intro hkv hku)
 by_cases hvv:kv=ku
 ·have l4:(kv !=ku)=false:=by simp [hvv]
  have HVV:=hide hvv
  clear hbk hkv hku hvv
  go_wp2_with fail
  go_quiet (fail)
  go_wp2_with fail
  refine⟨⟨k+1,by omega,by go_num,HN2 _,fun i h h1 h2=>?_⟩,?_⟩
  ·rcases Nat.lt_succ_iff_lt_or_eq.1 h with h|rfl
   ·exact HKE.out i h h1 h2
   ·rw[HKV.out.1,HKV.out.2];exact HVV.out
  ·simp [intOf]
   omega
 ·have l4:(kv !=ku)=true:=by simp [hvv]
  have HF:=hide (show rr=false by cases hr:rr with|false=>rfl|true=>exact absurd (HAT.out hr) (by simp only[eqB,sameZ];have:¬k1=k2:=(fun e=>by subst e;exact hvv (hkv.symm.trans hku));simp [this]))
  have HBL2:=fun nq=>hide (HBL.out.trans ((HN2 nq).out.mono HBL.out.size))
  clear hbk hkv hku hvv
  go_wp2_with fail
  go_quiet (fail)
  go_wp2_with fail
  go_ret
  exact⟨by rw[HF.out];rfl,(HBL2 _).out⟩):P:=h
set_option maxRecDepth 100000 in
set_option maxHeartbeats 16000000 in
theorem rsame_any (bare:Bool){v1 v2:Value}{l m:List Nz}(w:World)(hx:TrZ w v1 l)(hy:TrZ w v2 m):Calls Tryz.prog 22 #[v1,v2,.bool bare] w fun e w'=>e= .returned (.bool (eqsB bare l m))∧Below w.heap.size w w':=by
 have hl1:=hx.1
 have hm1:=hy.1
 have HX:=hide hx
 have HY:=hide hy
 obtain⟨_,a,c,rfl,_⟩:=hx
 obtain⟨_,a',c',rfl,_⟩:=hy
 obtain⟨rr,hrr⟩:∃rr,eqsB bare l m=rr:=⟨_,rfl⟩
 rw[hrr]
 have HRR:=hide hrr
 clear hrr
 by_cases hn:l.length=m.length
 ·have HN:=hide hn
  have n1:((l.length:Int)==(m.length:Int))=true:=by rw[hn];simp
  have n2:((l.length:Int) !=(m.length:Int))=false:=by rw[bne,n1];rfl
  have n3:(l.length==m.length)=true:=by rw[hn];simp
  have n4:(l.length !=m.length)=false:=by rw[bne,n3];rfl
  clear hn
  go_enter Tryz.func22,Tryz.ntmps22
  go_wp2_with fail
  go_loopw [7] (fun vi wr=>∃j:Nat,j≤l.length∧vi= .int .i64 j∧Hid (Below w.heap.size w wr)∧∀(i:Nat) (_:i<j) (h1:i<l.length) (h2:i<m.length),eqB bare l[i] m[i]=true) (fun vi _=>l.length - (intOf vi).toNat)
  case atStart=>exact⟨0,Nat.zero_le _,rfl,Below.refl _ _,fun i h=>absurd h (Nat.not_lt_zero _)⟩
  case round=>
   obtain⟨wo,rfl⟩:∃wo:World,wo=wr:=⟨_,rfl⟩
   obtain⟨j,hj,rfl,hb,hall⟩:=hrel
   by_cases hjl:j<l.length
   ·have hjm:j<m.length:=by rw[←HN.out];exact hjl
    have hx2:=HX.out.below hb.out
    have hy2:=HY.out.below hb.out
    obtain⟨_,ax,cx,ex,hx3⟩:=hx2
    obtain⟨_,ay,cy,ey,hy3⟩:=hy2
    injection ex with ex1 ex0 ex2
    injection ey with ey1 ey0 ey2
    subst ex1 ex2 ey1 ey2
    clear ex0 ey0
    obtain⟨bx,ox,kx,rfl,hnx,hix⟩:=hx3 j hjl
    obtain⟨by',oy,ky,rfl,hny,hiy⟩:=hy3 j hjm
    have HAT:Hid (rr=true→eqB bare l[j] m[j]=true):=hide (fun hr=>eqsB_at (HRR.out.trans hr) j hjl hjm)
    obtain⟨⟨hd1,k1⟩,e1⟩:∃z,l[j]=z:=⟨_,rfl⟩
    obtain⟨⟨hd2,k2⟩,e2⟩:∃z,m[j]=z:=⟨_,rfl⟩
    rw[e1,e2] at HAT
    have HE12:=hide (And.intro e1 e2)
    have HEQ0:=hide (fun(bb:Bool) (h:eqB bb ⟨hd1,k1⟩ ⟨hd2,k2⟩=true)=>(show eqB bb l[j] m[j]=true by rw[e1,e2];exact h))
    rw[e1] at hnx hix
    rw[e2] at hny hiy
    simp only at hnx hix hny hiy
    obtain⟨op1,⟨vk1,vn1,vs1⟩,nm1,ln1,cl1⟩:=hd1
    obtain⟨op2,⟨vk2,vn2,vs2⟩,nm2,ln2,cl2⟩:=hd2
    obtain⟨hk1,ak,ck,rfl,hkx⟩:=hix
    obtain⟨hk2,ak',ck',rfl,hky⟩:=hiy
    obtain⟨x0,x1,x2,x3,x4,x5,x6,x7⟩:=hnx
    obtain⟨y0,y1,y2,y3,y4,y5,y6,y7⟩:=hny
    simp only at x0 x1 x2 x3 x4 x5 x6 x7 y0 y1 y2 y3 y4 y5 y6 y7 hkx hky
    have HKX:=hide hkx
    have HKY:=hide hky
    have hbx:bx<wo.heap.size:=lt_of_cell x0
    have hby:by'<wo.heap.size:=lt_of_cell y0
    have i1:(0:Int)≤(j:Int):=by omega
    have i2:(j:Int)<(l.length:Int):=by omega
    have i3:decide ((j:Int)<(l.length:Int))=true:=decide_eq_true i2
    have i4:(j:Int)<(m.length:Int):=by omega
    have hJ:=hide hj
    have hJL:=hide hjl
    have HALL:=hide hall
    clear hx3 hy3 e1 e2 hkx hky hall
    by_cases d1:op1=op2
    rotate_left
    ·have t1:(op1==op2)=false:=beq_eq_false_iff_ne.2 d1
     have t2:(op1 !=op2)=true:=by rw[bne,t1];rfl
     have HF:=hide (show rr=false by cases hr:rr with|false=>rfl|true=>exact absurd (HAT.out hr) (by simp only[eqB,sameZ];simp [*]))
     go_wp2_with fail
     go_region
     ·obtain⟨W1,hW1⟩:∃W1,wo.alloc (.cells #[.int .u8 op1,.int .u8 vk1,.int .i64 vn1,.string ⟨vs1.toArray⟩,.string ⟨nm1.toArray⟩,.slice ak k1.length ck,.int .i64 ln1,.int .i64 cl1] 43)=W1:=⟨_,rfl⟩
      obtain⟨W2,hW2⟩:∃W2,(W1.alloc (.cells #[.int .u8 op2,.int .u8 vk2,.int .i64 vn2,.string ⟨vs2.toArray⟩,.string ⟨nm2.toArray⟩,.slice ak' k2.length ck',.int .i64 ln2,.int .i64 cl2] 43)).drew=W2:=⟨_,rfl⟩
      have hpa:=heap_alloc0 wo (.cells #[.int .u8 op1,.int .u8 vk1,.int .i64 vn1,.string ⟨vs1.toArray⟩,.string ⟨nm1.toArray⟩,.slice ak k1.length ck,.int .i64 ln1,.int .i64 cl1] 43)
      have hsz:W1.heap.size=wo.heap.size+1:=by rw[←hW1];simp
      have hbW1:Below wo.heap.size wo W1:=by rw[←hW1];exact(Below.refl _ wo).alloc (Nat.le_refl _) _
      have hbW2:Below W1.heap.size W1 W2:=by rw[←hW2];exact((Below.refl _ W1).alloc (Nat.le_refl _) _).drew
      have hpb:W2.heap[wo.heap.size+1]? =some (.cells #[.int .u8 op2,.int .u8 vk2,.int .i64 vn2,.string ⟨vs2.toArray⟩,.string ⟨nm2.toArray⟩,.slice ak' k2.length ck',.int .i64 ln2,.int .i64 cl2] 43):=by rw[←hW2,←hsz];exact heap_alloc0 W1 (.cells #[.int .u8 op2,.int .u8 vk2,.int .i64 vn2,.string ⟨vs2.toArray⟩,.string ⟨nm2.toArray⟩,.slice ak' k2.length ck',.int .i64 ln2,.int .i64 cl2] 43)
      rw[hW1] at hpa
      have hpa2:=(hbW2.block _ (lt_of_heap hpa)).trans hpa
      rw[hW1,hW2]
      obtain⟨p0,p1,p2,p3,p4,p5,p6,p7,_⟩:=nodeCells hpa2
      obtain⟨q0,q1,q2,q3,q4,q5,q6,q7,_⟩:=nodeCells hpb
      have HBW:=hide (hbW1.trans (hbW2.mono hbW1.size))
      have HPA:=hide hpa2
      have HPB:=hide hpb
      have HBL:=hide (hb.out.trans ((hbW1.trans (hbW2.mono hbW1.size)).mono hb.out.size))
      clear hpa hsz hbW1 hbW2 hpb hpa2 hW1 hW2 x0 x1 x2 x3 x4 x5 x6 x7 y0 y1 y2 y3 y4 y5 y6 y7 hbx hby hb
      go_wp2_with fail
      all_goals first|exact absurd rfl d1|exact absurd (by assumption) d1|(go_ret;exact⟨by rw[HF.out];rfl,HBL.out⟩)
     ·obtain⟨W1,hW1⟩:∃W1,wo.alloc (.cells #[.int .u8 op2,.int .u8 vk2,.int .i64 vn2,.string ⟨vs2.toArray⟩,.string ⟨nm2.toArray⟩,.slice ak' k2.length ck',.int .i64 ln2,.int .i64 cl2] 43)=W1:=⟨_,rfl⟩
      obtain⟨W2,hW2⟩:∃W2,(W1.alloc (.cells #[.int .u8 op1,.int .u8 vk1,.int .i64 vn1,.string ⟨vs1.toArray⟩,.string ⟨nm1.toArray⟩,.slice ak k1.length ck,.int .i64 ln1,.int .i64 cl1] 43)).drew=W2:=⟨_,rfl⟩
      have hpa:=heap_alloc0 wo (.cells #[.int .u8 op2,.int .u8 vk2,.int .i64 vn2,.string ⟨vs2.toArray⟩,.string ⟨nm2.toArray⟩,.slice ak' k2.length ck',.int .i64 ln2,.int .i64 cl2] 43)
      have hsz:W1.heap.size=wo.heap.size+1:=by rw[←hW1];simp
      have hbW1:Below wo.heap.size wo W1:=by rw[←hW1];exact(Below.refl _ wo).alloc (Nat.le_refl _) _
      have hbW2:Below W1.heap.size W1 W2:=by rw[←hW2];exact((Below.refl _ W1).alloc (Nat.le_refl _) _).drew
      have hpb:W2.heap[wo.heap.size+1]? =some (.cells #[.int .u8 op1,.int .u8 vk1,.int .i64 vn1,.string ⟨vs1.toArray⟩,.string ⟨nm1.toArray⟩,.slice ak k1.length ck,.int .i64 ln1,.int .i64 cl1] 43):=by rw[←hW2,←hsz];exact heap_alloc0 W1 (.cells #[.int .u8 op1,.int .u8 vk1,.int .i64 vn1,.string ⟨vs1.toArray⟩,.string ⟨nm1.toArray⟩,.slice ak k1.length ck,.int .i64 ln1,.int .i64 cl1] 43)
      rw[hW1] at hpa
      have hpa2:=(hbW2.block _ (lt_of_heap hpa)).trans hpa
      rw[hW1,hW2]
      obtain⟨p0,p1,p2,p3,p4,p5,p6,p7,_⟩:=nodeCells hpb
      obtain⟨q0,q1,q2,q3,q4,q5,q6,q7,_⟩:=nodeCells hpa2
      have HBW:=hide (hbW1.trans (hbW2.mono hbW1.size))
      have HPA:=hide hpb
      have HPB:=hide hpa2
      have HBL:=hide (hb.out.trans ((hbW1.trans (hbW2.mono hbW1.size)).mono hb.out.size))
      clear hpa hsz hbW1 hbW2 hpb hpa2 hW1 hW2 x0 x1 x2 x3 x4 x5 x6 x7 y0 y1 y2 y3 y4 y5 y6 y7 hbx hby hb
      go_wp2_with fail
      all_goals first|exact absurd rfl d1|exact absurd (by assumption) d1|(go_ret;exact⟨by rw[HF.out];rfl,HBL.out⟩)
    subst d1
    by_cases d2:(vk1,vn1,vs1)=(vk2,vn2,vs2)
    rotate_left
    ·have HF:=hide (show rr=false by cases hr:rr with|false=>rfl|true=>exact absurd (HAT.out hr) (by simp only[eqB,sameZ];simp [*]))
     go_wp2_with fail
     go_region
     ·obtain⟨W1,hW1⟩:∃W1,wo.alloc (.cells #[.int .u8 op1,.int .u8 vk1,.int .i64 vn1,.string ⟨vs1.toArray⟩,.string ⟨nm1.toArray⟩,.slice ak k1.length ck,.int .i64 ln1,.int .i64 cl1] 43)=W1:=⟨_,rfl⟩
      obtain⟨W2,hW2⟩:∃W2,(W1.alloc (.cells #[.int .u8 op1,.int .u8 vk2,.int .i64 vn2,.string ⟨vs2.toArray⟩,.string ⟨nm2.toArray⟩,.slice ak' k2.length ck',.int .i64 ln2,.int .i64 cl2] 43)).drew=W2:=⟨_,rfl⟩
      have hpa:=heap_alloc0 wo (.cells #[.int .u8 op1,.int .u8 vk1,.int .i64 vn1,.string ⟨vs1.toArray⟩,.string ⟨nm1.toArray⟩,.slice ak k1.length ck,.int .i64 ln1,.int .i64 cl1] 43)
      have hsz:W1.heap.size=wo.heap.size+1:=by rw[←hW1];simp
      have hbW1:Below wo.heap.size wo W1:=by rw[←hW1];exact(Below.refl _ wo).alloc (Nat.le_refl _) _
      have hbW2:Below W1.heap.size W1 W2:=by rw[←hW2];exact((Below.refl _ W1).alloc (Nat.le_refl _) _).drew
      have hpb:W2.heap[wo.heap.size+1]? =some (.cells #[.int .u8 op1,.int .u8 vk2,.int .i64 vn2,.string ⟨vs2.toArray⟩,.string ⟨nm2.toArray⟩,.slice ak' k2.length ck',.int .i64 ln2,.int .i64 cl2] 43):=by rw[←hW2,←hsz];exact heap_alloc0 W1 (.cells #[.int .u8 op1,.int .u8 vk2,.int .i64 vn2,.string ⟨vs2.toArray⟩,.string ⟨nm2.toArray⟩,.slice ak' k2.length ck',.int .i64 ln2,.int .i64 cl2] 43)
      rw[hW1] at hpa
      have hpa2:=(hbW2.block _ (lt_of_heap hpa)).trans hpa
      rw[hW1,hW2]
      obtain⟨p0,p1,p2,p3,p4,p5,p6,p7,_⟩:=nodeCells hpa2
      obtain⟨q0,q1,q2,q3,q4,q5,q6,q7,_⟩:=nodeCells hpb
      have HBW:=hide (hbW1.trans (hbW2.mono hbW1.size))
      have HPA:=hide hpa2
      have HPB:=hide hpb
      have HBL:=hide (hb.out.trans ((hbW1.trans (hbW2.mono hbW1.size)).mono hb.out.size))
      clear hpa hsz hbW1 hbW2 hpb hpa2 hW1 hW2 x0 x1 x2 x3 x4 x5 x6 x7 y0 y1 y2 y3 y4 y5 y6 y7 hbx hby hb
      go_wp2_with fail
      all_goals first|exact absurd rfl d2|exact absurd (Prod.ext (show vk1=vk2 by assumption) (Prod.ext (show vn1=vn2 by assumption) (show vs1=vs2 by assumption))) d2|(go_ret;exact⟨by rw[HF.out];rfl,HBL.out⟩)
     ·obtain⟨W1,hW1⟩:∃W1,wo.alloc (.cells #[.int .u8 op1,.int .u8 vk2,.int .i64 vn2,.string ⟨vs2.toArray⟩,.string ⟨nm2.toArray⟩,.slice ak' k2.length ck',.int .i64 ln2,.int .i64 cl2] 43)=W1:=⟨_,rfl⟩
      obtain⟨W2,hW2⟩:∃W2,(W1.alloc (.cells #[.int .u8 op1,.int .u8 vk1,.int .i64 vn1,.string ⟨vs1.toArray⟩,.string ⟨nm1.toArray⟩,.slice ak k1.length ck,.int .i64 ln1,.int .i64 cl1] 43)).drew=W2:=⟨_,rfl⟩
      have hpa:=heap_alloc0 wo (.cells #[.int .u8 op1,.int .u8 vk2,.int .i64 vn2,.string ⟨vs2.toArray⟩,.string ⟨nm2.toArray⟩,.slice ak' k2.length ck',.int .i64 ln2,.int .i64 cl2] 43)
      have hsz:W1.heap.size=wo.heap.size+1:=by rw[←hW1];simp
      have hbW1:Below wo.heap.size wo W1:=by rw[←hW1];exact(Below.refl _ wo).alloc (Nat.le_refl _) _
      have hbW2:Below W1.heap.size W1 W2:=by rw[←hW2];exact((Below.refl _ W1).alloc (Nat.le_refl _) _).drew
      have hpb:W2.heap[wo.heap.size+1]? =some (.cells #[.int .u8 op1,.int .u8 vk1,.int .i64 vn1,.string ⟨vs1.toArray⟩,.string ⟨nm1.toArray⟩,.slice ak k1.length ck,.int .i64 ln1,.int .i64 cl1] 43):=by rw[←hW2,←hsz];exact heap_alloc0 W1 (.cells #[.int .u8 op1,.int .u8 vk1,.int .i64 vn1,.string ⟨vs1.toArray⟩,.string ⟨nm1.toArray⟩,.slice ak k1.length ck,.int .i64 ln1,.int .i64 cl1] 43)
      rw[hW1] at hpa
      have hpa2:=(hbW2.block _ (lt_of_heap hpa)).trans hpa
      rw[hW1,hW2]
      obtain⟨p0,p1,p2,p3,p4,p5,p6,p7,_⟩:=nodeCells hpb
      obtain⟨q0,q1,q2,q3,q4,q5,q6,q7,_⟩:=nodeCells hpa2
      have HBW:=hide (hbW1.trans (hbW2.mono hbW1.size))
      have HPA:=hide hpb
      have HPB:=hide hpa2
      have HBL:=hide (hb.out.trans ((hbW1.trans (hbW2.mono hbW1.size)).mono hb.out.size))
      clear hpa hsz hbW1 hbW2 hpb hpa2 hW1 hW2 x0 x1 x2 x3 x4 x5 x6 x7 y0 y1 y2 y3 y4 y5 y6 y7 hbx hby hb
      go_wp2_with fail
      all_goals first|exact absurd rfl d2|exact absurd (Prod.ext (show vk1=vk2 by assumption) (Prod.ext (show vn1=vn2 by assumption) (show vs1=vs2 by assumption))) d2|(go_ret;exact⟨by rw[HF.out];rfl,HBL.out⟩)
    injection d2 with e1 d2
    injection d2 with e2 e3
    subst e1 e2 e3
    by_cases d3:nm1=nm2
    rotate_left
    ·have HF:=hide (show rr=false by cases hr:rr with|false=>rfl|true=>exact absurd (HAT.out hr) (by simp only[eqB,sameZ];simp [*]))
     go_wp2_with fail
     go_region
     ·obtain⟨W1,hW1⟩:∃W1,wo.alloc (.cells #[.int .u8 op1,.int .u8 vk1,.int .i64 vn1,.string ⟨vs1.toArray⟩,.string ⟨nm1.toArray⟩,.slice ak k1.length ck,.int .i64 ln1,.int .i64 cl1] 43)=W1:=⟨_,rfl⟩
      obtain⟨W2,hW2⟩:∃W2,(W1.alloc (.cells #[.int .u8 op1,.int .u8 vk1,.int .i64 vn1,.string ⟨vs1.toArray⟩,.string ⟨nm2.toArray⟩,.slice ak' k2.length ck',.int .i64 ln2,.int .i64 cl2] 43)).drew=W2:=⟨_,rfl⟩
      have hpa:=heap_alloc0 wo (.cells #[.int .u8 op1,.int .u8 vk1,.int .i64 vn1,.string ⟨vs1.toArray⟩,.string ⟨nm1.toArray⟩,.slice ak k1.length ck,.int .i64 ln1,.int .i64 cl1] 43)
      have hsz:W1.heap.size=wo.heap.size+1:=by rw[←hW1];simp
      have hbW1:Below wo.heap.size wo W1:=by rw[←hW1];exact(Below.refl _ wo).alloc (Nat.le_refl _) _
      have hbW2:Below W1.heap.size W1 W2:=by rw[←hW2];exact((Below.refl _ W1).alloc (Nat.le_refl _) _).drew
      have hpb:W2.heap[wo.heap.size+1]? =some (.cells #[.int .u8 op1,.int .u8 vk1,.int .i64 vn1,.string ⟨vs1.toArray⟩,.string ⟨nm2.toArray⟩,.slice ak' k2.length ck',.int .i64 ln2,.int .i64 cl2] 43):=by rw[←hW2,←hsz];exact heap_alloc0 W1 (.cells #[.int .u8 op1,.int .u8 vk1,.int .i64 vn1,.string ⟨vs1.toArray⟩,.string ⟨nm2.toArray⟩,.slice ak' k2.length ck',.int .i64 ln2,.int .i64 cl2] 43)
      rw[hW1] at hpa
      have hpa2:=(hbW2.block _ (lt_of_heap hpa)).trans hpa
      rw[hW1,hW2]
      obtain⟨p0,p1,p2,p3,p4,p5,p6,p7,_⟩:=nodeCells hpa2
      obtain⟨q0,q1,q2,q3,q4,q5,q6,q7,_⟩:=nodeCells hpb
      have HBW:=hide (hbW1.trans (hbW2.mono hbW1.size))
      have HPA:=hide hpa2
      have HPB:=hide hpb
      have HBL:=hide (hb.out.trans ((hbW1.trans (hbW2.mono hbW1.size)).mono hb.out.size))
      clear hpa hsz hbW1 hbW2 hpb hpa2 hW1 hW2 x0 x1 x2 x3 x4 x5 x6 x7 y0 y1 y2 y3 y4 y5 y6 y7 hbx hby hb
      go_wp2_with fail
      all_goals first|exact absurd rfl d3|exact absurd (by assumption) d3|(go_ret;exact⟨by rw[HF.out];rfl,HBL.out⟩)
     ·obtain⟨W1,hW1⟩:∃W1,wo.alloc (.cells #[.int .u8 op1,.int .u8 vk1,.int .i64 vn1,.string ⟨vs1.toArray⟩,.string ⟨nm2.toArray⟩,.slice ak' k2.length ck',.int .i64 ln2,.int .i64 cl2] 43)=W1:=⟨_,rfl⟩
      obtain⟨W2,hW2⟩:∃W2,(W1.alloc (.cells #[.int .u8 op1,.int .u8 vk1,.int .i64 vn1,.string ⟨vs1.toArray⟩,.string ⟨nm1.toArray⟩,.slice ak k1.length ck,.int .i64 ln1,.int .i64 cl1] 43)).drew=W2:=⟨_,rfl⟩
      have hpa:=heap_alloc0 wo (.cells #[.int .u8 op1,.int .u8 vk1,.int .i64 vn1,.string ⟨vs1.toArray⟩,.string ⟨nm2.toArray⟩,.slice ak' k2.length ck',.int .i64 ln2,.int .i64 cl2] 43)
      have hsz:W1.heap.size=wo.heap.size+1:=by rw[←hW1];simp
      have hbW1:Below wo.heap.size wo W1:=by rw[←hW1];exact(Below.refl _ wo).alloc (Nat.le_refl _) _
      have hbW2:Below W1.heap.size W1 W2:=by rw[←hW2];exact((Below.refl _ W1).alloc (Nat.le_refl _) _).drew
      have hpb:W2.heap[wo.heap.size+1]? =some (.cells #[.int .u8 op1,.int .u8 vk1,.int .i64 vn1,.string ⟨vs1.toArray⟩,.string ⟨nm1.toArray⟩,.slice ak k1.length ck,.int .i64 ln1,.int .i64 cl1] 43):=by rw[←hW2,←hsz];exact heap_alloc0 W1 (.cells #[.int .u8 op1,.int .u8 vk1,.int .i64 vn1,.string ⟨vs1.toArray⟩,.string ⟨nm1.toArray⟩,.slice ak k1.length ck,.int .i64 ln1,.int .i64 cl1] 43)
      rw[hW1] at hpa
      have hpa2:=(hbW2.block _ (lt_of_heap hpa)).trans hpa
      rw[hW1,hW2]
      obtain⟨p0,p1,p2,p3,p4,p5,p6,p7,_⟩:=nodeCells hpb
      obtain⟨q0,q1,q2,q3,q4,q5,q6,q7,_⟩:=nodeCells hpa2
      have HBW:=hide (hbW1.trans (hbW2.mono hbW1.size))
      have HPA:=hide hpb
      have HPB:=hide hpa2
      have HBL:=hide (hb.out.trans ((hbW1.trans (hbW2.mono hbW1.size)).mono hb.out.size))
      clear hpa hsz hbW1 hbW2 hpb hpa2 hW1 hW2 x0 x1 x2 x3 x4 x5 x6 x7 y0 y1 y2 y3 y4 y5 y6 y7 hbx hby hb
      go_wp2_with fail
      all_goals first|exact absurd rfl d3|exact absurd (by assumption) d3|(go_ret;exact⟨by rw[HF.out];rfl,HBL.out⟩)
    subst d3
    by_cases d4:k1.length=k2.length
    rotate_left
    ·have t1:((k1.length:Int)==(k2.length:Int))=false:=beq_eq_false_iff_ne.2 (by omega)
     have t2:((k1.length:Int) !=(k2.length:Int))=true:=by rw[bne,t1];rfl
     have t3:(k1.length==k2.length)=false:=beq_eq_false_iff_ne.2 d4
     have t4:(k1.length !=k2.length)=true:=by rw[bne,t3];rfl
     have d5:¬k1=k2:=fun e=>d4 (by rw[e])
     have HF:=hide (show rr=false by cases hr:rr with|false=>rfl|true=>exact absurd (HAT.out hr) (by simp only[eqB,sameZ];simp [*]))
     go_wp2_with fail
     go_region
     ·obtain⟨W1,hW1⟩:∃W1,wo.alloc (.cells #[.int .u8 op1,.int .u8 vk1,.int .i64 vn1,.string ⟨vs1.toArray⟩,.string ⟨nm1.toArray⟩,.slice ak k1.length ck,.int .i64 ln1,.int .i64 cl1] 43)=W1:=⟨_,rfl⟩
      obtain⟨W2,hW2⟩:∃W2,(W1.alloc (.cells #[.int .u8 op1,.int .u8 vk1,.int .i64 vn1,.string ⟨vs1.toArray⟩,.string ⟨nm1.toArray⟩,.slice ak' k2.length ck',.int .i64 ln2,.int .i64 cl2] 43)).drew=W2:=⟨_,rfl⟩
      have hpa:=heap_alloc0 wo (.cells #[.int .u8 op1,.int .u8 vk1,.int .i64 vn1,.string ⟨vs1.toArray⟩,.string ⟨nm1.toArray⟩,.slice ak k1.length ck,.int .i64 ln1,.int .i64 cl1] 43)
      have hsz:W1.heap.size=wo.heap.size+1:=by rw[←hW1];simp
      have hbW1:Below wo.heap.size wo W1:=by rw[←hW1];exact(Below.refl _ wo).alloc (Nat.le_refl _) _
      have hbW2:Below W1.heap.size W1 W2:=by rw[←hW2];exact((Below.refl _ W1).alloc (Nat.le_refl _) _).drew
      have hpb:W2.heap[wo.heap.size+1]? =some (.cells #[.int .u8 op1,.int .u8 vk1,.int .i64 vn1,.string ⟨vs1.toArray⟩,.string ⟨nm1.toArray⟩,.slice ak' k2.length ck',.int .i64 ln2,.int .i64 cl2] 43):=by rw[←hW2,←hsz];exact heap_alloc0 W1 (.cells #[.int .u8 op1,.int .u8 vk1,.int .i64 vn1,.string ⟨vs1.toArray⟩,.string ⟨nm1.toArray⟩,.slice ak' k2.length ck',.int .i64 ln2,.int .i64 cl2] 43)
      rw[hW1] at hpa
      have hpa2:=(hbW2.block _ (lt_of_heap hpa)).trans hpa
      rw[hW1,hW2]
      obtain⟨p0,p1,p2,p3,p4,p5,p6,p7,_⟩:=nodeCells hpa2
      obtain⟨q0,q1,q2,q3,q4,q5,q6,q7,_⟩:=nodeCells hpb
      have HBW:=hide (hbW1.trans (hbW2.mono hbW1.size))
      have HPA:=hide hpa2
      have HPB:=hide hpb
      have HBL:=hide (hb.out.trans ((hbW1.trans (hbW2.mono hbW1.size)).mono hb.out.size))
      clear hpa hsz hbW1 hbW2 hpb hpa2 hW1 hW2 x0 x1 x2 x3 x4 x5 x6 x7 y0 y1 y2 y3 y4 y5 y6 y7 hbx hby hb
      go_wp2_with fail
      all_goals first|exact absurd rfl d4|exact absurd (by assumption) d4|(go_ret;exact⟨by rw[HF.out];rfl,HBL.out⟩)
     ·obtain⟨W1,hW1⟩:∃W1,wo.alloc (.cells #[.int .u8 op1,.int .u8 vk1,.int .i64 vn1,.string ⟨vs1.toArray⟩,.string ⟨nm1.toArray⟩,.slice ak' k2.length ck',.int .i64 ln2,.int .i64 cl2] 43)=W1:=⟨_,rfl⟩
      obtain⟨W2,hW2⟩:∃W2,(W1.alloc (.cells #[.int .u8 op1,.int .u8 vk1,.int .i64 vn1,.string ⟨vs1.toArray⟩,.string ⟨nm1.toArray⟩,.slice ak k1.length ck,.int .i64 ln1,.int .i64 cl1] 43)).drew=W2:=⟨_,rfl⟩
      have hpa:=heap_alloc0 wo (.cells #[.int .u8 op1,.int .u8 vk1,.int .i64 vn1,.string ⟨vs1.toArray⟩,.string ⟨nm1.toArray⟩,.slice ak' k2.length ck',.int .i64 ln2,.int .i64 cl2] 43)
      have hsz:W1.heap.size=wo.heap.size+1:=by rw[←hW1];simp
      have hbW1:Below wo.heap.size wo W1:=by rw[←hW1];exact(Below.refl _ wo).alloc (Nat.le_refl _) _
      have hbW2:Below W1.heap.size W1 W2:=by rw[←hW2];exact((Below.refl _ W1).alloc (Nat.le_refl _) _).drew
      have hpb:W2.heap[wo.heap.size+1]? =some (.cells #[.int .u8 op1,.int .u8 vk1,.int .i64 vn1,.string ⟨vs1.toArray⟩,.string ⟨nm1.toArray⟩,.slice ak k1.length ck,.int .i64 ln1,.int .i64 cl1] 43):=by rw[←hW2,←hsz];exact heap_alloc0 W1 (.cells #[.int .u8 op1,.int .u8 vk1,.int .i64 vn1,.string ⟨vs1.toArray⟩,.string ⟨nm1.toArray⟩,.slice ak k1.length ck,.int .i64 ln1,.int .i64 cl1] 43)
      rw[hW1] at hpa
      have hpa2:=(hbW2.block _ (lt_of_heap hpa)).trans hpa
      rw[hW1,hW2]
      obtain⟨p0,p1,p2,p3,p4,p5,p6,p7,_⟩:=nodeCells hpb
      obtain⟨q0,q1,q2,q3,q4,q5,q6,q7,_⟩:=nodeCells hpa2
      have HBW:=hide (hbW1.trans (hbW2.mono hbW1.size))
      have HPA:=hide hpb
      have HPB:=hide hpa2
      have HBL:=hide (hb.out.trans ((hbW1.trans (hbW2.mono hbW1.size)).mono hb.out.size))
      clear hpa hsz hbW1 hbW2 hpb hpa2 hW1 hW2 x0 x1 x2 x3 x4 x5 x6 x7 y0 y1 y2 y3 y4 y5 y6 y7 hbx hby hb
      go_wp2_with fail
      all_goals first|exact absurd rfl d4|exact absurd (by assumption) d4|(go_ret;exact⟨by rw[HF.out];rfl,HBL.out⟩)
    have t1:((k1.length:Int)==(k2.length:Int))=true:=by rw[d4];simp
    have t2:((k1.length:Int) !=(k2.length:Int))=false:=by rw[bne,t1];rfl
    have t3:(k1.length==k2.length)=true:=by rw[d4];simp
    have t4:(k1.length !=k2.length)=false:=by rw[bne,t3];rfl
    have HL4:=hide d4
    clear d4
    cases bare with
    |true=>
     go_wp2_with fail
     go_region
     ·obtain⟨W1,hW1⟩:∃W1,wo.alloc (.cells #[.int .u8 op1,.int .u8 vk1,.int .i64 vn1,.string ⟨vs1.toArray⟩,.string ⟨nm1.toArray⟩,.slice ak k1.length ck,.int .i64 ln1,.int .i64 cl1] 43)=W1:=⟨_,rfl⟩
      obtain⟨W2,hW2⟩:∃W2,(W1.alloc (.cells #[.int .u8 op1,.int .u8 vk1,.int .i64 vn1,.string ⟨vs1.toArray⟩,.string ⟨nm1.toArray⟩,.slice ak' k2.length ck',.int .i64 ln2,.int .i64 cl2] 43)).drew=W2:=⟨_,rfl⟩
      have hpa:=heap_alloc0 wo (.cells #[.int .u8 op1,.int .u8 vk1,.int .i64 vn1,.string ⟨vs1.toArray⟩,.string ⟨nm1.toArray⟩,.slice ak k1.length ck,.int .i64 ln1,.int .i64 cl1] 43)
      have hsz:W1.heap.size=wo.heap.size+1:=by rw[←hW1];simp
      have hbW1:Below wo.heap.size wo W1:=by rw[←hW1];exact(Below.refl _ wo).alloc (Nat.le_refl _) _
      have hbW2:Below W1.heap.size W1 W2:=by rw[←hW2];exact((Below.refl _ W1).alloc (Nat.le_refl _) _).drew
      have hpb:W2.heap[wo.heap.size+1]? =some (.cells #[.int .u8 op1,.int .u8 vk1,.int .i64 vn1,.string ⟨vs1.toArray⟩,.string ⟨nm1.toArray⟩,.slice ak' k2.length ck',.int .i64 ln2,.int .i64 cl2] 43):=by rw[←hW2,←hsz];exact heap_alloc0 W1 (.cells #[.int .u8 op1,.int .u8 vk1,.int .i64 vn1,.string ⟨vs1.toArray⟩,.string ⟨nm1.toArray⟩,.slice ak' k2.length ck',.int .i64 ln2,.int .i64 cl2] 43)
      rw[hW1] at hpa
      have hpa2:=(hbW2.block _ (lt_of_heap hpa)).trans hpa
      rw[hW1,hW2]
      obtain⟨p0,p1,p2,p3,p4,p5,p6,p7,_⟩:=nodeCells hpa2
      obtain⟨q0,q1,q2,q3,q4,q5,q6,q7,_⟩:=nodeCells hpb
      have HBW:=hide (hbW1.trans (hbW2.mono hbW1.size))
      have HPA:=hide hpa2
      have HPB:=hide hpb
      have HBL:=hide (hb.out.trans ((hbW1.trans (hbW2.mono hbW1.size)).mono hb.out.size))
      clear hpa hsz hbW1 hbW2 hpb hpa2 hW1 hW2 x0 x1 x2 x3 x4 x5 x6 x7 y0 y1 y2 y3 y4 y5 y6 y7 hbx hby hb
      go_wp2_with fail
      go_loopw [10] (fun vk wx=>∃k:Nat,k≤k1.length∧vk= .int .i64 k∧Hid (Below W2.heap.size W2 wx)∧∀(i:Nat) (_:i<k) (h1:i<k1.length) (h2:i<k2.length),k1[i]=k2[i]) (fun vk _=>k1.length - (intOf vk).toNat)
      case atStart=>exact⟨0,Nat.zero_le _,rfl,Below.refl _ _,fun i h=>absurd h (Nat.not_lt_zero _)⟩
      case round=>
       obtain⟨k,hk,rfl,hbk,hke⟩:=hrel
       obtain⟨_,_,_,_,_,r5,_⟩:=nodeCells ((hbk.out.block _ (lt_of_heap HPA.out)).trans HPA.out)
       obtain⟨_,_,_,_,_,s5,_⟩:=nodeCells ((hbk.out.block _ (lt_of_heap HPB.out)).trans HPB.out)
       clear p0 p1 p2 p3 p4 p5 p6 p7 q0 q1 q2 q3 q4 q5 q6 q7
       have HKE:=hide hke
       clear hke
       by_cases hkl:k<k1.length
       ·have hkm:k<k2.length:=by have:=HL4.out;omega
        exact Qw20
       ·obtain rfl:k=k1.length:=by omega
        have HB2:=hide (HBL.out.trans (hbk.out.mono HBL.out.size))
        have l3:decide ((k1.length:Int)<(k1.length:Int))=false:=by simp
        have hk12:k1=k2:=List.ext_getElem HL4.out (fun i h1 h2=>HKE.out i h1 h1 h2)
        have HEQ:=hide (HEQ0.out true (by rw[hk12];simp [eqB,sameZ]))
        clear hbk hkl hk12
        go_wp2_with fail
        go_roundw
        case rel=>
         refine⟨j+1,by omega,by go_num,HB2,fun i h h1 h2=>?_⟩
         rcases Nat.lt_succ_iff_lt_or_eq.1 h with h|rfl
         ·exact HALL.out i h h1 h2
         ·exact HEQ.out
        case measure=>simp [intOf];omega
     ·obtain⟨W1,hW1⟩:∃W1,wo.alloc (.cells #[.int .u8 op1,.int .u8 vk1,.int .i64 vn1,.string ⟨vs1.toArray⟩,.string ⟨nm1.toArray⟩,.slice ak' k2.length ck',.int .i64 ln2,.int .i64 cl2] 43)=W1:=⟨_,rfl⟩
      obtain⟨W2,hW2⟩:∃W2,(W1.alloc (.cells #[.int .u8 op1,.int .u8 vk1,.int .i64 vn1,.string ⟨vs1.toArray⟩,.string ⟨nm1.toArray⟩,.slice ak k1.length ck,.int .i64 ln1,.int .i64 cl1] 43)).drew=W2:=⟨_,rfl⟩
      have hpa:=heap_alloc0 wo (.cells #[.int .u8 op1,.int .u8 vk1,.int .i64 vn1,.string ⟨vs1.toArray⟩,.string ⟨nm1.toArray⟩,.slice ak' k2.length ck',.int .i64 ln2,.int .i64 cl2] 43)
      have hsz:W1.heap.size=wo.heap.size+1:=by rw[←hW1];simp
      have hbW1:Below wo.heap.size wo W1:=by rw[←hW1];exact(Below.refl _ wo).alloc (Nat.le_refl _) _
      have hbW2:Below W1.heap.size W1 W2:=by rw[←hW2];exact((Below.refl _ W1).alloc (Nat.le_refl _) _).drew
      have hpb:W2.heap[wo.heap.size+1]? =some (.cells #[.int .u8 op1,.int .u8 vk1,.int .i64 vn1,.string ⟨vs1.toArray⟩,.string ⟨nm1.toArray⟩,.slice ak k1.length ck,.int .i64 ln1,.int .i64 cl1] 43):=by rw[←hW2,←hsz];exact heap_alloc0 W1 (.cells #[.int .u8 op1,.int .u8 vk1,.int .i64 vn1,.string ⟨vs1.toArray⟩,.string ⟨nm1.toArray⟩,.slice ak k1.length ck,.int .i64 ln1,.int .i64 cl1] 43)
      rw[hW1] at hpa
      have hpa2:=(hbW2.block _ (lt_of_heap hpa)).trans hpa
      rw[hW1,hW2]
      obtain⟨p0,p1,p2,p3,p4,p5,p6,p7,_⟩:=nodeCells hpb
      obtain⟨q0,q1,q2,q3,q4,q5,q6,q7,_⟩:=nodeCells hpa2
      have HBW:=hide (hbW1.trans (hbW2.mono hbW1.size))
      have HPA:=hide hpb
      have HPB:=hide hpa2
      have HBL:=hide (hb.out.trans ((hbW1.trans (hbW2.mono hbW1.size)).mono hb.out.size))
      clear hpa hsz hbW1 hbW2 hpb hpa2 hW1 hW2 x0 x1 x2 x3 x4 x5 x6 x7 y0 y1 y2 y3 y4 y5 y6 y7 hbx hby hb
      go_wp2_with fail
      go_loopw [10] (fun vk wx=>∃k:Nat,k≤k1.length∧vk= .int .i64 k∧Hid (Below W2.heap.size W2 wx)∧∀(i:Nat) (_:i<k) (h1:i<k1.length) (h2:i<k2.length),k1[i]=k2[i]) (fun vk _=>k1.length - (intOf vk).toNat)
      case atStart=>exact⟨0,Nat.zero_le _,rfl,Below.refl _ _,fun i h=>absurd h (Nat.not_lt_zero _)⟩
      case round=>
       obtain⟨k,hk,rfl,hbk,hke⟩:=hrel
       obtain⟨_,_,_,_,_,r5,_⟩:=nodeCells ((hbk.out.block _ (lt_of_heap HPA.out)).trans HPA.out)
       obtain⟨_,_,_,_,_,s5,_⟩:=nodeCells ((hbk.out.block _ (lt_of_heap HPB.out)).trans HPB.out)
       clear p0 p1 p2 p3 p4 p5 p6 p7 q0 q1 q2 q3 q4 q5 q6 q7
       have HKE:=hide hke
       clear hke
       by_cases hkl:k<k1.length
       ·have hkm:k<k2.length:=by have:=HL4.out;omega
        exact Qw20
       ·obtain rfl:k=k1.length:=by omega
        have HB2:=hide (HBL.out.trans (hbk.out.mono HBL.out.size))
        have l3:decide ((k1.length:Int)<(k1.length:Int))=false:=by simp
        have hk12:k1=k2:=List.ext_getElem HL4.out (fun i h1 h2=>HKE.out i h1 h1 h2)
        have HEQ:=hide (HEQ0.out true (by rw[hk12];simp [eqB,sameZ]))
        clear hbk hkl hk12
        go_wp2_with fail
        go_roundw
        case rel=>
         refine⟨j+1,by omega,by go_num,HB2,fun i h h1 h2=>?_⟩
         rcases Nat.lt_succ_iff_lt_or_eq.1 h with h|rfl
         ·exact HALL.out i h h1 h2
         ·exact HEQ.out
        case measure=>simp [intOf];omega
    |false=>
     by_cases d5:(ln1,cl1)=(ln2,cl2)
     rotate_left
     ·have HF:=hide (show rr=false by cases hr:rr with|false=>rfl|true=>exact absurd (HAT.out hr) (by simp only[eqB,sameZ];simp;intro _ a b;exact d5 (by rw[a,b])))
      go_wp2_with fail
      go_region
      ·obtain⟨W1,hW1⟩:∃W1,wo.alloc (.cells #[.int .u8 op1,.int .u8 vk1,.int .i64 vn1,.string ⟨vs1.toArray⟩,.string ⟨nm1.toArray⟩,.slice ak k1.length ck,.int .i64 ln1,.int .i64 cl1] 43)=W1:=⟨_,rfl⟩
       obtain⟨W2,hW2⟩:∃W2,(W1.alloc (.cells #[.int .u8 op1,.int .u8 vk1,.int .i64 vn1,.string ⟨vs1.toArray⟩,.string ⟨nm1.toArray⟩,.slice ak' k2.length ck',.int .i64 ln2,.int .i64 cl2] 43)).drew=W2:=⟨_,rfl⟩
       have hpa:=heap_alloc0 wo (.cells #[.int .u8 op1,.int .u8 vk1,.int .i64 vn1,.string ⟨vs1.toArray⟩,.string ⟨nm1.toArray⟩,.slice ak k1.length ck,.int .i64 ln1,.int .i64 cl1] 43)
       have hsz:W1.heap.size=wo.heap.size+1:=by rw[←hW1];simp
       have hbW1:Below wo.heap.size wo W1:=by rw[←hW1];exact(Below.refl _ wo).alloc (Nat.le_refl _) _
       have hbW2:Below W1.heap.size W1 W2:=by rw[←hW2];exact((Below.refl _ W1).alloc (Nat.le_refl _) _).drew
       have hpb:W2.heap[wo.heap.size+1]? =some (.cells #[.int .u8 op1,.int .u8 vk1,.int .i64 vn1,.string ⟨vs1.toArray⟩,.string ⟨nm1.toArray⟩,.slice ak' k2.length ck',.int .i64 ln2,.int .i64 cl2] 43):=by rw[←hW2,←hsz];exact heap_alloc0 W1 (.cells #[.int .u8 op1,.int .u8 vk1,.int .i64 vn1,.string ⟨vs1.toArray⟩,.string ⟨nm1.toArray⟩,.slice ak' k2.length ck',.int .i64 ln2,.int .i64 cl2] 43)
       rw[hW1] at hpa
       have hpa2:=(hbW2.block _ (lt_of_heap hpa)).trans hpa
       rw[hW1,hW2]
       obtain⟨p0,p1,p2,p3,p4,p5,p6,p7,_⟩:=nodeCells hpa2
       obtain⟨q0,q1,q2,q3,q4,q5,q6,q7,_⟩:=nodeCells hpb
       have HBW:=hide (hbW1.trans (hbW2.mono hbW1.size))
       have HPA:=hide hpa2
       have HPB:=hide hpb
       have HBL:=hide (hb.out.trans ((hbW1.trans (hbW2.mono hbW1.size)).mono hb.out.size))
       clear hpa hsz hbW1 hbW2 hpb hpa2 hW1 hW2 x0 x1 x2 x3 x4 x5 x6 x7 y0 y1 y2 y3 y4 y5 y6 y7 hbx hby hb
       go_wp2_with fail
       all_goals first|exact absurd rfl d5|exact absurd (Prod.ext (show ln1=ln2 by assumption) (show cl1=cl2 by assumption)) d5|(go_ret;exact⟨by rw[HF.out];rfl,HBL.out⟩)
      ·obtain⟨W1,hW1⟩:∃W1,wo.alloc (.cells #[.int .u8 op1,.int .u8 vk1,.int .i64 vn1,.string ⟨vs1.toArray⟩,.string ⟨nm1.toArray⟩,.slice ak' k2.length ck',.int .i64 ln2,.int .i64 cl2] 43)=W1:=⟨_,rfl⟩
       obtain⟨W2,hW2⟩:∃W2,(W1.alloc (.cells #[.int .u8 op1,.int .u8 vk1,.int .i64 vn1,.string ⟨vs1.toArray⟩,.string ⟨nm1.toArray⟩,.slice ak k1.length ck,.int .i64 ln1,.int .i64 cl1] 43)).drew=W2:=⟨_,rfl⟩
       have hpa:=heap_alloc0 wo (.cells #[.int .u8 op1,.int .u8 vk1,.int .i64 vn1,.string ⟨vs1.toArray⟩,.string ⟨nm1.toArray⟩,.slice ak' k2.length ck',.int .i64 ln2,.int .i64 cl2] 43)
       have hsz:W1.heap.size=wo.heap.size+1:=by rw[←hW1];simp
       have hbW1:Below wo.heap.size wo W1:=by rw[←hW1];exact(Below.refl _ wo).alloc (Nat.le_refl _) _
       have hbW2:Below W1.heap.size W1 W2:=by rw[←hW2];exact((Below.refl _ W1).alloc (Nat.le_refl _) _).drew
       have hpb:W2.heap[wo.heap.size+1]? =some (.cells #[.int .u8 op1,.int .u8 vk1,.int .i64 vn1,.string ⟨vs1.toArray⟩,.string ⟨nm1.toArray⟩,.slice ak k1.length ck,.int .i64 ln1,.int .i64 cl1] 43):=by rw[←hW2,←hsz];exact heap_alloc0 W1 (.cells #[.int .u8 op1,.int .u8 vk1,.int .i64 vn1,.string ⟨vs1.toArray⟩,.string ⟨nm1.toArray⟩,.slice ak k1.length ck,.int .i64 ln1,.int .i64 cl1] 43)
       rw[hW1] at hpa
       have hpa2:=(hbW2.block _ (lt_of_heap hpa)).trans hpa
       rw[hW1,hW2]
       obtain⟨p0,p1,p2,p3,p4,p5,p6,p7,_⟩:=nodeCells hpb
       obtain⟨q0,q1,q2,q3,q4,q5,q6,q7,_⟩:=nodeCells hpa2
       have HBW:=hide (hbW1.trans (hbW2.mono hbW1.size))
       have HPA:=hide hpb
       have HPB:=hide hpa2
       have HBL:=hide (hb.out.trans ((hbW1.trans (hbW2.mono hbW1.size)).mono hb.out.size))
       clear hpa hsz hbW1 hbW2 hpb hpa2 hW1 hW2 x0 x1 x2 x3 x4 x5 x6 x7 y0 y1 y2 y3 y4 y5 y6 y7 hbx hby hb
       go_wp2_with fail
       all_goals first|exact absurd rfl d5|exact absurd (Prod.ext (show ln1=ln2 by assumption) (show cl1=cl2 by assumption)) d5|(go_ret;exact⟨by rw[HF.out];rfl,HBL.out⟩)
     injection d5 with e1 e2
     subst e1 e2
     go_wp2_with fail
     go_region
     ·obtain⟨W1,hW1⟩:∃W1,wo.alloc (.cells #[.int .u8 op1,.int .u8 vk1,.int .i64 vn1,.string ⟨vs1.toArray⟩,.string ⟨nm1.toArray⟩,.slice ak k1.length ck,.int .i64 ln1,.int .i64 cl1] 43)=W1:=⟨_,rfl⟩
      obtain⟨W2,hW2⟩:∃W2,(W1.alloc (.cells #[.int .u8 op1,.int .u8 vk1,.int .i64 vn1,.string ⟨vs1.toArray⟩,.string ⟨nm1.toArray⟩,.slice ak' k2.length ck',.int .i64 ln1,.int .i64 cl1] 43)).drew=W2:=⟨_,rfl⟩
      have hpa:=heap_alloc0 wo (.cells #[.int .u8 op1,.int .u8 vk1,.int .i64 vn1,.string ⟨vs1.toArray⟩,.string ⟨nm1.toArray⟩,.slice ak k1.length ck,.int .i64 ln1,.int .i64 cl1] 43)
      have hsz:W1.heap.size=wo.heap.size+1:=by rw[←hW1];simp
      have hbW1:Below wo.heap.size wo W1:=by rw[←hW1];exact(Below.refl _ wo).alloc (Nat.le_refl _) _
      have hbW2:Below W1.heap.size W1 W2:=by rw[←hW2];exact((Below.refl _ W1).alloc (Nat.le_refl _) _).drew
      have hpb:W2.heap[wo.heap.size+1]? =some (.cells #[.int .u8 op1,.int .u8 vk1,.int .i64 vn1,.string ⟨vs1.toArray⟩,.string ⟨nm1.toArray⟩,.slice ak' k2.length ck',.int .i64 ln1,.int .i64 cl1] 43):=by rw[←hW2,←hsz];exact heap_alloc0 W1 (.cells #[.int .u8 op1,.int .u8 vk1,.int .i64 vn1,.string ⟨vs1.toArray⟩,.string ⟨nm1.toArray⟩,.slice ak' k2.length ck',.int .i64 ln1,.int .i64 cl1] 43)
      rw[hW1] at hpa
      have hpa2:=(hbW2.block _ (lt_of_heap hpa)).trans hpa
      rw[hW1,hW2]
      obtain⟨p0,p1,p2,p3,p4,p5,p6,p7,_⟩:=nodeCells hpa2
      obtain⟨q0,q1,q2,q3,q4,q5,q6,q7,_⟩:=nodeCells hpb
      have HBW:=hide (hbW1.trans (hbW2.mono hbW1.size))
      have HPA:=hide hpa2
      have HPB:=hide hpb
      have HBL:=hide (hb.out.trans ((hbW1.trans (hbW2.mono hbW1.size)).mono hb.out.size))
      clear hpa hsz hbW1 hbW2 hpb hpa2 hW1 hW2 x0 x1 x2 x3 x4 x5 x6 x7 y0 y1 y2 y3 y4 y5 y6 y7 hbx hby hb
      go_wp2_with fail
      go_loopw [10] (fun vk wx=>∃k:Nat,k≤k1.length∧vk= .int .i64 k∧Hid (Below W2.heap.size W2 wx)∧∀(i:Nat) (_:i<k) (h1:i<k1.length) (h2:i<k2.length),k1[i]=k2[i]) (fun vk _=>k1.length - (intOf vk).toNat)
      case atStart=>exact⟨0,Nat.zero_le _,rfl,Below.refl _ _,fun i h=>absurd h (Nat.not_lt_zero _)⟩
      case round=>
       obtain⟨k,hk,rfl,hbk,hke⟩:=hrel
       obtain⟨_,_,_,_,_,r5,_⟩:=nodeCells ((hbk.out.block _ (lt_of_heap HPA.out)).trans HPA.out)
       obtain⟨_,_,_,_,_,s5,_⟩:=nodeCells ((hbk.out.block _ (lt_of_heap HPB.out)).trans HPB.out)
       clear p0 p1 p2 p3 p4 p5 p6 p7 q0 q1 q2 q3 q4 q5 q6 q7
       have HKE:=hide hke
       clear hke
       by_cases hkl:k<k1.length
       ·have hkm:k<k2.length:=by have:=HL4.out;omega
        exact Qw20
       ·obtain rfl:k=k1.length:=by omega
        have HB2:=hide (HBL.out.trans (hbk.out.mono HBL.out.size))
        have l3:decide ((k1.length:Int)<(k1.length:Int))=false:=by simp
        have hk12:k1=k2:=List.ext_getElem HL4.out (fun i h1 h2=>HKE.out i h1 h1 h2)
        have HEQ:=hide (HEQ0.out false (by rw[hk12];simp [eqB,sameZ]))
        clear hbk hkl hk12
        go_wp2_with fail
        go_roundw
        case rel=>
         refine⟨j+1,by omega,by go_num,HB2,fun i h h1 h2=>?_⟩
         rcases Nat.lt_succ_iff_lt_or_eq.1 h with h|rfl
         ·exact HALL.out i h h1 h2
         ·exact HEQ.out
        case measure=>simp [intOf];omega
     ·obtain⟨W1,hW1⟩:∃W1,wo.alloc (.cells #[.int .u8 op1,.int .u8 vk1,.int .i64 vn1,.string ⟨vs1.toArray⟩,.string ⟨nm1.toArray⟩,.slice ak' k2.length ck',.int .i64 ln1,.int .i64 cl1] 43)=W1:=⟨_,rfl⟩
      obtain⟨W2,hW2⟩:∃W2,(W1.alloc (.cells #[.int .u8 op1,.int .u8 vk1,.int .i64 vn1,.string ⟨vs1.toArray⟩,.string ⟨nm1.toArray⟩,.slice ak k1.length ck,.int .i64 ln1,.int .i64 cl1] 43)).drew=W2:=⟨_,rfl⟩
      have hpa:=heap_alloc0 wo (.cells #[.int .u8 op1,.int .u8 vk1,.int .i64 vn1,.string ⟨vs1.toArray⟩,.string ⟨nm1.toArray⟩,.slice ak' k2.length ck',.int .i64 ln1,.int .i64 cl1] 43)
      have hsz:W1.heap.size=wo.heap.size+1:=by rw[←hW1];simp
      have hbW1:Below wo.heap.size wo W1:=by rw[←hW1];exact(Below.refl _ wo).alloc (Nat.le_refl _) _
      have hbW2:Below W1.heap.size W1 W2:=by rw[←hW2];exact((Below.refl _ W1).alloc (Nat.le_refl _) _).drew
      have hpb:W2.heap[wo.heap.size+1]? =some (.cells #[.int .u8 op1,.int .u8 vk1,.int .i64 vn1,.string ⟨vs1.toArray⟩,.string ⟨nm1.toArray⟩,.slice ak k1.length ck,.int .i64 ln1,.int .i64 cl1] 43):=by rw[←hW2,←hsz];exact heap_alloc0 W1 (.cells #[.int .u8 op1,.int .u8 vk1,.int .i64 vn1,.string ⟨vs1.toArray⟩,.string ⟨nm1.toArray⟩,.slice ak k1.length ck,.int .i64 ln1,.int .i64 cl1] 43)
      rw[hW1] at hpa
      have hpa2:=(hbW2.block _ (lt_of_heap hpa)).trans hpa
      rw[hW1,hW2]
      obtain⟨p0,p1,p2,p3,p4,p5,p6,p7,_⟩:=nodeCells hpb
      obtain⟨q0,q1,q2,q3,q4,q5,q6,q7,_⟩:=nodeCells hpa2
      have HBW:=hide (hbW1.trans (hbW2.mono hbW1.size))
      have HPA:=hide hpb
      have HPB:=hide hpa2
      have HBL:=hide (hb.out.trans ((hbW1.trans (hbW2.mono hbW1.size)).mono hb.out.size))
      clear hpa hsz hbW1 hbW2 hpb hpa2 hW1 hW2 x0 x1 x2 x3 x4 x5 x6 x7 y0 y1 y2 y3 y4 y5 y6 y7 hbx hby hb
      go_wp2_with fail
      go_loopw [10] (fun vk wx=>∃k:Nat,k≤k1.length∧vk= .int .i64 k∧Hid (Below W2.heap.size W2 wx)∧∀(i:Nat) (_:i<k) (h1:i<k1.length) (h2:i<k2.length),k1[i]=k2[i]) (fun vk _=>k1.length - (intOf vk).toNat)
      case atStart=>exact⟨0,Nat.zero_le _,rfl,Below.refl _ _,fun i h=>absurd h (Nat.not_lt_zero _)⟩
      case round=>
       obtain⟨k,hk,rfl,hbk,hke⟩:=hrel
       obtain⟨_,_,_,_,_,r5,_⟩:=nodeCells ((hbk.out.block _ (lt_of_heap HPA.out)).trans HPA.out)
       obtain⟨_,_,_,_,_,s5,_⟩:=nodeCells ((hbk.out.block _ (lt_of_heap HPB.out)).trans HPB.out)
       clear p0 p1 p2 p3 p4 p5 p6 p7 q0 q1 q2 q3 q4 q5 q6 q7
       have HKE:=hide hke
       clear hke
       by_cases hkl:k<k1.length
       ·have hkm:k<k2.length:=by have:=HL4.out;omega
        exact Qw20
       ·obtain rfl:k=k1.length:=by omega
        have HB2:=hide (HBL.out.trans (hbk.out.mono HBL.out.size))
        have l3:decide ((k1.length:Int)<(k1.length:Int))=false:=by simp
        have hk12:k1=k2:=List.ext_getElem HL4.out (fun i h1 h2=>HKE.out i h1 h1 h2)
        have HEQ:=hide (HEQ0.out false (by rw[hk12];simp [eqB,sameZ]))
        clear hbk hkl hk12
        go_wp2_with fail
        go_roundw
        case rel=>
         refine⟨j+1,by omega,by go_num,HB2,fun i h h1 h2=>?_⟩
         rcases Nat.lt_succ_iff_lt_or_eq.1 h with h|rfl
         ·exact HALL.out i h h1 h2
         ·exact HEQ.out
        case measure=>simp [intOf];omega
   ·obtain rfl:j=l.length:=by omega
    have HB:=hide hb.out
    have HT:=hide (show rr=true from HRR.out.symm.trans (eqsB_all HN.out fun i h1 h2=>hall i h1 h1 h2))
    clear hb hall
    go_wp2_with fail
    go_ret
    exact⟨by rw[HT.out];rfl,HB.out⟩
 ·have n1:((l.length:Int)==(m.length:Int))=false:=beq_eq_false_iff_ne.2 (by omega)
  have n2:((l.length:Int) !=(m.length:Int))=true:=by rw[bne,n1];rfl
  have n3:(l.length==m.length)=false:=beq_eq_false_iff_ne.2 hn
  have n4:(l.length !=m.length)=true:=by rw[bne,n3];rfl
  have HF:=hide (show rr=false by cases hr:rr with|false=>rfl|true=>exact absurd (eqsB_len (HRR.out.trans hr)) hn)
  have HW:=hide (Below.refl w.heap.size w)
  clear hn hl1 hm1
  go_enter Tryz.func22,Tryz.ntmps22
  go_wp2_with fail
  go_ret
  exact⟨by rw[HF.out];rfl,HW.out⟩
open Go Go.RowKit Go.Lib Go.Sort Go.Shelf
set_option maxRecDepth 100000 in
set_option maxHeartbeats 8000000 in
theorem reads_walk (s t:ByteArray)(w:World)(hR:Rd w):Calls Tryz.prog 4 #[.string s,.string t] w fun e w'=>e= .returned (.bool true)∧Below w.heap.size w w':=by
 by_cases hs:s.size≤600
 ·by_cases ht:t.size≤600
  ·obtain⟨X,hX⟩:∃X,readL (dl s)=X:=⟨_,rfl⟩
   obtain⟨Y,hY⟩:∃Y,readL (dl t)=Y:=⟨_,rfl⟩
   obtain⟨l,hl⟩:∃l,zOf X=l:=⟨_,rfl⟩
   obtain⟨m,hm⟩:∃m,zOf Y=m:=⟨_,rfl⟩
   obtain⟨px,py,pe,hp⟩:∃x y q,pOf X=((x,y),q):=⟨_,_,_,rfl⟩
   obtain⟨qx,qy,qe,hq⟩:∃x y q,pOf Y=((x,y),q):=⟨_,_,_,rfl⟩
   have C1:∀W,Below w.heap.size w W→Calls Tryz.prog 20 #[.string s] W (RedPost W l px py pe):=fun W hb=>by
    refine(xread_any s W (by omega) (hR.below hb)).mono fun e V h=>?_
    have:=h.z
    rw[hX,hl,hp] at this
    exact this
   have C2:∀W,Calls Tryz.prog 21 #[.string s] W (RedPost W l px py pe):=fun W=>by
    refine(rread_any s W (by omega)).mono fun e V h=>?_
    have:=h.z
    rw[hX,hl,hp] at this
    exact this
   have C3:∀W,Below w.heap.size w W→Calls Tryz.prog 20 #[.string t] W (RedPost W m qx qy qe):=fun W hb=>by
    refine(xread_any t W (by omega) (hR.below hb)).mono fun e V h=>?_
    have:=h.z
    rw[hY,hm,hq] at this
    exact this
   have C4:∀W,Calls Tryz.prog 21 #[.string t] W (RedPost W m qx qy qe):=fun W=>by
    refine(rread_any t W (by omega)).mono fun e V h=>?_
    have:=h.z
    rw[hY,hm,hq] at this
    exact this
   have i1:decide ((600:Int)<(s.size:Int))=false:=by simp;omega
   have i2:decide ((600:Int)<(t.size:Int))=false:=by simp;omega
   have HR:=hide hR
   have D1:=hide C1
   have D2:=hide C2
   have D3:=hide C3
   have D4:=hide C4
   have L1:=hide (C1 w (Below.refl _ w))
   clear hR hs ht hX hY hl hm hp hq C1 C2 C3 C4
   go_enter Tryz.func4,Tryz.ntmps4
   go_wp2_with fail
   (with_reducible refine L1.out.mono ?_)
   rintro e V1 ⟨a1,k1,c1,rfl,hz1,hb1⟩
   obtain⟨W1,hW1⟩:∃W,V1.alloc (.cells #[.int .i64 px,.int .i64 py] 33)=W:=⟨_,rfl⟩
   have hb1':Below V1.heap.size V1 W1:=by rw[←hW1];exact(Below.refl _ V1).alloc (Nat.le_refl _) _
   have hq1:=heap_alloc0 V1 (.cells #[.int .i64 px,.int .i64 py] 33)
   rw[hW1] at hq1
   have hb1'':=hb1.trans (hb1'.mono hb1.size)
   have HQ1:=hide hq1
   have HZ1:=hide (hz1.below hb1')
   have HB1:=hide hb1''
   have L2:=hide (D2.out W1)
   clear hz1 hb1 hb1' hb1'' hq1 L1
   subst hW1
   go_wp2_with fail
   (with_reducible refine L2.out.mono ?_)
   rintro e V2 ⟨a2,k2,c2,rfl,hz2,hb2⟩
   obtain⟨W2,hW2⟩:∃W,V2.alloc (.cells #[.int .i64 px,.int .i64 py] 33)=W:=⟨_,rfl⟩
   have hb2':Below V2.heap.size V2 W2:=by rw[←hW2];exact(Below.refl _ V2).alloc (Nat.le_refl _) _
   have hq2:=heap_alloc0 V2 (.cells #[.int .i64 px,.int .i64 py] 33)
   rw[hW2] at hq2
   have hb2'':=hb2.trans (hb2'.mono hb2.size)
   have HQ2:=hide hq2
   have HZ2:=hide (hz2.below hb2')
   have HC2:=hide hb2''
   have HB2:=hide (HB1.out.trans (hb2''.mono HB1.out.size))
   have L3:=hide (D3.out W2 HB2.out)
   clear hz2 hb2 hb2' hb2'' hq2 L2
   subst hW2
   go_wp2_with fail
   (with_reducible refine L3.out.mono ?_)
   rintro e V3 ⟨a3,k3,c3,rfl,hz3,hb3⟩
   obtain⟨W3,hW3⟩:∃W,V3.alloc (.cells #[.int .i64 qx,.int .i64 qy] 33)=W:=⟨_,rfl⟩
   have hb3':Below V3.heap.size V3 W3:=by rw[←hW3];exact(Below.refl _ V3).alloc (Nat.le_refl _) _
   have hq3:=heap_alloc0 V3 (.cells #[.int .i64 qx,.int .i64 qy] 33)
   rw[hW3] at hq3
   have hb3'':=hb3.trans (hb3'.mono hb3.size)
   have HQ3:=hide hq3
   have HZ3:=hide (hz3.below hb3')
   have HC3:=hide hb3''
   have HB3:=hide (HB2.out.trans (hb3''.mono HB2.out.size))
   have L4:=hide (D4.out W3)
   clear hz3 hb3 hb3' hb3'' hq3 L3
   subst hW3
   go_wp2_with fail
   (with_reducible refine L4.out.mono ?_)
   rintro e V4 ⟨a4,k4,c4,rfl,hz4,hb4⟩
   obtain⟨W4,hW4⟩:∃W,V4.alloc (.cells #[.int .i64 qx,.int .i64 qy] 33)=W:=⟨_,rfl⟩
   have hb4':Below V4.heap.size V4 W4:=by rw[←hW4];exact(Below.refl _ V4).alloc (Nat.le_refl _) _
   have hq4:=heap_alloc0 V4 (.cells #[.int .i64 qx,.int .i64 qy] 33)
   rw[hW4] at hq4
   have hb4'':=hb4.trans (hb4'.mono hb4.size)
   have HQ4:=hide hq4
   have HZ4:=hide (hz4.below hb4')
   have HC4:=hide hb4''
   have HB4:=hide (HB3.out.trans (hb4''.mono HB3.out.size))
   clear hz4 hb4 hb4' hb4'' hq4 L4
   have hz1:=((HZ1.out.below HC2.out).below HC3.out).below HC4.out
   have hz2:=(HZ2.out.below HC3.out).below HC4.out
   have hz3:=HZ3.out.below HC4.out
   have hz4:=HZ4.out
   have hq1:=(HC4.out.block _ (by have:=lt_of_heap HQ1.out;have:=HC2.out.size;have:=HC3.out.size;omega)).trans ((HC3.out.block _ (by have:=lt_of_heap HQ1.out;have:=HC2.out.size;omega)).trans ((HC2.out.block _ (lt_of_heap HQ1.out)).trans HQ1.out))
   have hq2:=(HC4.out.block _ (by have:=lt_of_heap HQ2.out;have:=HC3.out.size;omega)).trans ((HC3.out.block _ (lt_of_heap HQ2.out)).trans HQ2.out)
   have S1:=hide (rsame_any false W4 hz1 hz2)
   have hz1:=hide hz1
   have hz2:=hide hz2
   have hz3:=hide hz3
   have hz4:=hide hz4
   have hq1:=hide hq1
   have hq2:=hide hq2
   clear HZ1 HZ2 HZ3 HZ4 HQ1 HQ2 HQ3 HQ4 HC2 HC3 HC4
   rw[eqsB_refl] at S1
   subst hW4
   go_wp2_with fail
   (with_reducible refine S1.out.mono ?_)
   rintro e V5 ⟨rfl,hb5⟩
   obtain⟨x0,x1,xf⟩:=two_cells ((hb5.block _ (lt_of_heap hq1.out)).trans hq1.out)
   obtain⟨y0,y1,yf⟩:=two_cells ((hb5.block _ (lt_of_heap hq2.out)).trans hq2.out)
   have S2:=hide (same_any V5 (hz1.out.below hb5) (hz3.out.below hb5))
   have hz2':=hide (hz2.out.below hb5)
   have hz4':=hide (hz4.out.below hb5)
   have HB5:=hide (HB4.out.trans (hb5.mono HB4.out.size))
   clear xf yf hb5 hq1 hq2 hz1 hz2 hz3 hz4 S1 HB4
   go_wp2_with fail
   (with_reducible refine S2.out.mono ?_)
   rintro e V6 ⟨rfl,hb6⟩
   have S3:=rsame_any true V6 (hz2'.out.below hb6) (hz4'.out.below hb6)
   rw[eqsB_bare] at S3
   have S3:=hide S3
   have HB6:=hide (HB5.out.trans (hb6.mono HB5.out.size))
   clear x0 x1 y0 y1 hb6 hz2' hz4' S2 HB5
   obtain⟨b,hb⟩:∃b,samesZ l m=b:=⟨_,rfl⟩
   rw[hb] at S3 ⊢
   have hbb:(b==b)=true:=by simp
   go_wp2_with fail
   (with_reducible refine S3.out.mono ?_)
   rintro e V7 ⟨rfl,hb7⟩
   have HB7:=hide (HB6.out.trans (hb7.mono HB6.out.size))
   have Hkn:=hide (known07 V7 (HR.out.below HB7.out))
   clear hb7 S3 HB6
   go_wp2_with fail
   (with_reducible refine Hkn.out.mono ?_)
   rintro e V9 ⟨rfl,hb9⟩
   have HB9:=hide (HB7.out.trans (hb9.mono HB7.out.size))
   clear hb9 Hkn
   go_wp2_with fail
   go_ret
   exact⟨rfl,HB9.out⟩
  ·have i1:decide ((600:Int)<(s.size:Int))=false:=by simp;omega
   have i2:decide ((600:Int)<(t.size:Int))=true:=by simp;omega
   have Hkn:=hide (known07 w hR)
   clear hR hs ht
   go_enter Tryz.func4,Tryz.ntmps4
   go_wp2_with fail
   (with_reducible refine Hkn.out.mono ?_)
   rintro e V9 ⟨rfl,hb9⟩
   have HB9:=hide hb9
   clear hb9 Hkn
   go_wp2_with fail
   go_ret
   exact⟨rfl,HB9.out⟩
 ·have i1:decide ((600:Int)<(s.size:Int))=true:=by simp;omega
  have Hkn:=hide (known07 w hR)
  clear hR hs
  go_enter Tryz.func4,Tryz.ntmps4
  go_wp2_with fail
  (with_reducible refine Hkn.out.mono ?_)
  rintro e V9 ⟨rfl,hb9⟩
  have HB9:=hide hb9
  clear hb9 Hkn
  go_wp2_with fail
  go_ret
  exact⟨rfl,HB9.out⟩
open Go Go.ChangeShapes Go.WideShapes Go.ChangeAt Go.RowKit
section
variable {H:Type} {enc:TypeId×Value→H} {P:Program}
theorem post_of_below {f:Func}{s:ChangeSpec}{apart fresh handsOn again:Bool}{W W':World}{args:Array Value}{v:Value}{ds gs:List (DataW H)}{before pa pv:List MemPlace}
 (hW:DataW.Whole enc P f.params.toList s.vars apart W args.toList ds gs before)
 (hres:∀(b:Nat) (sp:Nat→Bool) (hd:Bool),DataW.TrodAll enc P W' b sp hd f.resultTypes.toList (v.resultList f.resultTypes.size) (s.fn H (ds++gs)).results [])
 (hargs:∀sp:Nat→Bool,(∀p∈before,sp p.block=true)→DataW.TrodAll enc P W' 0 sp true f.params.toList args.toList (s.fn H (ds++gs)).args pa)
 (hvars:∀sp:Nat→Bool,(∀p∈before,sp p.block=true)→DataW.TrodVars enc P W' sp s.vars (s.fn H (ds++gs)).vars pv)
 (hps:before=pa++pv) (hb:Below W.heap.size W W')
 (hok:∀(j:Nat) (t:TypeId) (r:Value),f.resultTypes[j]? =some t→(v.resultList f.resultTypes.size)[j]? =some r→Value.okWide P W' .any 0 t r):
 s.post enc P f apart fresh handsOn again W args v W':=by
 have hlt:∀p∈before,p.block<W.heap.size:=fun p hp=>hW.lt p hp
 have hold:∀p∈before,(fun b=>decide (b<W.heap.size)) p.block=true:=fun p hp=>by simpa using hlt p hp
 refine⟨ds,gs,before,[],pa,pv,hW,hres _ _ _,hargs _ hold,hvars _ hold,World.keptBut_mono (fun p hp=>⟨hp,?_⟩) (hb.frame (· ∈before)),fun _=>?_⟩
 ·rw[hps,List.mem_append] at hp
  exact Or.inr hp
 ·obtain⟨_,_,_,_,_,hz,hn⟩:=hW
  refine⟨hok,_,_,([]++pa)++pv,⟨[]++pa,pv,trodAll_append (hargs _ (fun _ _=>rfl)) (hres _ _ _),hvars _ (fun _ _=>rfl),rfl,?_,?_⟩,?_⟩
  ·intro b off hp
   have hin:MemPlace.cell b off∈before:=by rw[hps];simpa using hp
   rw[hb.frozen (hlt _ hin)]
   exact hz b off hin
  ·intro ha
   have:=hn ha
   rw[hps] at this
   simpa using this
  ·intro p hp _
   rw[hps]
   simpa using hp
end
theorem own:ownKnob Tryz.prog.godebug=none:=by kernel_rfl
end Go.Proofs.YtgfakdobajgnfaaGreatDoor
