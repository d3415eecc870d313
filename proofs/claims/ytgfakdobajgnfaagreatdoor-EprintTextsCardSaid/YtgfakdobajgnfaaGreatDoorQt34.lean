import Derived.BigQuiet
import Derived.Test.YtgfakdobajgnfaaGreatDoorQt13
set_option maxRecDepth 100000
set_option maxHeartbeats 16000000
namespace Go.Proofs.YtgfakdobajgnfaaGreatDoor
open Go Go.RowKit Go.Lib
def eqB (bare:Bool)(x y:Nz):Bool:=D1 x y && (bare||(decide (x.h.line=y.h.line) && decide (x.h.col=y.h.col)))
def O6 (bare:Bool):List Nz->List Nz->Bool
 |[],[]=>true
 |x::l,y::m=>eqB bare x y && O6 bare l m
 |_,_=>false
theorem Xt {bare:Bool}:∀{l m:List Nz},O6 bare l m=true->l.length=m.length
 |[],[],_=>rfl
 |[],_::_,h=>by cases h
 |_::_,[],h=>by cases h
 |x::l,y::m,h=>by
  simp only[O6,Bool.and_eq_true] at h;simp only[Aa,Xt h.2]
theorem bP {bare:Bool}:∀{l m:List Nz},O6 bare l m=true->∀(i:Nat) (h1:i<l.length) (h2:i<m.length),eqB bare l[i] m[i]=true
 |x::l,y::m,h,0,_,_=>by
  simp only[O6,Bool.and_eq_true] at h;exact h.1
 |x::l,y::m,h,i+1,h1,h2=>by
  simp only[O6,Bool.and_eq_true] at h;exact bP h.2 i sD tJ
theorem Yr {bare:Bool}:∀{l m:List Nz},l.length=m.length->(∀(i:Nat) (h1:i<l.length) (h2:i<m.length),eqB bare l[i] m[i]=true)->O6 bare l m=true
 |[],[],_,_=>rfl
 |[],_::_,h,_=>by simp at h
 |_::_,[],h,_=>by simp at h
 |x::l,y::m,h,g=>by
  simp only[O6,Bool.and_eq_true];exact⟨g 0 qQ qQ,Yr rI fun i h1 h2=>g (i+1) sD tJ⟩
theorem Tv:∀(l m:List Nz),O6 true l m=Dm l m
 |[],[]=>rfl
 |[],_::_=>rfl
 |_::_,[]=>rfl
 |x::l,y::m=>by simp [O6,Dm,eqB,Tv l m]
theorem aE (x:Nz):D1 x x=true:=(P8 x x).2 ⟨rfl,rfl⟩
theorem T9 (bare:Bool):∀l:List Nz,O6 bare l l=true
 |[]=>rfl
 |x::l=>by simp [O6,eqB,aE,T9 bare l]
theorem Ut (bare:Bool){v1 v2:Value}{l m:List Nz}(w:World)(hx:TrZ w v1 l)(hy:TrZ w v2 m):Calls Tryz.prog 22 #[v1,v2,.bool bare] w fun e w'=>e= .returned (.bool (O6 bare l m))/\Below w.heap.size w w':=by
 have hl1:=hx.1;have hm1:=hy.1;have HX:=Ax hx;have HY:=Ax hy;obtain⟨_,a,c,rfl,_⟩:=hx;obtain⟨_,a',c',rfl,_⟩:=hy;obtain⟨rr,hrr⟩:∃rr,O6 bare l m=rr:=⟨_,rfl⟩;rw[hrr];have HRR:=Ax hrr;clear hrr;by_cases hn:l.length=m.length
 ·have HN:=Ax hn;have n1:((l.length:Int)==(m.length:Int))=true:=by rw[hn];simp
  have n2:((l.length:Int) !=(m.length:Int))=false:=by rw[bne,n1];rfl
  have n3:(l.length==m.length)=true:=by rw[hn];simp
  have n4:(l.length !=m.length)=false:=by rw[bne,n3];rfl
  clear hn;go_enter Tryz.func22,Tryz.ntmps22;go_wp2_with fail
  go_loopw [7] (fun vi wr=>∃j:Nat,j<=l.length/\vi= .int .i64 j/\Hid (Below w.heap.size w wr)/\∀(i:Nat) (_:i<j) (h1:i<l.length) (h2:i<m.length),eqB bare l[i] m[i]=true) (fun vi _=>l.length - (intOf vi).toNat)
  case atStart=>exact⟨0,Nat.zero_le _,rfl,Aq _ _,fun i h=>absurd h (Nat.not_lt_zero _)⟩
  obtain⟨wo,rfl⟩:∃wo:World,wo=wr:=⟨_,rfl⟩;obtain⟨j,hj,rfl,hb,hall⟩:=hrel;by_cases hjl:j<l.length
  ·have hjm:j<m.length:=by rw[←HN.out];exact hjl
   have hx2:=HX.out.below hb.out;have hy2:=HY.out.below hb.out;obtain⟨_,ax,cx,ex,hx3⟩:=hx2;obtain⟨_,ay,cy,ey,hy3⟩:=hy2;injection ex with ex1 ex0 ex2;injection ey with ey1 ey0 ey2;subst ex1 ex2 ey1 ey2;clear ex0 ey0;obtain⟨bx,ox,kx,rfl,hnx,hix⟩:=hx3 j hjl;obtain⟨by',oy,ky,rfl,hny,hiy⟩:=hy3 j hjm;have HAT:Hid (rr=true->eqB bare l[j] m[j]=true):=Ax (fun hr=>bP (HRR.out.trans hr) j hjl hjm);obtain⟨⟨hd1,k1⟩,e1⟩:∃z,l[j]=z:=⟨_,rfl⟩;obtain⟨⟨hd2,k2⟩,e2⟩:∃z,m[j]=z:=⟨_,rfl⟩;rw[e1,e2] at HAT;have HE12:=Ax (And.intro e1 e2);have HEQ0:=Ax (fun(bb:Bool) (h:eqB bb ⟨hd1,k1⟩ ⟨hd2,k2⟩=true)=>(show eqB bb l[j] m[j]=true by rw[e1,e2];exact h));rw[e1] at hnx hix;rw[e2] at hny hiy;simp only at hnx hix hny hiy;obtain⟨op1,⟨vk1,vn1,vs1⟩,nm1,ln1,cl1⟩:=hd1;obtain⟨op2,⟨vk2,vn2,vs2⟩,nm2,ln2,cl2⟩:=hd2;obtain⟨hk1,ak,ck,rfl,hkx⟩:=hix;obtain⟨hk2,ak',ck',rfl,hky⟩:=hiy;obtain⟨x0,x1,x2,x3,x4,x5,x6,x7⟩:=hnx;obtain⟨y0,y1,y2,y3,y4,y5,y6,y7⟩:=hny;simp only at x0 x1 x2 x3 x4 x5 x6 x7 y0 y1 y2 y3 y4 y5 y6 y7 hkx hky;have HKX:=Ax hkx;have HKY:=Ax hky;have hbx:bx<wo.heap.size:=Bp x0;have hby:by'<wo.heap.size:=Bp y0;have i1:(0:Int)<=(j:Int):=by omega
   have i2:(j:Int)<(l.length:Int):=by omega
   have i3:decide ((j:Int)<(l.length:Int))=true:=Am i2;have i4:(j:Int)<(m.length:Int):=by omega
   have hJ:=Ax hj;have hJL:=Ax hjl;have HALL:=Ax hall;clear hx3 hy3 e1 e2 hkx hky hall;by_cases d1:op1=op2;rotate_left
   ·have t1:(op1==op2)=false:=Af.2 d1;have t2:(op1 !=op2)=true:=by rw[bne,t1];rfl
    have HF:=Ax (show rr=false by cases hr:rr with|false=>rfl|true=>exact absurd (HAT.out hr) tE);go_wp2_with fail;go_region
    ·obtain⟨W1,hW1⟩:∃W1,wo.alloc (.cells #[.int .u8 op1,.int .u8 vk1,.int .i64 vn1,.string ⟨vs1.toArray⟩,.string ⟨nm1.toArray⟩,.slice ak k1.length ck,.int .i64 ln1,.int .i64 cl1] 43)=W1:=⟨_,rfl⟩;obtain⟨W2,hW2⟩:∃W2,(W1.alloc (.cells #[.int .u8 op2,.int .u8 vk2,.int .i64 vn2,.string ⟨vs2.toArray⟩,.string ⟨nm2.toArray⟩,.slice ak' k2.length ck',.int .i64 ln2,.int .i64 cl2] 43)).drew=W2:=⟨_,rfl⟩;have hpa:=Az wo (.cells #[.int .u8 op1,.int .u8 vk1,.int .i64 vn1,.string ⟨vs1.toArray⟩,.string ⟨nm1.toArray⟩,.slice ak k1.length ck,.int .i64 ln1,.int .i64 cl1] 43);have hsz:W1.heap.size=wo.heap.size+1:=by rw[←hW1];simp
     have hbW1:Below wo.heap.size wo W1:=by rw[←hW1];exact(Aq _ wo).alloc (Ak _) _
     have hbW2:Below W1.heap.size W1 W2:=by rw[←hW2];exact((Aq _ W1).alloc (Ak _) _).drew
     have hpb:W2.heap[wo.heap.size+1]? =some (.cells #[.int .u8 op2,.int .u8 vk2,.int .i64 vn2,.string ⟨vs2.toArray⟩,.string ⟨nm2.toArray⟩,.slice ak' k2.length ck',.int .i64 ln2,.int .i64 cl2] 43):=by rw[←hW2,←hsz];exact Az W1 (.cells #[.int .u8 op2,.int .u8 vk2,.int .i64 vn2,.string ⟨vs2.toArray⟩,.string ⟨nm2.toArray⟩,.slice ak' k2.length ck',.int .i64 ln2,.int .i64 cl2] 43)
     rw[hW1] at hpa;have hpa2:=(hbW2.block _ (Ay hpa)).trans hpa;rw[hW1,hW2];obtain⟨p0,p1,p2,p3,p4,p5,p6,p7,_⟩:=A8 hpa2;obtain⟨q0,q1,q2,q3,q4,q5,q6,q7,_⟩:=A8 hpb;have HBW:=Ax (hbW1.trans (hbW2.mono hbW1.size));have HPA:=Ax hpa2;have HPB:=Ax hpb;exact zya
    obtain⟨W1,hW1⟩:∃W1,wo.alloc (.cells #[.int .u8 op2,.int .u8 vk2,.int .i64 vn2,.string ⟨vs2.toArray⟩,.string ⟨nm2.toArray⟩,.slice ak' k2.length ck',.int .i64 ln2,.int .i64 cl2] 43)=W1:=⟨_,rfl⟩;obtain⟨W2,hW2⟩:∃W2,(W1.alloc (.cells #[.int .u8 op1,.int .u8 vk1,.int .i64 vn1,.string ⟨vs1.toArray⟩,.string ⟨nm1.toArray⟩,.slice ak k1.length ck,.int .i64 ln1,.int .i64 cl1] 43)).drew=W2:=⟨_,rfl⟩;have hpa:=Az wo (.cells #[.int .u8 op2,.int .u8 vk2,.int .i64 vn2,.string ⟨vs2.toArray⟩,.string ⟨nm2.toArray⟩,.slice ak' k2.length ck',.int .i64 ln2,.int .i64 cl2] 43);have hsz:W1.heap.size=wo.heap.size+1:=by rw[←hW1];simp
    have hbW1:Below wo.heap.size wo W1:=by rw[←hW1];exact(Aq _ wo).alloc (Ak _) _
    have hbW2:Below W1.heap.size W1 W2:=by rw[←hW2];exact((Aq _ W1).alloc (Ak _) _).drew
    have hpb:W2.heap[wo.heap.size+1]? =some (.cells #[.int .u8 op1,.int .u8 vk1,.int .i64 vn1,.string ⟨vs1.toArray⟩,.string ⟨nm1.toArray⟩,.slice ak k1.length ck,.int .i64 ln1,.int .i64 cl1] 43):=by rw[←hW2,←hsz];exact Az W1 (.cells #[.int .u8 op1,.int .u8 vk1,.int .i64 vn1,.string ⟨vs1.toArray⟩,.string ⟨nm1.toArray⟩,.slice ak k1.length ck,.int .i64 ln1,.int .i64 cl1] 43)
    rw[hW1] at hpa;have hpa2:=(hbW2.block _ (Ay hpa)).trans hpa;rw[hW1,hW2];obtain⟨p0,p1,p2,p3,p4,p5,p6,p7,_⟩:=A8 hpb;obtain⟨q0,q1,q2,q3,q4,q5,q6,q7,_⟩:=A8 hpa2;have HBW:=Ax (hbW1.trans (hbW2.mono hbW1.size));have HPA:=Ax hpb;have HPB:=Ax hpa2;exact zya
   subst d1;by_cases d2:(vk1,vn1,vs1)=(vk2,vn2,vs2);rotate_left
   ·have HF:=Ax (show rr=false by cases hr:rr with|false=>rfl|true=>exact absurd (HAT.out hr) tE);go_wp2_with fail;go_region
    ·obtain⟨W1,hW1⟩:∃W1,wo.alloc (.cells #[.int .u8 op1,.int .u8 vk1,.int .i64 vn1,.string ⟨vs1.toArray⟩,.string ⟨nm1.toArray⟩,.slice ak k1.length ck,.int .i64 ln1,.int .i64 cl1] 43)=W1:=⟨_,rfl⟩;obtain⟨W2,hW2⟩:∃W2,(W1.alloc (.cells #[.int .u8 op1,.int .u8 vk2,.int .i64 vn2,.string ⟨vs2.toArray⟩,.string ⟨nm2.toArray⟩,.slice ak' k2.length ck',.int .i64 ln2,.int .i64 cl2] 43)).drew=W2:=⟨_,rfl⟩;have hpa:=Az wo (.cells #[.int .u8 op1,.int .u8 vk1,.int .i64 vn1,.string ⟨vs1.toArray⟩,.string ⟨nm1.toArray⟩,.slice ak k1.length ck,.int .i64 ln1,.int .i64 cl1] 43);have hsz:W1.heap.size=wo.heap.size+1:=by rw[←hW1];simp
     have hbW1:Below wo.heap.size wo W1:=by rw[←hW1];exact(Aq _ wo).alloc (Ak _) _
     have hbW2:Below W1.heap.size W1 W2:=by rw[←hW2];exact((Aq _ W1).alloc (Ak _) _).drew
     have hpb:W2.heap[wo.heap.size+1]? =some (.cells #[.int .u8 op1,.int .u8 vk2,.int .i64 vn2,.string ⟨vs2.toArray⟩,.string ⟨nm2.toArray⟩,.slice ak' k2.length ck',.int .i64 ln2,.int .i64 cl2] 43):=by rw[←hW2,←hsz];exact Az W1 (.cells #[.int .u8 op1,.int .u8 vk2,.int .i64 vn2,.string ⟨vs2.toArray⟩,.string ⟨nm2.toArray⟩,.slice ak' k2.length ck',.int .i64 ln2,.int .i64 cl2] 43)
     rw[hW1] at hpa;have hpa2:=(hbW2.block _ (Ay hpa)).trans hpa;rw[hW1,hW2];obtain⟨p0,p1,p2,p3,p4,p5,p6,p7,_⟩:=A8 hpa2;obtain⟨q0,q1,q2,q3,q4,q5,q6,q7,_⟩:=A8 hpb;have HBW:=Ax (hbW1.trans (hbW2.mono hbW1.size));have HPA:=Ax hpa2;have HPB:=Ax hpb;exact zyn
    obtain⟨W1,hW1⟩:∃W1,wo.alloc (.cells #[.int .u8 op1,.int .u8 vk2,.int .i64 vn2,.string ⟨vs2.toArray⟩,.string ⟨nm2.toArray⟩,.slice ak' k2.length ck',.int .i64 ln2,.int .i64 cl2] 43)=W1:=⟨_,rfl⟩;obtain⟨W2,hW2⟩:∃W2,(W1.alloc (.cells #[.int .u8 op1,.int .u8 vk1,.int .i64 vn1,.string ⟨vs1.toArray⟩,.string ⟨nm1.toArray⟩,.slice ak k1.length ck,.int .i64 ln1,.int .i64 cl1] 43)).drew=W2:=⟨_,rfl⟩;have hpa:=Az wo (.cells #[.int .u8 op1,.int .u8 vk2,.int .i64 vn2,.string ⟨vs2.toArray⟩,.string ⟨nm2.toArray⟩,.slice ak' k2.length ck',.int .i64 ln2,.int .i64 cl2] 43);have hsz:W1.heap.size=wo.heap.size+1:=by rw[←hW1];simp
    have hbW1:Below wo.heap.size wo W1:=by rw[←hW1];exact(Aq _ wo).alloc (Ak _) _
    have hbW2:Below W1.heap.size W1 W2:=by rw[←hW2];exact((Aq _ W1).alloc (Ak _) _).drew
    have hpb:W2.heap[wo.heap.size+1]? =some (.cells #[.int .u8 op1,.int .u8 vk1,.int .i64 vn1,.string ⟨vs1.toArray⟩,.string ⟨nm1.toArray⟩,.slice ak k1.length ck,.int .i64 ln1,.int .i64 cl1] 43):=by rw[←hW2,←hsz];exact Az W1 (.cells #[.int .u8 op1,.int .u8 vk1,.int .i64 vn1,.string ⟨vs1.toArray⟩,.string ⟨nm1.toArray⟩,.slice ak k1.length ck,.int .i64 ln1,.int .i64 cl1] 43)
    rw[hW1] at hpa;have hpa2:=(hbW2.block _ (Ay hpa)).trans hpa;rw[hW1,hW2];obtain⟨p0,p1,p2,p3,p4,p5,p6,p7,_⟩:=A8 hpb;obtain⟨q0,q1,q2,q3,q4,q5,q6,q7,_⟩:=A8 hpa2;have HBW:=Ax (hbW1.trans (hbW2.mono hbW1.size));have HPA:=Ax hpb;have HPB:=Ax hpa2;exact zyn
   injection d2 with e1 d2;injection d2 with e2 e3;subst e1 e2 e3;by_cases d3:nm1=nm2;rotate_left
   ·have HF:=Ax (show rr=false by cases hr:rr with|false=>rfl|true=>exact absurd (HAT.out hr) tE);go_wp2_with fail;go_region
    ·obtain⟨W1,hW1⟩:∃W1,wo.alloc (.cells #[.int .u8 op1,.int .u8 vk1,.int .i64 vn1,.string ⟨vs1.toArray⟩,.string ⟨nm1.toArray⟩,.slice ak k1.length ck,.int .i64 ln1,.int .i64 cl1] 43)=W1:=⟨_,rfl⟩;obtain⟨W2,hW2⟩:∃W2,(W1.alloc (.cells #[.int .u8 op1,.int .u8 vk1,.int .i64 vn1,.string ⟨vs1.toArray⟩,.string ⟨nm2.toArray⟩,.slice ak' k2.length ck',.int .i64 ln2,.int .i64 cl2] 43)).drew=W2:=⟨_,rfl⟩;have hpa:=Az wo (.cells #[.int .u8 op1,.int .u8 vk1,.int .i64 vn1,.string ⟨vs1.toArray⟩,.string ⟨nm1.toArray⟩,.slice ak k1.length ck,.int .i64 ln1,.int .i64 cl1] 43);have hsz:W1.heap.size=wo.heap.size+1:=by rw[←hW1];simp
     have hbW1:Below wo.heap.size wo W1:=by rw[←hW1];exact(Aq _ wo).alloc (Ak _) _
     have hbW2:Below W1.heap.size W1 W2:=by rw[←hW2];exact((Aq _ W1).alloc (Ak _) _).drew
     have hpb:W2.heap[wo.heap.size+1]? =some (.cells #[.int .u8 op1,.int .u8 vk1,.int .i64 vn1,.string ⟨vs1.toArray⟩,.string ⟨nm2.toArray⟩,.slice ak' k2.length ck',.int .i64 ln2,.int .i64 cl2] 43):=by rw[←hW2,←hsz];exact Az W1 (.cells #[.int .u8 op1,.int .u8 vk1,.int .i64 vn1,.string ⟨vs1.toArray⟩,.string ⟨nm2.toArray⟩,.slice ak' k2.length ck',.int .i64 ln2,.int .i64 cl2] 43)
     rw[hW1] at hpa;have hpa2:=(hbW2.block _ (Ay hpa)).trans hpa;rw[hW1,hW2];obtain⟨p0,p1,p2,p3,p4,p5,p6,p7,_⟩:=A8 hpa2;obtain⟨q0,q1,q2,q3,q4,q5,q6,q7,_⟩:=A8 hpb;have HBW:=Ax (hbW1.trans (hbW2.mono hbW1.size));have HPA:=Ax hpa2;have HPB:=Ax hpb;exact zx9
    obtain⟨W1,hW1⟩:∃W1,wo.alloc (.cells #[.int .u8 op1,.int .u8 vk1,.int .i64 vn1,.string ⟨vs1.toArray⟩,.string ⟨nm2.toArray⟩,.slice ak' k2.length ck',.int .i64 ln2,.int .i64 cl2] 43)=W1:=⟨_,rfl⟩;obtain⟨W2,hW2⟩:∃W2,(W1.alloc (.cells #[.int .u8 op1,.int .u8 vk1,.int .i64 vn1,.string ⟨vs1.toArray⟩,.string ⟨nm1.toArray⟩,.slice ak k1.length ck,.int .i64 ln1,.int .i64 cl1] 43)).drew=W2:=⟨_,rfl⟩;have hpa:=Az wo (.cells #[.int .u8 op1,.int .u8 vk1,.int .i64 vn1,.string ⟨vs1.toArray⟩,.string ⟨nm2.toArray⟩,.slice ak' k2.length ck',.int .i64 ln2,.int .i64 cl2] 43);have hsz:W1.heap.size=wo.heap.size+1:=by rw[←hW1];simp
    have hbW1:Below wo.heap.size wo W1:=by rw[←hW1];exact(Aq _ wo).alloc (Ak _) _
    have hbW2:Below W1.heap.size W1 W2:=by rw[←hW2];exact((Aq _ W1).alloc (Ak _) _).drew
    have hpb:W2.heap[wo.heap.size+1]? =some (.cells #[.int .u8 op1,.int .u8 vk1,.int .i64 vn1,.string ⟨vs1.toArray⟩,.string ⟨nm1.toArray⟩,.slice ak k1.length ck,.int .i64 ln1,.int .i64 cl1] 43):=by rw[←hW2,←hsz];exact Az W1 (.cells #[.int .u8 op1,.int .u8 vk1,.int .i64 vn1,.string ⟨vs1.toArray⟩,.string ⟨nm1.toArray⟩,.slice ak k1.length ck,.int .i64 ln1,.int .i64 cl1] 43)
    rw[hW1] at hpa;have hpa2:=(hbW2.block _ (Ay hpa)).trans hpa;rw[hW1,hW2];obtain⟨p0,p1,p2,p3,p4,p5,p6,p7,_⟩:=A8 hpb;obtain⟨q0,q1,q2,q3,q4,q5,q6,q7,_⟩:=A8 hpa2;have HBW:=Ax (hbW1.trans (hbW2.mono hbW1.size));have HPA:=Ax hpb;have HPB:=Ax hpa2;exact zx9
   subst d3;by_cases d4:k1.length=k2.length;rotate_left
   ·have t1:((k1.length:Int)==(k2.length:Int))=false:=Af.2 qO;have t2:((k1.length:Int) !=(k2.length:Int))=true:=by rw[bne,t1];rfl
    have t3:(k1.length==k2.length)=false:=Af.2 d4;have t4:(k1.length !=k2.length)=true:=by rw[bne,t3];rfl
    have d5:¬k1=k2:=fun e=>d4 (by rw[e])
    have HF:=Ax (show rr=false by cases hr:rr with|false=>rfl|true=>exact absurd (HAT.out hr) tE);go_wp2_with fail;go_region
    ·obtain⟨W1,hW1⟩:∃W1,wo.alloc (.cells #[.int .u8 op1,.int .u8 vk1,.int .i64 vn1,.string ⟨vs1.toArray⟩,.string ⟨nm1.toArray⟩,.slice ak k1.length ck,.int .i64 ln1,.int .i64 cl1] 43)=W1:=⟨_,rfl⟩;obtain⟨W2,hW2⟩:∃W2,(W1.alloc (.cells #[.int .u8 op1,.int .u8 vk1,.int .i64 vn1,.string ⟨vs1.toArray⟩,.string ⟨nm1.toArray⟩,.slice ak' k2.length ck',.int .i64 ln2,.int .i64 cl2] 43)).drew=W2:=⟨_,rfl⟩;have hpa:=Az wo (.cells #[.int .u8 op1,.int .u8 vk1,.int .i64 vn1,.string ⟨vs1.toArray⟩,.string ⟨nm1.toArray⟩,.slice ak k1.length ck,.int .i64 ln1,.int .i64 cl1] 43);have hsz:W1.heap.size=wo.heap.size+1:=by rw[←hW1];simp
     have hbW1:Below wo.heap.size wo W1:=by rw[←hW1];exact(Aq _ wo).alloc (Ak _) _
     have hbW2:Below W1.heap.size W1 W2:=by rw[←hW2];exact((Aq _ W1).alloc (Ak _) _).drew
     have hpb:W2.heap[wo.heap.size+1]? =some (.cells #[.int .u8 op1,.int .u8 vk1,.int .i64 vn1,.string ⟨vs1.toArray⟩,.string ⟨nm1.toArray⟩,.slice ak' k2.length ck',.int .i64 ln2,.int .i64 cl2] 43):=by rw[←hW2,←hsz];exact Az W1 (.cells #[.int .u8 op1,.int .u8 vk1,.int .i64 vn1,.string ⟨vs1.toArray⟩,.string ⟨nm1.toArray⟩,.slice ak' k2.length ck',.int .i64 ln2,.int .i64 cl2] 43)
     rw[hW1] at hpa;have hpa2:=(hbW2.block _ (Ay hpa)).trans hpa;rw[hW1,hW2];obtain⟨p0,p1,p2,p3,p4,p5,p6,p7,_⟩:=A8 hpa2;obtain⟨q0,q1,q2,q3,q4,q5,q6,q7,_⟩:=A8 hpb;have HBW:=Ax (hbW1.trans (hbW2.mono hbW1.size));have HPA:=Ax hpa2;have HPB:=Ax hpb;exact zx8
    obtain⟨W1,hW1⟩:∃W1,wo.alloc (.cells #[.int .u8 op1,.int .u8 vk1,.int .i64 vn1,.string ⟨vs1.toArray⟩,.string ⟨nm1.toArray⟩,.slice ak' k2.length ck',.int .i64 ln2,.int .i64 cl2] 43)=W1:=⟨_,rfl⟩;obtain⟨W2,hW2⟩:∃W2,(W1.alloc (.cells #[.int .u8 op1,.int .u8 vk1,.int .i64 vn1,.string ⟨vs1.toArray⟩,.string ⟨nm1.toArray⟩,.slice ak k1.length ck,.int .i64 ln1,.int .i64 cl1] 43)).drew=W2:=⟨_,rfl⟩;have hpa:=Az wo (.cells #[.int .u8 op1,.int .u8 vk1,.int .i64 vn1,.string ⟨vs1.toArray⟩,.string ⟨nm1.toArray⟩,.slice ak' k2.length ck',.int .i64 ln2,.int .i64 cl2] 43);have hsz:W1.heap.size=wo.heap.size+1:=by rw[←hW1];simp
    have hbW1:Below wo.heap.size wo W1:=by rw[←hW1];exact(Aq _ wo).alloc (Ak _) _
    have hbW2:Below W1.heap.size W1 W2:=by rw[←hW2];exact((Aq _ W1).alloc (Ak _) _).drew
    have hpb:W2.heap[wo.heap.size+1]? =some (.cells #[.int .u8 op1,.int .u8 vk1,.int .i64 vn1,.string ⟨vs1.toArray⟩,.string ⟨nm1.toArray⟩,.slice ak k1.length ck,.int .i64 ln1,.int .i64 cl1] 43):=by rw[←hW2,←hsz];exact Az W1 (.cells #[.int .u8 op1,.int .u8 vk1,.int .i64 vn1,.string ⟨vs1.toArray⟩,.string ⟨nm1.toArray⟩,.slice ak k1.length ck,.int .i64 ln1,.int .i64 cl1] 43)
    rw[hW1] at hpa;have hpa2:=(hbW2.block _ (Ay hpa)).trans hpa;rw[hW1,hW2];obtain⟨p0,p1,p2,p3,p4,p5,p6,p7,_⟩:=A8 hpb;obtain⟨q0,q1,q2,q3,q4,q5,q6,q7,_⟩:=A8 hpa2;have HBW:=Ax (hbW1.trans (hbW2.mono hbW1.size));have HPA:=Ax hpb;have HPB:=Ax hpa2;exact zx8
   have t1:((k1.length:Int)==(k2.length:Int))=true:=by rw[d4];simp
   have t2:((k1.length:Int) !=(k2.length:Int))=false:=by rw[bne,t1];rfl
   have t3:(k1.length==k2.length)=true:=by rw[d4];simp
   have t4:(k1.length !=k2.length)=false:=by rw[bne,t3];rfl
   have HL4:=Ax d4;clear d4;cases bare with
   |true=>
    go_wp2_with fail;go_region
    ·obtain⟨W1,hW1⟩:∃W1,wo.alloc (.cells #[.int .u8 op1,.int .u8 vk1,.int .i64 vn1,.string ⟨vs1.toArray⟩,.string ⟨nm1.toArray⟩,.slice ak k1.length ck,.int .i64 ln1,.int .i64 cl1] 43)=W1:=⟨_,rfl⟩;obtain⟨W2,hW2⟩:∃W2,(W1.alloc (.cells #[.int .u8 op1,.int .u8 vk1,.int .i64 vn1,.string ⟨vs1.toArray⟩,.string ⟨nm1.toArray⟩,.slice ak' k2.length ck',.int .i64 ln2,.int .i64 cl2] 43)).drew=W2:=⟨_,rfl⟩;have hpa:=Az wo (.cells #[.int .u8 op1,.int .u8 vk1,.int .i64 vn1,.string ⟨vs1.toArray⟩,.string ⟨nm1.toArray⟩,.slice ak k1.length ck,.int .i64 ln1,.int .i64 cl1] 43);have hsz:W1.heap.size=wo.heap.size+1:=by rw[←hW1];simp
     have hbW1:Below wo.heap.size wo W1:=by rw[←hW1];exact(Aq _ wo).alloc (Ak _) _
     have hbW2:Below W1.heap.size W1 W2:=by rw[←hW2];exact((Aq _ W1).alloc (Ak _) _).drew
     have hpb:W2.heap[wo.heap.size+1]? =some (.cells #[.int .u8 op1,.int .u8 vk1,.int .i64 vn1,.string ⟨vs1.toArray⟩,.string ⟨nm1.toArray⟩,.slice ak' k2.length ck',.int .i64 ln2,.int .i64 cl2] 43):=by rw[←hW2,←hsz];exact Az W1 (.cells #[.int .u8 op1,.int .u8 vk1,.int .i64 vn1,.string ⟨vs1.toArray⟩,.string ⟨nm1.toArray⟩,.slice ak' k2.length ck',.int .i64 ln2,.int .i64 cl2] 43)
     rw[hW1] at hpa;have hpa2:=(hbW2.block _ (Ay hpa)).trans hpa;rw[hW1,hW2];obtain⟨p0,p1,p2,p3,p4,p5,p6,p7,_⟩:=A8 hpa2;obtain⟨q0,q1,q2,q3,q4,q5,q6,q7,_⟩:=A8 hpb;have HBW:=Ax (hbW1.trans (hbW2.mono hbW1.size));have HPA:=Ax hpa2;have HPB:=Ax hpb;have HBL:=Ax (hb.out.trans ((hbW1.trans (hbW2.mono hbW1.size)).mono hb.out.size));clear hpa hsz hbW1 hbW2 hpb hpa2 hW1 hW2 x0 x1 x2 x3 x4 x5 x6 x7 y0 y1 y2 y3 y4 y5 y6 y7 hbx hby hb;go_wp2_with fail
     go_loopw [10] (fun vk wx=>∃k:Nat,k<=k1.length/\vk= .int .i64 k/\Hid (Below W2.heap.size W2 wx)/\∀(i:Nat) (_:i<k) (h1:i<k1.length) (h2:i<k2.length),k1[i]=k2[i]) (fun vk _=>k1.length - (intOf vk).toNat)
     case atStart=>exact⟨0,Nat.zero_le _,rfl,Aq _ _,fun i h=>absurd h (Nat.not_lt_zero _)⟩
     obtain⟨k,hk,rfl,hbk,hke⟩:=hrel;obtain⟨_,_,_,_,_,r5,_⟩:=A8 ((hbk.out.block _ (Ay HPA.out)).trans HPA.out);obtain⟨_,_,_,_,_,s5,_⟩:=A8 ((hbk.out.block _ (Ay HPB.out)).trans HPB.out);clear p0 p1 p2 p3 p4 p5 p6 p7 q0 q1 q2 q3 q4 q5 q6 q7;have HKE:=Ax hke;clear hke;by_cases hkl:k<k1.length
     ·exact zz6
     obtain rfl:k=k1.length:=by omega
     have HB2:=Ax (HBL.out.trans (hbk.out.mono HBL.out.size));have l3:decide ((k1.length:Int)<(k1.length:Int))=false:=by simp
     have hk12:k1=k2:=List.ext_getElem HL4.out (fun i h1 h2=>HKE.out i h1 h1 h2);have HEQ:=Ax (HEQ0.out true tQ);exact zzc
    obtain⟨W1,hW1⟩:∃W1,wo.alloc (.cells #[.int .u8 op1,.int .u8 vk1,.int .i64 vn1,.string ⟨vs1.toArray⟩,.string ⟨nm1.toArray⟩,.slice ak' k2.length ck',.int .i64 ln2,.int .i64 cl2] 43)=W1:=⟨_,rfl⟩;obtain⟨W2,hW2⟩:∃W2,(W1.alloc (.cells #[.int .u8 op1,.int .u8 vk1,.int .i64 vn1,.string ⟨vs1.toArray⟩,.string ⟨nm1.toArray⟩,.slice ak k1.length ck,.int .i64 ln1,.int .i64 cl1] 43)).drew=W2:=⟨_,rfl⟩;have hpa:=Az wo (.cells #[.int .u8 op1,.int .u8 vk1,.int .i64 vn1,.string ⟨vs1.toArray⟩,.string ⟨nm1.toArray⟩,.slice ak' k2.length ck',.int .i64 ln2,.int .i64 cl2] 43);have hsz:W1.heap.size=wo.heap.size+1:=by rw[←hW1];simp
    have hbW1:Below wo.heap.size wo W1:=by rw[←hW1];exact(Aq _ wo).alloc (Ak _) _
    have hbW2:Below W1.heap.size W1 W2:=by rw[←hW2];exact((Aq _ W1).alloc (Ak _) _).drew
    have hpb:W2.heap[wo.heap.size+1]? =some (.cells #[.int .u8 op1,.int .u8 vk1,.int .i64 vn1,.string ⟨vs1.toArray⟩,.string ⟨nm1.toArray⟩,.slice ak k1.length ck,.int .i64 ln1,.int .i64 cl1] 43):=by rw[←hW2,←hsz];exact Az W1 (.cells #[.int .u8 op1,.int .u8 vk1,.int .i64 vn1,.string ⟨vs1.toArray⟩,.string ⟨nm1.toArray⟩,.slice ak k1.length ck,.int .i64 ln1,.int .i64 cl1] 43)
    rw[hW1] at hpa;have hpa2:=(hbW2.block _ (Ay hpa)).trans hpa;rw[hW1,hW2];obtain⟨p0,p1,p2,p3,p4,p5,p6,p7,_⟩:=A8 hpb;obtain⟨q0,q1,q2,q3,q4,q5,q6,q7,_⟩:=A8 hpa2;have HBW:=Ax (hbW1.trans (hbW2.mono hbW1.size));have HPA:=Ax hpb;have HPB:=Ax hpa2;have HBL:=Ax (hb.out.trans ((hbW1.trans (hbW2.mono hbW1.size)).mono hb.out.size));clear hpa hsz hbW1 hbW2 hpb hpa2 hW1 hW2 x0 x1 x2 x3 x4 x5 x6 x7 y0 y1 y2 y3 y4 y5 y6 y7 hbx hby hb;go_wp2_with fail
    go_loopw [10] (fun vk wx=>∃k:Nat,k<=k1.length/\vk= .int .i64 k/\Hid (Below W2.heap.size W2 wx)/\∀(i:Nat) (_:i<k) (h1:i<k1.length) (h2:i<k2.length),k1[i]=k2[i]) (fun vk _=>k1.length - (intOf vk).toNat)
    case atStart=>exact⟨0,Nat.zero_le _,rfl,Aq _ _,fun i h=>absurd h (Nat.not_lt_zero _)⟩
    obtain⟨k,hk,rfl,hbk,hke⟩:=hrel;obtain⟨_,_,_,_,_,r5,_⟩:=A8 ((hbk.out.block _ (Ay HPA.out)).trans HPA.out);obtain⟨_,_,_,_,_,s5,_⟩:=A8 ((hbk.out.block _ (Ay HPB.out)).trans HPB.out);clear p0 p1 p2 p3 p4 p5 p6 p7 q0 q1 q2 q3 q4 q5 q6 q7;have HKE:=Ax hke;clear hke;by_cases hkl:k<k1.length
    ·exact zz6
    obtain rfl:k=k1.length:=by omega
    have HB2:=Ax (HBL.out.trans (hbk.out.mono HBL.out.size));have l3:decide ((k1.length:Int)<(k1.length:Int))=false:=by simp
    have hk12:k1=k2:=List.ext_getElem HL4.out (fun i h1 h2=>HKE.out i h1 h1 h2);have HEQ:=Ax (HEQ0.out true tQ);exact zzc
   |false=>
    by_cases d5:(ln1,cl1)=(ln2,cl2);rotate_left
    ·have HF:=Ax (show rr=false by cases hr:rr with|false=>rfl|true=>exact absurd (HAT.out hr) (by simp only[eqB,D1];simp;intro _ a b;exact d5 (by rw[a,b])));go_wp2_with fail;go_region
     ·obtain⟨W1,hW1⟩:∃W1,wo.alloc (.cells #[.int .u8 op1,.int .u8 vk1,.int .i64 vn1,.string ⟨vs1.toArray⟩,.string ⟨nm1.toArray⟩,.slice ak k1.length ck,.int .i64 ln1,.int .i64 cl1] 43)=W1:=⟨_,rfl⟩;obtain⟨W2,hW2⟩:∃W2,(W1.alloc (.cells #[.int .u8 op1,.int .u8 vk1,.int .i64 vn1,.string ⟨vs1.toArray⟩,.string ⟨nm1.toArray⟩,.slice ak' k2.length ck',.int .i64 ln2,.int .i64 cl2] 43)).drew=W2:=⟨_,rfl⟩;have hpa:=Az wo (.cells #[.int .u8 op1,.int .u8 vk1,.int .i64 vn1,.string ⟨vs1.toArray⟩,.string ⟨nm1.toArray⟩,.slice ak k1.length ck,.int .i64 ln1,.int .i64 cl1] 43);have hsz:W1.heap.size=wo.heap.size+1:=by rw[←hW1];simp
      have hbW1:Below wo.heap.size wo W1:=by rw[←hW1];exact(Aq _ wo).alloc (Ak _) _
      have hbW2:Below W1.heap.size W1 W2:=by rw[←hW2];exact((Aq _ W1).alloc (Ak _) _).drew
      have hpb:W2.heap[wo.heap.size+1]? =some (.cells #[.int .u8 op1,.int .u8 vk1,.int .i64 vn1,.string ⟨vs1.toArray⟩,.string ⟨nm1.toArray⟩,.slice ak' k2.length ck',.int .i64 ln2,.int .i64 cl2] 43):=by rw[←hW2,←hsz];exact Az W1 (.cells #[.int .u8 op1,.int .u8 vk1,.int .i64 vn1,.string ⟨vs1.toArray⟩,.string ⟨nm1.toArray⟩,.slice ak' k2.length ck',.int .i64 ln2,.int .i64 cl2] 43)
      rw[hW1] at hpa;have hpa2:=(hbW2.block _ (Ay hpa)).trans hpa;rw[hW1,hW2];obtain⟨p0,p1,p2,p3,p4,p5,p6,p7,_⟩:=A8 hpa2;obtain⟨q0,q1,q2,q3,q4,q5,q6,q7,_⟩:=A8 hpb;have HBW:=Ax (hbW1.trans (hbW2.mono hbW1.size));have HPA:=Ax hpa2;have HPB:=Ax hpb;exact zyh
     obtain⟨W1,hW1⟩:∃W1,wo.alloc (.cells #[.int .u8 op1,.int .u8 vk1,.int .i64 vn1,.string ⟨vs1.toArray⟩,.string ⟨nm1.toArray⟩,.slice ak' k2.length ck',.int .i64 ln2,.int .i64 cl2] 43)=W1:=⟨_,rfl⟩;obtain⟨W2,hW2⟩:∃W2,(W1.alloc (.cells #[.int .u8 op1,.int .u8 vk1,.int .i64 vn1,.string ⟨vs1.toArray⟩,.string ⟨nm1.toArray⟩,.slice ak k1.length ck,.int .i64 ln1,.int .i64 cl1] 43)).drew=W2:=⟨_,rfl⟩;have hpa:=Az wo (.cells #[.int .u8 op1,.int .u8 vk1,.int .i64 vn1,.string ⟨vs1.toArray⟩,.string ⟨nm1.toArray⟩,.slice ak' k2.length ck',.int .i64 ln2,.int .i64 cl2] 43);have hsz:W1.heap.size=wo.heap.size+1:=by rw[←hW1];simp
     have hbW1:Below wo.heap.size wo W1:=by rw[←hW1];exact(Aq _ wo).alloc (Ak _) _
     have hbW2:Below W1.heap.size W1 W2:=by rw[←hW2];exact((Aq _ W1).alloc (Ak _) _).drew
     have hpb:W2.heap[wo.heap.size+1]? =some (.cells #[.int .u8 op1,.int .u8 vk1,.int .i64 vn1,.string ⟨vs1.toArray⟩,.string ⟨nm1.toArray⟩,.slice ak k1.length ck,.int .i64 ln1,.int .i64 cl1] 43):=by rw[←hW2,←hsz];exact Az W1 (.cells #[.int .u8 op1,.int .u8 vk1,.int .i64 vn1,.string ⟨vs1.toArray⟩,.string ⟨nm1.toArray⟩,.slice ak k1.length ck,.int .i64 ln1,.int .i64 cl1] 43)
     rw[hW1] at hpa;have hpa2:=(hbW2.block _ (Ay hpa)).trans hpa;rw[hW1,hW2];obtain⟨p0,p1,p2,p3,p4,p5,p6,p7,_⟩:=A8 hpb;obtain⟨q0,q1,q2,q3,q4,q5,q6,q7,_⟩:=A8 hpa2;have HBW:=Ax (hbW1.trans (hbW2.mono hbW1.size));have HPA:=Ax hpb;have HPB:=Ax hpa2;exact zyh
    injection d5 with e1 e2;subst e1 e2;go_wp2_with fail;go_region
    ·obtain⟨W1,hW1⟩:∃W1,wo.alloc (.cells #[.int .u8 op1,.int .u8 vk1,.int .i64 vn1,.string ⟨vs1.toArray⟩,.string ⟨nm1.toArray⟩,.slice ak k1.length ck,.int .i64 ln1,.int .i64 cl1] 43)=W1:=⟨_,rfl⟩;obtain⟨W2,hW2⟩:∃W2,(W1.alloc (.cells #[.int .u8 op1,.int .u8 vk1,.int .i64 vn1,.string ⟨vs1.toArray⟩,.string ⟨nm1.toArray⟩,.slice ak' k2.length ck',.int .i64 ln1,.int .i64 cl1] 43)).drew=W2:=⟨_,rfl⟩;have hpa:=Az wo (.cells #[.int .u8 op1,.int .u8 vk1,.int .i64 vn1,.string ⟨vs1.toArray⟩,.string ⟨nm1.toArray⟩,.slice ak k1.length ck,.int .i64 ln1,.int .i64 cl1] 43);have hsz:W1.heap.size=wo.heap.size+1:=by rw[←hW1];simp
     have hbW1:Below wo.heap.size wo W1:=by rw[←hW1];exact(Aq _ wo).alloc (Ak _) _
     have hbW2:Below W1.heap.size W1 W2:=by rw[←hW2];exact((Aq _ W1).alloc (Ak _) _).drew
     have hpb:W2.heap[wo.heap.size+1]? =some (.cells #[.int .u8 op1,.int .u8 vk1,.int .i64 vn1,.string ⟨vs1.toArray⟩,.string ⟨nm1.toArray⟩,.slice ak' k2.length ck',.int .i64 ln1,.int .i64 cl1] 43):=by rw[←hW2,←hsz];exact Az W1 (.cells #[.int .u8 op1,.int .u8 vk1,.int .i64 vn1,.string ⟨vs1.toArray⟩,.string ⟨nm1.toArray⟩,.slice ak' k2.length ck',.int .i64 ln1,.int .i64 cl1] 43)
     rw[hW1] at hpa;have hpa2:=(hbW2.block _ (Ay hpa)).trans hpa;rw[hW1,hW2];obtain⟨p0,p1,p2,p3,p4,p5,p6,p7,_⟩:=A8 hpa2;obtain⟨q0,q1,q2,q3,q4,q5,q6,q7,_⟩:=A8 hpb;have HBW:=Ax (hbW1.trans (hbW2.mono hbW1.size));have HPA:=Ax hpa2;have HPB:=Ax hpb;have HBL:=Ax (hb.out.trans ((hbW1.trans (hbW2.mono hbW1.size)).mono hb.out.size));clear hpa hsz hbW1 hbW2 hpb hpa2 hW1 hW2 x0 x1 x2 x3 x4 x5 x6 x7 y0 y1 y2 y3 y4 y5 y6 y7 hbx hby hb;go_wp2_with fail
     go_loopw [10] (fun vk wx=>∃k:Nat,k<=k1.length/\vk= .int .i64 k/\Hid (Below W2.heap.size W2 wx)/\∀(i:Nat) (_:i<k) (h1:i<k1.length) (h2:i<k2.length),k1[i]=k2[i]) (fun vk _=>k1.length - (intOf vk).toNat)
     case atStart=>exact⟨0,Nat.zero_le _,rfl,Aq _ _,fun i h=>absurd h (Nat.not_lt_zero _)⟩
     obtain⟨k,hk,rfl,hbk,hke⟩:=hrel;obtain⟨_,_,_,_,_,r5,_⟩:=A8 ((hbk.out.block _ (Ay HPA.out)).trans HPA.out);obtain⟨_,_,_,_,_,s5,_⟩:=A8 ((hbk.out.block _ (Ay HPB.out)).trans HPB.out);clear p0 p1 p2 p3 p4 p5 p6 p7 q0 q1 q2 q3 q4 q5 q6 q7;have HKE:=Ax hke;clear hke;by_cases hkl:k<k1.length
     ·exact zz6
     obtain rfl:k=k1.length:=by omega
     have HB2:=Ax (HBL.out.trans (hbk.out.mono HBL.out.size));have l3:decide ((k1.length:Int)<(k1.length:Int))=false:=by simp
     have hk12:k1=k2:=List.ext_getElem HL4.out (fun i h1 h2=>HKE.out i h1 h1 h2);have HEQ:=Ax (HEQ0.out false tQ);exact zzc
    obtain⟨W1,hW1⟩:∃W1,wo.alloc (.cells #[.int .u8 op1,.int .u8 vk1,.int .i64 vn1,.string ⟨vs1.toArray⟩,.string ⟨nm1.toArray⟩,.slice ak' k2.length ck',.int .i64 ln1,.int .i64 cl1] 43)=W1:=⟨_,rfl⟩;obtain⟨W2,hW2⟩:∃W2,(W1.alloc (.cells #[.int .u8 op1,.int .u8 vk1,.int .i64 vn1,.string ⟨vs1.toArray⟩,.string ⟨nm1.toArray⟩,.slice ak k1.length ck,.int .i64 ln1,.int .i64 cl1] 43)).drew=W2:=⟨_,rfl⟩;have hpa:=Az wo (.cells #[.int .u8 op1,.int .u8 vk1,.int .i64 vn1,.string ⟨vs1.toArray⟩,.string ⟨nm1.toArray⟩,.slice ak' k2.length ck',.int .i64 ln1,.int .i64 cl1] 43);have hsz:W1.heap.size=wo.heap.size+1:=by rw[←hW1];simp
    have hbW1:Below wo.heap.size wo W1:=by rw[←hW1];exact(Aq _ wo).alloc (Ak _) _
    have hbW2:Below W1.heap.size W1 W2:=by rw[←hW2];exact((Aq _ W1).alloc (Ak _) _).drew
    have hpb:W2.heap[wo.heap.size+1]? =some (.cells #[.int .u8 op1,.int .u8 vk1,.int .i64 vn1,.string ⟨vs1.toArray⟩,.string ⟨nm1.toArray⟩,.slice ak k1.length ck,.int .i64 ln1,.int .i64 cl1] 43):=by rw[←hW2,←hsz];exact Az W1 (.cells #[.int .u8 op1,.int .u8 vk1,.int .i64 vn1,.string ⟨vs1.toArray⟩,.string ⟨nm1.toArray⟩,.slice ak k1.length ck,.int .i64 ln1,.int .i64 cl1] 43)
    rw[hW1] at hpa;have hpa2:=(hbW2.block _ (Ay hpa)).trans hpa;rw[hW1,hW2];obtain⟨p0,p1,p2,p3,p4,p5,p6,p7,_⟩:=A8 hpb;obtain⟨q0,q1,q2,q3,q4,q5,q6,q7,_⟩:=A8 hpa2;have HBW:=Ax (hbW1.trans (hbW2.mono hbW1.size));have HPA:=Ax hpb;have HPB:=Ax hpa2;have HBL:=Ax (hb.out.trans ((hbW1.trans (hbW2.mono hbW1.size)).mono hb.out.size));clear hpa hsz hbW1 hbW2 hpb hpa2 hW1 hW2 x0 x1 x2 x3 x4 x5 x6 x7 y0 y1 y2 y3 y4 y5 y6 y7 hbx hby hb;go_wp2_with fail
    go_loopw [10] (fun vk wx=>∃k:Nat,k<=k1.length/\vk= .int .i64 k/\Hid (Below W2.heap.size W2 wx)/\∀(i:Nat) (_:i<k) (h1:i<k1.length) (h2:i<k2.length),k1[i]=k2[i]) (fun vk _=>k1.length - (intOf vk).toNat)
    case atStart=>exact⟨0,Nat.zero_le _,rfl,Aq _ _,fun i h=>absurd h (Nat.not_lt_zero _)⟩
    obtain⟨k,hk,rfl,hbk,hke⟩:=hrel;obtain⟨_,_,_,_,_,r5,_⟩:=A8 ((hbk.out.block _ (Ay HPA.out)).trans HPA.out);obtain⟨_,_,_,_,_,s5,_⟩:=A8 ((hbk.out.block _ (Ay HPB.out)).trans HPB.out);clear p0 p1 p2 p3 p4 p5 p6 p7 q0 q1 q2 q3 q4 q5 q6 q7;have HKE:=Ax hke;clear hke;by_cases hkl:k<k1.length
    ·exact zz6
    obtain rfl:k=k1.length:=by omega
    have HB2:=Ax (HBL.out.trans (hbk.out.mono HBL.out.size));have l3:decide ((k1.length:Int)<(k1.length:Int))=false:=by simp
    have hk12:k1=k2:=List.ext_getElem HL4.out (fun i h1 h2=>HKE.out i h1 h1 h2);have HEQ:=Ax (HEQ0.out false tQ);exact zzc
  obtain rfl:j=l.length:=by omega
  have HB:=Ax hb.out;have HT:=Ax (show rr=true from HRR.out.symm.trans (Yr HN.out fun i h1 h2=>hall i h1 h1 h2));clear hb hall;go_wp2_with fail;go_ret;exact⟨by rw[HT.out];rfl,HB.out⟩
 have n1:((l.length:Int)==(m.length:Int))=false:=Af.2 qO;have n2:((l.length:Int) !=(m.length:Int))=true:=by rw[bne,n1];rfl
 have n3:(l.length==m.length)=false:=Af.2 hn;have n4:(l.length !=m.length)=true:=by rw[bne,n3];rfl
 have HF:=Ax (show rr=false by cases hr:rr with|false=>rfl|true=>exact absurd (Xt (HRR.out.trans hr)) hn);have HW:=Ax (Aq w.heap.size w);clear hn hl1 hm1;go_enter Tryz.func22,Tryz.ntmps22;go_wp2_with fail;go_ret;exact⟨by rw[HF.out];rfl,HW.out⟩
end Go.Proofs.YtgfakdobajgnfaaGreatDoor
