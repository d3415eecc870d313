import Derived.BigQuiet
import Derived.Test.YtgfakdobajgnfaaGreatDoorQk12
set_option maxRecDepth 100000
set_option maxHeartbeats 16000000
namespace Go.Proofs.YtgfakdobajgnfaaGreatDoor
open Go Go.RowKit Go.Lib
def eqB (bare:Bool)(x y:Nz):Bool:=Dx x y && (bare||(decide (x.h.line=y.h.line) && decide (x.h.col=y.h.col)))
def Qr (bare:Bool):List Nz->List Nz->Bool
 |[],[]=>true
 |x::l,y::m=>eqB bare x y && Qr bare l m
 |_,_=>false
theorem Yv {bare:Bool}:∀{l m:List Nz},Qr bare l m=true->l.length=m.length
 |[],[],_=>rfl
 |[],_::_,h=>by cases h
 |_::_,[],h=>by cases h
 |x::l,y::m,h=>by
  simp only[Qr,Bool.and_eq_true] at h;simp only[Aa,Yv h.2]
theorem cR {bare:Bool}:∀{l m:List Nz},Qr bare l m=true->∀(i:Nat) (h1:i<l.length) (h2:i<m.length),eqB bare l[i] m[i]=true
 |x::l,y::m,h,0,_,_=>by
  simp only[Qr,Bool.and_eq_true] at h;exact h.1
 |x::l,y::m,h,i+1,h1,h2=>by
  simp only[Qr,Bool.and_eq_true] at h;exact cR h.2 i sU uD
theorem Xq {bare:Bool}:∀{l m:List Nz},l.length=m.length->(∀(i:Nat) (h1:i<l.length) (h2:i<m.length),eqB bare l[i] m[i]=true)->Qr bare l m=true
 |[],[],_,_=>rfl
 |[],_::_,h,_=>by simp at h
 |_::_,[],h,_=>by simp at h
 |x::l,y::m,h,g=>by
  simp only[Qr,Bool.and_eq_true];exact⟨g 0 rI rI,Xq sD fun i h1 h2=>g (i+1) sU uD⟩
theorem Tw:∀(l m:List Nz),Qr true l m=Dl l m
 |[],[]=>rfl
 |[],_::_=>rfl
 |_::_,[]=>rfl
 |x::l,y::m=>by simp [Qr,Dl,eqB,Tw l m]
theorem fM (bare:Bool){v1 v2:Value}{l m:List Nz}(w:World)(hx:TrZ w v1 l)(hy:TrZ w v2 m):Calls Tryz.prog 22 #[v1,v2,.bool bare] w fun e w'=>e= .returned (.bool (Qr bare l m))/\Below w.heap.size w w':=by
 have n9:=hx.1;have p8:=hy.1;have HX:=Ax hx;have HY:=Ax hy;obtain⟨_,a,c,rfl,_⟩:=hx;obtain⟨_,a',c',rfl,_⟩:=hy;obtain⟨rr,a8⟩:∃rr,Qr bare l m=rr:=⟨_,rfl⟩;rw[a8];have b7:=Ax a8;clear a8;by_cases hn:l.length=m.length
 ·have HN:=Ax hn;have n1:((l.length:Int)==(m.length:Int))=true:=by rw[hn];simp
  have n2:((l.length:Int) !=(m.length:Int))=false:=by rw[bne,n1];rfl
  have n3:(l.length==m.length)=true:=by rw[hn];simp
  have n4:(l.length !=m.length)=false:=by rw[bne,n3];rfl
  clear hn;go_enter Tryz.func22,Tryz.ntmps22;go_wp2_with fail
  go_loopw [7] (fun vi wr=>∃j:Nat,j<=l.length/\vi= .int .i64 j/\Hid (Below w.heap.size w wr)/\∀(i:Nat) (_:i<j) (h1:i<l.length) (h2:i<m.length),eqB bare l[i] m[i]=true) (fun vi _=>l.length - (intOf vi).toNat)
  case atStart=>exact⟨0,Nat.zero_le _,rfl,Aq _ _,fun i h=>absurd h (Nat.not_lt_zero _)⟩
  obtain⟨n,rfl⟩:∃n:World,n=wr:=⟨_,rfl⟩;obtain⟨j,hj,rfl,hb,Y⟩:=hrel;by_cases hjl:j<l.length
  ·have i7:j<m.length:=by rw[←HN.out];exact hjl
   have r7:=HX.out.below hb.out;have r8:=HY.out.below hb.out;obtain⟨_,ax,cx,ex,j8⟩:=r7;obtain⟨_,ay,cy,ey,j9⟩:=r8;injection ex with ex1 ex0 ex2;injection ey with ey1 ey0 ey2;subst ex1 ex2 ey1 ey2;clear ex0 ey0;obtain⟨bx,ox,kx,rfl,b8,d8⟩:=j8 j hjl;obtain⟨r9,oy,ky,rfl,f7,f8⟩:=j9 j i7;have HAT:Hid (rr=true->eqB bare l[j] m[j]=true):=Ax (fun hr=>cR (b7.out.trans hr) j hjl i7);obtain⟨⟨k8,k1⟩,e1⟩:∃z,l[j]=z:=⟨_,rfl⟩;obtain⟨⟨l7,k2⟩,e2⟩:∃z,m[j]=z:=⟨_,rfl⟩;rw[e1,e2] at HAT;have s7:=Ax (And.intro e1 e2);have Z:=Ax (fun(bb:Bool) (h:eqB bb ⟨k8,k1⟩ ⟨l7,k2⟩=true)=>(show eqB bb l[j] m[j]=true by rw[e1,e2];exact h));rw[e1] at b8 d8;rw[e2] at f7 f8;simp only at b8 d8 f7 f8;obtain⟨f,⟨vk1,vn1,vs1⟩,g,ln1,cl1⟩:=k8;obtain⟨A,⟨vk2,vn2,vs2⟩,x,ln2,cl2⟩:=l7;obtain⟨s8,u,v,rfl,f9⟩:=d8;obtain⟨s9,o,p,rfl,i6⟩:=f8;obtain⟨x0,x1,x2,x3,x4,x5,x6,x7⟩:=b8;obtain⟨y0,y1,y2,y3,y4,y5,y6,y7⟩:=f7;simp only at x0 x1 x2 x3 x4 x5 x6 x7 y0 y1 y2 y3 y4 y5 y6 y7 f9 i6;have HKX:=Ax f9;have HKY:=Ax i6;have hbx:bx<n.heap.size:=Bn x0;have hby:r9<n.heap.size:=Bn y0;have i1:(0:Int)<=(j:Int):=by omega
   have i2:(j:Int)<(l.length:Int):=by omega
   have i3:decide ((j:Int)<(l.length:Int))=true:=Am i2;have i4:(j:Int)<(m.length:Int):=by omega
   have hJ:=Ax hj;have w7:=Ax hjl;have HALL:=Ax Y;clear j8 j9 e1 e2 f9 i6 Y;by_cases d1:f=A;rotate_left
   ·have t1:(f==A)=false:=Af.2 d1;have t2:(f !=A)=true:=by rw[bne,t1];rfl
    have HF:=Ax (show rr=false by cases hr:rr with|false=>rfl|true=>exact absurd (HAT.out hr) tY);go_wp2_with fail;go_region
    ·obtain⟨d,hW1⟩:∃d,n.alloc (.cells #[.int .u8 f,.int .u8 vk1,.int .i64 vn1,.string ⟨vs1.toArray⟩,.string ⟨g.toArray⟩,.slice u k1.length v,.int .i64 ln1,.int .i64 cl1] 43)=d:=⟨_,rfl⟩;obtain⟨W2,hW2⟩:∃W2,(d.alloc (.cells #[.int .u8 A,.int .u8 vk2,.int .i64 vn2,.string ⟨vs2.toArray⟩,.string ⟨x.toArray⟩,.slice o k2.length p,.int .i64 ln2,.int .i64 cl2] 43)).drew=W2:=⟨_,rfl⟩;have hpa:=Az n (.cells #[.int .u8 f,.int .u8 vk1,.int .i64 vn1,.string ⟨vs1.toArray⟩,.string ⟨g.toArray⟩,.slice u k1.length v,.int .i64 ln1,.int .i64 cl1] 43);have hsz:d.heap.size=n.heap.size+1:=by rw[←hW1];simp
     have hbW1:Below n.heap.size n d:=by rw[←hW1];exact(Aq _ n).alloc (Ak _) _
     have hbW2:Below d.heap.size d W2:=by rw[←hW2];exact((Aq _ d).alloc (Ak _) _).drew
     have hpb:W2.heap[n.heap.size+1]? =some (.cells #[.int .u8 A,.int .u8 vk2,.int .i64 vn2,.string ⟨vs2.toArray⟩,.string ⟨x.toArray⟩,.slice o k2.length p,.int .i64 ln2,.int .i64 cl2] 43):=by rw[←hW2,←hsz];exact Az d (.cells #[.int .u8 A,.int .u8 vk2,.int .i64 vn2,.string ⟨vs2.toArray⟩,.string ⟨x.toArray⟩,.slice o k2.length p,.int .i64 ln2,.int .i64 cl2] 43)
     rw[hW1] at hpa;have hpa2:=(hbW2.block _ (Ay hpa)).trans hpa;rw[hW1,hW2];obtain⟨C,D,E,F,G,I,L,M,_⟩:=A6 hpa2;obtain⟨N,O,R,T,U,V,W,X,_⟩:=A6 hpb;have HBW:=Ax (hbW1.trans (hbW2.mono hbW1.size));have q:=Ax hpa2;have r:=Ax hpb;exact zxz
    obtain⟨d,hW1⟩:∃d,n.alloc (.cells #[.int .u8 A,.int .u8 vk2,.int .i64 vn2,.string ⟨vs2.toArray⟩,.string ⟨x.toArray⟩,.slice o k2.length p,.int .i64 ln2,.int .i64 cl2] 43)=d:=⟨_,rfl⟩;obtain⟨W2,hW2⟩:∃W2,(d.alloc (.cells #[.int .u8 f,.int .u8 vk1,.int .i64 vn1,.string ⟨vs1.toArray⟩,.string ⟨g.toArray⟩,.slice u k1.length v,.int .i64 ln1,.int .i64 cl1] 43)).drew=W2:=⟨_,rfl⟩;have hpa:=Az n (.cells #[.int .u8 A,.int .u8 vk2,.int .i64 vn2,.string ⟨vs2.toArray⟩,.string ⟨x.toArray⟩,.slice o k2.length p,.int .i64 ln2,.int .i64 cl2] 43);have hsz:d.heap.size=n.heap.size+1:=by rw[←hW1];simp
    have hbW1:Below n.heap.size n d:=by rw[←hW1];exact(Aq _ n).alloc (Ak _) _
    have hbW2:Below d.heap.size d W2:=by rw[←hW2];exact((Aq _ d).alloc (Ak _) _).drew
    have hpb:W2.heap[n.heap.size+1]? =some (.cells #[.int .u8 f,.int .u8 vk1,.int .i64 vn1,.string ⟨vs1.toArray⟩,.string ⟨g.toArray⟩,.slice u k1.length v,.int .i64 ln1,.int .i64 cl1] 43):=by rw[←hW2,←hsz];exact Az d (.cells #[.int .u8 f,.int .u8 vk1,.int .i64 vn1,.string ⟨vs1.toArray⟩,.string ⟨g.toArray⟩,.slice u k1.length v,.int .i64 ln1,.int .i64 cl1] 43)
    rw[hW1] at hpa;have hpa2:=(hbW2.block _ (Ay hpa)).trans hpa;rw[hW1,hW2];obtain⟨C,D,E,F,G,I,L,M,_⟩:=A6 hpb;obtain⟨N,O,R,T,U,V,W,X,_⟩:=A6 hpa2;have HBW:=Ax (hbW1.trans (hbW2.mono hbW1.size));have q:=Ax hpb;have r:=Ax hpa2;exact zxz
   subst d1;by_cases d2:(vk1,vn1,vs1)=(vk2,vn2,vs2);rotate_left
   ·have HF:=Ax (show rr=false by cases hr:rr with|false=>rfl|true=>exact absurd (HAT.out hr) tY);go_wp2_with fail;go_region
    ·obtain⟨d,hW1⟩:∃d,n.alloc (.cells #[.int .u8 f,.int .u8 vk1,.int .i64 vn1,.string ⟨vs1.toArray⟩,.string ⟨g.toArray⟩,.slice u k1.length v,.int .i64 ln1,.int .i64 cl1] 43)=d:=⟨_,rfl⟩;obtain⟨W2,hW2⟩:∃W2,(d.alloc (.cells #[.int .u8 f,.int .u8 vk2,.int .i64 vn2,.string ⟨vs2.toArray⟩,.string ⟨x.toArray⟩,.slice o k2.length p,.int .i64 ln2,.int .i64 cl2] 43)).drew=W2:=⟨_,rfl⟩;have hpa:=Az n (.cells #[.int .u8 f,.int .u8 vk1,.int .i64 vn1,.string ⟨vs1.toArray⟩,.string ⟨g.toArray⟩,.slice u k1.length v,.int .i64 ln1,.int .i64 cl1] 43);have hsz:d.heap.size=n.heap.size+1:=by rw[←hW1];simp
     have hbW1:Below n.heap.size n d:=by rw[←hW1];exact(Aq _ n).alloc (Ak _) _
     have hbW2:Below d.heap.size d W2:=by rw[←hW2];exact((Aq _ d).alloc (Ak _) _).drew
     have hpb:W2.heap[n.heap.size+1]? =some (.cells #[.int .u8 f,.int .u8 vk2,.int .i64 vn2,.string ⟨vs2.toArray⟩,.string ⟨x.toArray⟩,.slice o k2.length p,.int .i64 ln2,.int .i64 cl2] 43):=by rw[←hW2,←hsz];exact Az d (.cells #[.int .u8 f,.int .u8 vk2,.int .i64 vn2,.string ⟨vs2.toArray⟩,.string ⟨x.toArray⟩,.slice o k2.length p,.int .i64 ln2,.int .i64 cl2] 43)
     rw[hW1] at hpa;have hpa2:=(hbW2.block _ (Ay hpa)).trans hpa;rw[hW1,hW2];obtain⟨C,D,E,F,G,I,L,M,_⟩:=A6 hpa2;obtain⟨N,O,R,T,U,V,W,X,_⟩:=A6 hpb;have HBW:=Ax (hbW1.trans (hbW2.mono hbW1.size));have q:=Ax hpa2;have r:=Ax hpb;exact zye
    obtain⟨d,hW1⟩:∃d,n.alloc (.cells #[.int .u8 f,.int .u8 vk2,.int .i64 vn2,.string ⟨vs2.toArray⟩,.string ⟨x.toArray⟩,.slice o k2.length p,.int .i64 ln2,.int .i64 cl2] 43)=d:=⟨_,rfl⟩;obtain⟨W2,hW2⟩:∃W2,(d.alloc (.cells #[.int .u8 f,.int .u8 vk1,.int .i64 vn1,.string ⟨vs1.toArray⟩,.string ⟨g.toArray⟩,.slice u k1.length v,.int .i64 ln1,.int .i64 cl1] 43)).drew=W2:=⟨_,rfl⟩;have hpa:=Az n (.cells #[.int .u8 f,.int .u8 vk2,.int .i64 vn2,.string ⟨vs2.toArray⟩,.string ⟨x.toArray⟩,.slice o k2.length p,.int .i64 ln2,.int .i64 cl2] 43);have hsz:d.heap.size=n.heap.size+1:=by rw[←hW1];simp
    have hbW1:Below n.heap.size n d:=by rw[←hW1];exact(Aq _ n).alloc (Ak _) _
    have hbW2:Below d.heap.size d W2:=by rw[←hW2];exact((Aq _ d).alloc (Ak _) _).drew
    have hpb:W2.heap[n.heap.size+1]? =some (.cells #[.int .u8 f,.int .u8 vk1,.int .i64 vn1,.string ⟨vs1.toArray⟩,.string ⟨g.toArray⟩,.slice u k1.length v,.int .i64 ln1,.int .i64 cl1] 43):=by rw[←hW2,←hsz];exact Az d (.cells #[.int .u8 f,.int .u8 vk1,.int .i64 vn1,.string ⟨vs1.toArray⟩,.string ⟨g.toArray⟩,.slice u k1.length v,.int .i64 ln1,.int .i64 cl1] 43)
    rw[hW1] at hpa;have hpa2:=(hbW2.block _ (Ay hpa)).trans hpa;rw[hW1,hW2];obtain⟨C,D,E,F,G,I,L,M,_⟩:=A6 hpb;obtain⟨N,O,R,T,U,V,W,X,_⟩:=A6 hpa2;have HBW:=Ax (hbW1.trans (hbW2.mono hbW1.size));have q:=Ax hpb;have r:=Ax hpa2;exact zye
   injection d2 with e1 d2;injection d2 with e2 e3;subst e1 e2 e3;by_cases d3:g=x;rotate_left
   ·have HF:=Ax (show rr=false by cases hr:rr with|false=>rfl|true=>exact absurd (HAT.out hr) tY);go_wp2_with fail;go_region
    ·obtain⟨d,hW1⟩:∃d,n.alloc (.cells #[.int .u8 f,.int .u8 vk1,.int .i64 vn1,.string ⟨vs1.toArray⟩,.string ⟨g.toArray⟩,.slice u k1.length v,.int .i64 ln1,.int .i64 cl1] 43)=d:=⟨_,rfl⟩;obtain⟨W2,hW2⟩:∃W2,(d.alloc (.cells #[.int .u8 f,.int .u8 vk1,.int .i64 vn1,.string ⟨vs1.toArray⟩,.string ⟨x.toArray⟩,.slice o k2.length p,.int .i64 ln2,.int .i64 cl2] 43)).drew=W2:=⟨_,rfl⟩;have hpa:=Az n (.cells #[.int .u8 f,.int .u8 vk1,.int .i64 vn1,.string ⟨vs1.toArray⟩,.string ⟨g.toArray⟩,.slice u k1.length v,.int .i64 ln1,.int .i64 cl1] 43);have hsz:d.heap.size=n.heap.size+1:=by rw[←hW1];simp
     have hbW1:Below n.heap.size n d:=by rw[←hW1];exact(Aq _ n).alloc (Ak _) _
     have hbW2:Below d.heap.size d W2:=by rw[←hW2];exact((Aq _ d).alloc (Ak _) _).drew
     have hpb:W2.heap[n.heap.size+1]? =some (.cells #[.int .u8 f,.int .u8 vk1,.int .i64 vn1,.string ⟨vs1.toArray⟩,.string ⟨x.toArray⟩,.slice o k2.length p,.int .i64 ln2,.int .i64 cl2] 43):=by rw[←hW2,←hsz];exact Az d (.cells #[.int .u8 f,.int .u8 vk1,.int .i64 vn1,.string ⟨vs1.toArray⟩,.string ⟨x.toArray⟩,.slice o k2.length p,.int .i64 ln2,.int .i64 cl2] 43)
     rw[hW1] at hpa;have hpa2:=(hbW2.block _ (Ay hpa)).trans hpa;rw[hW1,hW2];obtain⟨C,D,E,F,G,I,L,M,_⟩:=A6 hpa2;obtain⟨N,O,R,T,U,V,W,X,_⟩:=A6 hpb;have HBW:=Ax (hbW1.trans (hbW2.mono hbW1.size));have q:=Ax hpa2;have r:=Ax hpb;exact zxy
    obtain⟨d,hW1⟩:∃d,n.alloc (.cells #[.int .u8 f,.int .u8 vk1,.int .i64 vn1,.string ⟨vs1.toArray⟩,.string ⟨x.toArray⟩,.slice o k2.length p,.int .i64 ln2,.int .i64 cl2] 43)=d:=⟨_,rfl⟩;obtain⟨W2,hW2⟩:∃W2,(d.alloc (.cells #[.int .u8 f,.int .u8 vk1,.int .i64 vn1,.string ⟨vs1.toArray⟩,.string ⟨g.toArray⟩,.slice u k1.length v,.int .i64 ln1,.int .i64 cl1] 43)).drew=W2:=⟨_,rfl⟩;have hpa:=Az n (.cells #[.int .u8 f,.int .u8 vk1,.int .i64 vn1,.string ⟨vs1.toArray⟩,.string ⟨x.toArray⟩,.slice o k2.length p,.int .i64 ln2,.int .i64 cl2] 43);have hsz:d.heap.size=n.heap.size+1:=by rw[←hW1];simp
    have hbW1:Below n.heap.size n d:=by rw[←hW1];exact(Aq _ n).alloc (Ak _) _
    have hbW2:Below d.heap.size d W2:=by rw[←hW2];exact((Aq _ d).alloc (Ak _) _).drew
    have hpb:W2.heap[n.heap.size+1]? =some (.cells #[.int .u8 f,.int .u8 vk1,.int .i64 vn1,.string ⟨vs1.toArray⟩,.string ⟨g.toArray⟩,.slice u k1.length v,.int .i64 ln1,.int .i64 cl1] 43):=by rw[←hW2,←hsz];exact Az d (.cells #[.int .u8 f,.int .u8 vk1,.int .i64 vn1,.string ⟨vs1.toArray⟩,.string ⟨g.toArray⟩,.slice u k1.length v,.int .i64 ln1,.int .i64 cl1] 43)
    rw[hW1] at hpa;have hpa2:=(hbW2.block _ (Ay hpa)).trans hpa;rw[hW1,hW2];obtain⟨C,D,E,F,G,I,L,M,_⟩:=A6 hpb;obtain⟨N,O,R,T,U,V,W,X,_⟩:=A6 hpa2;have HBW:=Ax (hbW1.trans (hbW2.mono hbW1.size));have q:=Ax hpb;have r:=Ax hpa2;exact zxy
   subst d3;by_cases d4:k1.length=k2.length;rotate_left
   ·have t1:((k1.length:Int)==(k2.length:Int))=false:=Af.2 rF;have t2:((k1.length:Int) !=(k2.length:Int))=true:=by rw[bne,t1];rfl
    have t3:(k1.length==k2.length)=false:=Af.2 d4;have t4:(k1.length !=k2.length)=true:=by rw[bne,t3];rfl
    have d5:¬k1=k2:=fun e=>d4 (by rw[e])
    have HF:=Ax (show rr=false by cases hr:rr with|false=>rfl|true=>exact absurd (HAT.out hr) tY);go_wp2_with fail;go_region
    ·obtain⟨d,hW1⟩:∃d,n.alloc (.cells #[.int .u8 f,.int .u8 vk1,.int .i64 vn1,.string ⟨vs1.toArray⟩,.string ⟨g.toArray⟩,.slice u k1.length v,.int .i64 ln1,.int .i64 cl1] 43)=d:=⟨_,rfl⟩;obtain⟨W2,hW2⟩:∃W2,(d.alloc (.cells #[.int .u8 f,.int .u8 vk1,.int .i64 vn1,.string ⟨vs1.toArray⟩,.string ⟨g.toArray⟩,.slice o k2.length p,.int .i64 ln2,.int .i64 cl2] 43)).drew=W2:=⟨_,rfl⟩;have hpa:=Az n (.cells #[.int .u8 f,.int .u8 vk1,.int .i64 vn1,.string ⟨vs1.toArray⟩,.string ⟨g.toArray⟩,.slice u k1.length v,.int .i64 ln1,.int .i64 cl1] 43);have hsz:d.heap.size=n.heap.size+1:=by rw[←hW1];simp
     have hbW1:Below n.heap.size n d:=by rw[←hW1];exact(Aq _ n).alloc (Ak _) _
     have hbW2:Below d.heap.size d W2:=by rw[←hW2];exact((Aq _ d).alloc (Ak _) _).drew
     have hpb:W2.heap[n.heap.size+1]? =some (.cells #[.int .u8 f,.int .u8 vk1,.int .i64 vn1,.string ⟨vs1.toArray⟩,.string ⟨g.toArray⟩,.slice o k2.length p,.int .i64 ln2,.int .i64 cl2] 43):=by rw[←hW2,←hsz];exact Az d (.cells #[.int .u8 f,.int .u8 vk1,.int .i64 vn1,.string ⟨vs1.toArray⟩,.string ⟨g.toArray⟩,.slice o k2.length p,.int .i64 ln2,.int .i64 cl2] 43)
     rw[hW1] at hpa;have hpa2:=(hbW2.block _ (Ay hpa)).trans hpa;rw[hW1,hW2];obtain⟨C,D,E,F,G,I,L,M,_⟩:=A6 hpa2;obtain⟨N,O,R,T,U,V,W,X,_⟩:=A6 hpb;have HBW:=Ax (hbW1.trans (hbW2.mono hbW1.size));have q:=Ax hpa2;have r:=Ax hpb;exact zxx
    obtain⟨d,hW1⟩:∃d,n.alloc (.cells #[.int .u8 f,.int .u8 vk1,.int .i64 vn1,.string ⟨vs1.toArray⟩,.string ⟨g.toArray⟩,.slice o k2.length p,.int .i64 ln2,.int .i64 cl2] 43)=d:=⟨_,rfl⟩;obtain⟨W2,hW2⟩:∃W2,(d.alloc (.cells #[.int .u8 f,.int .u8 vk1,.int .i64 vn1,.string ⟨vs1.toArray⟩,.string ⟨g.toArray⟩,.slice u k1.length v,.int .i64 ln1,.int .i64 cl1] 43)).drew=W2:=⟨_,rfl⟩;have hpa:=Az n (.cells #[.int .u8 f,.int .u8 vk1,.int .i64 vn1,.string ⟨vs1.toArray⟩,.string ⟨g.toArray⟩,.slice o k2.length p,.int .i64 ln2,.int .i64 cl2] 43);have hsz:d.heap.size=n.heap.size+1:=by rw[←hW1];simp
    have hbW1:Below n.heap.size n d:=by rw[←hW1];exact(Aq _ n).alloc (Ak _) _
    have hbW2:Below d.heap.size d W2:=by rw[←hW2];exact((Aq _ d).alloc (Ak _) _).drew
    have hpb:W2.heap[n.heap.size+1]? =some (.cells #[.int .u8 f,.int .u8 vk1,.int .i64 vn1,.string ⟨vs1.toArray⟩,.string ⟨g.toArray⟩,.slice u k1.length v,.int .i64 ln1,.int .i64 cl1] 43):=by rw[←hW2,←hsz];exact Az d (.cells #[.int .u8 f,.int .u8 vk1,.int .i64 vn1,.string ⟨vs1.toArray⟩,.string ⟨g.toArray⟩,.slice u k1.length v,.int .i64 ln1,.int .i64 cl1] 43)
    rw[hW1] at hpa;have hpa2:=(hbW2.block _ (Ay hpa)).trans hpa;rw[hW1,hW2];obtain⟨C,D,E,F,G,I,L,M,_⟩:=A6 hpb;obtain⟨N,O,R,T,U,V,W,X,_⟩:=A6 hpa2;have HBW:=Ax (hbW1.trans (hbW2.mono hbW1.size));have q:=Ax hpb;have r:=Ax hpa2;exact zxx
   have t1:((k1.length:Int)==(k2.length:Int))=true:=by rw[d4];simp
   have t2:((k1.length:Int) !=(k2.length:Int))=false:=by rw[bne,t1];rfl
   have t3:(k1.length==k2.length)=true:=by rw[d4];simp
   have t4:(k1.length !=k2.length)=false:=by rw[bne,t3];rfl
   have HL4:=Ax d4;clear d4;cases bare with
   |true=>
    go_wp2_with fail;go_region
    ·obtain⟨d,hW1⟩:∃d,n.alloc (.cells #[.int .u8 f,.int .u8 vk1,.int .i64 vn1,.string ⟨vs1.toArray⟩,.string ⟨g.toArray⟩,.slice u k1.length v,.int .i64 ln1,.int .i64 cl1] 43)=d:=⟨_,rfl⟩;obtain⟨W2,hW2⟩:∃W2,(d.alloc (.cells #[.int .u8 f,.int .u8 vk1,.int .i64 vn1,.string ⟨vs1.toArray⟩,.string ⟨g.toArray⟩,.slice o k2.length p,.int .i64 ln2,.int .i64 cl2] 43)).drew=W2:=⟨_,rfl⟩;have hpa:=Az n (.cells #[.int .u8 f,.int .u8 vk1,.int .i64 vn1,.string ⟨vs1.toArray⟩,.string ⟨g.toArray⟩,.slice u k1.length v,.int .i64 ln1,.int .i64 cl1] 43);have hsz:d.heap.size=n.heap.size+1:=by rw[←hW1];simp
     have hbW1:Below n.heap.size n d:=by rw[←hW1];exact(Aq _ n).alloc (Ak _) _
     have hbW2:Below d.heap.size d W2:=by rw[←hW2];exact((Aq _ d).alloc (Ak _) _).drew
     have hpb:W2.heap[n.heap.size+1]? =some (.cells #[.int .u8 f,.int .u8 vk1,.int .i64 vn1,.string ⟨vs1.toArray⟩,.string ⟨g.toArray⟩,.slice o k2.length p,.int .i64 ln2,.int .i64 cl2] 43):=by rw[←hW2,←hsz];exact Az d (.cells #[.int .u8 f,.int .u8 vk1,.int .i64 vn1,.string ⟨vs1.toArray⟩,.string ⟨g.toArray⟩,.slice o k2.length p,.int .i64 ln2,.int .i64 cl2] 43)
     rw[hW1] at hpa;have hpa2:=(hbW2.block _ (Ay hpa)).trans hpa;rw[hW1,hW2];obtain⟨C,D,E,F,G,I,L,M,_⟩:=A6 hpa2;obtain⟨N,O,R,T,U,V,W,X,_⟩:=A6 hpb;have HBW:=Ax (hbW1.trans (hbW2.mono hbW1.size));have q:=Ax hpa2;have r:=Ax hpb;have HBL:=Ax (hb.out.trans ((hbW1.trans (hbW2.mono hbW1.size)).mono hb.out.size));clear hpa hsz hbW1 hbW2 hpb hpa2 hW1 hW2 x0 x1 x2 x3 x4 x5 x6 x7 y0 y1 y2 y3 y4 y5 y6 y7 hbx hby hb;go_wp2_with fail
     go_loopw [10] (fun vk wx=>∃k:Nat,k<=k1.length/\vk= .int .i64 k/\Hid (Below W2.heap.size W2 wx)/\∀(i:Nat) (_:i<k) (h1:i<k1.length) (h2:i<k2.length),k1[i]=k2[i]) (fun vk _=>k1.length - (intOf vk).toNat)
     case atStart=>exact⟨0,Nat.zero_le _,rfl,Aq _ _,fun i h=>absurd h (Nat.not_lt_zero _)⟩
     obtain⟨k,hk,rfl,hbk,y⟩:=hrel;obtain⟨_,_,_,_,_,r5,_⟩:=A6 ((hbk.out.block _ (Ay q.out)).trans q.out);obtain⟨_,_,_,_,_,s5,_⟩:=A6 ((hbk.out.block _ (Ay r.out)).trans r.out);clear C D E F G I L M N O R T U V W X;have HKE:=Ax y;clear y;by_cases hkl:k<k1.length
     ·exact zz4
     obtain rfl:k=k1.length:=by omega
     have HB2:=Ax (HBL.out.trans (hbk.out.mono HBL.out.size));have l3:decide ((k1.length:Int)<(k1.length:Int))=false:=by simp
     have hk12:k1=k2:=List.ext_getElem HL4.out (fun i h1 h2=>HKE.out i h1 h1 h2);have HEQ:=Ax (Z.out true uJ);exact zy5
    obtain⟨d,hW1⟩:∃d,n.alloc (.cells #[.int .u8 f,.int .u8 vk1,.int .i64 vn1,.string ⟨vs1.toArray⟩,.string ⟨g.toArray⟩,.slice o k2.length p,.int .i64 ln2,.int .i64 cl2] 43)=d:=⟨_,rfl⟩;obtain⟨W2,hW2⟩:∃W2,(d.alloc (.cells #[.int .u8 f,.int .u8 vk1,.int .i64 vn1,.string ⟨vs1.toArray⟩,.string ⟨g.toArray⟩,.slice u k1.length v,.int .i64 ln1,.int .i64 cl1] 43)).drew=W2:=⟨_,rfl⟩;have hpa:=Az n (.cells #[.int .u8 f,.int .u8 vk1,.int .i64 vn1,.string ⟨vs1.toArray⟩,.string ⟨g.toArray⟩,.slice o k2.length p,.int .i64 ln2,.int .i64 cl2] 43);have hsz:d.heap.size=n.heap.size+1:=by rw[←hW1];simp
    have hbW1:Below n.heap.size n d:=by rw[←hW1];exact(Aq _ n).alloc (Ak _) _
    have hbW2:Below d.heap.size d W2:=by rw[←hW2];exact((Aq _ d).alloc (Ak _) _).drew
    have hpb:W2.heap[n.heap.size+1]? =some (.cells #[.int .u8 f,.int .u8 vk1,.int .i64 vn1,.string ⟨vs1.toArray⟩,.string ⟨g.toArray⟩,.slice u k1.length v,.int .i64 ln1,.int .i64 cl1] 43):=by rw[←hW2,←hsz];exact Az d (.cells #[.int .u8 f,.int .u8 vk1,.int .i64 vn1,.string ⟨vs1.toArray⟩,.string ⟨g.toArray⟩,.slice u k1.length v,.int .i64 ln1,.int .i64 cl1] 43)
    rw[hW1] at hpa;have hpa2:=(hbW2.block _ (Ay hpa)).trans hpa;rw[hW1,hW2];obtain⟨C,D,E,F,G,I,L,M,_⟩:=A6 hpb;obtain⟨N,O,R,T,U,V,W,X,_⟩:=A6 hpa2;have HBW:=Ax (hbW1.trans (hbW2.mono hbW1.size));have q:=Ax hpb;have r:=Ax hpa2;have HBL:=Ax (hb.out.trans ((hbW1.trans (hbW2.mono hbW1.size)).mono hb.out.size));clear hpa hsz hbW1 hbW2 hpb hpa2 hW1 hW2 x0 x1 x2 x3 x4 x5 x6 x7 y0 y1 y2 y3 y4 y5 y6 y7 hbx hby hb;go_wp2_with fail
    go_loopw [10] (fun vk wx=>∃k:Nat,k<=k1.length/\vk= .int .i64 k/\Hid (Below W2.heap.size W2 wx)/\∀(i:Nat) (_:i<k) (h1:i<k1.length) (h2:i<k2.length),k1[i]=k2[i]) (fun vk _=>k1.length - (intOf vk).toNat)
    case atStart=>exact⟨0,Nat.zero_le _,rfl,Aq _ _,fun i h=>absurd h (Nat.not_lt_zero _)⟩
    obtain⟨k,hk,rfl,hbk,y⟩:=hrel;obtain⟨_,_,_,_,_,r5,_⟩:=A6 ((hbk.out.block _ (Ay q.out)).trans q.out);obtain⟨_,_,_,_,_,s5,_⟩:=A6 ((hbk.out.block _ (Ay r.out)).trans r.out);clear C D E F G I L M N O R T U V W X;have HKE:=Ax y;clear y;by_cases hkl:k<k1.length
    ·exact zz4
    obtain rfl:k=k1.length:=by omega
    have HB2:=Ax (HBL.out.trans (hbk.out.mono HBL.out.size));have l3:decide ((k1.length:Int)<(k1.length:Int))=false:=by simp
    have hk12:k1=k2:=List.ext_getElem HL4.out (fun i h1 h2=>HKE.out i h1 h1 h2);have HEQ:=Ax (Z.out true uJ);exact zy5
   |false=>
    by_cases d5:(ln1,cl1)=(ln2,cl2);rotate_left
    ·have HF:=Ax (show rr=false by cases hr:rr with|false=>rfl|true=>exact absurd (HAT.out hr) (by simp only[eqB,Dx];simp;intro _ a b;exact d5 (by rw[a,b])));go_wp2_with fail;go_region
     ·obtain⟨d,hW1⟩:∃d,n.alloc (.cells #[.int .u8 f,.int .u8 vk1,.int .i64 vn1,.string ⟨vs1.toArray⟩,.string ⟨g.toArray⟩,.slice u k1.length v,.int .i64 ln1,.int .i64 cl1] 43)=d:=⟨_,rfl⟩;obtain⟨W2,hW2⟩:∃W2,(d.alloc (.cells #[.int .u8 f,.int .u8 vk1,.int .i64 vn1,.string ⟨vs1.toArray⟩,.string ⟨g.toArray⟩,.slice o k2.length p,.int .i64 ln2,.int .i64 cl2] 43)).drew=W2:=⟨_,rfl⟩;have hpa:=Az n (.cells #[.int .u8 f,.int .u8 vk1,.int .i64 vn1,.string ⟨vs1.toArray⟩,.string ⟨g.toArray⟩,.slice u k1.length v,.int .i64 ln1,.int .i64 cl1] 43);have hsz:d.heap.size=n.heap.size+1:=by rw[←hW1];simp
      have hbW1:Below n.heap.size n d:=by rw[←hW1];exact(Aq _ n).alloc (Ak _) _
      have hbW2:Below d.heap.size d W2:=by rw[←hW2];exact((Aq _ d).alloc (Ak _) _).drew
      have hpb:W2.heap[n.heap.size+1]? =some (.cells #[.int .u8 f,.int .u8 vk1,.int .i64 vn1,.string ⟨vs1.toArray⟩,.string ⟨g.toArray⟩,.slice o k2.length p,.int .i64 ln2,.int .i64 cl2] 43):=by rw[←hW2,←hsz];exact Az d (.cells #[.int .u8 f,.int .u8 vk1,.int .i64 vn1,.string ⟨vs1.toArray⟩,.string ⟨g.toArray⟩,.slice o k2.length p,.int .i64 ln2,.int .i64 cl2] 43)
      rw[hW1] at hpa;have hpa2:=(hbW2.block _ (Ay hpa)).trans hpa;rw[hW1,hW2];obtain⟨C,D,E,F,G,I,L,M,_⟩:=A6 hpa2;obtain⟨N,O,R,T,U,V,W,X,_⟩:=A6 hpb;have HBW:=Ax (hbW1.trans (hbW2.mono hbW1.size));have q:=Ax hpa2;have r:=Ax hpb;exact zx9
     obtain⟨d,hW1⟩:∃d,n.alloc (.cells #[.int .u8 f,.int .u8 vk1,.int .i64 vn1,.string ⟨vs1.toArray⟩,.string ⟨g.toArray⟩,.slice o k2.length p,.int .i64 ln2,.int .i64 cl2] 43)=d:=⟨_,rfl⟩;obtain⟨W2,hW2⟩:∃W2,(d.alloc (.cells #[.int .u8 f,.int .u8 vk1,.int .i64 vn1,.string ⟨vs1.toArray⟩,.string ⟨g.toArray⟩,.slice u k1.length v,.int .i64 ln1,.int .i64 cl1] 43)).drew=W2:=⟨_,rfl⟩;have hpa:=Az n (.cells #[.int .u8 f,.int .u8 vk1,.int .i64 vn1,.string ⟨vs1.toArray⟩,.string ⟨g.toArray⟩,.slice o k2.length p,.int .i64 ln2,.int .i64 cl2] 43);have hsz:d.heap.size=n.heap.size+1:=by rw[←hW1];simp
     have hbW1:Below n.heap.size n d:=by rw[←hW1];exact(Aq _ n).alloc (Ak _) _
     have hbW2:Below d.heap.size d W2:=by rw[←hW2];exact((Aq _ d).alloc (Ak _) _).drew
     have hpb:W2.heap[n.heap.size+1]? =some (.cells #[.int .u8 f,.int .u8 vk1,.int .i64 vn1,.string ⟨vs1.toArray⟩,.string ⟨g.toArray⟩,.slice u k1.length v,.int .i64 ln1,.int .i64 cl1] 43):=by rw[←hW2,←hsz];exact Az d (.cells #[.int .u8 f,.int .u8 vk1,.int .i64 vn1,.string ⟨vs1.toArray⟩,.string ⟨g.toArray⟩,.slice u k1.length v,.int .i64 ln1,.int .i64 cl1] 43)
     rw[hW1] at hpa;have hpa2:=(hbW2.block _ (Ay hpa)).trans hpa;rw[hW1,hW2];obtain⟨C,D,E,F,G,I,L,M,_⟩:=A6 hpb;obtain⟨N,O,R,T,U,V,W,X,_⟩:=A6 hpa2;have HBW:=Ax (hbW1.trans (hbW2.mono hbW1.size));have q:=Ax hpb;have r:=Ax hpa2;exact zx9
    injection d5 with e1 e2;subst e1 e2;go_wp2_with fail;go_region
    ·obtain⟨d,hW1⟩:∃d,n.alloc (.cells #[.int .u8 f,.int .u8 vk1,.int .i64 vn1,.string ⟨vs1.toArray⟩,.string ⟨g.toArray⟩,.slice u k1.length v,.int .i64 ln1,.int .i64 cl1] 43)=d:=⟨_,rfl⟩;obtain⟨W2,hW2⟩:∃W2,(d.alloc (.cells #[.int .u8 f,.int .u8 vk1,.int .i64 vn1,.string ⟨vs1.toArray⟩,.string ⟨g.toArray⟩,.slice o k2.length p,.int .i64 ln1,.int .i64 cl1] 43)).drew=W2:=⟨_,rfl⟩;have hpa:=Az n (.cells #[.int .u8 f,.int .u8 vk1,.int .i64 vn1,.string ⟨vs1.toArray⟩,.string ⟨g.toArray⟩,.slice u k1.length v,.int .i64 ln1,.int .i64 cl1] 43);have hsz:d.heap.size=n.heap.size+1:=by rw[←hW1];simp
     have hbW1:Below n.heap.size n d:=by rw[←hW1];exact(Aq _ n).alloc (Ak _) _
     have hbW2:Below d.heap.size d W2:=by rw[←hW2];exact((Aq _ d).alloc (Ak _) _).drew
     have hpb:W2.heap[n.heap.size+1]? =some (.cells #[.int .u8 f,.int .u8 vk1,.int .i64 vn1,.string ⟨vs1.toArray⟩,.string ⟨g.toArray⟩,.slice o k2.length p,.int .i64 ln1,.int .i64 cl1] 43):=by rw[←hW2,←hsz];exact Az d (.cells #[.int .u8 f,.int .u8 vk1,.int .i64 vn1,.string ⟨vs1.toArray⟩,.string ⟨g.toArray⟩,.slice o k2.length p,.int .i64 ln1,.int .i64 cl1] 43)
     rw[hW1] at hpa;have hpa2:=(hbW2.block _ (Ay hpa)).trans hpa;rw[hW1,hW2];obtain⟨C,D,E,F,G,I,L,M,_⟩:=A6 hpa2;obtain⟨N,O,R,T,U,V,W,X,_⟩:=A6 hpb;have HBW:=Ax (hbW1.trans (hbW2.mono hbW1.size));have q:=Ax hpa2;have r:=Ax hpb;have HBL:=Ax (hb.out.trans ((hbW1.trans (hbW2.mono hbW1.size)).mono hb.out.size));clear hpa hsz hbW1 hbW2 hpb hpa2 hW1 hW2 x0 x1 x2 x3 x4 x5 x6 x7 y0 y1 y2 y3 y4 y5 y6 y7 hbx hby hb;go_wp2_with fail
     go_loopw [10] (fun vk wx=>∃k:Nat,k<=k1.length/\vk= .int .i64 k/\Hid (Below W2.heap.size W2 wx)/\∀(i:Nat) (_:i<k) (h1:i<k1.length) (h2:i<k2.length),k1[i]=k2[i]) (fun vk _=>k1.length - (intOf vk).toNat)
     case atStart=>exact⟨0,Nat.zero_le _,rfl,Aq _ _,fun i h=>absurd h (Nat.not_lt_zero _)⟩
     obtain⟨k,hk,rfl,hbk,y⟩:=hrel;obtain⟨_,_,_,_,_,r5,_⟩:=A6 ((hbk.out.block _ (Ay q.out)).trans q.out);obtain⟨_,_,_,_,_,s5,_⟩:=A6 ((hbk.out.block _ (Ay r.out)).trans r.out);clear C D E F G I L M N O R T U V W X;have HKE:=Ax y;clear y;by_cases hkl:k<k1.length
     ·exact zz4
     obtain rfl:k=k1.length:=by omega
     have HB2:=Ax (HBL.out.trans (hbk.out.mono HBL.out.size));have l3:decide ((k1.length:Int)<(k1.length:Int))=false:=by simp
     have hk12:k1=k2:=List.ext_getElem HL4.out (fun i h1 h2=>HKE.out i h1 h1 h2);have HEQ:=Ax (Z.out false uJ);exact zy5
    obtain⟨d,hW1⟩:∃d,n.alloc (.cells #[.int .u8 f,.int .u8 vk1,.int .i64 vn1,.string ⟨vs1.toArray⟩,.string ⟨g.toArray⟩,.slice o k2.length p,.int .i64 ln1,.int .i64 cl1] 43)=d:=⟨_,rfl⟩;obtain⟨W2,hW2⟩:∃W2,(d.alloc (.cells #[.int .u8 f,.int .u8 vk1,.int .i64 vn1,.string ⟨vs1.toArray⟩,.string ⟨g.toArray⟩,.slice u k1.length v,.int .i64 ln1,.int .i64 cl1] 43)).drew=W2:=⟨_,rfl⟩;have hpa:=Az n (.cells #[.int .u8 f,.int .u8 vk1,.int .i64 vn1,.string ⟨vs1.toArray⟩,.string ⟨g.toArray⟩,.slice o k2.length p,.int .i64 ln1,.int .i64 cl1] 43);have hsz:d.heap.size=n.heap.size+1:=by rw[←hW1];simp
    have hbW1:Below n.heap.size n d:=by rw[←hW1];exact(Aq _ n).alloc (Ak _) _
    have hbW2:Below d.heap.size d W2:=by rw[←hW2];exact((Aq _ d).alloc (Ak _) _).drew
    have hpb:W2.heap[n.heap.size+1]? =some (.cells #[.int .u8 f,.int .u8 vk1,.int .i64 vn1,.string ⟨vs1.toArray⟩,.string ⟨g.toArray⟩,.slice u k1.length v,.int .i64 ln1,.int .i64 cl1] 43):=by rw[←hW2,←hsz];exact Az d (.cells #[.int .u8 f,.int .u8 vk1,.int .i64 vn1,.string ⟨vs1.toArray⟩,.string ⟨g.toArray⟩,.slice u k1.length v,.int .i64 ln1,.int .i64 cl1] 43)
    rw[hW1] at hpa;have hpa2:=(hbW2.block _ (Ay hpa)).trans hpa;rw[hW1,hW2];obtain⟨C,D,E,F,G,I,L,M,_⟩:=A6 hpb;obtain⟨N,O,R,T,U,V,W,X,_⟩:=A6 hpa2;have HBW:=Ax (hbW1.trans (hbW2.mono hbW1.size));have q:=Ax hpb;have r:=Ax hpa2;have HBL:=Ax (hb.out.trans ((hbW1.trans (hbW2.mono hbW1.size)).mono hb.out.size));clear hpa hsz hbW1 hbW2 hpb hpa2 hW1 hW2 x0 x1 x2 x3 x4 x5 x6 x7 y0 y1 y2 y3 y4 y5 y6 y7 hbx hby hb;go_wp2_with fail
    go_loopw [10] (fun vk wx=>∃k:Nat,k<=k1.length/\vk= .int .i64 k/\Hid (Below W2.heap.size W2 wx)/\∀(i:Nat) (_:i<k) (h1:i<k1.length) (h2:i<k2.length),k1[i]=k2[i]) (fun vk _=>k1.length - (intOf vk).toNat)
    case atStart=>exact⟨0,Nat.zero_le _,rfl,Aq _ _,fun i h=>absurd h (Nat.not_lt_zero _)⟩
    obtain⟨k,hk,rfl,hbk,y⟩:=hrel;obtain⟨_,_,_,_,_,r5,_⟩:=A6 ((hbk.out.block _ (Ay q.out)).trans q.out);obtain⟨_,_,_,_,_,s5,_⟩:=A6 ((hbk.out.block _ (Ay r.out)).trans r.out);clear C D E F G I L M N O R T U V W X;have HKE:=Ax y;clear y;by_cases hkl:k<k1.length
    ·exact zz4
    obtain rfl:k=k1.length:=by omega
    have HB2:=Ax (HBL.out.trans (hbk.out.mono HBL.out.size));have l3:decide ((k1.length:Int)<(k1.length:Int))=false:=by simp
    have hk12:k1=k2:=List.ext_getElem HL4.out (fun i h1 h2=>HKE.out i h1 h1 h2);have HEQ:=Ax (Z.out false uJ);exact zy5
  obtain rfl:j=l.length:=by omega
  have HB:=Ax hb.out;have HT:=Ax (show rr=true from b7.out.symm.trans (Xq HN.out fun i h1 h2=>Y i h1 h1 h2));clear hb Y;go_wp2_with fail;go_ret;exact⟨by rw[HT.out];rfl,HB.out⟩
 have n1:((l.length:Int)==(m.length:Int))=false:=Af.2 rF;have n2:((l.length:Int) !=(m.length:Int))=true:=by rw[bne,n1];rfl
 have n3:(l.length==m.length)=false:=Af.2 hn;have n4:(l.length !=m.length)=true:=by rw[bne,n3];rfl
 have HF:=Ax (show rr=false by cases hr:rr with|false=>rfl|true=>exact absurd (Yv (b7.out.trans hr)) hn);have HW:=Ax (Aq w.heap.size w);clear hn n9 p8;go_enter Tryz.func22,Tryz.ntmps22;go_wp2_with fail;go_ret;exact⟨by rw[HF.out];rfl,HW.out⟩
end Go.Proofs.YtgfakdobajgnfaaGreatDoor
