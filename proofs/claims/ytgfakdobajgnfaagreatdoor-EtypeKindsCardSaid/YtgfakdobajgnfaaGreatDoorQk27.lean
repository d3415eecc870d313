import Derived.Test.YtgfakdobajgnfaaGreatDoorQk26
set_option maxRecDepth 100000
set_option maxHeartbeats 16000000
namespace Go.Proofs.YtgfakdobajgnfaaGreatDoor
open Go Go.RowKit Go.Lib
def Pm (p:Nat)(l:List UInt8):Except Int (Wd×Nat):=match B2 l with
 | .ok x=> .ok (x.1,p+x.2)
 | .error e=> .error e
theorem Iw {w w':World}{p n E:Nat}{l:List UInt8}{k vk vn:Int}{T vs:ByteArray}(c:Below w.heap.size w w')(d:B2 l= .ok (⟨k,dl T,(vk,vn,dl vs)⟩,n))(e:p+n=E):
 Qa w (Pm p l) (.returned (.tuple #[.agg #[.int .u8 k,.string T,.int .u8 vk,.int .i64 vn,.string vs,.int .i64 0,.int .i64 0],.int .i64 (E:Int),.int .i64 0])) w':=by
 refine⟨c,?_⟩;unfold Pm;rw[d];simp only[Fu,J9,e]
theorem F9 {w w':World}{p:Nat}{l:List UInt8}{e:Int}(c:Below w.heap.size w w')(d:B2 l= .error e):
 Qa w (Pm p l) (.returned (.tuple #[.agg #[.int .u8 0,.string ⟨#[]⟩,.int .u8 0,.int .i64 0,.string ⟨#[]⟩,.int .i64 0,.int .i64 0],.int .i64 0,.int .i64 e])) w':=by
 refine⟨c,?_⟩;unfold Pm;rw[d];exact⟨⟨0,[],v0⟩,0,rfl⟩
structure Xt (w V:World):Prop where
 r:Bi V w.heap.size 0 ⟨#[]⟩ 0 0 ⟨#[]⟩ 0 0
 n:Bi V (w.heap.size+1) 0 ⟨#[]⟩ 0 0 ⟨#[]⟩ 0 0
 bel:Below w.heap.size w V
theorem Xt.below {w V d:World}(h:Xt w V)(c:Below V.heap.size V d):Xt w d:=⟨h.r.below c,h.n.below c,h.bel.trans (c.mono h.bel.size)⟩
theorem jK (w:World):Xt w ((w.alloc (.cells Dp 94)).alloc (.cells Dp 94)):=by
 refine⟨(Bi.new w).below ((Aq _ _).alloc (Ak _) _),?_,((Aq _ _).alloc (Ak _) _).alloc rI _⟩
 have:=Bi.new (w.alloc (.cells Dp 94))
 simpa using this
theorem Rq {c:UInt8}{r:List UInt8}(h:D7 c=true):Gi (c::r)=Ba Cv (c::r):=Ap h
theorem cV {c:UInt8}{r:List UInt8}(h:D7 c=false):Gi (c::r)=0:=Ao (by rw[h];simp)
theorem bJ (l:List UInt8):Gi l<=l.length:=by
 unfold Gi
 split
 ·split
  ·exact Ds _ _
  omega
 omega
theorem mC {c:UInt8}{r:List UInt8}(h:D7 c=true):B2 (c::r)=C7 ⟨1,(c::r).take (Ba Cv (c::r)),v0⟩ (Ba Cv (c::r)):=by
 unfold B2;simp only;rw[Ap h]
theorem Ph {w:Wd}{n:Nat}(h:12<w.t.length):C7 w n= .error 4:=by unfold C7;rw[Ap h]
theorem Nr {w:Wd}{n:Nat}(h:¬12<w.t.length):C7 w n= .ok (w,n):=by unfold C7;rw[Ao h]
theorem L5 {c:UInt8}{r:List UInt8}:(E9 (c::r)=true/\Gi r=Ba Cv r/\1<=Gi r)\/(E9 (c::r)=false/\Gi r=0):=by
 match r with
 |[]=>exact .inr ⟨rfl,rfl⟩
 |d::q=>
  show(D7 d=true/\_)\/(D7 d=false/\_)
  cases h:D7 d with
  |true=>exact .inl ⟨rfl,Rq h,by rw[Rq h,Fw (Uy h)];omega⟩
  |false=>exact .inr ⟨rfl,cV h⟩
theorem lJ {r:List UInt8}(h:Gi r=0):B2 (63::r)= .ok (⟨3,[],v0⟩,1):=by
 rcases L5 (c:=63) (r:=r) with ⟨_,_,e⟩|⟨d,_⟩
 ·omega
 show(if E9 (63::r)=true then _ else _)=_
 rw[Ao (by rw[d];simp)]
theorem Ut {r:List UInt8}(h:1<=Gi r):B2 (63::r)=C7 ⟨2,r.take (Gi r),v0⟩ (1+Gi r):=by
 rcases L5 (c:=63) (r:=r) with ⟨e,d,_⟩|⟨_,d⟩
 ·show(if E9 (63::r)=true then _ else _)=_
  rw[Ap e,d]
 omega
theorem Yc {r:List UInt8}(h:1<=Gi r):B2 (35::r)=C7 ⟨6,r.take (Gi r),(5,0,r.take (Gi r))⟩ (1+Gi r):=by
 rcases L5 (c:=35) (r:=r) with ⟨e,d,_⟩|⟨_,d⟩
 ·show(if(35:UInt8)=35/\E9 (35::r)=true then _ else _)=_
  rw[Ap ⟨rfl,e⟩,d]
 omega
theorem eC {r:List UInt8}(h:Gi r=0):B2 (35::r)= .error 4:=by
 rcases L5 (c:=35) (r:=r) with ⟨_,_,f⟩|⟨e,_⟩
 ·omega
 show(if(35:UInt8)=35/\E9 (35::r)=true then _ else F5 (35::r))=_
 rw[Ao (by rw[e];simp),Va]
 have:Jt (35::r)=0:=by
  unfold Jt;rw[Ao,Ao (fun q=>absurd (Vt.1 q) rH)]
  match r with
  |[]=>decide
  |d::q=>exact Xj rI rI rI rI
 rw[this];rfl
theorem mB {c:UInt8}{r:List UInt8}(h:Bg c=true)(d:D7 c=false):B2 (c::r)=Md (c::r):=by
 unfold B2;simp only;rw[Ao (by rw[d];simp),Ap h]
theorem Rs {r:List UInt8}:B2 (34::r)=Sb (34::r):=rfl
theorem dA {c:UInt8}{r:List UInt8}(h:Bg c=false)(d:D7 c=false)(e:c≠34)(f:c≠63)(g:c≠35):B2 (c::r)=F5 (c::r):=by
 unfold B2;simp only;rw[Ao (by rw[d];simp),Ao (by rw[h];simp),Ao e,Ao f,Ao (fun q=>g q.1)]
theorem nY {l:List UInt8}{v:Int×Int×List UInt8}(h:Dy (l.take (Ce l))= .ok v):Md l= .ok (⟨4,l.take (Ce l),v⟩,Ce l):=by unfold Md;rw[h]
theorem bH {l:List UInt8}{e:Int}(h:Dy (l.take (Ce l))= .error e):Md l= .error (if e=9 then 9 else 4):=by unfold Md;rw[h]
theorem fE (l:List UInt8):Ce l<=l.length:=by
 rw[F0];have f:=Ds Bg l;unfold Cn
 split
 ·rename_i c r e
  have d:=Ar List.length e;rw[List.length_drop] at d;simp only[Aa] at d
  split
  ·have:=Ds Bg (c::r)
   simp only[Aa] at this;omega
  omega
 omega
theorem nG {q:List UInt8}(h:((34::q).drop (1+Bd false q)).head?≠some 34):Sb (34::q)= .error 4:=by rw[Iu,Ao h]
theorem nJ {q:List UInt8}{e:Int}(h:((34::q).drop (1+Bd false q)).head? =some 34)(c:Dy ((34::q).take (Bd false q+2))= .error e):Sb (34::q)= .error 4:=by rw[Iu,Ap h,c]
theorem mX {q:List UInt8}{v:Int×Int×List UInt8}(h:((34::q).drop (1+Bd false q)).head? =some 34)(c:Dy ((34::q).take (Bd false q+2))= .ok v):Sb (34::q)= .ok (⟨5,q.take (Bd false q),v⟩,Bd false q+2):=by rw[Iu,Ap h,c]
theorem Zg {p:Nat}{q:List UInt8}:(((34::q).drop (1+Bd false q)).head? =some 34/\S7 p (34::q)=((p+Bd false q+2:Nat):Int)/\Bd false q+2<=(34::q).length)\/(((34::q).drop (1+Bd false q)).head?≠some 34/\S7 p (34::q)= -1):=by
 by_cases h:((34::q).drop (1+Bd false q)).head? =some 34
 ·refine .inl ⟨h,by unfold S7;exact Ap h,?_⟩;have c:(34::q).drop (1+Bd false q)≠[]:=fun e=>by rw[e] at h;cases h
  have d:=List.length_pos_iff.2 c;rw[List.length_drop] at d;omega
 exact .inr ⟨h,by unfold S7;exact Ao h⟩
theorem jE (c:UInt8)(r:List UInt8):Jt (c::r)<=(c::r).length:=by
 unfold Jt
 split
 ·next h=>
  have:((c::r).take 2).length=2:=by
   unfold Jy at h;simp only[List.mem_cons,List.not_mem_nil,or_false] at h;rcases h with h|h|h|h<;>rw[h]<;>rfl
  rw[List.length_take] at this;omega
 split<;>simp
theorem Xi {s:ByteArray}{p:Nat}(h:p<s.size)(w:World):(Instr.index 9 (.string s) (.int .i64 (p:Int))).run Tryz.prog w= .ok (.int .u8 (s[p].toNat:Int)) w:=by
 go_simp
theorem dB (s:ByteArray)(p:Nat)(w:World)(hs:s.size<=1000000)(hp:p<s.size):Calls Tryz.prog 90 #[.string s,.int .i64 (p:Int)] w (Qa w (Pm p ((dl s).drop p))):=by
 have e1:=Ju hp;obtain⟨l,hl⟩:∃l,(dl s).drop p=l:=⟨_,rfl⟩;obtain⟨r,hr⟩:∃r,(dl s).drop (p+1)=r:=⟨_,rfl⟩;obtain⟨c,hc⟩:∃c,s[p]=c:=⟨_,rfl⟩;rw[hl,hr,hc] at e1;have uT:l.length=s.size - p:=by rw[←hl,List.length_drop,A5]
 have uU:r.length=s.size - (p+1):=by rw[←hr,List.length_drop,A5]
 have q0:(0:Int)<=(p:Int):=by omega
 have q1:(p:Int)<(s.size:Int):=by omega
 have HC:=Ax hc;have HL:=Ax hl;have HR:=Ax hr;have k8:=Ax uT;have l7:=Ax uU;have ix:∀w:World,(Instr.index 9 (.string s) (.int .i64 (p:Int))).run Tryz.prog w= .ok (.int .u8 (c.toNat:Int)) w:=fun w=>by have:=Xi hp w;rw[hc] at this;exact this
 have HS:=Ax (jK w);obtain⟨W1,r7⟩:∃W1,(w.alloc (.cells Dp 94)).alloc (.cells Dp 94)=W1:=⟨_,rfl⟩;rw[r7] at HS;have vB:=Ax r7;have HA:Hid (Xt w W1):=Ax HS.out;have j:=Ax (Uw s p W1 hs rF);rw[hl] at j ⊢;clear r7 uT uU hl hr hc HS;go_enter Tryz.func90,Tryz.ntmps90;go_upto_region 2 with fail
 change Code.wp _ _ _ _ ((w.alloc (.cells Dp 94)).alloc (.cells Dp 94));rw[vB.out];obtain⟨r0,r1,r2,r3,r4,r5,r6,d⟩:=HA.out.r;have R:=d 0;have U:=d 1;have V:=d 2;have W:=d 3;have Y:=d 4;have a8:=d 5;have b7:=d 6;obtain⟨n0,n1,n2,n3,n4,n5,n6,_⟩:=HA.out.n;clear d;cases hlo:D7 c with
 |true=>
  obtain⟨n,G⟩:∃n,Ba Cv l=n:=⟨_,rfl⟩;have i7:Gi l=n:=by rw[e1,Rq hlo,←e1,G]
  have f8:B2 l=C7 ⟨1,l.take n,v0⟩ n:=by rw[e1,mC hlo,←e1,G]
  have vC:1<=n:=by rw[←G,e1,Fw (Uy hlo)];omega
  have f9:n<=l.length:=by rw[←G];exact Ds _ _
  obtain⟨E,y⟩:∃E,p+n=E:=⟨_,rfl⟩;rw[i7,y] at j;have j8:E<=s.size:=by have:=k8.out;omega
  have vD:p<E:=by omega
  have k:=Dm s (p:Int) (E:Int) rF rF rF;rw[show((p:Int)).toNat=p by omega,show((E:Int)).toNat=E by omega] at k;obtain⟨T,hT⟩:∃T,s.extract p E=T:=⟨_,rfl⟩;have f:l.take n=dl T:=by rw[←hT,Ep,HL.out,←y,Nat.add_sub_cancel_left]
  have I:(dl T).length=n:=by rw[←f,List.length_take];omega
  rw[hT] at k;rw[f] at f8;have d1:(p:Int)<(E:Int):=by omega
  have M:=Ax f8;have HTL:=Ax I;have u:=Ax y;clear G i7 f8 vC f9 y hT f I e1 hlo;go_wp2_with fail;refine j.out.mono ?_;rintro e w' ⟨rfl,rfl⟩;by_cases h12:12<n
  ·have d2:(12:Int)<(E:Int) - (p:Int):=by have:=u.out;omega
   have HE:=Ax (show B2 l= .error 4 by rw[M.out];exact Ph (by show 12<(dl T).length;rw[HTL.out];exact h12));exact zzw
  have d2:decide ((12:Int)<(E:Int) - (p:Int))=false:=An (by have:=u.out;omega);have d3:(E:Int) - (p:Int)<=12:=by have:=u.out;omega
  have HE:=Ax (show B2 l= .ok (⟨1,dl T,(0,0,dl ⟨#[]⟩)⟩,n) by rw[M.out];exact Nr tQ);have hT:=Bi.set7 HA.out.r 1 T 0 0 ⟨#[]⟩ 0 0;have hB:=A7 HA.out.bel (Ak _) 1 T 0 0 ⟨#[]⟩ 0 0;obtain⟨Z,hZ⟩:∃Z,set7 W1 w.heap.size 1 T 0 0 ⟨#[]⟩ 0 0=Z:=⟨_,rfl⟩;rw[hZ] at hT hB;unfold set7 at hZ;have HT:=Ax hT;have HB:=Ax hB;have HZ:=Ax hZ;clear hT hB hZ;go_wp2_with fail;rw[HZ.out];obtain⟨s0,s1,s2,s3,s4,s5,s6,_⟩:=HT.out;exact Au (v:= .tuple #[.agg #[.int .u8 1,.string T,.int .u8 0,.int .i64 0,.string ⟨#[]⟩,.int .i64 0,.int .i64 0],.int .i64 (E:Int),.int .i64 0]) rQ rfl (Iw HB.out HE.out u.out)
 |false=>
  have i7:Gi l=0:=by rw[e1];exact cV hlo
  rw[i7,Nat.add_zero] at j;clear i7;have uV:=Ax hlo;clear hlo;by_cases hm:c=63\/c=35
  ·rcases hm with hm|hm
   ·subst hm;have cb:(63:UInt8).toNat=63:=rfl;rw[cb] at ix;have A:=Ax (Uw s (p+1) W1 hs rF);rw[HR.out] at A;obtain⟨m,N⟩:∃m,Gi r=m:=⟨_,rfl⟩;have r8:m<=r.length:=by rw[←N];exact bJ r
    obtain⟨E,y⟩:∃E,p+1+m=E:=⟨_,rfl⟩;rw[N,y] at A;have j8:E<=s.size:=by have:=l7.out;omega
    have r9:Hid (Calls Tryz.prog 156 #[.string s,.int .i64 ((p:Int)+1)] W1 _):=Ax A.out;have k:=Dm s ((p:Int)+1) (E:Int) rF rF rF;rw[show((p:Int)+1).toNat=p+1 by omega,show((E:Int)).toNat=E by omega] at k;obtain⟨T,hT⟩:∃T,s.extract (p+1) E=T:=⟨_,rfl⟩;have f:r.take m=dl T:=by rw[←hT,Ep,HR.out,←y,Nat.add_sub_cancel_left]
    have I:(dl T).length=m:=by rw[←f,List.length_take];omega
    rw[hT] at k;have b8:T.size=m:=by rw[←A5];exact I
    have s7:T.size<=1000000:=by have:=l7.out;omega
    have j9:=Ax b8;have HTL:=Ax I;have HTK:=Ax f;have u:=Ax y;have HMM:=Ax N;have E1:=Ax e1;clear r8 y hT f I b8 e1 N cb A;go_wp2_with fail;refine j.out.mono ?_;rintro e w' ⟨rfl,rfl⟩;go_wp2_with fail;refine r9.out.mono ?_;rintro e w' ⟨rfl,rfl⟩;by_cases h12:12<m
    ·have d2:(12:Int)<(T.size:Int):=by have:=j9.out;omega
     have HE:=Ax (show B2 l= .error 4 by rw[E1.out,Ut (by rw[HMM.out];omega)];exact Ph uL);exact zzw
    have d2:(T.size:Int)<=12:=by have:=j9.out;omega
    have s8:decide ((12:Int)<(T.size:Int))=false:=An rF;by_cases h0:m=0
    ·have s9:T=⟨#[]⟩:=Ch (List.eq_nil_of_length_eq_zero (by rw[HTL.out];exact h0));have i6:=Ax (show p+1=E by have:=u.out;omega);subst s9;clear d2 s8 s7;have HE:=Ax (show B2 l= .ok (⟨3,dl ⟨#[]⟩,(0,0,dl ⟨#[]⟩)⟩,1) by rw[E1.out];exact lJ (by rw[HMM.out];exact h0));have hT:=Bi.set7 HA.out.r 3 ⟨#[]⟩ 0 0 ⟨#[]⟩ 0 0;have hB:=A7 HA.out.bel (Ak _) 3 ⟨#[]⟩ 0 0 ⟨#[]⟩ 0 0;obtain⟨Z,hZ⟩:∃Z,set7 W1 w.heap.size 3 ⟨#[]⟩ 0 0 ⟨#[]⟩ 0 0=Z:=⟨_,rfl⟩;rw[hZ] at hT hB;unfold set7 at hZ;have HT:=Ax hT;have HB:=Ax hB;have HZ:=Ax hZ;clear hT hB hZ;clear h0;go_wp2_with fail;rw[HZ.out];obtain⟨s0,s1,s2,s3,s4,s5,s6,_⟩:=HT.out;exact Au (v:= .tuple #[.agg #[.int .u8 3,.string ⟨#[]⟩,.int .u8 0,.int .i64 0,.string ⟨#[]⟩,.int .i64 0,.int .i64 0],.int .i64 (E:Int),.int .i64 0]) rQ rfl (Iw HB.out HE.out i6.out)
    have t0:(T.toList==[])=false:=by rw[A0];exact Af.2 (fun e=>h0 (by rw[←HTL.out,e];rfl))
    have t1:T.toList.isEmpty=false:=by rw[A0];cases h:dl T with|nil=>exact absurd (by rw[←HTL.out,h];rfl) h0|cons=>rfl
    have i6:=Ax (show p+(1+m)=E by have:=u.out;omega);have HE:=Ax (show B2 l= .ok (⟨2,dl T,(0,0,dl ⟨#[]⟩)⟩,1+m) by rw[E1.out,Ut (by rw[HMM.out];omega),HMM.out,HTK.out];exact Nr tQ);have hT:=Bi.set7 HA.out.r 2 T 0 0 ⟨#[]⟩ 0 0;have hB:=A7 HA.out.bel (Ak _) 2 T 0 0 ⟨#[]⟩ 0 0;obtain⟨Z,hZ⟩:∃Z,set7 W1 w.heap.size 2 T 0 0 ⟨#[]⟩ 0 0=Z:=⟨_,rfl⟩;rw[hZ] at hT hB;unfold set7 at hZ;have HT:=Ax hT;have HB:=Ax hB;have HZ:=Ax hZ;clear hT hB hZ;go_wp2_with fail;rw[HZ.out];obtain⟨s0,s1,s2,s3,s4,s5,s6,_⟩:=HT.out;exact Au (v:= .tuple #[.agg #[.int .u8 2,.string T,.int .u8 0,.int .i64 0,.string ⟨#[]⟩,.int .i64 0,.int .i64 0],.int .i64 (E:Int),.int .i64 0]) rQ rfl (Iw HB.out HE.out i6.out)
   subst hm;have cb:(35:UInt8).toNat=35:=rfl;rw[cb] at ix;have A:=Ax (Uw s (p+1) W1 hs rF);rw[HR.out] at A;obtain⟨m,N⟩:∃m,Gi r=m:=⟨_,rfl⟩;have r8:m<=r.length:=by rw[←N];exact bJ r
   obtain⟨E,y⟩:∃E,p+1+m=E:=⟨_,rfl⟩;rw[N,y] at A;have j8:E<=s.size:=by have:=l7.out;omega
   have r9:Hid (Calls Tryz.prog 156 #[.string s,.int .i64 ((p:Int)+1)] W1 _):=Ax A.out;have k:=Dm s ((p:Int)+1) (E:Int) rF rF rF;rw[show((p:Int)+1).toNat=p+1 by omega,show((E:Int)).toNat=E by omega] at k;obtain⟨T,hT⟩:∃T,s.extract (p+1) E=T:=⟨_,rfl⟩;have f:r.take m=dl T:=by rw[←hT,Ep,HR.out,←y,Nat.add_sub_cancel_left]
   have I:(dl T).length=m:=by rw[←f,List.length_take];omega
   rw[hT] at k;have b8:T.size=m:=by rw[←A5];exact I
   have s7:T.size<=1000000:=by have:=l7.out;omega
   have j9:=Ax b8;have HTL:=Ax I;have HTK:=Ax f;have u:=Ax y;have HMM:=Ax N;have E1:=Ax e1;clear r8 y hT f I b8 e1 N cb A;go_wp2_with fail;refine j.out.mono ?_;rintro e w' ⟨rfl,rfl⟩;go_wp2_with fail;refine r9.out.mono ?_;rintro e w' ⟨rfl,rfl⟩;by_cases h12:12<m
   ·have d2:(12:Int)<(T.size:Int):=by have:=j9.out;omega
    have HE:=Ax (show B2 l= .error 4 by rw[E1.out,Yc (by rw[HMM.out];omega)];exact Ph uL);exact zzw
   have d2:(T.size:Int)<=12:=by have:=j9.out;omega
   have s8:decide ((12:Int)<(T.size:Int))=false:=An rF;by_cases h0:m=0
   ·have s9:T=⟨#[]⟩:=Ch (List.eq_nil_of_length_eq_zero (by rw[HTL.out];exact h0));have i6:=Ax (show p+1=E by have:=u.out;omega);subst s9;clear d2 s8 s7;have HE:=Ax (show B2 l= .error 4 by rw[E1.out];exact eC (by rw[HMM.out];exact h0));clear h0;exact zzw
   have t0:(T.toList==[])=false:=by rw[A0];exact Af.2 (fun e=>h0 (by rw[←HTL.out,e];rfl))
   have t1:T.toList.isEmpty=false:=by rw[A0];cases h:dl T with|nil=>exact absurd (by rw[←HTL.out,h];rfl) h0|cons=>rfl
   have i6:=Ax (show p+(1+m)=E by have:=u.out;omega);have HE:=Ax (show B2 l= .ok (⟨6,dl T,(5,0,dl T)⟩,1+m) by rw[E1.out,Yc (by rw[HMM.out];omega),HMM.out,HTK.out];exact Nr tQ);have hT:=Bi.set7 HA.out.r 6 T 5 0 T 0 0;have hB:=A7 HA.out.bel (Ak _) 6 T 5 0 T 0 0;obtain⟨Z,hZ⟩:∃Z,set7 W1 w.heap.size 6 T 5 0 T 0 0=Z:=⟨_,rfl⟩;rw[hZ] at hT hB;unfold set7 at hZ;have HT:=Ax hT;have HB:=Ax hB;have HZ:=Ax hZ;clear hT hB hZ;go_wp2_with fail;rw[HZ.out];obtain⟨s0,s1,s2,s3,s4,s5,s6,_⟩:=HT.out;exact Au (v:= .tuple #[.agg #[.int .u8 6,.string T,.int .u8 5,.int .i64 0,.string T,.int .i64 0,.int .i64 0],.int .i64 (E:Int),.int .i64 0]) rQ rfl (Iw HB.out HE.out i6.out)
  have vE:((c.toNat:Int)==63)=false:=Af.2 (fun e=>hm (.inl (Cd (n:=63) rF)));have vF:((c.toNat:Int)==35)=false:=Af.2 (fun e=>hm (.inr (Cd (n:=35) rF)));have HM:=Ax hm;clear hm;have L:=Ax (Iy c W1);have E1:=Ax e1;clear e1;cases hd:Bg c with
  |true=>
   rw[hd] at L;have w7:=Ax (jP s p W1 hs rF);rw[HL.out] at w7;obtain⟨n,G⟩:∃n,Ce l=n:=⟨_,rfl⟩;have f9:n<=l.length:=by rw[←G];exact fE l
   obtain⟨E,y⟩:∃E,p+n=E:=⟨_,rfl⟩;rw[G,y] at w7;have j8:E<=s.size:=by have:=k8.out;omega
   have k:=Dm s (p:Int) (E:Int) rF rF rF;rw[show((p:Int)).toNat=p by omega,show((E:Int)).toNat=E by omega] at k;obtain⟨T,hT⟩:∃T,s.extract p E=T:=⟨_,rfl⟩;have f:l.take n=dl T:=by rw[←hT,Ep,HL.out,←y,Nat.add_sub_cancel_left]
   rw[hT] at k;have b8:T.size<=1000000:=by rw[←hT,ByteArray.size_extract];omega
   have f8:B2 l=Md l:=by rw[E1.out];exact mB hd uV.out
   have w8:=Ax (Sr T W1 rF);have M:=Ax f8;have HTK:=Ax f;have HN:=Ax G;have u:=Ax y;clear G f9 y hT f f8 hd;go_wp2_with fail;refine j.out.mono ?_;rintro e w' ⟨rfl,rfl⟩;go_wp2_with fail;refine L.out.mono ?_;rintro e w' ⟨rfl,rfl⟩;go_wp2_with fail;refine w7.out.mono ?_;rintro e w' ⟨rfl,rfl⟩;go_wp2_with fail;refine w8.out.mono ?_;rintro e C ⟨x,he⟩;cases hpr:Dy (dl T) with
   |error q=>
    rw[hpr] at he;simp only at he;subst he;have F:=x.trans (((Aq C.heap.size C).alloc (Ak _) (.cells #[.int .u8 0,.int .i64 0,.string ⟨#[]⟩] 23)).mono x.size);have g:=Ax (HA.out.below F);clear r0 r1 r2 r3 r4 r5 r6 R U V W Y a8 b7 n0 n1 n2 n3 n4 n5 n6;obtain⟨r0,r1,r2,r3,r4,r5,r6,d⟩:=g.out.r;have R:=d 0;have U:=d 1;have V:=d 2;have W:=d 3;have Y:=d 4;have a8:=d 5;have b7:=d 6;obtain⟨n0,n1,n2,n3,n4,n5,n6,_⟩:=g.out.n;clear d;clear F x HA;have HA:=g;clear g;by_cases h9:q=9
    ·subst h9;have HE:=Ax (show B2 l= .error 9 by rw[M.out,bH (by rw[HN.out,HTK.out];exact hpr)];rfl);clear hpr;have hT:=Bi.set7 HA.out.r 0 ⟨#[]⟩ 0 0 ⟨#[]⟩ 0 0;have hB:=A7 HA.out.bel (Ak _) 0 ⟨#[]⟩ 0 0 ⟨#[]⟩ 0 0;obtain⟨Z,hZ⟩:∃Z,set7 (C.alloc (.cells #[.int .u8 0,.int .i64 0,.string ⟨#[]⟩] 23)) w.heap.size 0 ⟨#[]⟩ 0 0 ⟨#[]⟩ 0 0=Z:=⟨_,rfl⟩;rw[hZ] at hT hB;unfold set7 at hZ;have HT:=Ax hT;have HB:=Ax hB;have HZ:=Ax hZ;clear hT hB hZ;go_wp2_with fail;rw[HZ.out];obtain⟨s0,s1,s2,s3,s4,s5,s6,_⟩:=HT.out;exact Au (v:= .tuple #[.agg #[.int .u8 0,.string ⟨#[]⟩,.int .u8 0,.int .i64 0,.string ⟨#[]⟩,.int .i64 0,.int .i64 0],.int .i64 0,.int .i64 9]) rQ rfl (F9 HB.out HE.out)
    have d9:(q==9)=false:=Af.2 h9;have dq:(q==0)=false:=Af.2 (by rcases O1 hpr with h|h|h<;>omega);have vG:(q !=0)=true:=by rw[bne,dq];rfl
    have HE:=Ax (show B2 l= .error 4 by rw[M.out,bH (by rw[HN.out,HTK.out];exact hpr),Ao h9]);clear hpr h9;have hT:=Bi.set7 HA.out.r 0 ⟨#[]⟩ 0 0 ⟨#[]⟩ 0 0;have hB:=A7 HA.out.bel (Ak _) 0 ⟨#[]⟩ 0 0 ⟨#[]⟩ 0 0;obtain⟨Z,hZ⟩:∃Z,set7 (C.alloc (.cells #[.int .u8 0,.int .i64 0,.string ⟨#[]⟩] 23)) w.heap.size 0 ⟨#[]⟩ 0 0 ⟨#[]⟩ 0 0=Z:=⟨_,rfl⟩;exact zzt
   |ok v=>
    obtain⟨vk,vn,vs⟩:=v;rw[hpr] at he;simp only at he;subst he;obtain⟨D,d8⟩:∃D:ByteArray,⟨vs.toArray⟩=D:=⟨_,rfl⟩;have w9:vs=dl D:=by rw[←d8]
    rw[d8];subst w9;have O:∀i,((C.alloc (.cells #[.int .u8 vk,.int .i64 vn,.string D] 23))).cell? ⟨C.heap.size,i,none⟩=(#[.int .u8 vk,.int .i64 vn,.string D]:Array Value)[i]?:=fun i=>by simp only[World.cell?,Az];rfl
    have x8:=O 0;have x9:=O 1;have y8:=O 2;simp only[List.getElem?_toArray] at x8 x9 y8;have y9:¬w.heap.size=C.heap.size:=by have:=HA.out.bel.size;have:=x.size;have:=Bn HA.out.r.c0;simp at this;omega
    have uW:¬C.heap.size=w.heap.size:=fun h=>y9 h.symm
    have F:=x.trans (((Aq C.heap.size C).alloc (Ak _) (.cells #[.int .u8 vk,.int .i64 vn,.string D] 23)).mono x.size);have g:=Ax (HA.out.below F);clear r0 r1 r2 r3 r4 r5 r6 R U V W Y a8 b7 n0 n1 n2 n3 n4 n5 n6;obtain⟨r0,r1,r2,r3,r4,r5,r6,d⟩:=g.out.r;have R:=d 0;have U:=d 1;have V:=d 2;have W:=d 3;have Y:=d 4;have a8:=d 5;have b7:=d 6;obtain⟨n0,n1,n2,n3,n4,n5,n6,_⟩:=g.out.n;clear d;clear F x HA O d8;have HA:=g;clear g;have HE:=Ax (show B2 l= .ok (⟨4,dl T,(vk,vn,dl D)⟩,n) by rw[M.out,nY (by rw[HN.out,HTK.out];exact hpr),HN.out,HTK.out]);have hT:=Bi.set7 HA.out.r 4 T vk vn D 0 0;have hB:=A7 HA.out.bel (Ak _) 4 T vk vn D 0 0;obtain⟨Z,hZ⟩:∃Z,set7 (C.alloc (.cells #[.int .u8 vk,.int .i64 vn,.string D] 23)) w.heap.size 4 T vk vn D 0 0=Z:=⟨_,rfl⟩;rw[hZ] at hT hB;unfold set7 at hZ;have HT:=Ax hT;have HB:=Ax hB;have HZ:=Ax hZ;clear hT hB hZ;clear hpr;go_wp2_with fail;refine wp_region_noPanic ?_;refine wp_region_held_drew (S:=fun X=>X.cell? ⟨C.heap.size,0,none⟩=some (.int .u8 vk)/\X.cell? ⟨C.heap.size,1,none⟩=some (.int .i64 vn)/\X.cell? ⟨C.heap.size,2,none⟩=some (.string D)) rG ?_ (fun hHeld=>?_)
    ·(try dsimp only);go_keep
    refine QH 0 ⟨some 100,_,_,_,_,_⟩ (h:=?_)
    try simp only[Act.put,Ac,Ad,Ae]
    refine QH 1 ⟨some 101,_,_,_,_,_⟩ (h:=?_)
    try simp only[Act.put,Ac,Ad,Ae]
    refine QH 2 ⟨some 102,_,_,_,_,_⟩ (h:=?_)
    try simp only[Act.put,Ac,Ad,Ae]
    refine QH 3 ⟨some 103,_,_,_,_,_⟩ (h:=?_)
    try simp only[Act.put,Ac,Ad,Ae]
    refine QH 4 ⟨some 104,_,_,_,_,_⟩ (h:=?_)
    try simp only[Act.put,Ac,Ad,Ae]
    refine QH 5 ⟨some 105,_,_,_,_,_⟩ (h:=?_)
    try simp only[Act.put,Ac,Ad,Ae]
    refine QH 6 ⟨some 106,_,_,_,_,_⟩ (h:=?_)
    try simp only[Act.put,Ac,Ad,Ae]
    refine wpAnyH_ready (rs:=[7]) rG rI ?_;refine AllReadyH.cons (o:=⟨none,_,_,_,_,_⟩) (rs:=[]) rfl (fun K hK=>?_) AllReadyH.nil
    go_simp
    try go_wp2_with fail
    clear hHeld;refine hK.out _ _ ?_ (fun hHeld=>?_)
    ·(try dsimp only);go_keep
    clear hK K
    try simp only[Act.put,Ac,Ad,Ae]
    refine QH 8 ⟨some 5,_,_,_,_,_⟩ (h:=?_)
    try simp only[Act.put,Ac,Ad,Ae]
    refine QH 9 ⟨some 6,_,_,_,_,_⟩ (h:=?_)
    try simp only[Act.put,Ac,Ad,Ae]
    refine wpAnyH_done rG ?_ _;refine NoPanic.normal ?_;go_wp2_with fail;rw[HZ.out];obtain⟨s0,s1,s2,s3,s4,s5,s6,_⟩:=HT.out;exact Au (v:= .tuple #[.agg #[.int .u8 4,.string T,.int .u8 vk,.int .i64 vn,.string D,.int .i64 0,.int .i64 0],.int .i64 (E:Int),.int .i64 0]) rQ rfl (Iw HB.out.drew HE.out u.out)
  |false=>
   rw[hd] at L;have HD:=Ax hd;clear hd;by_cases h34:c=34
   ·subst h34;have cb:(34:UInt8).toNat=34:=rfl;rw[cb] at ix vE vF L;have L:Hid (Calls Tryz.prog 157 #[.int .u8 34] W1 _):=Ax L.out;have HQ:=Ax (gC s p W1 hs hp);rw[HL.out,E1.out] at HQ;clear cb;rcases Zg (p:=p) (q:=r) with ⟨hh,hq,uX⟩|⟨hh,hq⟩
    ·obtain⟨n,G⟩:∃n,Bd false r=n:=⟨_,rfl⟩;obtain⟨E,y⟩:∃E,p+(n+2)=E:=⟨_,rfl⟩;rw[hq,G,show p+n+2=p+(n+2) by omega,y] at HQ;rw[G,←E1.out] at uX;have j8:E<=s.size:=by have:=k8.out;omega
     have vD:p+2<=E:=by omega
     have k:=Dm s (p:Int) (E:Int) rF rF rF;rw[show((p:Int)).toNat=p by omega,show((E:Int)).toNat=E by omega] at k;obtain⟨T,hT⟩:∃T,s.extract p E=T:=⟨_,rfl⟩;have f:(34::r).take (Bd false r+2)=dl T:=by rw[←hT,Ep,HL.out,←y,Nat.add_sub_cancel_left,G,E1.out]
     rw[hT] at k;have b8:T.size<=1000000:=by rw[←hT,ByteArray.size_extract];omega
     have n9:=Dm s ((p:Int)+1) ((E:Int) - 1) rF rF rF;rw[show((p:Int)+1).toNat=p+1 by omega,show((E:Int) - 1).toNat=E - 1 by omega] at n9;obtain⟨T2,uR⟩:∃T2,s.extract (p+1) (E - 1)=T2:=⟨_,rfl⟩;have p8:r.take (Bd false r)=dl T2:=by rw[←uR,Ep,HR.out,G,show E - 1 - (p+1)=n by omega]
     rw[uR] at n9;have w1:IntKind.i64.wrap ((p:Int)+1)=(p:Int)+1:=IntWalk.i64_in _ rF;have w2:IntKind.i64.wrap ((E:Int) - 1)=(E:Int) - 1:=IntWalk.i64_in _ rF;have w8:=Ax (Sr T W1 rF);have uY:=Ax hh;have HTK:=Ax f;have uZ:=Ax p8;have u:Hid (p+(Bd false r+2)=E):=Ax (by rw[G];exact y);clear G y hT f uR p8 hh hq uX;have vH:=Ax w1;have vI:=Ax w2;clear w1 w2;go_wp2_with fail;refine j.out.mono ?_;rintro e w' ⟨rfl,rfl⟩;go_wp2_with fail;refine L.out.mono ?_;rintro e w' ⟨rfl,rfl⟩;go_wp2_with fail;refine HQ.out.mono ?_;rintro e w' ⟨rfl,rfl⟩;go_wp2_with fail;refine w8.out.mono ?_;rintro e C ⟨x,he⟩;cases hpr:Dy (dl T) with
     |error q=>
      rw[hpr] at he;simp only at he;subst he;have F:=x.trans (((Aq C.heap.size C).alloc (Ak _) (.cells #[.int .u8 0,.int .i64 0,.string ⟨#[]⟩] 23)).mono x.size);have g:=Ax (HA.out.below F);clear r0 r1 r2 r3 r4 r5 r6 R U V W Y a8 b7 n0 n1 n2 n3 n4 n5 n6;obtain⟨r0,r1,r2,r3,r4,r5,r6,d⟩:=g.out.r;have R:=d 0;have U:=d 1;have V:=d 2;have W:=d 3;have Y:=d 4;have a8:=d 5;have b7:=d 6;obtain⟨n0,n1,n2,n3,n4,n5,n6,_⟩:=g.out.n;clear d;clear F x HA;have HA:=g;clear g;have dq:(q==0)=false:=Af.2 (by rcases O1 hpr with h|h|h<;>omega);have vG:(q !=0)=true:=by rw[bne,dq];rfl
      have HE:=Ax (show B2 l= .error 4 by rw[E1.out,Rs];exact nJ uY.out (by rw[HTK.out];exact hpr));clear hpr;have hT:=Bi.set7 HA.out.r 0 ⟨#[]⟩ 0 0 ⟨#[]⟩ 0 0;have hB:=A7 HA.out.bel (Ak _) 0 ⟨#[]⟩ 0 0 ⟨#[]⟩ 0 0;obtain⟨Z,hZ⟩:∃Z,set7 (C.alloc (.cells #[.int .u8 0,.int .i64 0,.string ⟨#[]⟩] 23)) w.heap.size 0 ⟨#[]⟩ 0 0 ⟨#[]⟩ 0 0=Z:=⟨_,rfl⟩;exact zzt
     |ok v=>
      obtain⟨vk,vn,vs⟩:=v;rw[hpr] at he;simp only at he;subst he;obtain⟨D,d8⟩:∃D:ByteArray,⟨vs.toArray⟩=D:=⟨_,rfl⟩;have w9:vs=dl D:=by rw[←d8]
      rw[d8];subst w9;have O:∀i,((C.alloc (.cells #[.int .u8 vk,.int .i64 vn,.string D] 23))).cell? ⟨C.heap.size,i,none⟩=(#[.int .u8 vk,.int .i64 vn,.string D]:Array Value)[i]?:=fun i=>by simp only[World.cell?,Az];rfl
      have x8:=O 0;have x9:=O 1;have y8:=O 2;simp only[List.getElem?_toArray] at x8 x9 y8;have y9:¬w.heap.size=C.heap.size:=by have:=HA.out.bel.size;have:=x.size;have:=Bn HA.out.r.c0;simp at this;omega
      have uW:¬C.heap.size=w.heap.size:=fun h=>y9 h.symm
      have F:=x.trans (((Aq C.heap.size C).alloc (Ak _) (.cells #[.int .u8 vk,.int .i64 vn,.string D] 23)).mono x.size);have g:=Ax (HA.out.below F);clear r0 r1 r2 r3 r4 r5 r6 R U V W Y a8 b7 n0 n1 n2 n3 n4 n5 n6;obtain⟨r0,r1,r2,r3,r4,r5,r6,d⟩:=g.out.r;have R:=d 0;have U:=d 1;have V:=d 2;have W:=d 3;have Y:=d 4;have a8:=d 5;have b7:=d 6;obtain⟨n0,n1,n2,n3,n4,n5,n6,_⟩:=g.out.n;clear d;clear F x HA O d8;have HA:=g;clear g;have HE:=Ax (show B2 l= .ok (⟨5,dl T2,(vk,vn,dl D)⟩,Bd false r+2) by rw[E1.out,Rs,mX uY.out (by rw[HTK.out];exact hpr),uZ.out]);have hT:=Bi.set7 HA.out.r 5 T2 vk vn D 0 0;have hB:=A7 HA.out.bel (Ak _) 5 T2 vk vn D 0 0;obtain⟨Z,hZ⟩:∃Z,set7 (C.alloc (.cells #[.int .u8 vk,.int .i64 vn,.string D] 23)) w.heap.size 5 T2 vk vn D 0 0=Z:=⟨_,rfl⟩;rw[hZ] at hT hB;unfold set7 at hZ;have HT:=Ax hT;have HB:=Ax hB;have HZ:=Ax hZ;clear hT hB hZ;clear hpr;go_wp2_with fail;have w1:=vH.out;have w2:=vI.out;refine wp_region_noPanic ?_;refine wp_region_held_drew (S:=fun X=>X.cell? ⟨C.heap.size,0,none⟩=some (.int .u8 vk)/\X.cell? ⟨C.heap.size,1,none⟩=some (.int .i64 vn)/\X.cell? ⟨C.heap.size,2,none⟩=some (.string D)) rG ?_ (fun hHeld=>?_)
      ·(try dsimp only);go_keep
      refine QH 0 ⟨some 126,_,_,_,_,_⟩ (h:=?_)
      try simp only[Act.put,Ac,Ad,Ae]
      refine QH 1 ⟨some 127,_,_,_,_,_⟩ (h:=?_)
      try simp only[Act.put,Ac,Ad,Ae]
      refine QH 2 ⟨some 128,_,_,_,_,_⟩ (h:=?_)
      try simp only[Act.put,Ac,Ad,Ae]
      refine QH 3 ⟨some 129,_,_,_,_,_⟩ (h:=?_)
      try simp only[Act.put,Ac,Ad,Ae]
      refine QH 4 ⟨some 130,_,_,_,_,_⟩ (h:=?_)
      try simp only[Act.put,Ac,Ad,Ae]
      refine QH 5 ⟨some 131,_,_,_,_,_⟩ (h:=?_)
      try simp only[Act.put,Ac,Ad,Ae]
      refine QH 6 ⟨some 132,_,_,_,_,_⟩ (h:=?_)
      try simp only[Act.put,Ac,Ad,Ae]
      refine QH 7 ⟨some 133,_,_,_,_,_⟩ (h:=?_)
      try simp only[Act.put,Ac,Ad,Ae]
      refine QH 8 ⟨some 134,_,_,_,_,_⟩ (h:=?_)
      try simp only[Act.put,Ac,Ad,Ae]
      refine wpAnyH_ready (rs:=[9]) rG rI ?_;refine AllReadyH.cons (o:=⟨none,_,_,_,_,_⟩) (rs:=[]) rfl (fun K hK=>?_) AllReadyH.nil
      go_simp
      try go_wp2_with fail
      clear hHeld;refine hK.out _ _ ?_ (fun hHeld=>?_)
      ·(try dsimp only);go_keep
      clear hK K
      try simp only[Act.put,Ac,Ad,Ae]
      refine QH 10 ⟨some 5,_,_,_,_,_⟩ (h:=?_)
      try simp only[Act.put,Ac,Ad,Ae]
      refine QH 11 ⟨some 6,_,_,_,_,_⟩ (h:=?_)
      try simp only[Act.put,Ac,Ad,Ae]
      refine wpAnyH_done rG ?_ _;refine NoPanic.normal ?_;clear w1 w2;go_wp2_with fail;rw[HZ.out];obtain⟨s0,s1,s2,s3,s4,s5,s6,_⟩:=HT.out;exact Au (v:= .tuple #[.agg #[.int .u8 5,.string T2,.int .u8 vk,.int .i64 vn,.string D,.int .i64 0,.int .i64 0],.int .i64 (E:Int),.int .i64 0]) rQ rfl (Iw HB.out.drew HE.out u.out)
    rw[hq] at HQ;have vJ:=Ax (show B2 l= .error 4 by rw[E1.out,Rs];exact nG hh);clear hq hh;go_wp2_with fail;refine j.out.mono ?_;rintro e w' ⟨rfl,rfl⟩;go_wp2_with fail;refine L.out.mono ?_;rintro e w' ⟨rfl,rfl⟩;go_wp2_with fail;refine HQ.out.mono ?_;rintro e w' ⟨rfl,rfl⟩;have HE:=Ax (vJ.out);exact zzw
   have vK:((c.toNat:Int)==34)=false:=Af.2 (fun e=>h34 (Cd (n:=34) rF));have M:=Ax (show B2 l=F5 l by rw[E1.out];exact dA HD.out uV.out h34 (fun e=>HM.out (.inl e)) (fun e=>HM.out (.inr e)));clear h34;have f7:=Ax (eR s p W1 hs hp);rw[HL.out] at f7;obtain⟨n,G⟩:∃n,Jt l=n:=⟨_,rfl⟩;have vA:C4 p l=if n=0 then -1 else((p+n:Nat):Int):=by rw[←G];rfl
   rw[vA] at f7;have f9:n<=l.length:=by rw[←G,E1.out];exact jE c r
   have HN:=Ax G;clear vA G;by_cases h0:n=0
   ·rw[Ap h0] at f7;have uS:=Ax (show B2 l= .error 4 by rw[M.out,Va,HN.out,Ap h0]);clear h0 f9;go_wp2_with fail;refine j.out.mono ?_;rintro e w' ⟨rfl,rfl⟩;go_wp2_with fail;refine L.out.mono ?_;rintro e w' ⟨rfl,rfl⟩;go_wp2_with fail;refine f7.out.mono ?_;rintro e w' ⟨rfl,rfl⟩;have HE:=Ax (uS.out);exact zzw
   rw[Ao h0] at f7;obtain⟨E,y⟩:∃E,p+n=E:=⟨_,rfl⟩;rw[y] at f7;have j8:E<=s.size:=by have:=k8.out;omega
   have k:=Dm s (p:Int) (E:Int) rF rF rF;rw[show((p:Int)).toNat=p by omega,show((E:Int)).toNat=E by omega] at k;obtain⟨T,hT⟩:∃T,s.extract p E=T:=⟨_,rfl⟩;have f:l.take n=dl T:=by rw[←hT,Ep,HL.out,←y,Nat.add_sub_cancel_left]
   rw[hT] at k;have uS:=Ax (show B2 l= .ok (⟨7,dl T,(0,0,dl ⟨#[]⟩)⟩,n) by rw[M.out,Va,HN.out,Ao h0,f];rfl);have u:=Ax y;clear y hT f h0 f9;go_wp2_with fail;refine j.out.mono ?_;rintro e w' ⟨rfl,rfl⟩;go_wp2_with fail;refine L.out.mono ?_;rintro e w' ⟨rfl,rfl⟩;go_wp2_with fail;refine f7.out.mono ?_;rintro e w' ⟨rfl,rfl⟩;have HE:=Ax (uS.out);have hT:=Bi.set7 HA.out.r 7 T 0 0 ⟨#[]⟩ 0 0;have hB:=A7 HA.out.bel (Ak _) 7 T 0 0 ⟨#[]⟩ 0 0;obtain⟨Z,hZ⟩:∃Z,set7 W1 w.heap.size 7 T 0 0 ⟨#[]⟩ 0 0=Z:=⟨_,rfl⟩;rw[hZ] at hT hB;unfold set7 at hZ;have HT:=Ax hT;have HB:=Ax hB;have HZ:=Ax hZ;clear hT hB hZ;go_wp2_with fail;rw[HZ.out];obtain⟨s0,s1,s2,s3,s4,s5,s6,_⟩:=HT.out;exact Au (v:= .tuple #[.agg #[.int .u8 7,.string T,.int .u8 0,.int .i64 0,.string ⟨#[]⟩,.int .i64 0,.int .i64 0],.int .i64 (E:Int),.int .i64 0]) rQ rfl (Iw HB.out HE.out u.out)
end Go.Proofs.YtgfakdobajgnfaaGreatDoor
