import Derived.Test.YtgfakdobajgnfaaGreatDoorQn24
set_option maxRecDepth 100000
set_option maxHeartbeats 16000000
namespace Go.Proofs.YtgfakdobajgnfaaGreatDoor
open Go Go.RowKit Go.Lib
def O1 (p:Nat)(l:List UInt8):Except Int (Wd×Nat):=match Bv l with
 | .ok x=> .ok (x.1,p+x.2)
 | .error e=> .error e
theorem Ie {w w':World}{p n E:Nat}{l:List UInt8}{k vk vn:Int}{T vs:ByteArray}(hb:Below w.heap.size w w')(hw:Bv l= .ok (⟨k,dl T,(vk,vn,dl vs)⟩,n))(hE:p+n=E):
 Ph w (O1 p l) (.returned (.tuple #[.agg #[.int .u8 k,.string T,.int .u8 vk,.int .i64 vn,.string vs,.int .i64 0,.int .i64 0],.int .i64 (E:Int),.int .i64 0])) w':=by
 refine⟨hb,?_⟩;unfold O1;rw[hw];simp only[Fc,Ji,hE]
theorem F2 {w w':World}{p:Nat}{l:List UInt8}{e:Int}(hb:Below w.heap.size w w')(hw:Bv l= .error e):
 Ph w (O1 p l) (.returned (.tuple #[.agg #[.int .u8 0,.string ⟨#[]⟩,.int .u8 0,.int .i64 0,.string ⟨#[]⟩,.int .i64 0,.int .i64 0],.int .i64 0,.int .i64 e])) w':=by
 refine⟨hb,?_⟩;unfold O1;rw[hw];exact⟨⟨0,[],v0⟩,0,rfl⟩
structure Ww (w V:World):Prop where
 r:Bi V w.heap.size 0 ⟨#[]⟩ 0 0 ⟨#[]⟩ 0 0
 n:Bi V (w.heap.size+1) 0 ⟨#[]⟩ 0 0 ⟨#[]⟩ 0 0
 bel:Below w.heap.size w V
theorem Ww.below {w V V':World}(h:Ww w V)(hb:Below V.heap.size V V'):Ww w V':=⟨h.r.below hb,h.n.below hb,h.bel.trans (hb.mono h.bel.size)⟩
theorem iA (w:World):Ww w ((w.alloc (.cells De 94)).alloc (.cells De 94)):=by
 refine⟨(Bi.new w).below ((Aq _ _).alloc (Ak _) _),?_,((Aq _ _).alloc (Ak _) _).alloc nW _⟩
 have:=Bi.new (w.alloc (.cells De 94))
 simpa using this
theorem Rx {c:UInt8}{r:List UInt8}(h:D6 c=true):F4 (c::r)=A7 Co (c::r):=Ap h
theorem Zp {c:UInt8}{r:List UInt8}(h:D6 c=false):F4 (c::r)=0:=Ao (by rw[h];simp)
theorem Z8 (l:List UInt8):F4 l<=l.length:=by
 unfold F4
 split
 ·split
  ·exact Dh _ _
  omega
 omega
theorem iP {c:UInt8}{r:List UInt8}(h:D6 c=true):Bv (c::r)=Cv ⟨1,(c::r).take (A7 Co (c::r)),v0⟩ (A7 Co (c::r)):=by
 unfold Bv;simp only;rw[Ap h]
theorem Ou {w:Wd}{n:Nat}(h:12<w.t.length):Cv w n= .error 4:=by unfold Cv;rw[Ap h]
theorem Mn {w:Wd}{n:Nat}(h:¬12<w.t.length):Cv w n= .ok (w,n):=by unfold Cv;rw[Ao h]
theorem Lb {c:UInt8}{r:List UInt8}:(Eu (c::r)=true/\F4 r=A7 Co r/\1<=F4 r)\/(Eu (c::r)=false/\F4 r=0):=by
 match r with
 |[]=>exact .inr ⟨rfl,rfl⟩
 |d::q=>
  show(D6 d=true/\_)\/(D6 d=false/\_)
  cases h:D6 d with
  |true=>exact .inl ⟨rfl,Rx h,by rw[Rx h,Fh (T5 h)];omega⟩
  |false=>exact .inr ⟨rfl,Zp h⟩
theorem iC {r:List UInt8}(h:F4 r=0):Bv (63::r)= .ok (⟨3,[],v0⟩,1):=by
 rcases Lb (c:=63) (r:=r) with ⟨_,_,h2⟩|⟨h1,_⟩
 ·omega
 show(if Eu (63::r)=true then _ else _)=_
 rw[Ao (by rw[h1];simp)]
theorem Tm {r:List UInt8}(h:1<=F4 r):Bv (63::r)=Cv ⟨2,r.take (F4 r),v0⟩ (1+F4 r):=by
 rcases Lb (c:=63) (r:=r) with ⟨h0,h1,_⟩|⟨_,h1⟩
 ·show(if Eu (63::r)=true then _ else _)=_
  rw[Ap h0,h1]
 omega
theorem U8 {r:List UInt8}(h:1<=F4 r):Bv (35::r)=Cv ⟨6,r.take (F4 r),(5,0,r.take (F4 r))⟩ (1+F4 r):=by
 rcases Lb (c:=35) (r:=r) with ⟨h0,h1,_⟩|⟨_,h1⟩
 ·show(if(35:UInt8)=35/\Eu (35::r)=true then _ else _)=_
  rw[Ap ⟨rfl,h0⟩,h1]
 omega
theorem cC {r:List UInt8}(h:F4 r=0):Bv (35::r)= .error 4:=by
 rcases Lb (c:=35) (r:=r) with ⟨_,_,h2⟩|⟨h1,_⟩
 ·omega
 show(if(35:UInt8)=35/\Eu (35::r)=true then _ else Fq (35::r))=_
 rw[Ao (by rw[h1];simp),Ua]
 have:I0 (35::r)=0:=by
  unfold I0;rw[Ao,Ao (fun q=>absurd (Uu.1 q) nV)]
  match r with
  |[]=>decide
  |d::q=>exact Ws nW nW nW nW
 rw[this];rfl
theorem iF {c:UInt8}{r:List UInt8}(h:Bg c=true)(hl:D6 c=false):Bv (c::r)=Ll (c::r):=by
 unfold Bv;simp only;rw[Ao (by rw[hl];simp),Ap h]
theorem Rm {r:List UInt8}:Bv (34::r)=R0 (34::r):=rfl
theorem dF {c:UInt8}{r:List UInt8}(h:Bg c=false)(hl:D6 c=false)(h1:c≠34)(h2:c≠63)(h3:c≠35):Bv (c::r)=Fq (c::r):=by
 unfold Bv;simp only;rw[Ao (by rw[hl];simp),Ao (by rw[h];simp),Ao h1,Ao h2,Ao (fun q=>h3 q.1)]
theorem kA {l:List UInt8}{v:Int×Int×List UInt8}(h:Dq (l.take (B9 l))= .ok v):Ll l= .ok (⟨4,l.take (B9 l),v⟩,B9 l):=by unfold Ll;rw[h]
theorem aH {l:List UInt8}{e:Int}(h:Dq (l.take (B9 l))= .error e):Ll l= .error (if e=9 then 9 else 4):=by unfold Ll;rw[h]
theorem dJ (l:List UInt8):B9 l<=l.length:=by
 rw[Fl];have h1:=Dh Bg l;unfold Ci
 split
 ·rename_i c r e
  have h2:=Ar List.length e;rw[List.length_drop] at h2;simp only[Aa] at h2
  split
  ·have:=Dh Bg (c::r)
   simp only[Aa] at this;omega
  omega
 omega
theorem kO {q:List UInt8}(h:((34::q).drop (1+Ba false q)).head?≠some 34):R0 (34::q)= .error 4:=by rw[Ha,Ao h]
theorem lH {q:List UInt8}{e:Int}(h:((34::q).drop (1+Ba false q)).head? =some 34)(hp:Dq ((34::q).take (Ba false q+2))= .error e):R0 (34::q)= .error 4:=by rw[Ha,Ap h,hp]
theorem jO {q:List UInt8}{v:Int×Int×List UInt8}(h:((34::q).drop (1+Ba false q)).head? =some 34)(hp:Dq ((34::q).take (Ba false q+2))= .ok v):R0 (34::q)= .ok (⟨5,q.take (Ba false q),v⟩,Ba false q+2):=by rw[Ha,Ap h,hp]
theorem X9 {p:Nat}{q:List UInt8}:(((34::q).drop (1+Ba false q)).head? =some 34/\R9 p (34::q)=((p+Ba false q+2:Nat):Int)/\Ba false q+2<=(34::q).length)\/(((34::q).drop (1+Ba false q)).head?≠some 34/\R9 p (34::q)= -1):=by
 by_cases h:((34::q).drop (1+Ba false q)).head? =some 34
 ·refine .inl ⟨h,by unfold R9;exact Ap h,?_⟩;have h2:(34::q).drop (1+Ba false q)≠[]:=fun e=>by rw[e] at h;cases h
  have h3:=List.length_pos_iff.2 h2;rw[List.length_drop] at h3;omega
 exact .inr ⟨h,by unfold R9;exact Ao h⟩
theorem fU (c:UInt8)(r:List UInt8):I0 (c::r)<=(c::r).length:=by
 unfold I0
 split
 ·next h=>
  have:((c::r).take 2).length=2:=by
   unfold Jc at h;simp only[List.mem_cons,List.not_mem_nil,or_false] at h;rcases h with h|h|h|h<;>rw[h]<;>rfl
  rw[List.length_take] at this;omega
 split<;>simp
theorem Wm {s:ByteArray}{p:Nat}(h:p<s.size)(w:World):(Instr.index 9 (.string s) (.int .i64 (p:Int))).run Tryz.prog w= .ok (.int .u8 (s[p].toNat:Int)) w:=by
 go_simp
theorem dK (s:ByteArray)(p:Nat)(w:World)(hs:s.size<=1000000)(hp:p<s.size):Calls Tryz.prog 90 #[.string s,.int .i64 (p:Int)] w (Ph w (O1 p ((dl s).drop p))):=by
 have e1:=I5 hp;obtain⟨l,hl⟩:∃l,(dl s).drop p=l:=⟨_,rfl⟩;obtain⟨r,hr⟩:∃r,(dl s).drop (p+1)=r:=⟨_,rfl⟩;obtain⟨c,hc⟩:∃c,s[p]=c:=⟨_,rfl⟩;rw[hl,hr,hc] at e1;have hll:l.length=s.size - p:=by rw[←hl,List.length_drop,A4]
 have hrl:r.length=s.size - (p+1):=by rw[←hr,List.length_drop,A4]
 have q0:(0:Int)<=(p:Int):=by omega
 have q1:(p:Int)<(s.size:Int):=by omega
 have HC:=Ax hc;have HL:=Ax hl;have HR:=Ax hr;have HLL:=Ax hll;have HRL:=Ax hrl;have ix:∀w:World,(Instr.index 9 (.string s) (.int .i64 (p:Int))).run Tryz.prog w= .ok (.int .u8 (c.toNat:Int)) w:=fun w=>by have:=Wm hp w;rw[hc] at this;exact this
 have HS:=Ax (iA w);obtain⟨W1,hW1⟩:∃W1,(w.alloc (.cells De 94)).alloc (.cells De 94)=W1:=⟨_,rfl⟩;rw[hW1] at HS;have HW1:=Ax hW1;have HA:Hid (Ww w W1):=Ax HS.out;have HRUN:=Ax (Ty s p W1 hs nU);rw[hl] at HRUN ⊢;clear hW1 hll hrl hl hr hc HS;go_enter Tryz.func90,Tryz.ntmps90;go_upto_region 2 with fail
 change Code.wp _ _ _ _ ((w.alloc (.cells De 94)).alloc (.cells De 94));rw[HW1.out];obtain⟨r0,r1,r2,r3,r4,r5,r6,rz⟩:=HA.out.r;have rz0:=rz 0;have rz1:=rz 1;have rz2:=rz 2;have rz3:=rz 3;have rz4:=rz 4;have rz5:=rz 5;have rz6:=rz 6;obtain⟨n0,n1,n2,n3,n4,n5,n6,_⟩:=HA.out.n;clear rz;cases hlo:D6 c with
 |true=>
  obtain⟨n,hn⟩:∃n,A7 Co l=n:=⟨_,rfl⟩;have hrn:F4 l=n:=by rw[e1,Rx hlo,←e1,hn]
  have hwl:Bv l=Cv ⟨1,l.take n,v0⟩ n:=by rw[e1,iP hlo,←e1,hn]
  have hn1:1<=n:=by rw[←hn,e1,Fh (T5 hlo)];omega
  have hnl:n<=l.length:=by rw[←hn];exact Dh _ _
  obtain⟨E,hE⟩:∃E,p+n=E:=⟨_,rfl⟩;rw[hrn,hE] at HRUN;have hEs:E<=s.size:=by have:=HLL.out;omega
  have hpE:p<E:=by omega
  have hsl:=Db s (p:Int) (E:Int) nU nU nU;rw[show((p:Int)).toNat=p by omega,show((E:Int)).toNat=E by omega] at hsl;obtain⟨T,hT⟩:∃T,s.extract p E=T:=⟨_,rfl⟩;have htk:l.take n=dl T:=by rw[←hT,Ei,HL.out,←hE,Nat.add_sub_cancel_left]
  have htl:(dl T).length=n:=by rw[←htk,List.length_take];omega
  rw[hT] at hsl;rw[htk] at hwl;have d1:(p:Int)<(E:Int):=by omega
  have HWL:=Ax hwl;have HTL:=Ax htl;have HE0:=Ax hE;clear hn hrn hwl hn1 hnl hE hT htk htl e1 hlo;go_wp2_with fail;refine HRUN.out.mono ?_;rintro e w' ⟨rfl,rfl⟩;by_cases h12:12<n
  ·have d2:(12:Int)<(E:Int) - (p:Int):=by have:=HE0.out;omega
   have HE:=Ax (show Bv l= .error 4 by rw[HWL.out];exact Ou (by show 12<(dl T).length;rw[HTL.out];exact h12));exact zz0
  have d2:decide ((12:Int)<(E:Int) - (p:Int))=false:=An (by have:=HE0.out;omega);have d3:(E:Int) - (p:Int)<=12:=by have:=HE0.out;omega
  have HE:=Ax (show Bv l= .ok (⟨1,dl T,(0,0,dl ⟨#[]⟩)⟩,n) by rw[HWL.out];exact Mn qC);have hT:=Bi.set7 HA.out.r 1 T 0 0 ⟨#[]⟩ 0 0;have hB:=A5 HA.out.bel (Ak _) 1 T 0 0 ⟨#[]⟩ 0 0;obtain⟨Z,hZ⟩:∃Z,set7 W1 w.heap.size 1 T 0 0 ⟨#[]⟩ 0 0=Z:=⟨_,rfl⟩;rw[hZ] at hT hB;unfold set7 at hZ;have HT:=Ax hT;have HB:=Ax hB;have HZ:=Ax hZ;clear hT hB hZ;go_wp2_with fail;rw[HZ.out];obtain⟨s0,s1,s2,s3,s4,s5,s6,_⟩:=HT.out;exact Au (v:= .tuple #[.agg #[.int .u8 1,.string T,.int .u8 0,.int .i64 0,.string ⟨#[]⟩,.int .i64 0,.int .i64 0],.int .i64 (E:Int),.int .i64 0]) oE rfl (Ie HB.out HE.out HE0.out)
 |false=>
  have hrn:F4 l=0:=by rw[e1];exact Zp hlo
  rw[hrn,Nat.add_zero] at HRUN;clear hrn;have HLO:=Ax hlo;clear hlo;by_cases hm:c=63\/c=35
  ·rcases hm with hm|hm
   ·subst hm;have cb:(63:UInt8).toNat=63:=rfl;rw[cb] at ix;have HRN2:=Ax (Ty s (p+1) W1 hs nU);rw[HR.out] at HRN2;obtain⟨m,hmm⟩:∃m,F4 r=m:=⟨_,rfl⟩;have hml:m<=r.length:=by rw[←hmm];exact Z8 r
    obtain⟨E,hE⟩:∃E,p+1+m=E:=⟨_,rfl⟩;rw[hmm,hE] at HRN2;have hEs:E<=s.size:=by have:=HRL.out;omega
    have HRN:Hid (Calls Tryz.prog 156 #[.string s,.int .i64 ((p:Int)+1)] W1 _):=Ax HRN2.out;have hsl:=Db s ((p:Int)+1) (E:Int) nU nU nU;rw[show((p:Int)+1).toNat=p+1 by omega,show((E:Int)).toNat=E by omega] at hsl;obtain⟨T,hT⟩:∃T,s.extract (p+1) E=T:=⟨_,rfl⟩;have htk:r.take m=dl T:=by rw[←hT,Ei,HR.out,←hE,Nat.add_sub_cancel_left]
    have htl:(dl T).length=m:=by rw[←htk,List.length_take];omega
    rw[hT] at hsl;have hts:T.size=m:=by rw[←A4];exact htl
    have htm:T.size<=1000000:=by have:=HRL.out;omega
    have HTS:=Ax hts;have HTL:=Ax htl;have HTK:=Ax htk;have HE0:=Ax hE;have HMM:=Ax hmm;have E1:=Ax e1;clear hml hE hT htk htl hts e1 hmm cb HRN2;go_wp2_with fail;refine HRUN.out.mono ?_;rintro e w' ⟨rfl,rfl⟩;go_wp2_with fail;refine HRN.out.mono ?_;rintro e w' ⟨rfl,rfl⟩;by_cases h12:12<m
    ·have d2:(12:Int)<(T.size:Int):=by have:=HTS.out;omega
     have HE:=Ax (show Bv l= .error 4 by rw[E1.out,Tm (by rw[HMM.out];omega)];exact Ou qU);exact zz0
    have d2:(T.size:Int)<=12:=by have:=HTS.out;omega
    have d2':decide ((12:Int)<(T.size:Int))=false:=An nU;by_cases h0:m=0
    ·have hTe:T=⟨#[]⟩:=Ce (List.eq_nil_of_length_eq_zero (by rw[HTL.out];exact h0));have HE1:=Ax (show p+1=E by have:=HE0.out;omega);subst hTe;clear d2 d2' htm;have HE:=Ax (show Bv l= .ok (⟨3,dl ⟨#[]⟩,(0,0,dl ⟨#[]⟩)⟩,1) by rw[E1.out];exact iC (by rw[HMM.out];exact h0));have hT:=Bi.set7 HA.out.r 3 ⟨#[]⟩ 0 0 ⟨#[]⟩ 0 0;have hB:=A5 HA.out.bel (Ak _) 3 ⟨#[]⟩ 0 0 ⟨#[]⟩ 0 0;obtain⟨Z,hZ⟩:∃Z,set7 W1 w.heap.size 3 ⟨#[]⟩ 0 0 ⟨#[]⟩ 0 0=Z:=⟨_,rfl⟩;rw[hZ] at hT hB;unfold set7 at hZ;have HT:=Ax hT;have HB:=Ax hB;have HZ:=Ax hZ;clear hT hB hZ;clear h0;go_wp2_with fail;rw[HZ.out];obtain⟨s0,s1,s2,s3,s4,s5,s6,_⟩:=HT.out;exact Au (v:= .tuple #[.agg #[.int .u8 3,.string ⟨#[]⟩,.int .u8 0,.int .i64 0,.string ⟨#[]⟩,.int .i64 0,.int .i64 0],.int .i64 (E:Int),.int .i64 0]) oE rfl (Ie HB.out HE.out HE1.out)
    have t0:(T.toList==[])=false:=by rw[Az];exact Af.2 (fun e=>h0 (by rw[←HTL.out,e];rfl))
    have t1:T.toList.isEmpty=false:=by rw[Az];cases h:dl T with|nil=>exact absurd (by rw[←HTL.out,h];rfl) h0|cons=>rfl
    have HE1:=Ax (show p+(1+m)=E by have:=HE0.out;omega);have HE:=Ax (show Bv l= .ok (⟨2,dl T,(0,0,dl ⟨#[]⟩)⟩,1+m) by rw[E1.out,Tm (by rw[HMM.out];omega),HMM.out,HTK.out];exact Mn qC);have hT:=Bi.set7 HA.out.r 2 T 0 0 ⟨#[]⟩ 0 0;have hB:=A5 HA.out.bel (Ak _) 2 T 0 0 ⟨#[]⟩ 0 0;obtain⟨Z,hZ⟩:∃Z,set7 W1 w.heap.size 2 T 0 0 ⟨#[]⟩ 0 0=Z:=⟨_,rfl⟩;rw[hZ] at hT hB;unfold set7 at hZ;have HT:=Ax hT;have HB:=Ax hB;have HZ:=Ax hZ;clear hT hB hZ;go_wp2_with fail;rw[HZ.out];obtain⟨s0,s1,s2,s3,s4,s5,s6,_⟩:=HT.out;exact Au (v:= .tuple #[.agg #[.int .u8 2,.string T,.int .u8 0,.int .i64 0,.string ⟨#[]⟩,.int .i64 0,.int .i64 0],.int .i64 (E:Int),.int .i64 0]) oE rfl (Ie HB.out HE.out HE1.out)
   subst hm;have cb:(35:UInt8).toNat=35:=rfl;rw[cb] at ix;have HRN2:=Ax (Ty s (p+1) W1 hs nU);rw[HR.out] at HRN2;obtain⟨m,hmm⟩:∃m,F4 r=m:=⟨_,rfl⟩;have hml:m<=r.length:=by rw[←hmm];exact Z8 r
   obtain⟨E,hE⟩:∃E,p+1+m=E:=⟨_,rfl⟩;rw[hmm,hE] at HRN2;have hEs:E<=s.size:=by have:=HRL.out;omega
   have HRN:Hid (Calls Tryz.prog 156 #[.string s,.int .i64 ((p:Int)+1)] W1 _):=Ax HRN2.out;have hsl:=Db s ((p:Int)+1) (E:Int) nU nU nU;rw[show((p:Int)+1).toNat=p+1 by omega,show((E:Int)).toNat=E by omega] at hsl;obtain⟨T,hT⟩:∃T,s.extract (p+1) E=T:=⟨_,rfl⟩;have htk:r.take m=dl T:=by rw[←hT,Ei,HR.out,←hE,Nat.add_sub_cancel_left]
   have htl:(dl T).length=m:=by rw[←htk,List.length_take];omega
   rw[hT] at hsl;have hts:T.size=m:=by rw[←A4];exact htl
   have htm:T.size<=1000000:=by have:=HRL.out;omega
   have HTS:=Ax hts;have HTL:=Ax htl;have HTK:=Ax htk;have HE0:=Ax hE;have HMM:=Ax hmm;have E1:=Ax e1;clear hml hE hT htk htl hts e1 hmm cb HRN2;go_wp2_with fail;refine HRUN.out.mono ?_;rintro e w' ⟨rfl,rfl⟩;go_wp2_with fail;refine HRN.out.mono ?_;rintro e w' ⟨rfl,rfl⟩;by_cases h12:12<m
   ·have d2:(12:Int)<(T.size:Int):=by have:=HTS.out;omega
    have HE:=Ax (show Bv l= .error 4 by rw[E1.out,U8 (by rw[HMM.out];omega)];exact Ou qU);exact zz0
   have d2:(T.size:Int)<=12:=by have:=HTS.out;omega
   have d2':decide ((12:Int)<(T.size:Int))=false:=An nU;by_cases h0:m=0
   ·have hTe:T=⟨#[]⟩:=Ce (List.eq_nil_of_length_eq_zero (by rw[HTL.out];exact h0));have HE1:=Ax (show p+1=E by have:=HE0.out;omega);subst hTe;clear d2 d2' htm;have HE:=Ax (show Bv l= .error 4 by rw[E1.out];exact cC (by rw[HMM.out];exact h0));clear h0;exact zz0
   have t0:(T.toList==[])=false:=by rw[Az];exact Af.2 (fun e=>h0 (by rw[←HTL.out,e];rfl))
   have t1:T.toList.isEmpty=false:=by rw[Az];cases h:dl T with|nil=>exact absurd (by rw[←HTL.out,h];rfl) h0|cons=>rfl
   have HE1:=Ax (show p+(1+m)=E by have:=HE0.out;omega);have HE:=Ax (show Bv l= .ok (⟨6,dl T,(5,0,dl T)⟩,1+m) by rw[E1.out,U8 (by rw[HMM.out];omega),HMM.out,HTK.out];exact Mn qC);have hT:=Bi.set7 HA.out.r 6 T 5 0 T 0 0;have hB:=A5 HA.out.bel (Ak _) 6 T 5 0 T 0 0;obtain⟨Z,hZ⟩:∃Z,set7 W1 w.heap.size 6 T 5 0 T 0 0=Z:=⟨_,rfl⟩;rw[hZ] at hT hB;unfold set7 at hZ;have HT:=Ax hT;have HB:=Ax hB;have HZ:=Ax hZ;clear hT hB hZ;go_wp2_with fail;rw[HZ.out];obtain⟨s0,s1,s2,s3,s4,s5,s6,_⟩:=HT.out;exact Au (v:= .tuple #[.agg #[.int .u8 6,.string T,.int .u8 5,.int .i64 0,.string T,.int .i64 0,.int .i64 0],.int .i64 (E:Int),.int .i64 0]) oE rfl (Ie HB.out HE.out HE1.out)
  have d63:((c.toNat:Int)==63)=false:=Af.2 (fun e=>hm (.inl (Ca (n:=63) nU)));have d35:((c.toNat:Int)==35)=false:=Af.2 (fun e=>hm (.inr (Ca (n:=35) nU)));have HM:=Ax hm;clear hm;have HDG:=Ax (Iw c W1);have E1:=Ax e1;clear e1;cases hd:Bg c with
  |true=>
   rw[hd] at HDG;have HNL:=Ax (eG s p W1 hs nU);rw[HL.out] at HNL;obtain⟨n,hn⟩:∃n,B9 l=n:=⟨_,rfl⟩;have hnl:n<=l.length:=by rw[←hn];exact dJ l
   obtain⟨E,hE⟩:∃E,p+n=E:=⟨_,rfl⟩;rw[hn,hE] at HNL;have hEs:E<=s.size:=by have:=HLL.out;omega
   have hsl:=Db s (p:Int) (E:Int) nU nU nU;rw[show((p:Int)).toNat=p by omega,show((E:Int)).toNat=E by omega] at hsl;obtain⟨T,hT⟩:∃T,s.extract p E=T:=⟨_,rfl⟩;have htk:l.take n=dl T:=by rw[←hT,Ei,HL.out,←hE,Nat.add_sub_cancel_left]
   rw[hT] at hsl;have hts:T.size<=1000000:=by rw[←hT,ByteArray.size_extract];omega
   have hwl:Bv l=Ll l:=by rw[E1.out];exact iF hd HLO.out
   have HPR:=Ax (Rt T W1 nU);have HWL:=Ax hwl;have HTK:=Ax htk;have HN:=Ax hn;have HE0:=Ax hE;clear hn hnl hE hT htk hwl hd;go_wp2_with fail;refine HRUN.out.mono ?_;rintro e w' ⟨rfl,rfl⟩;go_wp2_with fail;refine HDG.out.mono ?_;rintro e w' ⟨rfl,rfl⟩;go_wp2_with fail;refine HNL.out.mono ?_;rintro e w' ⟨rfl,rfl⟩;go_wp2_with fail;refine HPR.out.mono ?_;rintro e V2 ⟨hb2,he⟩;cases hpr:Dq (dl T) with
   |error q=>
    rw[hpr] at he;simp only at he;subst he;have hal:=hb2.trans (((Aq V2.heap.size V2).alloc (Ak _) (.cells #[.int .u8 0,.int .i64 0,.string ⟨#[]⟩] 23)).mono hb2.size);have HA2:=Ax (HA.out.below hal);clear r0 r1 r2 r3 r4 r5 r6 rz0 rz1 rz2 rz3 rz4 rz5 rz6 n0 n1 n2 n3 n4 n5 n6;obtain⟨r0,r1,r2,r3,r4,r5,r6,rz⟩:=HA2.out.r;have rz0:=rz 0;have rz1:=rz 1;have rz2:=rz 2;have rz3:=rz 3;have rz4:=rz 4;have rz5:=rz 5;have rz6:=rz 6;obtain⟨n0,n1,n2,n3,n4,n5,n6,_⟩:=HA2.out.n;clear rz;clear hal hb2 HA;have HA:=HA2;clear HA2;by_cases h9:q=9
    ·subst h9;have HE:=Ax (show Bv l= .error 9 by rw[HWL.out,aH (by rw[HN.out,HTK.out];exact hpr)];rfl);clear hpr;have hT:=Bi.set7 HA.out.r 0 ⟨#[]⟩ 0 0 ⟨#[]⟩ 0 0;have hB:=A5 HA.out.bel (Ak _) 0 ⟨#[]⟩ 0 0 ⟨#[]⟩ 0 0;obtain⟨Z,hZ⟩:∃Z,set7 (V2.alloc (.cells #[.int .u8 0,.int .i64 0,.string ⟨#[]⟩] 23)) w.heap.size 0 ⟨#[]⟩ 0 0 ⟨#[]⟩ 0 0=Z:=⟨_,rfl⟩;rw[hZ] at hT hB;unfold set7 at hZ;have HT:=Ax hT;have HB:=Ax hB;have HZ:=Ax hZ;clear hT hB hZ;go_wp2_with fail;rw[HZ.out];obtain⟨s0,s1,s2,s3,s4,s5,s6,_⟩:=HT.out;exact Au (v:= .tuple #[.agg #[.int .u8 0,.string ⟨#[]⟩,.int .u8 0,.int .i64 0,.string ⟨#[]⟩,.int .i64 0,.int .i64 0],.int .i64 0,.int .i64 9]) oE rfl (F2 HB.out HE.out)
    have d9:(q==9)=false:=Af.2 h9;have dq:(q==0)=false:=Af.2 (by rcases N2 hpr with h|h|h<;>omega);have dq':(q !=0)=true:=by rw[bne,dq];rfl
    have HE:=Ax (show Bv l= .error 4 by rw[HWL.out,aH (by rw[HN.out,HTK.out];exact hpr),Ao h9]);clear hpr h9;have hT:=Bi.set7 HA.out.r 0 ⟨#[]⟩ 0 0 ⟨#[]⟩ 0 0;have hB:=A5 HA.out.bel (Ak _) 0 ⟨#[]⟩ 0 0 ⟨#[]⟩ 0 0;obtain⟨Z,hZ⟩:∃Z,set7 (V2.alloc (.cells #[.int .u8 0,.int .i64 0,.string ⟨#[]⟩] 23)) w.heap.size 0 ⟨#[]⟩ 0 0 ⟨#[]⟩ 0 0=Z:=⟨_,rfl⟩;exact zzx
   |ok v=>
    obtain⟨vk,vn,vs⟩:=v;rw[hpr] at he;simp only at he;subst he;obtain⟨VS,hVS⟩:∃VS:ByteArray,⟨vs.toArray⟩=VS:=⟨_,rfl⟩;have hvs:vs=dl VS:=by rw[←hVS]
    rw[hVS];subst hvs;have hvv:∀i,((V2.alloc (.cells #[.int .u8 vk,.int .i64 vn,.string VS] 23))).cell? ⟨V2.heap.size,i,none⟩=(#[.int .u8 vk,.int .i64 vn,.string VS]:Array Value)[i]?:=fun i=>by simp only[World.cell?,A0];rfl
    have v0c:=hvv 0;have v1c:=hvv 1;have v2c:=hvv 2;simp only[List.getElem?_toArray] at v0c v1c v2c;have hne:¬w.heap.size=V2.heap.size:=by have:=HA.out.bel.size;have:=hb2.size;have:=B1 HA.out.r.c0;simp at this;omega
    have hne':¬V2.heap.size=w.heap.size:=fun h=>hne h.symm
    have hal:=hb2.trans (((Aq V2.heap.size V2).alloc (Ak _) (.cells #[.int .u8 vk,.int .i64 vn,.string VS] 23)).mono hb2.size);have HA2:=Ax (HA.out.below hal);clear r0 r1 r2 r3 r4 r5 r6 rz0 rz1 rz2 rz3 rz4 rz5 rz6 n0 n1 n2 n3 n4 n5 n6;obtain⟨r0,r1,r2,r3,r4,r5,r6,rz⟩:=HA2.out.r;have rz0:=rz 0;have rz1:=rz 1;have rz2:=rz 2;have rz3:=rz 3;have rz4:=rz 4;have rz5:=rz 5;have rz6:=rz 6;obtain⟨n0,n1,n2,n3,n4,n5,n6,_⟩:=HA2.out.n;clear rz;clear hal hb2 HA hvv hVS;have HA:=HA2;clear HA2;have HE:=Ax (show Bv l= .ok (⟨4,dl T,(vk,vn,dl VS)⟩,n) by rw[HWL.out,kA (by rw[HN.out,HTK.out];exact hpr),HN.out,HTK.out]);have hT:=Bi.set7 HA.out.r 4 T vk vn VS 0 0;have hB:=A5 HA.out.bel (Ak _) 4 T vk vn VS 0 0;obtain⟨Z,hZ⟩:∃Z,set7 (V2.alloc (.cells #[.int .u8 vk,.int .i64 vn,.string VS] 23)) w.heap.size 4 T vk vn VS 0 0=Z:=⟨_,rfl⟩;rw[hZ] at hT hB;unfold set7 at hZ;have HT:=Ax hT;have HB:=Ax hB;have HZ:=Ax hZ;clear hT hB hZ;clear hpr;go_wp2_with fail;refine wp_region_noPanic ?_;refine wp_region_held_drew (S:=fun X=>X.cell? ⟨V2.heap.size,0,none⟩=some (.int .u8 vk)/\X.cell? ⟨V2.heap.size,1,none⟩=some (.int .i64 vn)/\X.cell? ⟨V2.heap.size,2,none⟩=some (.string VS)) nT ?_ (fun hHeld=>?_)
    ·(try dsimp only);go_keep
    refine wpAnyH_take (i:=0) (oi:=⟨some 100,_,_,_,_,_⟩) (v:=?_) rfl nT nT nT (fun _ _ _ h=>h) (Or.inl ⟨by rfl,?_⟩) nX ?_;rotate_left
    ·(intro w hSw;(try dsimp only at hSw);(first|(go_simp;done)|(go_simp;with_reducible rfl)))
    try simp only[Act.put,Ac,Ad,Ae]
    refine wpAnyH_take (i:=1) (oi:=⟨some 101,_,_,_,_,_⟩) (v:=?_) rfl nT nT nT (fun _ _ _ h=>h) (Or.inl ⟨by rfl,?_⟩) nX ?_;rotate_left
    ·(intro w hSw;(try dsimp only at hSw);(first|(go_simp;done)|(go_simp;with_reducible rfl)))
    try simp only[Act.put,Ac,Ad,Ae]
    refine wpAnyH_take (i:=2) (oi:=⟨some 102,_,_,_,_,_⟩) (v:=?_) rfl nT nT nT (fun _ _ _ h=>h) (Or.inl ⟨by rfl,?_⟩) nX ?_;rotate_left
    ·(intro w hSw;(try dsimp only at hSw);(first|(go_simp;done)|(go_simp;with_reducible rfl)))
    try simp only[Act.put,Ac,Ad,Ae]
    refine wpAnyH_take (i:=3) (oi:=⟨some 103,_,_,_,_,_⟩) (v:=?_) rfl nT nT nT (fun _ _ _ h=>h) (Or.inl ⟨by rfl,?_⟩) nX ?_;rotate_left
    ·(intro w hSw;(try dsimp only at hSw);(first|(go_simp;done)|(go_simp;with_reducible rfl)))
    try simp only[Act.put,Ac,Ad,Ae]
    refine wpAnyH_take (i:=4) (oi:=⟨some 104,_,_,_,_,_⟩) (v:=?_) rfl nT nT nT (fun _ _ _ h=>h) (Or.inl ⟨by rfl,?_⟩) nX ?_;rotate_left
    ·(intro w hSw;(try dsimp only at hSw);(first|(go_simp;done)|(go_simp;with_reducible rfl)))
    try simp only[Act.put,Ac,Ad,Ae]
    refine wpAnyH_take (i:=5) (oi:=⟨some 105,_,_,_,_,_⟩) (v:=?_) rfl nT nT nT (fun _ _ _ h=>h) (Or.inl ⟨by rfl,?_⟩) nX ?_;rotate_left
    ·(intro w hSw;(try dsimp only at hSw);(first|(go_simp;done)|(go_simp;with_reducible rfl)))
    try simp only[Act.put,Ac,Ad,Ae]
    refine wpAnyH_take (i:=6) (oi:=⟨some 106,_,_,_,_,_⟩) (v:=?_) rfl nT nT nT (fun _ _ _ h=>h) (Or.inl ⟨by rfl,?_⟩) nX ?_;rotate_left
    ·(intro w hSw;(try dsimp only at hSw);(first|(go_simp;done)|(go_simp;with_reducible rfl)))
    try simp only[Act.put,Ac,Ad,Ae]
    refine wpAnyH_ready (rs:=[7]) nT nW ?_;refine AllReadyH.cons (o:=⟨none,_,_,_,_,_⟩) (rs:=[]) rfl (fun K hK=>?_) AllReadyH.nil
    go_simp
    try go_wp2_with fail
    clear hHeld;refine hK.out _ _ ?_ (fun hHeld=>?_)
    ·(try dsimp only);go_keep
    clear hK K
    try simp only[Act.put,Ac,Ad,Ae]
    refine wpAnyH_take (i:=8) (oi:=⟨some 5,_,_,_,_,_⟩) (v:=?_) rfl nT nT nT (fun _ _ _ h=>h) (Or.inl ⟨by rfl,?_⟩) nX ?_;rotate_left
    ·(intro w hSw;(try dsimp only at hSw);(first|(go_simp;done)|(go_simp;with_reducible rfl)))
    try simp only[Act.put,Ac,Ad,Ae]
    refine wpAnyH_take (i:=9) (oi:=⟨some 6,_,_,_,_,_⟩) (v:=?_) rfl nT nT nT (fun _ _ _ h=>h) (Or.inl ⟨by rfl,?_⟩) nX ?_;rotate_left
    ·(intro w hSw;(try dsimp only at hSw);(first|(go_simp;done)|(go_simp;with_reducible rfl)))
    try simp only[Act.put,Ac,Ad,Ae]
    refine wpAnyH_done nT ?_ _;refine NoPanic.normal ?_;go_wp2_with fail;rw[HZ.out];obtain⟨s0,s1,s2,s3,s4,s5,s6,_⟩:=HT.out;exact Au (v:= .tuple #[.agg #[.int .u8 4,.string T,.int .u8 vk,.int .i64 vn,.string VS,.int .i64 0,.int .i64 0],.int .i64 (E:Int),.int .i64 0]) oE rfl (Ie HB.out.drew HE.out HE0.out)
  |false=>
   rw[hd] at HDG;have HD:=Ax hd;clear hd;by_cases h34:c=34
   ·subst h34;have cb:(34:UInt8).toNat=34:=rfl;rw[cb] at ix d63 d35 HDG;have HDG:Hid (Calls Tryz.prog 157 #[.int .u8 34] W1 _):=Ax HDG.out;have HQ:=Ax (cF s p W1 hs hp);rw[HL.out,E1.out] at HQ;clear cb;rcases X9 (p:=p) (q:=r) with ⟨hh,hq,hle⟩|⟨hh,hq⟩
    ·obtain⟨n,hn⟩:∃n,Ba false r=n:=⟨_,rfl⟩;obtain⟨E,hE⟩:∃E,p+(n+2)=E:=⟨_,rfl⟩;rw[hq,hn,show p+n+2=p+(n+2) by omega,hE] at HQ;rw[hn,←E1.out] at hle;have hEs:E<=s.size:=by have:=HLL.out;omega
     have hpE:p+2<=E:=by omega
     have hsl:=Db s (p:Int) (E:Int) nU nU nU;rw[show((p:Int)).toNat=p by omega,show((E:Int)).toNat=E by omega] at hsl;obtain⟨T,hT⟩:∃T,s.extract p E=T:=⟨_,rfl⟩;have htk:(34::r).take (Ba false r+2)=dl T:=by rw[←hT,Ei,HL.out,←hE,Nat.add_sub_cancel_left,hn,E1.out]
     rw[hT] at hsl;have hts:T.size<=1000000:=by rw[←hT,ByteArray.size_extract];omega
     have hsl2:=Db s ((p:Int)+1) ((E:Int) - 1) nU nU nU;rw[show((p:Int)+1).toNat=p+1 by omega,show((E:Int) - 1).toNat=E - 1 by omega] at hsl2;obtain⟨T2,hT2⟩:∃T2,s.extract (p+1) (E - 1)=T2:=⟨_,rfl⟩;have htk2:r.take (Ba false r)=dl T2:=by rw[←hT2,Ei,HR.out,hn,show E - 1 - (p+1)=n by omega]
     rw[hT2] at hsl2;have w1:IntKind.i64.wrap ((p:Int)+1)=(p:Int)+1:=IntWalk.i64_in _ nU;have w2:IntKind.i64.wrap ((E:Int) - 1)=(E:Int) - 1:=IntWalk.i64_in _ nU;have HPR:=Ax (Rt T W1 nU);have HHD:=Ax hh;have HTK:=Ax htk;have HTK2:=Ax htk2;have HE0:Hid (p+(Ba false r+2)=E):=Ax (by rw[hn];exact hE);clear hn hE hT htk hT2 htk2 hh hq hle;have W1H:=Ax w1;have W2H:=Ax w2;clear w1 w2;go_wp2_with fail;refine HRUN.out.mono ?_;rintro e w' ⟨rfl,rfl⟩;go_wp2_with fail;refine HDG.out.mono ?_;rintro e w' ⟨rfl,rfl⟩;go_wp2_with fail;refine HQ.out.mono ?_;rintro e w' ⟨rfl,rfl⟩;go_wp2_with fail;refine HPR.out.mono ?_;rintro e V2 ⟨hb2,he⟩;cases hpr:Dq (dl T) with
     |error q=>
      rw[hpr] at he;simp only at he;subst he;have hal:=hb2.trans (((Aq V2.heap.size V2).alloc (Ak _) (.cells #[.int .u8 0,.int .i64 0,.string ⟨#[]⟩] 23)).mono hb2.size);have HA2:=Ax (HA.out.below hal);clear r0 r1 r2 r3 r4 r5 r6 rz0 rz1 rz2 rz3 rz4 rz5 rz6 n0 n1 n2 n3 n4 n5 n6;obtain⟨r0,r1,r2,r3,r4,r5,r6,rz⟩:=HA2.out.r;have rz0:=rz 0;have rz1:=rz 1;have rz2:=rz 2;have rz3:=rz 3;have rz4:=rz 4;have rz5:=rz 5;have rz6:=rz 6;obtain⟨n0,n1,n2,n3,n4,n5,n6,_⟩:=HA2.out.n;clear rz;clear hal hb2 HA;have HA:=HA2;clear HA2;have dq:(q==0)=false:=Af.2 (by rcases N2 hpr with h|h|h<;>omega);have dq':(q !=0)=true:=by rw[bne,dq];rfl
      have HE:=Ax (show Bv l= .error 4 by rw[E1.out,Rm];exact lH HHD.out (by rw[HTK.out];exact hpr));clear hpr;have hT:=Bi.set7 HA.out.r 0 ⟨#[]⟩ 0 0 ⟨#[]⟩ 0 0;have hB:=A5 HA.out.bel (Ak _) 0 ⟨#[]⟩ 0 0 ⟨#[]⟩ 0 0;obtain⟨Z,hZ⟩:∃Z,set7 (V2.alloc (.cells #[.int .u8 0,.int .i64 0,.string ⟨#[]⟩] 23)) w.heap.size 0 ⟨#[]⟩ 0 0 ⟨#[]⟩ 0 0=Z:=⟨_,rfl⟩;exact zzx
     |ok v=>
      obtain⟨vk,vn,vs⟩:=v;rw[hpr] at he;simp only at he;subst he;obtain⟨VS,hVS⟩:∃VS:ByteArray,⟨vs.toArray⟩=VS:=⟨_,rfl⟩;have hvs:vs=dl VS:=by rw[←hVS]
      rw[hVS];subst hvs;have hvv:∀i,((V2.alloc (.cells #[.int .u8 vk,.int .i64 vn,.string VS] 23))).cell? ⟨V2.heap.size,i,none⟩=(#[.int .u8 vk,.int .i64 vn,.string VS]:Array Value)[i]?:=fun i=>by simp only[World.cell?,A0];rfl
      have v0c:=hvv 0;have v1c:=hvv 1;have v2c:=hvv 2;simp only[List.getElem?_toArray] at v0c v1c v2c;have hne:¬w.heap.size=V2.heap.size:=by have:=HA.out.bel.size;have:=hb2.size;have:=B1 HA.out.r.c0;simp at this;omega
      have hne':¬V2.heap.size=w.heap.size:=fun h=>hne h.symm
      have hal:=hb2.trans (((Aq V2.heap.size V2).alloc (Ak _) (.cells #[.int .u8 vk,.int .i64 vn,.string VS] 23)).mono hb2.size);have HA2:=Ax (HA.out.below hal);clear r0 r1 r2 r3 r4 r5 r6 rz0 rz1 rz2 rz3 rz4 rz5 rz6 n0 n1 n2 n3 n4 n5 n6;obtain⟨r0,r1,r2,r3,r4,r5,r6,rz⟩:=HA2.out.r;have rz0:=rz 0;have rz1:=rz 1;have rz2:=rz 2;have rz3:=rz 3;have rz4:=rz 4;have rz5:=rz 5;have rz6:=rz 6;obtain⟨n0,n1,n2,n3,n4,n5,n6,_⟩:=HA2.out.n;clear rz;clear hal hb2 HA hvv hVS;have HA:=HA2;clear HA2;have HE:=Ax (show Bv l= .ok (⟨5,dl T2,(vk,vn,dl VS)⟩,Ba false r+2) by rw[E1.out,Rm,jO HHD.out (by rw[HTK.out];exact hpr),HTK2.out]);have hT:=Bi.set7 HA.out.r 5 T2 vk vn VS 0 0;have hB:=A5 HA.out.bel (Ak _) 5 T2 vk vn VS 0 0;obtain⟨Z,hZ⟩:∃Z,set7 (V2.alloc (.cells #[.int .u8 vk,.int .i64 vn,.string VS] 23)) w.heap.size 5 T2 vk vn VS 0 0=Z:=⟨_,rfl⟩;rw[hZ] at hT hB;unfold set7 at hZ;have HT:=Ax hT;have HB:=Ax hB;have HZ:=Ax hZ;clear hT hB hZ;clear hpr;go_wp2_with fail;have w1:=W1H.out;have w2:=W2H.out;refine wp_region_noPanic ?_;refine wp_region_held_drew (S:=fun X=>X.cell? ⟨V2.heap.size,0,none⟩=some (.int .u8 vk)/\X.cell? ⟨V2.heap.size,1,none⟩=some (.int .i64 vn)/\X.cell? ⟨V2.heap.size,2,none⟩=some (.string VS)) nT ?_ (fun hHeld=>?_)
      ·(try dsimp only);go_keep
      refine wpAnyH_take (i:=0) (oi:=⟨some 126,_,_,_,_,_⟩) (v:=?_) rfl nT nT nT (fun _ _ _ h=>h) (Or.inl ⟨by rfl,?_⟩) nX ?_;rotate_left
      ·(intro w hSw;(try dsimp only at hSw);(first|(go_simp;done)|(go_simp;with_reducible rfl)))
      try simp only[Act.put,Ac,Ad,Ae]
      refine wpAnyH_take (i:=1) (oi:=⟨some 127,_,_,_,_,_⟩) (v:=?_) rfl nT nT nT (fun _ _ _ h=>h) (Or.inl ⟨by rfl,?_⟩) nX ?_;rotate_left
      ·(intro w hSw;(try dsimp only at hSw);(first|(go_simp;done)|(go_simp;with_reducible rfl)))
      try simp only[Act.put,Ac,Ad,Ae]
      refine wpAnyH_take (i:=2) (oi:=⟨some 128,_,_,_,_,_⟩) (v:=?_) rfl nT nT nT (fun _ _ _ h=>h) (Or.inl ⟨by rfl,?_⟩) nX ?_;rotate_left
      ·(intro w hSw;(try dsimp only at hSw);(first|(go_simp;done)|(go_simp;with_reducible rfl)))
      try simp only[Act.put,Ac,Ad,Ae]
      refine wpAnyH_take (i:=3) (oi:=⟨some 129,_,_,_,_,_⟩) (v:=?_) rfl nT nT nT (fun _ _ _ h=>h) (Or.inl ⟨by rfl,?_⟩) nX ?_;rotate_left
      ·(intro w hSw;(try dsimp only at hSw);(first|(go_simp;done)|(go_simp;with_reducible rfl)))
      try simp only[Act.put,Ac,Ad,Ae]
      refine wpAnyH_take (i:=4) (oi:=⟨some 130,_,_,_,_,_⟩) (v:=?_) rfl nT nT nT (fun _ _ _ h=>h) (Or.inl ⟨by rfl,?_⟩) nX ?_;rotate_left
      ·(intro w hSw;(try dsimp only at hSw);(first|(go_simp;done)|(go_simp;with_reducible rfl)))
      try simp only[Act.put,Ac,Ad,Ae]
      refine wpAnyH_take (i:=5) (oi:=⟨some 131,_,_,_,_,_⟩) (v:=?_) rfl nT nT nT (fun _ _ _ h=>h) (Or.inl ⟨by rfl,?_⟩) nX ?_;rotate_left
      ·(intro w hSw;(try dsimp only at hSw);(first|(go_simp;done)|(go_simp;with_reducible rfl)))
      try simp only[Act.put,Ac,Ad,Ae]
      refine wpAnyH_take (i:=6) (oi:=⟨some 132,_,_,_,_,_⟩) (v:=?_) rfl nT nT nT (fun _ _ _ h=>h) (Or.inl ⟨by rfl,?_⟩) nX ?_;rotate_left
      ·(intro w hSw;(try dsimp only at hSw);(first|(go_simp;done)|(go_simp;with_reducible rfl)))
      try simp only[Act.put,Ac,Ad,Ae]
      refine wpAnyH_take (i:=7) (oi:=⟨some 133,_,_,_,_,_⟩) (v:=?_) rfl nT nT nT (fun _ _ _ h=>h) (Or.inl ⟨by rfl,?_⟩) nX ?_;rotate_left
      ·(intro w hSw;(try dsimp only at hSw);(first|(go_simp;done)|(go_simp;with_reducible rfl)))
      try simp only[Act.put,Ac,Ad,Ae]
      refine wpAnyH_take (i:=8) (oi:=⟨some 134,_,_,_,_,_⟩) (v:=?_) rfl nT nT nT (fun _ _ _ h=>h) (Or.inl ⟨by rfl,?_⟩) nX ?_;rotate_left
      ·(intro w hSw;(try dsimp only at hSw);(first|(go_simp;done)|(go_simp;with_reducible rfl)))
      try simp only[Act.put,Ac,Ad,Ae]
      refine wpAnyH_ready (rs:=[9]) nT nW ?_;refine AllReadyH.cons (o:=⟨none,_,_,_,_,_⟩) (rs:=[]) rfl (fun K hK=>?_) AllReadyH.nil
      go_simp
      try go_wp2_with fail
      clear hHeld;refine hK.out _ _ ?_ (fun hHeld=>?_)
      ·(try dsimp only);go_keep
      clear hK K
      try simp only[Act.put,Ac,Ad,Ae]
      refine wpAnyH_take (i:=10) (oi:=⟨some 5,_,_,_,_,_⟩) (v:=?_) rfl nT nT nT (fun _ _ _ h=>h) (Or.inl ⟨by rfl,?_⟩) nX ?_;rotate_left
      ·(intro w hSw;(try dsimp only at hSw);(first|(go_simp;done)|(go_simp;with_reducible rfl)))
      try simp only[Act.put,Ac,Ad,Ae]
      refine wpAnyH_take (i:=11) (oi:=⟨some 6,_,_,_,_,_⟩) (v:=?_) rfl nT nT nT (fun _ _ _ h=>h) (Or.inl ⟨by rfl,?_⟩) nX ?_;rotate_left
      ·(intro w hSw;(try dsimp only at hSw);(first|(go_simp;done)|(go_simp;with_reducible rfl)))
      try simp only[Act.put,Ac,Ad,Ae]
      refine wpAnyH_done nT ?_ _;refine NoPanic.normal ?_;clear w1 w2;go_wp2_with fail;rw[HZ.out];obtain⟨s0,s1,s2,s3,s4,s5,s6,_⟩:=HT.out;exact Au (v:= .tuple #[.agg #[.int .u8 5,.string T2,.int .u8 vk,.int .i64 vn,.string VS,.int .i64 0,.int .i64 0],.int .i64 (E:Int),.int .i64 0]) oE rfl (Ie HB.out.drew HE.out HE0.out)
    rw[hq] at HQ;have HWN:=Ax (show Bv l= .error 4 by rw[E1.out,Rm];exact kO hh);clear hq hh;go_wp2_with fail;refine HRUN.out.mono ?_;rintro e w' ⟨rfl,rfl⟩;go_wp2_with fail;refine HDG.out.mono ?_;rintro e w' ⟨rfl,rfl⟩;go_wp2_with fail;refine HQ.out.mono ?_;rintro e w' ⟨rfl,rfl⟩;have HE:=Ax (HWN.out);exact zz0
   have d34:((c.toNat:Int)==34)=false:=Af.2 (fun e=>h34 (Ca (n:=34) nU));have HWL:=Ax (show Bv l=Fq l by rw[E1.out];exact dF HD.out HLO.out h34 (fun e=>HM.out (.inl e)) (fun e=>HM.out (.inr e)));clear h34;have HSG:=Ax (cV s p W1 hs hp);rw[HL.out] at HSG;obtain⟨n,hn⟩:∃n,I0 l=n:=⟨_,rfl⟩;have hse:Ct p l=if n=0 then -1 else((p+n:Nat):Int):=by rw[←hn];rfl
   rw[hse] at HSG;have hnl:n<=l.length:=by rw[←hn,E1.out];exact fU c r
   have HN:=Ax hn;clear hse hn;by_cases h0:n=0
   ·rw[Ap h0] at HSG;have HWE:=Ax (show Bv l= .error 4 by rw[HWL.out,Ua,HN.out,Ap h0]);clear h0 hnl;go_wp2_with fail;refine HRUN.out.mono ?_;rintro e w' ⟨rfl,rfl⟩;go_wp2_with fail;refine HDG.out.mono ?_;rintro e w' ⟨rfl,rfl⟩;go_wp2_with fail;refine HSG.out.mono ?_;rintro e w' ⟨rfl,rfl⟩;have HE:=Ax (HWE.out);exact zz0
   rw[Ao h0] at HSG;obtain⟨E,hE⟩:∃E,p+n=E:=⟨_,rfl⟩;rw[hE] at HSG;have hEs:E<=s.size:=by have:=HLL.out;omega
   have hsl:=Db s (p:Int) (E:Int) nU nU nU;rw[show((p:Int)).toNat=p by omega,show((E:Int)).toNat=E by omega] at hsl;obtain⟨T,hT⟩:∃T,s.extract p E=T:=⟨_,rfl⟩;have htk:l.take n=dl T:=by rw[←hT,Ei,HL.out,←hE,Nat.add_sub_cancel_left]
   rw[hT] at hsl;have HWE:=Ax (show Bv l= .ok (⟨7,dl T,(0,0,dl ⟨#[]⟩)⟩,n) by rw[HWL.out,Ua,HN.out,Ao h0,htk];rfl);have HE0:=Ax hE;clear hE hT htk h0 hnl;go_wp2_with fail;refine HRUN.out.mono ?_;rintro e w' ⟨rfl,rfl⟩;go_wp2_with fail;refine HDG.out.mono ?_;rintro e w' ⟨rfl,rfl⟩;go_wp2_with fail;refine HSG.out.mono ?_;rintro e w' ⟨rfl,rfl⟩;have HE:=Ax (HWE.out);have hT:=Bi.set7 HA.out.r 7 T 0 0 ⟨#[]⟩ 0 0;have hB:=A5 HA.out.bel (Ak _) 7 T 0 0 ⟨#[]⟩ 0 0;obtain⟨Z,hZ⟩:∃Z,set7 W1 w.heap.size 7 T 0 0 ⟨#[]⟩ 0 0=Z:=⟨_,rfl⟩;rw[hZ] at hT hB;unfold set7 at hZ;have HT:=Ax hT;have HB:=Ax hB;have HZ:=Ax hZ;clear hT hB hZ;go_wp2_with fail;rw[HZ.out];obtain⟨s0,s1,s2,s3,s4,s5,s6,_⟩:=HT.out;exact Au (v:= .tuple #[.agg #[.int .u8 7,.string T,.int .u8 0,.int .i64 0,.string ⟨#[]⟩,.int .i64 0,.int .i64 0],.int .i64 (E:Int),.int .i64 0]) oE rfl (Ie HB.out HE.out HE0.out)
end Go.Proofs.YtgfakdobajgnfaaGreatDoor
