import Derived.Test.YtmpfilddeglgbaaGreatDoorQj26
set_option maxRecDepth 100000
set_option maxHeartbeats 16000000
namespace Go.Proofs.YtmpfilddeglgbaaGreatDoor
open Go Go.RowKit Go.Lib
def Q6 (p:Nat)(l:List UInt8):Except Int (Wd×Nat):=match Bh l with
 | .ok x=> .ok (x.1,p+x.2)
 | .error e=> .error e
theorem Jo {w w':World}{p n E:Nat}{l:List UInt8}{k vk vn:Int}{T vs:ByteArray}(hb:Below w.heap.size w w')(hw:Bh l= .ok (⟨k,dl T,(vk,vn,dl vs)⟩,n))(hE:p+n=E):
 Rr w (Q6 p l) (.returned (.tuple #[.agg #[.int .u8 k,.string T,.int .u8 vk,.int .i64 vn,.string vs,.int .i64 0,.int .i64 0],.int .i64 (E:Int),.int .i64 0])) w':=by
 refine⟨hb,?_⟩;unfold Q6;rw[hw];simp only[Gb,Lj,hE]
theorem Gx {w w':World}{p:Nat}{l:List UInt8}{e:Int}(hb:Below w.heap.size w w')(hw:Bh l= .error e):
 Rr w (Q6 p l) (.returned (.tuple #[.agg #[.int .u8 0,.string ⟨#[]⟩,.int .u8 0,.int .i64 0,.string ⟨#[]⟩,.int .i64 0,.int .i64 0],.int .i64 0,.int .i64 e])) w':=by
 refine⟨hb,?_⟩;unfold Q6;rw[hw];exact⟨⟨0,[],v0⟩,0,rfl⟩
structure Y1 (w V:World):Prop where
 r:Bl V w.heap.size 0 ⟨#[]⟩ 0 0 ⟨#[]⟩ 0 0
 n:Bl V (w.heap.size+1) 0 ⟨#[]⟩ 0 0 ⟨#[]⟩ 0 0
 bel:Below w.heap.size w V
theorem Y1.below {w V V':World}(h:Y1 w V)(hb:Below V.heap.size V V'):Y1 w V':=⟨h.r.below hb,h.n.below hb,h.bel.trans (hb.mono h.bel.size)⟩
theorem lY (w:World):Y1 w ((w.alloc (.cells Dw 63)).alloc (.cells Dw 63)):=by
 refine⟨(Bl.new w).below ((Aq _ _).alloc (Ak _) _),?_,((Aq _ _).alloc (Ak _) _).alloc tH _⟩
 have:=Bl.new (w.alloc (.cells Dw 63))
 simpa using this
theorem St {c:UInt8}{r:List UInt8}(h:Dm c=true):G3 (c::r)=A5 Cg (c::r):=Ap h
theorem eI {c:UInt8}{r:List UInt8}(h:Dm c=false):G3 (c::r)=0:=Ao (by rw[h];simp)
theorem eK (l:List UInt8):G3 l<=l.length:=by
 unfold G3
 split
 ·split
  ·exact Cm _ _
  omega
 omega
theorem mY {c:UInt8}{r:List UInt8}(h:Dm c=true):Bh (c::r)=Cx ⟨1,(c::r).take (A5 Cg (c::r)),v0⟩ (A5 Cg (c::r)):=by
 unfold Bh;simp only;rw[Ap h]
theorem Q3 {w:Wd}{n:Nat}(h:12<w.t.length):Cx w n= .error 4:=by unfold Cx;rw[Ap h]
theorem Ol {w:Wd}{n:Nat}(h:¬12<w.t.length):Cx w n= .ok (w,n):=by unfold Cx;rw[Ao h]
theorem Np {c:UInt8}{r:List UInt8}:(Dt (c::r)=true/\G3 r=A5 Cg r/\1<=G3 r)\/(Dt (c::r)=false/\G3 r=0):=by
 match r with
 |[]=>exact .inr ⟨rfl,rfl⟩
 |d::q=>
  show(Dm d=true/\_)\/(Dm d=false/\_)
  cases h:Dm d with
  |true=>exact .inl ⟨rfl,St h,by rw[St h,Gm (X7 h)];omega⟩
  |false=>exact .inr ⟨rfl,eI h⟩
theorem kE {r:List UInt8}(h:G3 r=0):Bh (63::r)= .ok (⟨3,[],v0⟩,1):=by
 rcases Np (c:=63) (r:=r) with ⟨_,_,h2⟩|⟨h1,_⟩
 ·omega
 show(if Dt (63::r)=true then _ else _)=_
 rw[Ao (by rw[h1];simp)]
theorem Uz {r:List UInt8}(h:1<=G3 r):Bh (63::r)=Cx ⟨2,r.take (G3 r),v0⟩ (1+G3 r):=by
 rcases Np (c:=63) (r:=r) with ⟨h0,h1,_⟩|⟨_,h1⟩
 ·show(if Dt (63::r)=true then _ else _)=_
  rw[Ap h0,h1]
 omega
theorem Yp {r:List UInt8}(h:1<=G3 r):Bh (35::r)=Cx ⟨6,r.take (G3 r),(5,0,r.take (G3 r))⟩ (1+G3 r):=by
 rcases Np (c:=35) (r:=r) with ⟨h0,h1,_⟩|⟨_,h1⟩
 ·show(if(35:UInt8)=35/\Dt (35::r)=true then _ else _)=_
  rw[Ap ⟨rfl,h0⟩,h1]
 omega
theorem eW {r:List UInt8}(h:G3 r=0):Bh (35::r)= .error 4:=by
 rcases Np (c:=35) (r:=r) with ⟨_,_,h2⟩|⟨h1,_⟩
 ·omega
 show(if(35:UInt8)=35/\Dt (35::r)=true then _ else Es (35::r))=_
 rw[Ao (by rw[h1];simp),Xp]
 have:Kg (35::r)=0:=by
  unfold Kg;rw[Ao,Ao (fun q=>absurd (Xo.1 q) tG)]
  match r with
  |[]=>decide
  |d::q=>exact Yo tH tH tH tH
 rw[this];rfl
theorem nY {c:UInt8}{r:List UInt8}(h:Bb c=true)(hl:Dm c=false):Bh (c::r)=Jk (c::r):=by
 unfold Bh;simp only;rw[Ao (by rw[hl];simp),Ap h]
theorem Tx {r:List UInt8}:Bh (34::r)=Pr (34::r):=rfl
theorem gQ {c:UInt8}{r:List UInt8}(h:Bb c=false)(hl:Dm c=false)(h1:c≠34)(h2:c≠63)(h3:c≠35):Bh (c::r)=Es (c::r):=by
 unfold Bh;simp only;rw[Ao (by rw[hl];simp),Ao (by rw[h];simp),Ao h1,Ao h2,Ao (fun q=>h3 q.1)]
theorem pF {l:List UInt8}{v:Int×Int×List UInt8}(h:D2 (l.take (Br l))= .ok v):Jk l= .ok (⟨4,l.take (Br l),v⟩,Br l):=by unfold Jk;rw[h]
theorem dJ {l:List UInt8}{e:Int}(h:D2 (l.take (Br l))= .error e):Jk l= .error (if e=9 then 9 else 4):=by unfold Jk;rw[h]
theorem gE (l:List UInt8):Br l<=l.length:=by
 rw[Fz];have h1:=Cm Bb l;unfold Cj
 split
 ·rename_i c r e
  have h2:=Ar List.length e;rw[List.length_drop] at h2;simp only[Aa] at h2
  split
  ·have:=Cm Bb (c::r)
   simp only[Aa] at this;omega
  omega
 omega
theorem qN {q:List UInt8}(h:((34::q).drop (1+A7 false q)).head?≠some 34):Pr (34::q)= .error 4:=by rw[Gk,Ao h]
theorem qJ {q:List UInt8}{e:Int}(h:((34::q).drop (1+A7 false q)).head? =some 34)(hp:D2 ((34::q).take (A7 false q+2))= .error e):Pr (34::q)= .error 4:=by rw[Gk,Ap h,hp]
theorem qS {q:List UInt8}{v:Int×Int×List UInt8}(h:((34::q).drop (1+A7 false q)).head? =some 34)(hp:D2 ((34::q).take (A7 false q+2))= .ok v):Pr (34::q)= .ok (⟨5,q.take (A7 false q),v⟩,A7 false q+2):=by rw[Gk,Ap h,hp]
theorem aP {p:Nat}{q:List UInt8}:(((34::q).drop (1+A7 false q)).head? =some 34/\Uq p (34::q)=((p+A7 false q+2:Nat):Int)/\A7 false q+2<=(34::q).length)\/(((34::q).drop (1+A7 false q)).head?≠some 34/\Uq p (34::q)= -1):=by
 by_cases h:((34::q).drop (1+A7 false q)).head? =some 34
 ·refine .inl ⟨h,by unfold Uq;exact Ap h,?_⟩;have h2:(34::q).drop (1+A7 false q)≠[]:=fun e=>by rw[e] at h;cases h
  have h3:=List.length_pos_iff.2 h2;rw[List.length_drop] at h3;omega
 exact .inr ⟨h,by unfold Uq;exact Ao h⟩
theorem lI (c:UInt8)(r:List UInt8):Kg (c::r)<=(c::r).length:=by
 unfold Kg
 split
 ·next h=>
  have:((c::r).take 2).length=2:=by
   unfold Ez at h;simp only[List.mem_cons,List.not_mem_nil,or_false] at h;rcases h with h|h|h|h<;>rw[h]<;>rfl
  rw[List.length_take] at this;omega
 split<;>simp
theorem Zv {s:ByteArray}{p:Nat}(h:p<s.size)(w:World):(Instr.index 9 (.string s) (.int .i64 (p:Int))).run Tryz.prog w= .ok (.int .u8 (s[p].toNat:Int)) w:=by
 go_simp
theorem iJ (s:ByteArray)(p:Nat)(w:World)(hs:s.size<=1000000)(hp:p<s.size):Calls Tryz.prog 51 #[.string s,.int .i64 (p:Int)] w (Rr w (Q6 p ((dl s).drop p))):=by
 have e1:=Kq hp;obtain⟨l,hl⟩:∃l,(dl s).drop p=l:=⟨_,rfl⟩;obtain⟨r,hr⟩:∃r,(dl s).drop (p+1)=r:=⟨_,rfl⟩;obtain⟨c,hc⟩:∃c,s[p]=c:=⟨_,rfl⟩;rw[hl,hr,hc] at e1;have hll:l.length=s.size - p:=by rw[←hl,List.length_drop,A4]
 have hrl:r.length=s.size - (p+1):=by rw[←hr,List.length_drop,A4]
 have q0:(0:Int)<=(p:Int):=by omega
 have q1:(p:Int)<(s.size:Int):=by omega
 have HC:=Ax hc;have HL:=Ax hl;have HR:=Ax hr;have HLL:=Ax hll;have HRL:=Ax hrl;have ix:∀w:World,(Instr.index 9 (.string s) (.int .i64 (p:Int))).run Tryz.prog w= .ok (.int .u8 (c.toNat:Int)) w:=fun w=>by have:=Zv hp w;rw[hc] at this;exact this
 have HS:=Ax (lY w);obtain⟨W1,hW1⟩:∃W1,(w.alloc (.cells Dw 63)).alloc (.cells Dw 63)=W1:=⟨_,rfl⟩;rw[hW1] at HS;have HW1:=Ax hW1;have HA:Hid (Y1 w W1):=Ax HS.out;have HRUN:=Ax (X8 s p W1 hs tE);rw[hl] at HRUN ⊢;clear hW1 hll hrl hl hr hc HS;go_enter Tryz.func51,Tryz.ntmps51;go_upto_region 2 with fail
 change Code.wp _ _ _ _ ((w.alloc (.cells Dw 63)).alloc (.cells Dw 63));rw[HW1.out];obtain⟨r0,r1,r2,r3,r4,r5,r6,rz⟩:=HA.out.r;have rz0:=rz 0;have rz1:=rz 1;have rz2:=rz 2;have rz3:=rz 3;have rz4:=rz 4;have rz5:=rz 5;have rz6:=rz 6;obtain⟨n0,n1,n2,n3,n4,n5,n6,_⟩:=HA.out.n;clear rz;cases hlo:Dm c with
 |true=>
  obtain⟨n,hn⟩:∃n,A5 Cg l=n:=⟨_,rfl⟩;have hrn:G3 l=n:=by rw[e1,St hlo,←e1,hn]
  have hwl:Bh l=Cx ⟨1,l.take n,v0⟩ n:=by rw[e1,mY hlo,←e1,hn]
  have hn1:1<=n:=by rw[←hn,e1,Gm (X7 hlo)];omega
  have hnl:n<=l.length:=by rw[←hn];exact Cm _ _
  obtain⟨E,hE⟩:∃E,p+n=E:=⟨_,rfl⟩;rw[hrn,hE] at HRUN;have hEs:E<=s.size:=by have:=HLL.out;omega
  have hpE:p<E:=by omega
  have hsl:=Dq s (p:Int) (E:Int) tE tE tE;rw[show((p:Int)).toNat=p by omega,show((E:Int)).toNat=E by omega] at hsl;obtain⟨T,hT⟩:∃T,s.extract p E=T:=⟨_,rfl⟩;have htk:l.take n=dl T:=by rw[←hT,Fg,HL.out,←hE,Nat.add_sub_cancel_left]
  have htl:(dl T).length=n:=by rw[←htk,List.length_take];omega
  rw[hT] at hsl;rw[htk] at hwl;have d1:(p:Int)<(E:Int):=by omega
  have HWL:=Ax hwl;have HTL:=Ax htl;have HE0:=Ax hE;clear hn hrn hwl hn1 hnl hE hT htk htl e1 hlo;go_wp2_with fail;refine HRUN.out.mono ?_;rintro e w' ⟨rfl,rfl⟩;by_cases h12:12<n
  ·have d2:(12:Int)<(E:Int) - (p:Int):=by have:=HE0.out;omega
   have HE:=Ax (show Bh l= .error 4 by rw[HWL.out];exact Q3 (by show 12<(dl T).length;rw[HTL.out];exact h12));exact zzy
  have d2:decide ((12:Int)<(E:Int) - (p:Int))=false:=An (by have:=HE0.out;omega);have d3:(E:Int) - (p:Int)<=12:=by have:=HE0.out;omega
  have HE:=Ax (show Bh l= .ok (⟨1,dl T,(0,0,dl ⟨#[]⟩)⟩,n) by rw[HWL.out];exact Ol vM);have hT:=Bl.set7 HA.out.r 1 T 0 0 ⟨#[]⟩ 0 0;have hB:=A6 HA.out.bel (Ak _) 1 T 0 0 ⟨#[]⟩ 0 0;obtain⟨Z,hZ⟩:∃Z,set7 W1 w.heap.size 1 T 0 0 ⟨#[]⟩ 0 0=Z:=⟨_,rfl⟩;rw[hZ] at hT hB;unfold set7 at hZ;have HT:=Ax hT;have HB:=Ax hB;have HZ:=Ax hZ;clear hT hB hZ;go_wp2_with fail;rw[HZ.out];obtain⟨s0,s1,s2,s3,s4,s5,s6,_⟩:=HT.out;exact Au (v:= .tuple #[.agg #[.int .u8 1,.string T,.int .u8 0,.int .i64 0,.string ⟨#[]⟩,.int .i64 0,.int .i64 0],.int .i64 (E:Int),.int .i64 0]) tO rfl (Jo HB.out HE.out HE0.out)
 |false=>
  have hrn:G3 l=0:=by rw[e1];exact eI hlo
  rw[hrn,Nat.add_zero] at HRUN;clear hrn;have HLO:=Ax hlo;clear hlo;by_cases hm:c=63\/c=35
  ·rcases hm with hm|hm
   ·subst hm;have cb:(63:UInt8).toNat=63:=rfl;rw[cb] at ix;have HRN2:=Ax (X8 s (p+1) W1 hs tE);rw[HR.out] at HRN2;obtain⟨m,hmm⟩:∃m,G3 r=m:=⟨_,rfl⟩;have hml:m<=r.length:=by rw[←hmm];exact eK r
    obtain⟨E,hE⟩:∃E,p+1+m=E:=⟨_,rfl⟩;rw[hmm,hE] at HRN2;have hEs:E<=s.size:=by have:=HRL.out;omega
    have HRN:Hid (Calls Tryz.prog 90 #[.string s,.int .i64 ((p:Int)+1)] W1 _):=Ax HRN2.out;have hsl:=Dq s ((p:Int)+1) (E:Int) tE tE tE;rw[show((p:Int)+1).toNat=p+1 by omega,show((E:Int)).toNat=E by omega] at hsl;obtain⟨T,hT⟩:∃T,s.extract (p+1) E=T:=⟨_,rfl⟩;have htk:r.take m=dl T:=by rw[←hT,Fg,HR.out,←hE,Nat.add_sub_cancel_left]
    have htl:(dl T).length=m:=by rw[←htk,List.length_take];omega
    rw[hT] at hsl;have hts:T.size=m:=by rw[←A4];exact htl
    have htm:T.size<=1000000:=by have:=HRL.out;omega
    have HTS:=Ax hts;have HTL:=Ax htl;have HTK:=Ax htk;have HE0:=Ax hE;have HMM:=Ax hmm;have E1:=Ax e1;clear hml hE hT htk htl hts e1 hmm cb HRN2;go_wp2_with fail;refine HRUN.out.mono ?_;rintro e w' ⟨rfl,rfl⟩;go_wp2_with fail;refine HRN.out.mono ?_;rintro e w' ⟨rfl,rfl⟩;by_cases h12:12<m
    ·have d2:(12:Int)<(T.size:Int):=by have:=HTS.out;omega
     have HE:=Ax (show Bh l= .error 4 by rw[E1.out,Uz (by rw[HMM.out];omega)];exact Q3 wF);exact zzy
    have d2:(T.size:Int)<=12:=by have:=HTS.out;omega
    have d2':decide ((12:Int)<(T.size:Int))=false:=An tE;by_cases h0:m=0
    ·have hTe:T=⟨#[]⟩:=Cn (List.eq_nil_of_length_eq_zero (by rw[HTL.out];exact h0));have HE1:=Ax (show p+1=E by have:=HE0.out;omega);subst hTe;clear d2 d2' htm;have HE:=Ax (show Bh l= .ok (⟨3,dl ⟨#[]⟩,(0,0,dl ⟨#[]⟩)⟩,1) by rw[E1.out];exact kE (by rw[HMM.out];exact h0));have hT:=Bl.set7 HA.out.r 3 ⟨#[]⟩ 0 0 ⟨#[]⟩ 0 0;have hB:=A6 HA.out.bel (Ak _) 3 ⟨#[]⟩ 0 0 ⟨#[]⟩ 0 0;obtain⟨Z,hZ⟩:∃Z,set7 W1 w.heap.size 3 ⟨#[]⟩ 0 0 ⟨#[]⟩ 0 0=Z:=⟨_,rfl⟩;rw[hZ] at hT hB;unfold set7 at hZ;have HT:=Ax hT;have HB:=Ax hB;have HZ:=Ax hZ;clear hT hB hZ;clear h0;go_wp2_with fail;rw[HZ.out];obtain⟨s0,s1,s2,s3,s4,s5,s6,_⟩:=HT.out;exact Au (v:= .tuple #[.agg #[.int .u8 3,.string ⟨#[]⟩,.int .u8 0,.int .i64 0,.string ⟨#[]⟩,.int .i64 0,.int .i64 0],.int .i64 (E:Int),.int .i64 0]) tO rfl (Jo HB.out HE.out HE1.out)
    have t0:(T.toList==[])=false:=by rw[Az];exact Af.2 (fun e=>h0 (by rw[←HTL.out,e];rfl))
    have t1:T.toList.isEmpty=false:=by rw[Az];cases h:dl T with|nil=>exact absurd (by rw[←HTL.out,h];rfl) h0|cons=>rfl
    have HE1:=Ax (show p+(1+m)=E by have:=HE0.out;omega);have HE:=Ax (show Bh l= .ok (⟨2,dl T,(0,0,dl ⟨#[]⟩)⟩,1+m) by rw[E1.out,Uz (by rw[HMM.out];omega),HMM.out,HTK.out];exact Ol vM);have hT:=Bl.set7 HA.out.r 2 T 0 0 ⟨#[]⟩ 0 0;have hB:=A6 HA.out.bel (Ak _) 2 T 0 0 ⟨#[]⟩ 0 0;obtain⟨Z,hZ⟩:∃Z,set7 W1 w.heap.size 2 T 0 0 ⟨#[]⟩ 0 0=Z:=⟨_,rfl⟩;rw[hZ] at hT hB;unfold set7 at hZ;have HT:=Ax hT;have HB:=Ax hB;have HZ:=Ax hZ;clear hT hB hZ;go_wp2_with fail;rw[HZ.out];obtain⟨s0,s1,s2,s3,s4,s5,s6,_⟩:=HT.out;exact Au (v:= .tuple #[.agg #[.int .u8 2,.string T,.int .u8 0,.int .i64 0,.string ⟨#[]⟩,.int .i64 0,.int .i64 0],.int .i64 (E:Int),.int .i64 0]) tO rfl (Jo HB.out HE.out HE1.out)
   subst hm;have cb:(35:UInt8).toNat=35:=rfl;rw[cb] at ix;have HRN2:=Ax (X8 s (p+1) W1 hs tE);rw[HR.out] at HRN2;obtain⟨m,hmm⟩:∃m,G3 r=m:=⟨_,rfl⟩;have hml:m<=r.length:=by rw[←hmm];exact eK r
   obtain⟨E,hE⟩:∃E,p+1+m=E:=⟨_,rfl⟩;rw[hmm,hE] at HRN2;have hEs:E<=s.size:=by have:=HRL.out;omega
   have HRN:Hid (Calls Tryz.prog 90 #[.string s,.int .i64 ((p:Int)+1)] W1 _):=Ax HRN2.out;have hsl:=Dq s ((p:Int)+1) (E:Int) tE tE tE;rw[show((p:Int)+1).toNat=p+1 by omega,show((E:Int)).toNat=E by omega] at hsl;obtain⟨T,hT⟩:∃T,s.extract (p+1) E=T:=⟨_,rfl⟩;have htk:r.take m=dl T:=by rw[←hT,Fg,HR.out,←hE,Nat.add_sub_cancel_left]
   have htl:(dl T).length=m:=by rw[←htk,List.length_take];omega
   rw[hT] at hsl;have hts:T.size=m:=by rw[←A4];exact htl
   have htm:T.size<=1000000:=by have:=HRL.out;omega
   have HTS:=Ax hts;have HTL:=Ax htl;have HTK:=Ax htk;have HE0:=Ax hE;have HMM:=Ax hmm;have E1:=Ax e1;clear hml hE hT htk htl hts e1 hmm cb HRN2;go_wp2_with fail;refine HRUN.out.mono ?_;rintro e w' ⟨rfl,rfl⟩;go_wp2_with fail;refine HRN.out.mono ?_;rintro e w' ⟨rfl,rfl⟩;by_cases h12:12<m
   ·have d2:(12:Int)<(T.size:Int):=by have:=HTS.out;omega
    have HE:=Ax (show Bh l= .error 4 by rw[E1.out,Yp (by rw[HMM.out];omega)];exact Q3 wF);exact zzy
   have d2:(T.size:Int)<=12:=by have:=HTS.out;omega
   have d2':decide ((12:Int)<(T.size:Int))=false:=An tE;by_cases h0:m=0
   ·have hTe:T=⟨#[]⟩:=Cn (List.eq_nil_of_length_eq_zero (by rw[HTL.out];exact h0));have HE1:=Ax (show p+1=E by have:=HE0.out;omega);subst hTe;clear d2 d2' htm;have HE:=Ax (show Bh l= .error 4 by rw[E1.out];exact eW (by rw[HMM.out];exact h0));clear h0;exact zzy
   have t0:(T.toList==[])=false:=by rw[Az];exact Af.2 (fun e=>h0 (by rw[←HTL.out,e];rfl))
   have t1:T.toList.isEmpty=false:=by rw[Az];cases h:dl T with|nil=>exact absurd (by rw[←HTL.out,h];rfl) h0|cons=>rfl
   have HE1:=Ax (show p+(1+m)=E by have:=HE0.out;omega);have HE:=Ax (show Bh l= .ok (⟨6,dl T,(5,0,dl T)⟩,1+m) by rw[E1.out,Yp (by rw[HMM.out];omega),HMM.out,HTK.out];exact Ol vM);have hT:=Bl.set7 HA.out.r 6 T 5 0 T 0 0;have hB:=A6 HA.out.bel (Ak _) 6 T 5 0 T 0 0;obtain⟨Z,hZ⟩:∃Z,set7 W1 w.heap.size 6 T 5 0 T 0 0=Z:=⟨_,rfl⟩;rw[hZ] at hT hB;unfold set7 at hZ;have HT:=Ax hT;have HB:=Ax hB;have HZ:=Ax hZ;clear hT hB hZ;go_wp2_with fail;rw[HZ.out];obtain⟨s0,s1,s2,s3,s4,s5,s6,_⟩:=HT.out;exact Au (v:= .tuple #[.agg #[.int .u8 6,.string T,.int .u8 5,.int .i64 0,.string T,.int .i64 0,.int .i64 0],.int .i64 (E:Int),.int .i64 0]) tO rfl (Jo HB.out HE.out HE1.out)
  have d63:((c.toNat:Int)==63)=false:=Af.2 (fun e=>hm (.inl (Ci (n:=63) tE)));have d35:((c.toNat:Int)==35)=false:=Af.2 (fun e=>hm (.inr (Ci (n:=35) tE)));have HM:=Ax hm;clear hm;have HDG:=Ax (J6 c W1);have E1:=Ax e1;clear e1;cases hd:Bb c with
  |true=>
   rw[hd] at HDG;have HNL:=Ax (nI s p W1 hs tE);rw[HL.out] at HNL;obtain⟨n,hn⟩:∃n,Br l=n:=⟨_,rfl⟩;have hnl:n<=l.length:=by rw[←hn];exact gE l
   obtain⟨E,hE⟩:∃E,p+n=E:=⟨_,rfl⟩;rw[hn,hE] at HNL;have hEs:E<=s.size:=by have:=HLL.out;omega
   have hsl:=Dq s (p:Int) (E:Int) tE tE tE;rw[show((p:Int)).toNat=p by omega,show((E:Int)).toNat=E by omega] at hsl;obtain⟨T,hT⟩:∃T,s.extract p E=T:=⟨_,rfl⟩;have htk:l.take n=dl T:=by rw[←hT,Fg,HL.out,←hE,Nat.add_sub_cancel_left]
   rw[hT] at hsl;have hts:T.size<=1000000:=by rw[←hT,ByteArray.size_extract];omega
   have hwl:Bh l=Jk l:=by rw[E1.out];exact nY hd HLO.out
   have HPR:=Ax (S8 T W1 tE);have HWL:=Ax hwl;have HTK:=Ax htk;have HN:=Ax hn;have HE0:=Ax hE;clear hn hnl hE hT htk hwl hd;go_wp2_with fail;refine HRUN.out.mono ?_;rintro e w' ⟨rfl,rfl⟩;go_wp2_with fail;refine HDG.out.mono ?_;rintro e w' ⟨rfl,rfl⟩;go_wp2_with fail;refine HNL.out.mono ?_;rintro e w' ⟨rfl,rfl⟩;go_wp2_with fail;refine HPR.out.mono ?_;rintro e V2 ⟨hb2,he⟩;cases hpr:D2 (dl T) with
   |error q=>
    rw[hpr] at he;simp only at he;subst he;have hal:=hb2.trans (((Aq V2.heap.size V2).alloc (Ak _) (.cells #[.int .u8 0,.int .i64 0,.string ⟨#[]⟩] 35)).mono hb2.size);have HA2:=Ax (HA.out.below hal);clear r0 r1 r2 r3 r4 r5 r6 rz0 rz1 rz2 rz3 rz4 rz5 rz6 n0 n1 n2 n3 n4 n5 n6;obtain⟨r0,r1,r2,r3,r4,r5,r6,rz⟩:=HA2.out.r;have rz0:=rz 0;have rz1:=rz 1;have rz2:=rz 2;have rz3:=rz 3;have rz4:=rz 4;have rz5:=rz 5;have rz6:=rz 6;obtain⟨n0,n1,n2,n3,n4,n5,n6,_⟩:=HA2.out.n;clear rz;clear hal hb2 HA;have HA:=HA2;clear HA2;by_cases h9:q=9
    ·subst h9;have HE:=Ax (show Bh l= .error 9 by rw[HWL.out,dJ (by rw[HN.out,HTK.out];exact hpr)];rfl);clear hpr;have hT:=Bl.set7 HA.out.r 0 ⟨#[]⟩ 0 0 ⟨#[]⟩ 0 0;have hB:=A6 HA.out.bel (Ak _) 0 ⟨#[]⟩ 0 0 ⟨#[]⟩ 0 0;obtain⟨Z,hZ⟩:∃Z,set7 (V2.alloc (.cells #[.int .u8 0,.int .i64 0,.string ⟨#[]⟩] 35)) w.heap.size 0 ⟨#[]⟩ 0 0 ⟨#[]⟩ 0 0=Z:=⟨_,rfl⟩;rw[hZ] at hT hB;unfold set7 at hZ;have HT:=Ax hT;have HB:=Ax hB;have HZ:=Ax hZ;clear hT hB hZ;go_wp2_with fail;rw[HZ.out];obtain⟨s0,s1,s2,s3,s4,s5,s6,_⟩:=HT.out;exact Au (v:= .tuple #[.agg #[.int .u8 0,.string ⟨#[]⟩,.int .u8 0,.int .i64 0,.string ⟨#[]⟩,.int .i64 0,.int .i64 0],.int .i64 0,.int .i64 9]) tO rfl (Gx HB.out HE.out)
    have d9:(q==9)=false:=Af.2 h9;have dq:(q==0)=false:=Af.2 (by rcases Pu hpr with h|h|h<;>omega);have dq':(q !=0)=true:=by rw[bne,dq];rfl
    have HE:=Ax (show Bh l= .error 4 by rw[HWL.out,dJ (by rw[HN.out,HTK.out];exact hpr),Ao h9]);clear hpr h9;have hT:=Bl.set7 HA.out.r 0 ⟨#[]⟩ 0 0 ⟨#[]⟩ 0 0;have hB:=A6 HA.out.bel (Ak _) 0 ⟨#[]⟩ 0 0 ⟨#[]⟩ 0 0;obtain⟨Z,hZ⟩:∃Z,set7 (V2.alloc (.cells #[.int .u8 0,.int .i64 0,.string ⟨#[]⟩] 35)) w.heap.size 0 ⟨#[]⟩ 0 0 ⟨#[]⟩ 0 0=Z:=⟨_,rfl⟩;exact zzv
   |ok v=>
    obtain⟨vk,vn,vs⟩:=v;rw[hpr] at he;simp only at he;subst he;obtain⟨VS,hVS⟩:∃VS:ByteArray,⟨vs.toArray⟩=VS:=⟨_,rfl⟩;have hvs:vs=dl VS:=by rw[←hVS]
    rw[hVS];subst hvs;have hvv:∀i,((V2.alloc (.cells #[.int .u8 vk,.int .i64 vn,.string VS] 35))).cell? ⟨V2.heap.size,i,none⟩=(#[.int .u8 vk,.int .i64 vn,.string VS]:Array Value)[i]?:=fun i=>by simp only[World.cell?,A1];rfl
    have v0c:=hvv 0;have v1c:=hvv 1;have v2c:=hvv 2;simp only[List.getElem?_toArray] at v0c v1c v2c;have hne:¬w.heap.size=V2.heap.size:=by have:=HA.out.bel.size;have:=hb2.size;have:=Ca HA.out.r.c0;simp at this;omega
    have hne':¬V2.heap.size=w.heap.size:=fun h=>hne h.symm
    have hal:=hb2.trans (((Aq V2.heap.size V2).alloc (Ak _) (.cells #[.int .u8 vk,.int .i64 vn,.string VS] 35)).mono hb2.size);have HA2:=Ax (HA.out.below hal);clear r0 r1 r2 r3 r4 r5 r6 rz0 rz1 rz2 rz3 rz4 rz5 rz6 n0 n1 n2 n3 n4 n5 n6;obtain⟨r0,r1,r2,r3,r4,r5,r6,rz⟩:=HA2.out.r;have rz0:=rz 0;have rz1:=rz 1;have rz2:=rz 2;have rz3:=rz 3;have rz4:=rz 4;have rz5:=rz 5;have rz6:=rz 6;obtain⟨n0,n1,n2,n3,n4,n5,n6,_⟩:=HA2.out.n;clear rz;clear hal hb2 HA hvv hVS;have HA:=HA2;clear HA2;have HE:=Ax (show Bh l= .ok (⟨4,dl T,(vk,vn,dl VS)⟩,n) by rw[HWL.out,pF (by rw[HN.out,HTK.out];exact hpr),HN.out,HTK.out]);have hT:=Bl.set7 HA.out.r 4 T vk vn VS 0 0;have hB:=A6 HA.out.bel (Ak _) 4 T vk vn VS 0 0;obtain⟨Z,hZ⟩:∃Z,set7 (V2.alloc (.cells #[.int .u8 vk,.int .i64 vn,.string VS] 35)) w.heap.size 4 T vk vn VS 0 0=Z:=⟨_,rfl⟩;rw[hZ] at hT hB;unfold set7 at hZ;have HT:=Ax hT;have HB:=Ax hB;have HZ:=Ax hZ;clear hT hB hZ;clear hpr;go_wp2_with fail;refine wp_region_noPanic ?_;refine wp_region_held_drew (S:=fun X=>X.cell? ⟨V2.heap.size,0,none⟩=some (.int .u8 vk)/\X.cell? ⟨V2.heap.size,1,none⟩=some (.int .i64 vn)/\X.cell? ⟨V2.heap.size,2,none⟩=some (.string VS)) tF ?_ (fun hHeld=>?_)
    ·(try dsimp only);go_keep
    refine QH 0 ⟨some 100,_,_,_,_,_⟩ (h:=?_)
    try simp only[Act.put,Ac,Ad,Ae]
    refine QH 1 ⟨some 101,_,_,_,_,_⟩ (h:=?_)
    try simp only[Act.put,Ac,Ad,Ae]
    refine QH 2 ⟨some 102,_,_,_,_,_⟩ (h:=?_)
    try simp only[Act.put,Ac,Ad,Ae]
    refine QH 3 ⟨some 103,_,_,_,_,_⟩ (h:=?_)
    try simp only[Act.put,Ac,Ad,Ae]
    refine QH 4 ⟨some 104,_,_,_,_,_⟩ (h:=?_)
    try simp only[Act.put,Ac,Ad,Ae]
    refine QH 5 ⟨some 105,_,_,_,_,_⟩ (h:=?_)
    try simp only[Act.put,Ac,Ad,Ae]
    refine QH 6 ⟨some 106,_,_,_,_,_⟩ (h:=?_)
    try simp only[Act.put,Ac,Ad,Ae]
    refine wpAnyH_ready (rs:=[7]) tF tH ?_;refine AllReadyH.cons (o:=⟨none,_,_,_,_,_⟩) (rs:=[]) rfl (fun K hK=>?_) AllReadyH.nil
    go_simp
    try go_wp2_with fail
    clear hHeld;refine hK.out _ _ ?_ (fun hHeld=>?_)
    ·(try dsimp only);go_keep
    clear hK K
    try simp only[Act.put,Ac,Ad,Ae]
    refine QH 8 ⟨some 5,_,_,_,_,_⟩ (h:=?_)
    try simp only[Act.put,Ac,Ad,Ae]
    refine QH 9 ⟨some 6,_,_,_,_,_⟩ (h:=?_)
    try simp only[Act.put,Ac,Ad,Ae]
    refine wpAnyH_done tF ?_ _;refine NoPanic.normal ?_;go_wp2_with fail;rw[HZ.out];obtain⟨s0,s1,s2,s3,s4,s5,s6,_⟩:=HT.out;exact Au (v:= .tuple #[.agg #[.int .u8 4,.string T,.int .u8 vk,.int .i64 vn,.string VS,.int .i64 0,.int .i64 0],.int .i64 (E:Int),.int .i64 0]) tO rfl (Jo HB.out.drew HE.out HE0.out)
  |false=>
   rw[hd] at HDG;have HD:=Ax hd;clear hd;by_cases h34:c=34
   ·subst h34;have cb:(34:UInt8).toNat=34:=rfl;rw[cb] at ix d63 d35 HDG;have HDG:Hid (Calls Tryz.prog 91 #[.int .u8 34] W1 _):=Ax HDG.out;have HQ:=Ax (fT s p W1 hs hp);rw[HL.out,E1.out] at HQ;clear cb;rcases aP (p:=p) (q:=r) with ⟨hh,hq,hle⟩|⟨hh,hq⟩
    ·obtain⟨n,hn⟩:∃n,A7 false r=n:=⟨_,rfl⟩;obtain⟨E,hE⟩:∃E,p+(n+2)=E:=⟨_,rfl⟩;rw[hq,hn,show p+n+2=p+(n+2) by omega,hE] at HQ;rw[hn,←E1.out] at hle;have hEs:E<=s.size:=by have:=HLL.out;omega
     have hpE:p+2<=E:=by omega
     have hsl:=Dq s (p:Int) (E:Int) tE tE tE;rw[show((p:Int)).toNat=p by omega,show((E:Int)).toNat=E by omega] at hsl;obtain⟨T,hT⟩:∃T,s.extract p E=T:=⟨_,rfl⟩;have htk:(34::r).take (A7 false r+2)=dl T:=by rw[←hT,Fg,HL.out,←hE,Nat.add_sub_cancel_left,hn,E1.out]
     rw[hT] at hsl;have hts:T.size<=1000000:=by rw[←hT,ByteArray.size_extract];omega
     have hsl2:=Dq s ((p:Int)+1) ((E:Int) - 1) tE tE tE;rw[show((p:Int)+1).toNat=p+1 by omega,show((E:Int) - 1).toNat=E - 1 by omega] at hsl2;obtain⟨T2,hT2⟩:∃T2,s.extract (p+1) (E - 1)=T2:=⟨_,rfl⟩;have htk2:r.take (A7 false r)=dl T2:=by rw[←hT2,Fg,HR.out,hn,show E - 1 - (p+1)=n by omega]
     rw[hT2] at hsl2;have w1:IntKind.i64.wrap ((p:Int)+1)=(p:Int)+1:=IntWalk.i64_in _ tE;have w2:IntKind.i64.wrap ((E:Int) - 1)=(E:Int) - 1:=IntWalk.i64_in _ tE;have HPR:=Ax (S8 T W1 tE);have HHD:=Ax hh;have HTK:=Ax htk;have HTK2:=Ax htk2;have HE0:Hid (p+(A7 false r+2)=E):=Ax (by rw[hn];exact hE);clear hn hE hT htk hT2 htk2 hh hq hle;have W1H:=Ax w1;have W2H:=Ax w2;clear w1 w2;go_wp2_with fail;refine HRUN.out.mono ?_;rintro e w' ⟨rfl,rfl⟩;go_wp2_with fail;refine HDG.out.mono ?_;rintro e w' ⟨rfl,rfl⟩;go_wp2_with fail;refine HQ.out.mono ?_;rintro e w' ⟨rfl,rfl⟩;go_wp2_with fail;refine HPR.out.mono ?_;rintro e V2 ⟨hb2,he⟩;cases hpr:D2 (dl T) with
     |error q=>
      rw[hpr] at he;simp only at he;subst he;have hal:=hb2.trans (((Aq V2.heap.size V2).alloc (Ak _) (.cells #[.int .u8 0,.int .i64 0,.string ⟨#[]⟩] 35)).mono hb2.size);have HA2:=Ax (HA.out.below hal);clear r0 r1 r2 r3 r4 r5 r6 rz0 rz1 rz2 rz3 rz4 rz5 rz6 n0 n1 n2 n3 n4 n5 n6;obtain⟨r0,r1,r2,r3,r4,r5,r6,rz⟩:=HA2.out.r;have rz0:=rz 0;have rz1:=rz 1;have rz2:=rz 2;have rz3:=rz 3;have rz4:=rz 4;have rz5:=rz 5;have rz6:=rz 6;obtain⟨n0,n1,n2,n3,n4,n5,n6,_⟩:=HA2.out.n;clear rz;clear hal hb2 HA;have HA:=HA2;clear HA2;have dq:(q==0)=false:=Af.2 (by rcases Pu hpr with h|h|h<;>omega);have dq':(q !=0)=true:=by rw[bne,dq];rfl
      have HE:=Ax (show Bh l= .error 4 by rw[E1.out,Tx];exact qJ HHD.out (by rw[HTK.out];exact hpr));clear hpr;have hT:=Bl.set7 HA.out.r 0 ⟨#[]⟩ 0 0 ⟨#[]⟩ 0 0;have hB:=A6 HA.out.bel (Ak _) 0 ⟨#[]⟩ 0 0 ⟨#[]⟩ 0 0;obtain⟨Z,hZ⟩:∃Z,set7 (V2.alloc (.cells #[.int .u8 0,.int .i64 0,.string ⟨#[]⟩] 35)) w.heap.size 0 ⟨#[]⟩ 0 0 ⟨#[]⟩ 0 0=Z:=⟨_,rfl⟩;exact zzv
     |ok v=>
      obtain⟨vk,vn,vs⟩:=v;rw[hpr] at he;simp only at he;subst he;obtain⟨VS,hVS⟩:∃VS:ByteArray,⟨vs.toArray⟩=VS:=⟨_,rfl⟩;have hvs:vs=dl VS:=by rw[←hVS]
      rw[hVS];subst hvs;have hvv:∀i,((V2.alloc (.cells #[.int .u8 vk,.int .i64 vn,.string VS] 35))).cell? ⟨V2.heap.size,i,none⟩=(#[.int .u8 vk,.int .i64 vn,.string VS]:Array Value)[i]?:=fun i=>by simp only[World.cell?,A1];rfl
      have v0c:=hvv 0;have v1c:=hvv 1;have v2c:=hvv 2;simp only[List.getElem?_toArray] at v0c v1c v2c;have hne:¬w.heap.size=V2.heap.size:=by have:=HA.out.bel.size;have:=hb2.size;have:=Ca HA.out.r.c0;simp at this;omega
      have hne':¬V2.heap.size=w.heap.size:=fun h=>hne h.symm
      have hal:=hb2.trans (((Aq V2.heap.size V2).alloc (Ak _) (.cells #[.int .u8 vk,.int .i64 vn,.string VS] 35)).mono hb2.size);have HA2:=Ax (HA.out.below hal);clear r0 r1 r2 r3 r4 r5 r6 rz0 rz1 rz2 rz3 rz4 rz5 rz6 n0 n1 n2 n3 n4 n5 n6;obtain⟨r0,r1,r2,r3,r4,r5,r6,rz⟩:=HA2.out.r;have rz0:=rz 0;have rz1:=rz 1;have rz2:=rz 2;have rz3:=rz 3;have rz4:=rz 4;have rz5:=rz 5;have rz6:=rz 6;obtain⟨n0,n1,n2,n3,n4,n5,n6,_⟩:=HA2.out.n;clear rz;clear hal hb2 HA hvv hVS;have HA:=HA2;clear HA2;have HE:=Ax (show Bh l= .ok (⟨5,dl T2,(vk,vn,dl VS)⟩,A7 false r+2) by rw[E1.out,Tx,qS HHD.out (by rw[HTK.out];exact hpr),HTK2.out]);have hT:=Bl.set7 HA.out.r 5 T2 vk vn VS 0 0;have hB:=A6 HA.out.bel (Ak _) 5 T2 vk vn VS 0 0;obtain⟨Z,hZ⟩:∃Z,set7 (V2.alloc (.cells #[.int .u8 vk,.int .i64 vn,.string VS] 35)) w.heap.size 5 T2 vk vn VS 0 0=Z:=⟨_,rfl⟩;rw[hZ] at hT hB;unfold set7 at hZ;have HT:=Ax hT;have HB:=Ax hB;have HZ:=Ax hZ;clear hT hB hZ;clear hpr;go_wp2_with fail;have w1:=W1H.out;have w2:=W2H.out;refine wp_region_noPanic ?_;refine wp_region_held_drew (S:=fun X=>X.cell? ⟨V2.heap.size,0,none⟩=some (.int .u8 vk)/\X.cell? ⟨V2.heap.size,1,none⟩=some (.int .i64 vn)/\X.cell? ⟨V2.heap.size,2,none⟩=some (.string VS)) tF ?_ (fun hHeld=>?_)
      ·(try dsimp only);go_keep
      refine QH 0 ⟨some 126,_,_,_,_,_⟩ (h:=?_)
      try simp only[Act.put,Ac,Ad,Ae]
      refine QH 1 ⟨some 127,_,_,_,_,_⟩ (h:=?_)
      try simp only[Act.put,Ac,Ad,Ae]
      refine QH 2 ⟨some 128,_,_,_,_,_⟩ (h:=?_)
      try simp only[Act.put,Ac,Ad,Ae]
      refine QH 3 ⟨some 129,_,_,_,_,_⟩ (h:=?_)
      try simp only[Act.put,Ac,Ad,Ae]
      refine QH 4 ⟨some 130,_,_,_,_,_⟩ (h:=?_)
      try simp only[Act.put,Ac,Ad,Ae]
      refine QH 5 ⟨some 131,_,_,_,_,_⟩ (h:=?_)
      try simp only[Act.put,Ac,Ad,Ae]
      refine QH 6 ⟨some 132,_,_,_,_,_⟩ (h:=?_)
      try simp only[Act.put,Ac,Ad,Ae]
      refine QH 7 ⟨some 133,_,_,_,_,_⟩ (h:=?_)
      try simp only[Act.put,Ac,Ad,Ae]
      refine QH 8 ⟨some 134,_,_,_,_,_⟩ (h:=?_)
      try simp only[Act.put,Ac,Ad,Ae]
      refine wpAnyH_ready (rs:=[9]) tF tH ?_;refine AllReadyH.cons (o:=⟨none,_,_,_,_,_⟩) (rs:=[]) rfl (fun K hK=>?_) AllReadyH.nil
      go_simp
      try go_wp2_with fail
      clear hHeld;refine hK.out _ _ ?_ (fun hHeld=>?_)
      ·(try dsimp only);go_keep
      clear hK K
      try simp only[Act.put,Ac,Ad,Ae]
      refine QH 10 ⟨some 5,_,_,_,_,_⟩ (h:=?_)
      try simp only[Act.put,Ac,Ad,Ae]
      refine QH 11 ⟨some 6,_,_,_,_,_⟩ (h:=?_)
      try simp only[Act.put,Ac,Ad,Ae]
      refine wpAnyH_done tF ?_ _;refine NoPanic.normal ?_;clear w1 w2;go_wp2_with fail;rw[HZ.out];obtain⟨s0,s1,s2,s3,s4,s5,s6,_⟩:=HT.out;exact Au (v:= .tuple #[.agg #[.int .u8 5,.string T2,.int .u8 vk,.int .i64 vn,.string VS,.int .i64 0,.int .i64 0],.int .i64 (E:Int),.int .i64 0]) tO rfl (Jo HB.out.drew HE.out HE0.out)
    rw[hq] at HQ;have HWN:=Ax (show Bh l= .error 4 by rw[E1.out,Tx];exact qN hh);clear hq hh;go_wp2_with fail;refine HRUN.out.mono ?_;rintro e w' ⟨rfl,rfl⟩;go_wp2_with fail;refine HDG.out.mono ?_;rintro e w' ⟨rfl,rfl⟩;go_wp2_with fail;refine HQ.out.mono ?_;rintro e w' ⟨rfl,rfl⟩;have HE:=Ax (HWN.out);exact zzy
   have d34:((c.toNat:Int)==34)=false:=Af.2 (fun e=>h34 (Ci (n:=34) tE));have HWL:=Ax (show Bh l=Es l by rw[E1.out];exact gQ HD.out HLO.out h34 (fun e=>HM.out (.inl e)) (fun e=>HM.out (.inr e)));clear h34;have HSG:=Ax (fW s p W1 hs hp);rw[HL.out] at HSG;obtain⟨n,hn⟩:∃n,Kg l=n:=⟨_,rfl⟩;have hse:C4 p l=if n=0 then -1 else((p+n:Nat):Int):=by rw[←hn];rfl
   rw[hse] at HSG;have hnl:n<=l.length:=by rw[←hn,E1.out];exact lI c r
   have HN:=Ax hn;clear hse hn;by_cases h0:n=0
   ·rw[Ap h0] at HSG;have HWE:=Ax (show Bh l= .error 4 by rw[HWL.out,Xp,HN.out,Ap h0]);clear h0 hnl;go_wp2_with fail;refine HRUN.out.mono ?_;rintro e w' ⟨rfl,rfl⟩;go_wp2_with fail;refine HDG.out.mono ?_;rintro e w' ⟨rfl,rfl⟩;go_wp2_with fail;refine HSG.out.mono ?_;rintro e w' ⟨rfl,rfl⟩;have HE:=Ax (HWE.out);exact zzy
   rw[Ao h0] at HSG;obtain⟨E,hE⟩:∃E,p+n=E:=⟨_,rfl⟩;rw[hE] at HSG;have hEs:E<=s.size:=by have:=HLL.out;omega
   have hsl:=Dq s (p:Int) (E:Int) tE tE tE;rw[show((p:Int)).toNat=p by omega,show((E:Int)).toNat=E by omega] at hsl;obtain⟨T,hT⟩:∃T,s.extract p E=T:=⟨_,rfl⟩;have htk:l.take n=dl T:=by rw[←hT,Fg,HL.out,←hE,Nat.add_sub_cancel_left]
   rw[hT] at hsl;have HWE:=Ax (show Bh l= .ok (⟨7,dl T,(0,0,dl ⟨#[]⟩)⟩,n) by rw[HWL.out,Xp,HN.out,Ao h0,htk];rfl);have HE0:=Ax hE;clear hE hT htk h0 hnl;go_wp2_with fail;refine HRUN.out.mono ?_;rintro e w' ⟨rfl,rfl⟩;go_wp2_with fail;refine HDG.out.mono ?_;rintro e w' ⟨rfl,rfl⟩;go_wp2_with fail;refine HSG.out.mono ?_;rintro e w' ⟨rfl,rfl⟩;have HE:=Ax (HWE.out);have hT:=Bl.set7 HA.out.r 7 T 0 0 ⟨#[]⟩ 0 0;have hB:=A6 HA.out.bel (Ak _) 7 T 0 0 ⟨#[]⟩ 0 0;obtain⟨Z,hZ⟩:∃Z,set7 W1 w.heap.size 7 T 0 0 ⟨#[]⟩ 0 0=Z:=⟨_,rfl⟩;rw[hZ] at hT hB;unfold set7 at hZ;have HT:=Ax hT;have HB:=Ax hB;have HZ:=Ax hZ;clear hT hB hZ;go_wp2_with fail;rw[HZ.out];obtain⟨s0,s1,s2,s3,s4,s5,s6,_⟩:=HT.out;exact Au (v:= .tuple #[.agg #[.int .u8 7,.string T,.int .u8 0,.int .i64 0,.string ⟨#[]⟩,.int .i64 0,.int .i64 0],.int .i64 (E:Int),.int .i64 0]) tO rfl (Jo HB.out HE.out HE0.out)
end Go.Proofs.YtmpfilddeglgbaaGreatDoor
