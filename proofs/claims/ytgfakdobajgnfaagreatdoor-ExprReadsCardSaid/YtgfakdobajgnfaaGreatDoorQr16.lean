import Derived.RangeFuncWrites
import Derived.RangeFuncLeaves
import Derived.RangeFuncCalls
import Derived.OrdersIn
import Derived.Test.YtgfakdobajgnfaaGreatDoorQr15
namespace Go.Proofs.YtgfakdobajgnfaaGreatDoor
open Go Go.RowKit Go.Lib
def wordAt (p:Nat)(l:List UInt8):Except Int (Wd×Nat):=match wordL l with
 | .ok x=> .ok (x.1,p+x.2)
 | .error e=> .error e
theorem wpost_ok {w w':World}{p n E:Nat}{l:List UInt8}{k vk vn:Int}{T vs:ByteArray}(hb:Below w.heap.size w w')(hw:wordL l= .ok (⟨k,dl T,(vk,vn,dl vs)⟩,n))(hE:p+n=E):
 WPost w (wordAt p l) (.returned (.tuple #[.agg #[.int .u8 k,.string T,.int .u8 vk,.int .i64 vn,.string vs,.int .i64 0,.int .i64 0],.int .i64 (E:Int),.int .i64 0])) w':=by
 refine⟨hb,?_⟩
 unfold wordAt
 rw[hw]
 simp only[tokV,mk_dl,hE]
theorem wpost_er {w w':World}{p:Nat}{l:List UInt8}{e:Int}(hb:Below w.heap.size w w')(hw:wordL l= .error e):
 WPost w (wordAt p l) (.returned (.tuple #[.agg #[.int .u8 0,.string ⟨#[]⟩,.int .u8 0,.int .i64 0,.string ⟨#[]⟩,.int .i64 0,.int .i64 0],.int .i64 0,.int .i64 e])) w':=by
 refine⟨hb,?_⟩
 unfold wordAt
 rw[hw]
 exact⟨⟨0,[],v0⟩,0,rfl⟩
structure RwdAt (w V:World):Prop where
 r:TokAt V w.heap.size 0 ⟨#[]⟩ 0 0 ⟨#[]⟩ 0 0
 n:TokAt V (w.heap.size+1) 0 ⟨#[]⟩ 0 0 ⟨#[]⟩ 0 0
 bel:Below w.heap.size w V
theorem RwdAt.below {w V V':World}(h:RwdAt w V)(hb:Below V.heap.size V V'):RwdAt w V':=⟨h.r.below hb,h.n.below hb,h.bel.trans (hb.mono h.bel.size)⟩
theorem wd_start (w:World):RwdAt w ((w.alloc (.cells tok0 94)).alloc (.cells tok0 94)):=by
 refine⟨(TokAt.new w).below ((Below.refl _ _).alloc (Nat.le_refl _) _),?_,((Below.refl _ _).alloc (Nat.le_refl _) _).alloc (by simp) _⟩
 have:=TokAt.new (w.alloc (.cells tok0 94))
 simpa using this
theorem runL_low {c:UInt8}{r:List UInt8}(h:lowC c=true):runL (c::r)=spanL namC (c::r):=if_pos h
theorem runL_no {c:UInt8}{r:List UInt8}(h:lowC c=false):runL (c::r)=0:=if_neg (by rw[h];simp)
theorem runL_le (l:List UInt8):runL l≤l.length:=by
 unfold runL
 split
 ·split
  ·exact spanL_le _ _
  ·omega
 ·omega
theorem word_low {c:UInt8}{r:List UInt8}(h:lowC c=true):wordL (c::r)=shortW ⟨1,(c::r).take (spanL namC (c::r)),v0⟩ (spanL namC (c::r)):=by
 unfold wordL
 simp only
 rw[if_pos h]
theorem shortW_no {w:Wd}{n:Nat}(h:12<w.t.length):shortW w n= .error 4:=by unfold shortW;rw[if_pos h]
theorem shortW_yes {w:Wd}{n:Nat}(h:¬12<w.t.length):shortW w n= .ok (w,n):=by unfold shortW;rw[if_neg h]
theorem markB_run {c:UInt8}{r:List UInt8}:(markB (c::r)=true∧runL r=spanL namC r∧1≤runL r)∨(markB (c::r)=false∧runL r=0):=by
 match r with
 |[]=>exact .inr ⟨rfl,rfl⟩
 |d::q=>
  show(lowC d=true∧_)∨(lowC d=false∧_)
  cases h:lowC d with
  |true=>exact .inl ⟨rfl,runL_low h,by rw[runL_low h,spanL_yes (low_nam h)];omega⟩
  |false=>exact .inr ⟨rfl,runL_no h⟩
theorem word_var {r:List UInt8}(h:runL r=0):wordL (63::r)= .ok (⟨3,[],v0⟩,1):=by
 rcases markB_run (c:=63) (r:=r) with ⟨_,_,h2⟩|⟨h1,_⟩
 ·omega
 ·show(if markB (63::r)=true then _ else _)=_
  rw[if_neg (by rw[h1];simp)]
theorem word_name {r:List UInt8}(h:1≤runL r):wordL (63::r)=shortW ⟨2,r.take (runL r),v0⟩ (1+runL r):=by
 rcases markB_run (c:=63) (r:=r) with ⟨h0,h1,_⟩|⟨_,h1⟩
 ·show(if markB (63::r)=true then _ else _)=_
  rw[if_pos h0,h1]
 ·omega
theorem word_sym {r:List UInt8}(h:1≤runL r):wordL (35::r)=shortW ⟨6,r.take (runL r),(5,0,r.take (runL r))⟩ (1+runL r):=by
 rcases markB_run (c:=35) (r:=r) with ⟨h0,h1,_⟩|⟨_,h1⟩
 ·show(if(35:UInt8)=35∧markB (35::r)=true then _ else _)=_
  rw[if_pos ⟨rfl,h0⟩,h1]
 ·omega
theorem word_sym0 {r:List UInt8}(h:runL r=0):wordL (35::r)= .error 4:=by
 rcases markB_run (c:=35) (r:=r) with ⟨_,_,h2⟩|⟨h1,_⟩
 ·omega
 ·show(if(35:UInt8)=35∧markB (35::r)=true then _ else signW (35::r))=_
  rw[if_neg (by rw[h1];simp),signW_N]
  have:signN (35::r)=0:=by
   unfold signN
   rw[if_neg,if_neg (fun q=>absurd (one_mem.1 q) (by decide))]
   match r with
   |[]=>decide
   |d::q=>exact not_twos (by simp) (by simp) (by simp) (by simp)
  rw[this]
  rfl
theorem word_dig {c:UInt8}{r:List UInt8}(h:digC c=true)(hl:lowC c=false):wordL (c::r)=numW (c::r):=by
 unfold wordL
 simp only
 rw[if_neg (by rw[hl];simp),if_pos h]
theorem word_quo {r:List UInt8}:wordL (34::r)=txtW (34::r):=rfl
theorem word_else {c:UInt8}{r:List UInt8}(h:digC c=false)(hl:lowC c=false)(h1:c≠34)(h2:c≠63)(h3:c≠35):wordL (c::r)=signW (c::r):=by
 unfold wordL
 simp only
 rw[if_neg (by rw[hl];simp),if_neg (by rw[h];simp),if_neg h1,if_neg h2,if_neg (fun q=>h3 q.1)]
theorem numW_ok {l:List UInt8}{v:Int×Int×List UInt8}(h:prsL (l.take (numLen l))= .ok v):numW l= .ok (⟨4,l.take (numLen l),v⟩,numLen l):=by unfold numW;rw[h]
theorem numW_er {l:List UInt8}{e:Int}(h:prsL (l.take (numLen l))= .error e):numW l= .error (if e=9 then 9 else 4):=by unfold numW;rw[h]
theorem numLen_le (l:List UInt8):numLen l≤l.length:=by
 rw[numLen_eq]
 have h1:=spanL_le digC l
 unfold numTail
 split
 ·rename_i c r e
  have h2:=congrArg List.length e
  rw[List.length_drop] at h2
  simp only[List.length_cons] at h2
  split
  ·have:=spanL_le digC (c::r)
   simp only[List.length_cons] at this
   omega
  ·omega
 ·omega
theorem txtW_no {q:List UInt8}(h:((34::q).drop (1+txtSpan false q)).head?≠some 34):txtW (34::q)= .error 4:=by rw[txtW_cons,if_neg h]
theorem txtW_er {q:List UInt8}{e:Int}(h:((34::q).drop (1+txtSpan false q)).head? =some 34)(hp:prsL ((34::q).take (txtSpan false q+2))= .error e):txtW (34::q)= .error 4:=by rw[txtW_cons,if_pos h,hp]
theorem txtW_ok {q:List UInt8}{v:Int×Int×List UInt8}(h:((34::q).drop (1+txtSpan false q)).head? =some 34)(hp:prsL ((34::q).take (txtSpan false q+2))= .ok v):txtW (34::q)= .ok (⟨5,q.take (txtSpan false q),v⟩,txtSpan false q+2):=by rw[txtW_cons,if_pos h,hp]
theorem quoE_cases {p:Nat}{q:List UInt8}:(((34::q).drop (1+txtSpan false q)).head? =some 34∧quoE p (34::q)=((p+txtSpan false q+2:Nat):Int)∧txtSpan false q+2≤(34::q).length)∨(((34::q).drop (1+txtSpan false q)).head?≠some 34∧quoE p (34::q)= -1):=by
 by_cases h:((34::q).drop (1+txtSpan false q)).head? =some 34
 ·refine .inl ⟨h,by unfold quoE;exact if_pos h,?_⟩
  have h2:(34::q).drop (1+txtSpan false q)≠[]:=fun e=>by rw[e] at h;cases h
  have h3:=List.length_pos_iff.2 h2
  rw[List.length_drop] at h3
  omega
 ·exact .inr ⟨h,by unfold quoE;exact if_neg h⟩
theorem signN_le (c:UInt8)(r:List UInt8):signN (c::r)≤(c::r).length:=by
 unfold signN
 split
 ·next h=>
  have:((c::r).take 2).length=2:=by
   unfold twos at h
   simp only[List.mem_cons,List.not_mem_nil,or_false] at h
   rcases h with h|h|h|h<;>rw[h]<;>rfl
  rw[List.length_take] at this
  omega
 ·split<;>simp
theorem index_at {s:ByteArray}{p:Nat}(h:p<s.size)(w:World):(Instr.index 9 (.string s) (.int .i64 (p:Int))).run Tryz.prog w= .ok (.int .u8 (s[p].toNat:Int)) w:=by
 go_simp
theorem Qw14{P:Prop}(h:P:=by
 have hT:=TokAt.set7 HA.out.r 0 ⟨#[]⟩ 0 0 ⟨#[]⟩ 0 0
 have hB:=below_set7 HA.out.bel (Nat.le_refl _) 0 ⟨#[]⟩ 0 0 ⟨#[]⟩ 0 0
 obtain⟨Z,hZ⟩:∃Z,set7 W1 w.heap.size 0 ⟨#[]⟩ 0 0 ⟨#[]⟩ 0 0=Z:=⟨_,rfl⟩
 rw[hZ] at hT hB
 unfold set7 at hZ
 have HT:=hide hT
 have HB:=hide hB
 have HZ:=hide hZ
 clear hT hB hZ
 go_wp2_with fail
 rw[HZ.out]
 obtain⟨s0,s1,s2,s3,s4,s5,s6,_⟩:=HT.out
 exact bodyPost_ret (v:= .tuple #[.agg #[.int .u8 0,.string ⟨#[]⟩,.int .u8 0,.int .i64 0,.string ⟨#[]⟩,.int .i64 0,.int .i64 0],.int .i64 0,.int .i64 4]) (by simp [results,Tryz.results90,go_sem, *]) rfl (wpost_er HB.out HE.out)):P:=h
set_option maxRecDepth 100000 in
set_option maxHeartbeats 16000000 in
theorem rword_any (s:ByteArray)(p:Nat)(w:World)(hs:s.size≤1000000)(hp:p<s.size):Calls Tryz.prog 90 #[.string s,.int .i64 (p:Int)] w (WPost w (wordAt p ((dl s).drop p))):=by
 have e1:=dl_at hp
 obtain⟨l,hl⟩:∃l,(dl s).drop p=l:=⟨_,rfl⟩
 obtain⟨r,hr⟩:∃r,(dl s).drop (p+1)=r:=⟨_,rfl⟩
 obtain⟨c,hc⟩:∃c,s[p]=c:=⟨_,rfl⟩
 rw[hl,hr,hc] at e1
 have hll:l.length=s.size - p:=by rw[←hl,List.length_drop,dl_size]
 have hrl:r.length=s.size - (p+1):=by rw[←hr,List.length_drop,dl_size]
 have q0:(0:Int)≤(p:Int):=by omega
 have q1:(p:Int)<(s.size:Int):=by omega
 have HC:=hide hc
 have HL:=hide hl
 have HR:=hide hr
 have HLL:=hide hll
 have HRL:=hide hrl
 have ix:∀w:World,(Instr.index 9 (.string s) (.int .i64 (p:Int))).run Tryz.prog w= .ok (.int .u8 (c.toNat:Int)) w:=fun w=>by have:=index_at hp w;rw[hc] at this;exact this
 have HS:=hide (wd_start w)
 obtain⟨W1,hW1⟩:∃W1,(w.alloc (.cells tok0 94)).alloc (.cells tok0 94)=W1:=⟨_,rfl⟩
 rw[hW1] at HS
 have HW1:=hide hW1
 have HA:Hid (RwdAt w W1):=hide HS.out
 have HRUN:=hide (run_any s p W1 hs (by omega))
 rw[hl] at HRUN ⊢
 clear hW1 hll hrl hl hr hc HS
 go_enter Tryz.func90,Tryz.ntmps90
 go_upto_region 2 with fail
 change Code.wp _ _ _ _ ((w.alloc (.cells tok0 94)).alloc (.cells tok0 94))
 rw[HW1.out]
 obtain⟨r0,r1,r2,r3,r4,r5,r6,rz⟩:=HA.out.r
 have rz0:=rz 0
 have rz1:=rz 1
 have rz2:=rz 2
 have rz3:=rz 3
 have rz4:=rz 4
 have rz5:=rz 5
 have rz6:=rz 6
 obtain⟨n0,n1,n2,n3,n4,n5,n6,_⟩:=HA.out.n
 clear rz
 cases hlo:lowC c with
 |true=>
  obtain⟨n,hn⟩:∃n,spanL namC l=n:=⟨_,rfl⟩
  have hrn:runL l=n:=by rw[e1,runL_low hlo,←e1,hn]
  have hwl:wordL l=shortW ⟨1,l.take n,v0⟩ n:=by rw[e1,word_low hlo,←e1,hn]
  have hn1:1≤n:=by rw[←hn,e1,spanL_yes (low_nam hlo)];omega
  have hnl:n≤l.length:=by rw[←hn];exact spanL_le _ _
  obtain⟨E,hE⟩:∃E,p+n=E:=⟨_,rfl⟩
  rw[hrn,hE] at HRUN
  have hEs:E≤s.size:=by have:=HLL.out;omega
  have hpE:p<E:=by omega
  have hsl:=slice_mid s (p:Int) (E:Int) (by omega) (by omega) (by omega)
  rw[show((p:Int)).toNat=p by omega,show((E:Int)).toNat=E by omega] at hsl
  obtain⟨T,hT⟩:∃T,s.extract p E=T:=⟨_,rfl⟩
  have htk:l.take n=dl T:=by rw[←hT,dl_ext,HL.out,←hE,Nat.add_sub_cancel_left]
  have htl:(dl T).length=n:=by rw[←htk,List.length_take];omega
  rw[hT] at hsl
  rw[htk] at hwl
  have d1:(p:Int)<(E:Int):=by omega
  have HWL:=hide hwl
  have HTL:=hide htl
  have HE0:=hide hE
  clear hn hrn hwl hn1 hnl hE hT htk htl e1 hlo
  go_wp2_with fail
  (with_reducible refine HRUN.out.mono ?_)
  rintro e w' ⟨rfl,rfl⟩
  by_cases h12:12<n
  ·have d2:(12:Int)<(E:Int) - (p:Int):=by have:=HE0.out;omega
   have HE:=hide (show wordL l= .error 4 by rw[HWL.out];exact shortW_no (by show 12<(dl T).length;rw[HTL.out];exact h12))
   exact Qw14
  ·have d2:decide ((12:Int)<(E:Int) - (p:Int))=false:=decide_eq_false (by have:=HE0.out;omega)
   have d3:(E:Int) - (p:Int)≤12:=by have:=HE0.out;omega
   have HE:=hide (show wordL l= .ok (⟨1,dl T,(0,0,dl ⟨#[]⟩)⟩,n) by rw[HWL.out];exact shortW_yes (by show ¬12<(dl T).length;rw[HTL.out];exact h12))
   have hT:=TokAt.set7 HA.out.r 1 T 0 0 ⟨#[]⟩ 0 0
   have hB:=below_set7 HA.out.bel (Nat.le_refl _) 1 T 0 0 ⟨#[]⟩ 0 0
   obtain⟨Z,hZ⟩:∃Z,set7 W1 w.heap.size 1 T 0 0 ⟨#[]⟩ 0 0=Z:=⟨_,rfl⟩
   rw[hZ] at hT hB
   unfold set7 at hZ
   have HT:=hide hT
   have HB:=hide hB
   have HZ:=hide hZ
   clear hT hB hZ
   go_wp2_with fail
   rw[HZ.out]
   obtain⟨s0,s1,s2,s3,s4,s5,s6,_⟩:=HT.out
   exact bodyPost_ret (v:= .tuple #[.agg #[.int .u8 1,.string T,.int .u8 0,.int .i64 0,.string ⟨#[]⟩,.int .i64 0,.int .i64 0],.int .i64 (E:Int),.int .i64 0]) (by simp [results,Tryz.results90,go_sem, *]) rfl (wpost_ok HB.out HE.out HE0.out)
 |false=>
  have hrn:runL l=0:=by rw[e1];exact runL_no hlo
  rw[hrn,Nat.add_zero] at HRUN
  clear hrn
  have HLO:=hide hlo
  clear hlo
  by_cases hm:c=63∨c=35
  ·rcases hm with hm|hm
   ·subst hm
    have cb:(63:UInt8).toNat=63:=rfl
    rw[cb] at ix
    have HRN2:=hide (run_any s (p+1) W1 hs (by omega))
    rw[HR.out] at HRN2
    obtain⟨m,hmm⟩:∃m,runL r=m:=⟨_,rfl⟩
    have hml:m≤r.length:=by rw[←hmm];exact runL_le r
    obtain⟨E,hE⟩:∃E,p+1+m=E:=⟨_,rfl⟩
    rw[hmm,hE] at HRN2
    have hEs:E≤s.size:=by have:=HRL.out;omega
    have HRN:Hid (Calls Tryz.prog 156 #[.string s,.int .i64 ((p:Int)+1)] W1 _):=hide HRN2.out
    have hsl:=slice_mid s ((p:Int)+1) (E:Int) (by omega) (by omega) (by omega)
    rw[show((p:Int)+1).toNat=p+1 by omega,show((E:Int)).toNat=E by omega] at hsl
    obtain⟨T,hT⟩:∃T,s.extract (p+1) E=T:=⟨_,rfl⟩
    have htk:r.take m=dl T:=by rw[←hT,dl_ext,HR.out,←hE,Nat.add_sub_cancel_left]
    have htl:(dl T).length=m:=by rw[←htk,List.length_take];omega
    rw[hT] at hsl
    have hts:T.size=m:=by rw[←dl_size];exact htl
    have htm:T.size≤1000000:=by have:=HRL.out;omega
    have HTS:=hide hts
    have HTL:=hide htl
    have HTK:=hide htk
    have HE0:=hide hE
    have HMM:=hide hmm
    have E1:=hide e1
    clear hml hE hT htk htl hts e1 hmm cb HRN2
    go_wp2_with fail
    (with_reducible refine HRUN.out.mono ?_)
    rintro e w' ⟨rfl,rfl⟩
    go_wp2_with fail
    (with_reducible refine HRN.out.mono ?_)
    rintro e w' ⟨rfl,rfl⟩
    by_cases h12:12<m
    ·have d2:(12:Int)<(T.size:Int):=by have:=HTS.out;omega
     have HE:=hide (show wordL l= .error 4 by rw[E1.out,word_name (by rw[HMM.out];omega)];exact shortW_no (by show 12<(r.take (runL r)).length;rw[HMM.out,HTK.out,HTL.out];exact h12))
     exact Qw14
    ·have d2:(T.size:Int)≤12:=by have:=HTS.out;omega
     have d2':decide ((12:Int)<(T.size:Int))=false:=decide_eq_false (by omega)
     by_cases h0:m=0
     ·have hTe:T=⟨#[]⟩:=dl_inj (List.eq_nil_of_length_eq_zero (by rw[HTL.out];exact h0))
      have HE1:=hide (show p+1=E by have:=HE0.out;omega)
      subst hTe
      clear d2 d2' htm
      have HE:=hide (show wordL l= .ok (⟨3,dl ⟨#[]⟩,(0,0,dl ⟨#[]⟩)⟩,1) by rw[E1.out];exact word_var (by rw[HMM.out];exact h0))
      have hT:=TokAt.set7 HA.out.r 3 ⟨#[]⟩ 0 0 ⟨#[]⟩ 0 0
      have hB:=below_set7 HA.out.bel (Nat.le_refl _) 3 ⟨#[]⟩ 0 0 ⟨#[]⟩ 0 0
      obtain⟨Z,hZ⟩:∃Z,set7 W1 w.heap.size 3 ⟨#[]⟩ 0 0 ⟨#[]⟩ 0 0=Z:=⟨_,rfl⟩
      rw[hZ] at hT hB
      unfold set7 at hZ
      have HT:=hide hT
      have HB:=hide hB
      have HZ:=hide hZ
      clear hT hB hZ
      clear h0
      go_wp2_with fail
      rw[HZ.out]
      obtain⟨s0,s1,s2,s3,s4,s5,s6,_⟩:=HT.out
      exact bodyPost_ret (v:= .tuple #[.agg #[.int .u8 3,.string ⟨#[]⟩,.int .u8 0,.int .i64 0,.string ⟨#[]⟩,.int .i64 0,.int .i64 0],.int .i64 (E:Int),.int .i64 0]) (by simp [results,Tryz.results90,go_sem, *]) rfl (wpost_ok HB.out HE.out HE1.out)
     ·have t0:(T.toList==[])=false:=by rw[toList_dl];exact beq_eq_false_iff_ne.2 (fun e=>h0 (by rw[←HTL.out,e];rfl))
      have t1:T.toList.isEmpty=false:=by rw[toList_dl];cases h:dl T with|nil=>exact absurd (by rw[←HTL.out,h];rfl) h0|cons=>rfl
      have HE1:=hide (show p+(1+m)=E by have:=HE0.out;omega)
      have HE:=hide (show wordL l= .ok (⟨2,dl T,(0,0,dl ⟨#[]⟩)⟩,1+m) by rw[E1.out,word_name (by rw[HMM.out];omega),HMM.out,HTK.out];exact shortW_yes (by show ¬12<(dl T).length;rw[HTL.out];exact h12))
      have hT:=TokAt.set7 HA.out.r 2 T 0 0 ⟨#[]⟩ 0 0
      have hB:=below_set7 HA.out.bel (Nat.le_refl _) 2 T 0 0 ⟨#[]⟩ 0 0
      obtain⟨Z,hZ⟩:∃Z,set7 W1 w.heap.size 2 T 0 0 ⟨#[]⟩ 0 0=Z:=⟨_,rfl⟩
      rw[hZ] at hT hB
      unfold set7 at hZ
      have HT:=hide hT
      have HB:=hide hB
      have HZ:=hide hZ
      clear hT hB hZ
      go_wp2_with fail
      rw[HZ.out]
      obtain⟨s0,s1,s2,s3,s4,s5,s6,_⟩:=HT.out
      exact bodyPost_ret (v:= .tuple #[.agg #[.int .u8 2,.string T,.int .u8 0,.int .i64 0,.string ⟨#[]⟩,.int .i64 0,.int .i64 0],.int .i64 (E:Int),.int .i64 0]) (by simp [results,Tryz.results90,go_sem, *]) rfl (wpost_ok HB.out HE.out HE1.out)
   ·subst hm
    have cb:(35:UInt8).toNat=35:=rfl
    rw[cb] at ix
    have HRN2:=hide (run_any s (p+1) W1 hs (by omega))
    rw[HR.out] at HRN2
    obtain⟨m,hmm⟩:∃m,runL r=m:=⟨_,rfl⟩
    have hml:m≤r.length:=by rw[←hmm];exact runL_le r
    obtain⟨E,hE⟩:∃E,p+1+m=E:=⟨_,rfl⟩
    rw[hmm,hE] at HRN2
    have hEs:E≤s.size:=by have:=HRL.out;omega
    have HRN:Hid (Calls Tryz.prog 156 #[.string s,.int .i64 ((p:Int)+1)] W1 _):=hide HRN2.out
    have hsl:=slice_mid s ((p:Int)+1) (E:Int) (by omega) (by omega) (by omega)
    rw[show((p:Int)+1).toNat=p+1 by omega,show((E:Int)).toNat=E by omega] at hsl
    obtain⟨T,hT⟩:∃T,s.extract (p+1) E=T:=⟨_,rfl⟩
    have htk:r.take m=dl T:=by rw[←hT,dl_ext,HR.out,←hE,Nat.add_sub_cancel_left]
    have htl:(dl T).length=m:=by rw[←htk,List.length_take];omega
    rw[hT] at hsl
    have hts:T.size=m:=by rw[←dl_size];exact htl
    have htm:T.size≤1000000:=by have:=HRL.out;omega
    have HTS:=hide hts
    have HTL:=hide htl
    have HTK:=hide htk
    have HE0:=hide hE
    have HMM:=hide hmm
    have E1:=hide e1
    clear hml hE hT htk htl hts e1 hmm cb HRN2
    go_wp2_with fail
    (with_reducible refine HRUN.out.mono ?_)
    rintro e w' ⟨rfl,rfl⟩
    go_wp2_with fail
    (with_reducible refine HRN.out.mono ?_)
    rintro e w' ⟨rfl,rfl⟩
    by_cases h12:12<m
    ·have d2:(12:Int)<(T.size:Int):=by have:=HTS.out;omega
     have HE:=hide (show wordL l= .error 4 by rw[E1.out,word_sym (by rw[HMM.out];omega)];exact shortW_no (by show 12<(r.take (runL r)).length;rw[HMM.out,HTK.out,HTL.out];exact h12))
     exact Qw14
    ·have d2:(T.size:Int)≤12:=by have:=HTS.out;omega
     have d2':decide ((12:Int)<(T.size:Int))=false:=decide_eq_false (by omega)
     by_cases h0:m=0
     ·have hTe:T=⟨#[]⟩:=dl_inj (List.eq_nil_of_length_eq_zero (by rw[HTL.out];exact h0))
      have HE1:=hide (show p+1=E by have:=HE0.out;omega)
      subst hTe
      clear d2 d2' htm
      have HE:=hide (show wordL l= .error 4 by rw[E1.out];exact word_sym0 (by rw[HMM.out];exact h0))
      clear h0
      exact Qw14
     ·have t0:(T.toList==[])=false:=by rw[toList_dl];exact beq_eq_false_iff_ne.2 (fun e=>h0 (by rw[←HTL.out,e];rfl))
      have t1:T.toList.isEmpty=false:=by rw[toList_dl];cases h:dl T with|nil=>exact absurd (by rw[←HTL.out,h];rfl) h0|cons=>rfl
      have HE1:=hide (show p+(1+m)=E by have:=HE0.out;omega)
      have HE:=hide (show wordL l= .ok (⟨6,dl T,(5,0,dl T)⟩,1+m) by rw[E1.out,word_sym (by rw[HMM.out];omega),HMM.out,HTK.out];exact shortW_yes (by show ¬12<(dl T).length;rw[HTL.out];exact h12))
      have hT:=TokAt.set7 HA.out.r 6 T 5 0 T 0 0
      have hB:=below_set7 HA.out.bel (Nat.le_refl _) 6 T 5 0 T 0 0
      obtain⟨Z,hZ⟩:∃Z,set7 W1 w.heap.size 6 T 5 0 T 0 0=Z:=⟨_,rfl⟩
      rw[hZ] at hT hB
      unfold set7 at hZ
      have HT:=hide hT
      have HB:=hide hB
      have HZ:=hide hZ
      clear hT hB hZ
      go_wp2_with fail
      rw[HZ.out]
      obtain⟨s0,s1,s2,s3,s4,s5,s6,_⟩:=HT.out
      exact bodyPost_ret (v:= .tuple #[.agg #[.int .u8 6,.string T,.int .u8 5,.int .i64 0,.string T,.int .i64 0,.int .i64 0],.int .i64 (E:Int),.int .i64 0]) (by simp [results,Tryz.results90,go_sem, *]) rfl (wpost_ok HB.out HE.out HE1.out)
  ·have d63:((c.toNat:Int)==63)=false:=beq_eq_false_iff_ne.2 (fun e=>hm (.inl (u8_eq (n:=63) (by omega))))
   have d35:((c.toNat:Int)==35)=false:=beq_eq_false_iff_ne.2 (fun e=>hm (.inr (u8_eq (n:=35) (by omega))))
   have HM:=hide hm
   clear hm
   have HDG:=hide (rdigit_any c W1)
   have E1:=hide e1
   clear e1
   cases hd:digC c with
   |true=>
    rw[hd] at HDG
    have HNL:=hide (rnum_any s p W1 hs (by omega))
    rw[HL.out] at HNL
    obtain⟨n,hn⟩:∃n,numLen l=n:=⟨_,rfl⟩
    have hnl:n≤l.length:=by rw[←hn];exact numLen_le l
    obtain⟨E,hE⟩:∃E,p+n=E:=⟨_,rfl⟩
    rw[hn,hE] at HNL
    have hEs:E≤s.size:=by have:=HLL.out;omega
    have hsl:=slice_mid s (p:Int) (E:Int) (by omega) (by omega) (by omega)
    rw[show((p:Int)).toNat=p by omega,show((E:Int)).toNat=E by omega] at hsl
    obtain⟨T,hT⟩:∃T,s.extract p E=T:=⟨_,rfl⟩
    have htk:l.take n=dl T:=by rw[←hT,dl_ext,HL.out,←hE,Nat.add_sub_cancel_left]
    rw[hT] at hsl
    have hts:T.size≤1000000:=by rw[←hT,ByteArray.size_extract];omega
    have hwl:wordL l=numW l:=by rw[E1.out];exact word_dig hd HLO.out
    have HPR:=hide (rparse_any T W1 (by omega))
    have HWL:=hide hwl
    have HTK:=hide htk
    have HN:=hide hn
    have HE0:=hide hE
    clear hn hnl hE hT htk hwl hd
    go_wp2_with fail
    (with_reducible refine HRUN.out.mono ?_)
    rintro e w' ⟨rfl,rfl⟩
    go_wp2_with fail
    (with_reducible refine HDG.out.mono ?_)
    rintro e w' ⟨rfl,rfl⟩
    go_wp2_with fail
    (with_reducible refine HNL.out.mono ?_)
    rintro e w' ⟨rfl,rfl⟩
    go_wp2_with fail
    (with_reducible refine HPR.out.mono ?_)
    rintro e V2 ⟨hb2,he⟩
    cases hpr:prsL (dl T) with
    |error q=>
     rw[hpr] at he
     simp only at he
     subst he
     have hal:=hb2.trans (((Below.refl V2.heap.size V2).alloc (Nat.le_refl _) (.cells #[.int .u8 0,.int .i64 0,.string ⟨#[]⟩] 23)).mono hb2.size)
     have HA2:=hide (HA.out.below hal)
     clear r0 r1 r2 r3 r4 r5 r6 rz0 rz1 rz2 rz3 rz4 rz5 rz6 n0 n1 n2 n3 n4 n5 n6
     obtain⟨r0,r1,r2,r3,r4,r5,r6,rz⟩:=HA2.out.r
     have rz0:=rz 0
     have rz1:=rz 1
     have rz2:=rz 2
     have rz3:=rz 3
     have rz4:=rz 4
     have rz5:=rz 5
     have rz6:=rz 6
     obtain⟨n0,n1,n2,n3,n4,n5,n6,_⟩:=HA2.out.n
     clear rz
     clear hal hb2 HA
     have HA:=HA2
     clear HA2
     by_cases h9:q=9
     ·subst h9
      have HE:=hide (show wordL l= .error 9 by rw[HWL.out,numW_er (by rw[HN.out,HTK.out];exact hpr)];rfl)
      clear hpr
      have hT:=TokAt.set7 HA.out.r 0 ⟨#[]⟩ 0 0 ⟨#[]⟩ 0 0
      have hB:=below_set7 HA.out.bel (Nat.le_refl _) 0 ⟨#[]⟩ 0 0 ⟨#[]⟩ 0 0
      obtain⟨Z,hZ⟩:∃Z,set7 (V2.alloc (.cells #[.int .u8 0,.int .i64 0,.string ⟨#[]⟩] 23)) w.heap.size 0 ⟨#[]⟩ 0 0 ⟨#[]⟩ 0 0=Z:=⟨_,rfl⟩
      rw[hZ] at hT hB
      unfold set7 at hZ
      have HT:=hide hT
      have HB:=hide hB
      have HZ:=hide hZ
      clear hT hB hZ
      go_wp2_with fail
      rw[HZ.out]
      obtain⟨s0,s1,s2,s3,s4,s5,s6,_⟩:=HT.out
      exact bodyPost_ret (v:= .tuple #[.agg #[.int .u8 0,.string ⟨#[]⟩,.int .u8 0,.int .i64 0,.string ⟨#[]⟩,.int .i64 0,.int .i64 0],.int .i64 0,.int .i64 9]) (by simp [results,Tryz.results90,go_sem, *]) rfl (wpost_er HB.out HE.out)
     ·have d9:(q==9)=false:=beq_eq_false_iff_ne.2 h9
      have dq:(q==0)=false:=beq_eq_false_iff_ne.2 (by rcases prsL_err hpr with h|h|h<;>omega)
      have dq':(q !=0)=true:=by rw[bne,dq];rfl
      have HE:=hide (show wordL l= .error 4 by rw[HWL.out,numW_er (by rw[HN.out,HTK.out];exact hpr),if_neg h9])
      clear hpr h9
      have hT:=TokAt.set7 HA.out.r 0 ⟨#[]⟩ 0 0 ⟨#[]⟩ 0 0
      have hB:=below_set7 HA.out.bel (Nat.le_refl _) 0 ⟨#[]⟩ 0 0 ⟨#[]⟩ 0 0
      obtain⟨Z,hZ⟩:∃Z,set7 (V2.alloc (.cells #[.int .u8 0,.int .i64 0,.string ⟨#[]⟩] 23)) w.heap.size 0 ⟨#[]⟩ 0 0 ⟨#[]⟩ 0 0=Z:=⟨_,rfl⟩
      rw[hZ] at hT hB
      unfold set7 at hZ
      have HT:=hide hT
      have HB:=hide hB
      have HZ:=hide hZ
      clear hT hB hZ
      go_wp2_with fail
      rw[HZ.out]
      obtain⟨s0,s1,s2,s3,s4,s5,s6,_⟩:=HT.out
      exact bodyPost_ret (v:= .tuple #[.agg #[.int .u8 0,.string ⟨#[]⟩,.int .u8 0,.int .i64 0,.string ⟨#[]⟩,.int .i64 0,.int .i64 0],.int .i64 0,.int .i64 4]) (by simp [results,Tryz.results90,go_sem, *]) rfl (wpost_er HB.out HE.out)
    |ok v=>
     obtain⟨vk,vn,vs⟩:=v
     rw[hpr] at he
     simp only at he
     subst he
     obtain⟨VS,hVS⟩:∃VS:ByteArray,⟨vs.toArray⟩=VS:=⟨_,rfl⟩
     have hvs:vs=dl VS:=by rw[←hVS]
     rw[hVS]
     subst hvs
     have hvv:∀i,((V2.alloc (.cells #[.int .u8 vk,.int .i64 vn,.string VS] 23))).cell? ⟨V2.heap.size,i,none⟩=(#[.int .u8 vk,.int .i64 vn,.string VS]:Array Value)[i]?:=fun i=>by simp only[World.cell?,heap_alloc0];rfl
     have v0c:=hvv 0
     have v1c:=hvv 1
     have v2c:=hvv 2
     simp only[List.getElem?_toArray] at v0c v1c v2c
     have hne:¬w.heap.size=V2.heap.size:=by have:=HA.out.bel.size;have:=hb2.size;have:=lt_of_cell HA.out.r.c0;simp at this;omega
     have hne':¬V2.heap.size=w.heap.size:=fun h=>hne h.symm
     have hal:=hb2.trans (((Below.refl V2.heap.size V2).alloc (Nat.le_refl _) (.cells #[.int .u8 vk,.int .i64 vn,.string VS] 23)).mono hb2.size)
     have HA2:=hide (HA.out.below hal)
     clear r0 r1 r2 r3 r4 r5 r6 rz0 rz1 rz2 rz3 rz4 rz5 rz6 n0 n1 n2 n3 n4 n5 n6
     obtain⟨r0,r1,r2,r3,r4,r5,r6,rz⟩:=HA2.out.r
     have rz0:=rz 0
     have rz1:=rz 1
     have rz2:=rz 2
     have rz3:=rz 3
     have rz4:=rz 4
     have rz5:=rz 5
     have rz6:=rz 6
     obtain⟨n0,n1,n2,n3,n4,n5,n6,_⟩:=HA2.out.n
     clear rz
     clear hal hb2 HA hvv hVS
     have HA:=HA2
     clear HA2
     have HE:=hide (show wordL l= .ok (⟨4,dl T,(vk,vn,dl VS)⟩,n) by rw[HWL.out,numW_ok (by rw[HN.out,HTK.out];exact hpr),HN.out,HTK.out])
     have hT:=TokAt.set7 HA.out.r 4 T vk vn VS 0 0
     have hB:=below_set7 HA.out.bel (Nat.le_refl _) 4 T vk vn VS 0 0
     obtain⟨Z,hZ⟩:∃Z,set7 (V2.alloc (.cells #[.int .u8 vk,.int .i64 vn,.string VS] 23)) w.heap.size 4 T vk vn VS 0 0=Z:=⟨_,rfl⟩
     rw[hZ] at hT hB
     unfold set7 at hZ
     have HT:=hide hT
     have HB:=hide hB
     have HZ:=hide hZ
     clear hT hB hZ
     clear hpr
     go_wp2_with fail
     refine wp_region_noPanic ?_
     refine wp_region_held_drew (S:=fun X=>X.cell? ⟨V2.heap.size,0,none⟩=some (.int .u8 vk)∧X.cell? ⟨V2.heap.size,1,none⟩=some (.int .i64 vn)∧X.cell? ⟨V2.heap.size,2,none⟩=some (.string VS)) (by kernel_rfl) ?_ (fun hHeld=>?_)
     ·(try dsimp only);go_keep
     refine wpAnyH_take (i:=0) (oi:=⟨some 100,_,_,_,_,_⟩) (v:=?_) rfl (by kernel_rfl) (by kernel_rfl) (by kernel_rfl) (fun _ _ _ h=>h) (Or.inl ⟨by rfl,?_⟩) (by assumption) ?_
     rotate_left
     ·(intro w hSw;(try dsimp only at hSw);(first|(go_simp;done)|(go_simp;with_reducible rfl)))
     try simp only[Act.put,List.setIfInBounds_toArray,List.set_cons_zero,List.set_cons_succ]
     refine wpAnyH_take (i:=1) (oi:=⟨some 101,_,_,_,_,_⟩) (v:=?_) rfl (by kernel_rfl) (by kernel_rfl) (by kernel_rfl) (fun _ _ _ h=>h) (Or.inl ⟨by rfl,?_⟩) (by assumption) ?_
     rotate_left
     ·(intro w hSw;(try dsimp only at hSw);(first|(go_simp;done)|(go_simp;with_reducible rfl)))
     try simp only[Act.put,List.setIfInBounds_toArray,List.set_cons_zero,List.set_cons_succ]
     refine wpAnyH_take (i:=2) (oi:=⟨some 102,_,_,_,_,_⟩) (v:=?_) rfl (by kernel_rfl) (by kernel_rfl) (by kernel_rfl) (fun _ _ _ h=>h) (Or.inl ⟨by rfl,?_⟩) (by assumption) ?_
     rotate_left
     ·(intro w hSw;(try dsimp only at hSw);(first|(go_simp;done)|(go_simp;with_reducible rfl)))
     try simp only[Act.put,List.setIfInBounds_toArray,List.set_cons_zero,List.set_cons_succ]
     refine wpAnyH_take (i:=3) (oi:=⟨some 103,_,_,_,_,_⟩) (v:=?_) rfl (by kernel_rfl) (by kernel_rfl) (by kernel_rfl) (fun _ _ _ h=>h) (Or.inl ⟨by rfl,?_⟩) (by assumption) ?_
     rotate_left
     ·(intro w hSw;(try dsimp only at hSw);(first|(go_simp;done)|(go_simp;with_reducible rfl)))
     try simp only[Act.put,List.setIfInBounds_toArray,List.set_cons_zero,List.set_cons_succ]
     refine wpAnyH_take (i:=4) (oi:=⟨some 104,_,_,_,_,_⟩) (v:=?_) rfl (by kernel_rfl) (by kernel_rfl) (by kernel_rfl) (fun _ _ _ h=>h) (Or.inl ⟨by rfl,?_⟩) (by assumption) ?_
     rotate_left
     ·(intro w hSw;(try dsimp only at hSw);(first|(go_simp;done)|(go_simp;with_reducible rfl)))
     try simp only[Act.put,List.setIfInBounds_toArray,List.set_cons_zero,List.set_cons_succ]
     refine wpAnyH_take (i:=5) (oi:=⟨some 105,_,_,_,_,_⟩) (v:=?_) rfl (by kernel_rfl) (by kernel_rfl) (by kernel_rfl) (fun _ _ _ h=>h) (Or.inl ⟨by rfl,?_⟩) (by assumption) ?_
     rotate_left
     ·(intro w hSw;(try dsimp only at hSw);(first|(go_simp;done)|(go_simp;with_reducible rfl)))
     try simp only[Act.put,List.setIfInBounds_toArray,List.set_cons_zero,List.set_cons_succ]
     refine wpAnyH_take (i:=6) (oi:=⟨some 106,_,_,_,_,_⟩) (v:=?_) rfl (by kernel_rfl) (by kernel_rfl) (by kernel_rfl) (fun _ _ _ h=>h) (Or.inl ⟨by rfl,?_⟩) (by assumption) ?_
     rotate_left
     ·(intro w hSw;(try dsimp only at hSw);(first|(go_simp;done)|(go_simp;with_reducible rfl)))
     try simp only[Act.put,List.setIfInBounds_toArray,List.set_cons_zero,List.set_cons_succ]
     refine wpAnyH_ready (rs:=[7]) (by kernel_rfl) (by simp) ?_
     refine AllReadyH.cons (o:=⟨none,_,_,_,_,_⟩) (rs:=[]) rfl (fun K hK=>?_) AllReadyH.nil
     go_simp
     try go_wp2_with fail
     clear hHeld
     refine hK.out _ _ ?_ (fun hHeld=>?_)
     ·(try dsimp only);go_keep
     clear hK K
     try simp only[Act.put,List.setIfInBounds_toArray,List.set_cons_zero,List.set_cons_succ]
     refine wpAnyH_take (i:=8) (oi:=⟨some 5,_,_,_,_,_⟩) (v:=?_) rfl (by kernel_rfl) (by kernel_rfl) (by kernel_rfl) (fun _ _ _ h=>h) (Or.inl ⟨by rfl,?_⟩) (by assumption) ?_
     rotate_left
     ·(intro w hSw;(try dsimp only at hSw);(first|(go_simp;done)|(go_simp;with_reducible rfl)))
     try simp only[Act.put,List.setIfInBounds_toArray,List.set_cons_zero,List.set_cons_succ]
     refine wpAnyH_take (i:=9) (oi:=⟨some 6,_,_,_,_,_⟩) (v:=?_) rfl (by kernel_rfl) (by kernel_rfl) (by kernel_rfl) (fun _ _ _ h=>h) (Or.inl ⟨by rfl,?_⟩) (by assumption) ?_
     rotate_left
     ·(intro w hSw;(try dsimp only at hSw);(first|(go_simp;done)|(go_simp;with_reducible rfl)))
     try simp only[Act.put,List.setIfInBounds_toArray,List.set_cons_zero,List.set_cons_succ]
     refine wpAnyH_done (by kernel_rfl) ?_ _
     refine NoPanic.normal ?_
     go_wp2_with fail
     rw[HZ.out]
     obtain⟨s0,s1,s2,s3,s4,s5,s6,_⟩:=HT.out
     exact bodyPost_ret (v:= .tuple #[.agg #[.int .u8 4,.string T,.int .u8 vk,.int .i64 vn,.string VS,.int .i64 0,.int .i64 0],.int .i64 (E:Int),.int .i64 0]) (by simp [results,Tryz.results90,go_sem, *]) rfl (wpost_ok HB.out.drew HE.out HE0.out)
   |false=>
    rw[hd] at HDG
    have HD:=hide hd
    clear hd
    by_cases h34:c=34
    ·subst h34
     have cb:(34:UInt8).toNat=34:=rfl
     rw[cb] at ix d63 d35 HDG
     have HDG:Hid (Calls Tryz.prog 157 #[.int .u8 34] W1 _):=hide HDG.out
     have HQ:=hide (rquot_any s p W1 hs hp)
     rw[HL.out,E1.out] at HQ
     clear cb
     rcases quoE_cases (p:=p) (q:=r) with ⟨hh,hq,hle⟩|⟨hh,hq⟩
     ·obtain⟨n,hn⟩:∃n,txtSpan false r=n:=⟨_,rfl⟩
      obtain⟨E,hE⟩:∃E,p+(n+2)=E:=⟨_,rfl⟩
      rw[hq,hn,show p+n+2=p+(n+2) by omega,hE] at HQ
      rw[hn,←E1.out] at hle
      have hEs:E≤s.size:=by have:=HLL.out;omega
      have hpE:p+2≤E:=by omega
      have hsl:=slice_mid s (p:Int) (E:Int) (by omega) (by omega) (by omega)
      rw[show((p:Int)).toNat=p by omega,show((E:Int)).toNat=E by omega] at hsl
      obtain⟨T,hT⟩:∃T,s.extract p E=T:=⟨_,rfl⟩
      have htk:(34::r).take (txtSpan false r+2)=dl T:=by rw[←hT,dl_ext,HL.out,←hE,Nat.add_sub_cancel_left,hn,E1.out]
      rw[hT] at hsl
      have hts:T.size≤1000000:=by rw[←hT,ByteArray.size_extract];omega
      have hsl2:=slice_mid s ((p:Int)+1) ((E:Int) - 1) (by omega) (by omega) (by omega)
      rw[show((p:Int)+1).toNat=p+1 by omega,show((E:Int) - 1).toNat=E - 1 by omega] at hsl2
      obtain⟨T2,hT2⟩:∃T2,s.extract (p+1) (E - 1)=T2:=⟨_,rfl⟩
      have htk2:r.take (txtSpan false r)=dl T2:=by rw[←hT2,dl_ext,HR.out,hn,show E - 1 - (p+1)=n by omega]
      rw[hT2] at hsl2
      have w1:IntKind.i64.wrap ((p:Int)+1)=(p:Int)+1:=IntWalk.i64_in _ (by omega)
      have w2:IntKind.i64.wrap ((E:Int) - 1)=(E:Int) - 1:=IntWalk.i64_in _ (by omega)
      have HPR:=hide (rparse_any T W1 (by omega))
      have HHD:=hide hh
      have HTK:=hide htk
      have HTK2:=hide htk2
      have HE0:Hid (p+(txtSpan false r+2)=E):=hide (by rw[hn];exact hE)
      clear hn hE hT htk hT2 htk2 hh hq hle
      have W1H:=hide w1
      have W2H:=hide w2
      clear w1 w2
      go_wp2_with fail
      (with_reducible refine HRUN.out.mono ?_)
      rintro e w' ⟨rfl,rfl⟩
      go_wp2_with fail
      (with_reducible refine HDG.out.mono ?_)
      rintro e w' ⟨rfl,rfl⟩
      go_wp2_with fail
      (with_reducible refine HQ.out.mono ?_)
      rintro e w' ⟨rfl,rfl⟩
      go_wp2_with fail
      (with_reducible refine HPR.out.mono ?_)
      rintro e V2 ⟨hb2,he⟩
      cases hpr:prsL (dl T) with
      |error q=>
       rw[hpr] at he
       simp only at he
       subst he
       have hal:=hb2.trans (((Below.refl V2.heap.size V2).alloc (Nat.le_refl _) (.cells #[.int .u8 0,.int .i64 0,.string ⟨#[]⟩] 23)).mono hb2.size)
       have HA2:=hide (HA.out.below hal)
       clear r0 r1 r2 r3 r4 r5 r6 rz0 rz1 rz2 rz3 rz4 rz5 rz6 n0 n1 n2 n3 n4 n5 n6
       obtain⟨r0,r1,r2,r3,r4,r5,r6,rz⟩:=HA2.out.r
       have rz0:=rz 0
       have rz1:=rz 1
       have rz2:=rz 2
       have rz3:=rz 3
       have rz4:=rz 4
       have rz5:=rz 5
       have rz6:=rz 6
       obtain⟨n0,n1,n2,n3,n4,n5,n6,_⟩:=HA2.out.n
       clear rz
       clear hal hb2 HA
       have HA:=HA2
       clear HA2
       have dq:(q==0)=false:=beq_eq_false_iff_ne.2 (by rcases prsL_err hpr with h|h|h<;>omega)
       have dq':(q !=0)=true:=by rw[bne,dq];rfl
       have HE:=hide (show wordL l= .error 4 by rw[E1.out,word_quo];exact txtW_er HHD.out (by rw[HTK.out];exact hpr))
       clear hpr
       have hT:=TokAt.set7 HA.out.r 0 ⟨#[]⟩ 0 0 ⟨#[]⟩ 0 0
       have hB:=below_set7 HA.out.bel (Nat.le_refl _) 0 ⟨#[]⟩ 0 0 ⟨#[]⟩ 0 0
       obtain⟨Z,hZ⟩:∃Z,set7 (V2.alloc (.cells #[.int .u8 0,.int .i64 0,.string ⟨#[]⟩] 23)) w.heap.size 0 ⟨#[]⟩ 0 0 ⟨#[]⟩ 0 0=Z:=⟨_,rfl⟩
       rw[hZ] at hT hB
       unfold set7 at hZ
       have HT:=hide hT
       have HB:=hide hB
       have HZ:=hide hZ
       clear hT hB hZ
       go_wp2_with fail
       rw[HZ.out]
       obtain⟨s0,s1,s2,s3,s4,s5,s6,_⟩:=HT.out
       exact bodyPost_ret (v:= .tuple #[.agg #[.int .u8 0,.string ⟨#[]⟩,.int .u8 0,.int .i64 0,.string ⟨#[]⟩,.int .i64 0,.int .i64 0],.int .i64 0,.int .i64 4]) (by simp [results,Tryz.results90,go_sem, *]) rfl (wpost_er HB.out HE.out)
      |ok v=>
       obtain⟨vk,vn,vs⟩:=v
       rw[hpr] at he
       simp only at he
       subst he
       obtain⟨VS,hVS⟩:∃VS:ByteArray,⟨vs.toArray⟩=VS:=⟨_,rfl⟩
       have hvs:vs=dl VS:=by rw[←hVS]
       rw[hVS]
       subst hvs
       have hvv:∀i,((V2.alloc (.cells #[.int .u8 vk,.int .i64 vn,.string VS] 23))).cell? ⟨V2.heap.size,i,none⟩=(#[.int .u8 vk,.int .i64 vn,.string VS]:Array Value)[i]?:=fun i=>by simp only[World.cell?,heap_alloc0];rfl
       have v0c:=hvv 0
       have v1c:=hvv 1
       have v2c:=hvv 2
       simp only[List.getElem?_toArray] at v0c v1c v2c
       have hne:¬w.heap.size=V2.heap.size:=by have:=HA.out.bel.size;have:=hb2.size;have:=lt_of_cell HA.out.r.c0;simp at this;omega
       have hne':¬V2.heap.size=w.heap.size:=fun h=>hne h.symm
       have hal:=hb2.trans (((Below.refl V2.heap.size V2).alloc (Nat.le_refl _) (.cells #[.int .u8 vk,.int .i64 vn,.string VS] 23)).mono hb2.size)
       have HA2:=hide (HA.out.below hal)
       clear r0 r1 r2 r3 r4 r5 r6 rz0 rz1 rz2 rz3 rz4 rz5 rz6 n0 n1 n2 n3 n4 n5 n6
       obtain⟨r0,r1,r2,r3,r4,r5,r6,rz⟩:=HA2.out.r
       have rz0:=rz 0
       have rz1:=rz 1
       have rz2:=rz 2
       have rz3:=rz 3
       have rz4:=rz 4
       have rz5:=rz 5
       have rz6:=rz 6
       obtain⟨n0,n1,n2,n3,n4,n5,n6,_⟩:=HA2.out.n
       clear rz
       clear hal hb2 HA hvv hVS
       have HA:=HA2
       clear HA2
       have HE:=hide (show wordL l= .ok (⟨5,dl T2,(vk,vn,dl VS)⟩,txtSpan false r+2) by rw[E1.out,word_quo,txtW_ok HHD.out (by rw[HTK.out];exact hpr),HTK2.out])
       have hT:=TokAt.set7 HA.out.r 5 T2 vk vn VS 0 0
       have hB:=below_set7 HA.out.bel (Nat.le_refl _) 5 T2 vk vn VS 0 0
       obtain⟨Z,hZ⟩:∃Z,set7 (V2.alloc (.cells #[.int .u8 vk,.int .i64 vn,.string VS] 23)) w.heap.size 5 T2 vk vn VS 0 0=Z:=⟨_,rfl⟩
       rw[hZ] at hT hB
       unfold set7 at hZ
       have HT:=hide hT
       have HB:=hide hB
       have HZ:=hide hZ
       clear hT hB hZ
       clear hpr
       go_wp2_with fail
       have w1:=W1H.out
       have w2:=W2H.out
       refine wp_region_noPanic ?_
       refine wp_region_held_drew (S:=fun X=>X.cell? ⟨V2.heap.size,0,none⟩=some (.int .u8 vk)∧X.cell? ⟨V2.heap.size,1,none⟩=some (.int .i64 vn)∧X.cell? ⟨V2.heap.size,2,none⟩=some (.string VS)) (by kernel_rfl) ?_ (fun hHeld=>?_)
       ·(try dsimp only);go_keep
       refine wpAnyH_take (i:=0) (oi:=⟨some 126,_,_,_,_,_⟩) (v:=?_) rfl (by kernel_rfl) (by kernel_rfl) (by kernel_rfl) (fun _ _ _ h=>h) (Or.inl ⟨by rfl,?_⟩) (by assumption) ?_
       rotate_left
       ·(intro w hSw;(try dsimp only at hSw);(first|(go_simp;done)|(go_simp;with_reducible rfl)))
       try simp only[Act.put,List.setIfInBounds_toArray,List.set_cons_zero,List.set_cons_succ]
       refine wpAnyH_take (i:=1) (oi:=⟨some 127,_,_,_,_,_⟩) (v:=?_) rfl (by kernel_rfl) (by kernel_rfl) (by kernel_rfl) (fun _ _ _ h=>h) (Or.inl ⟨by rfl,?_⟩) (by assumption) ?_
       rotate_left
       ·(intro w hSw;(try dsimp only at hSw);(first|(go_simp;done)|(go_simp;with_reducible rfl)))
       try simp only[Act.put,List.setIfInBounds_toArray,List.set_cons_zero,List.set_cons_succ]
       refine wpAnyH_take (i:=2) (oi:=⟨some 128,_,_,_,_,_⟩) (v:=?_) rfl (by kernel_rfl) (by kernel_rfl) (by kernel_rfl) (fun _ _ _ h=>h) (Or.inl ⟨by rfl,?_⟩) (by assumption) ?_
       rotate_left
       ·(intro w hSw;(try dsimp only at hSw);(first|(go_simp;done)|(go_simp;with_reducible rfl)))
       try simp only[Act.put,List.setIfInBounds_toArray,List.set_cons_zero,List.set_cons_succ]
       refine wpAnyH_take (i:=3) (oi:=⟨some 129,_,_,_,_,_⟩) (v:=?_) rfl (by kernel_rfl) (by kernel_rfl) (by kernel_rfl) (fun _ _ _ h=>h) (Or.inl ⟨by rfl,?_⟩) (by assumption) ?_
       rotate_left
       ·(intro w hSw;(try dsimp only at hSw);(first|(go_simp;done)|(go_simp;with_reducible rfl)))
       try simp only[Act.put,List.setIfInBounds_toArray,List.set_cons_zero,List.set_cons_succ]
       refine wpAnyH_take (i:=4) (oi:=⟨some 130,_,_,_,_,_⟩) (v:=?_) rfl (by kernel_rfl) (by kernel_rfl) (by kernel_rfl) (fun _ _ _ h=>h) (Or.inl ⟨by rfl,?_⟩) (by assumption) ?_
       rotate_left
       ·(intro w hSw;(try dsimp only at hSw);(first|(go_simp;done)|(go_simp;with_reducible rfl)))
       try simp only[Act.put,List.setIfInBounds_toArray,List.set_cons_zero,List.set_cons_succ]
       refine wpAnyH_take (i:=5) (oi:=⟨some 131,_,_,_,_,_⟩) (v:=?_) rfl (by kernel_rfl) (by kernel_rfl) (by kernel_rfl) (fun _ _ _ h=>h) (Or.inl ⟨by rfl,?_⟩) (by assumption) ?_
       rotate_left
       ·(intro w hSw;(try dsimp only at hSw);(first|(go_simp;done)|(go_simp;with_reducible rfl)))
       try simp only[Act.put,List.setIfInBounds_toArray,List.set_cons_zero,List.set_cons_succ]
       refine wpAnyH_take (i:=6) (oi:=⟨some 132,_,_,_,_,_⟩) (v:=?_) rfl (by kernel_rfl) (by kernel_rfl) (by kernel_rfl) (fun _ _ _ h=>h) (Or.inl ⟨by rfl,?_⟩) (by assumption) ?_
       rotate_left
       ·(intro w hSw;(try dsimp only at hSw);(first|(go_simp;done)|(go_simp;with_reducible rfl)))
       try simp only[Act.put,List.setIfInBounds_toArray,List.set_cons_zero,List.set_cons_succ]
       refine wpAnyH_take (i:=7) (oi:=⟨some 133,_,_,_,_,_⟩) (v:=?_) rfl (by kernel_rfl) (by kernel_rfl) (by kernel_rfl) (fun _ _ _ h=>h) (Or.inl ⟨by rfl,?_⟩) (by assumption) ?_
       rotate_left
       ·(intro w hSw;(try dsimp only at hSw);(first|(go_simp;done)|(go_simp;with_reducible rfl)))
       try simp only[Act.put,List.setIfInBounds_toArray,List.set_cons_zero,List.set_cons_succ]
       refine wpAnyH_take (i:=8) (oi:=⟨some 134,_,_,_,_,_⟩) (v:=?_) rfl (by kernel_rfl) (by kernel_rfl) (by kernel_rfl) (fun _ _ _ h=>h) (Or.inl ⟨by rfl,?_⟩) (by assumption) ?_
       rotate_left
       ·(intro w hSw;(try dsimp only at hSw);(first|(go_simp;done)|(go_simp;with_reducible rfl)))
       try simp only[Act.put,List.setIfInBounds_toArray,List.set_cons_zero,List.set_cons_succ]
       refine wpAnyH_ready (rs:=[9]) (by kernel_rfl) (by simp) ?_
       refine AllReadyH.cons (o:=⟨none,_,_,_,_,_⟩) (rs:=[]) rfl (fun K hK=>?_) AllReadyH.nil
       go_simp
       try go_wp2_with fail
       clear hHeld
       refine hK.out _ _ ?_ (fun hHeld=>?_)
       ·(try dsimp only);go_keep
       clear hK K
       try simp only[Act.put,List.setIfInBounds_toArray,List.set_cons_zero,List.set_cons_succ]
       refine wpAnyH_take (i:=10) (oi:=⟨some 5,_,_,_,_,_⟩) (v:=?_) rfl (by kernel_rfl) (by kernel_rfl) (by kernel_rfl) (fun _ _ _ h=>h) (Or.inl ⟨by rfl,?_⟩) (by assumption) ?_
       rotate_left
       ·(intro w hSw;(try dsimp only at hSw);(first|(go_simp;done)|(go_simp;with_reducible rfl)))
       try simp only[Act.put,List.setIfInBounds_toArray,List.set_cons_zero,List.set_cons_succ]
       refine wpAnyH_take (i:=11) (oi:=⟨some 6,_,_,_,_,_⟩) (v:=?_) rfl (by kernel_rfl) (by kernel_rfl) (by kernel_rfl) (fun _ _ _ h=>h) (Or.inl ⟨by rfl,?_⟩) (by assumption) ?_
       rotate_left
       ·(intro w hSw;(try dsimp only at hSw);(first|(go_simp;done)|(go_simp;with_reducible rfl)))
       try simp only[Act.put,List.setIfInBounds_toArray,List.set_cons_zero,List.set_cons_succ]
       refine wpAnyH_done (by kernel_rfl) ?_ _
       refine NoPanic.normal ?_
       clear w1 w2
       go_wp2_with fail
       rw[HZ.out]
       obtain⟨s0,s1,s2,s3,s4,s5,s6,_⟩:=HT.out
       exact bodyPost_ret (v:= .tuple #[.agg #[.int .u8 5,.string T2,.int .u8 vk,.int .i64 vn,.string VS,.int .i64 0,.int .i64 0],.int .i64 (E:Int),.int .i64 0]) (by simp [results,Tryz.results90,go_sem, *]) rfl (wpost_ok HB.out.drew HE.out HE0.out)
     ·rw[hq] at HQ
      have HWN:=hide (show wordL l= .error 4 by rw[E1.out,word_quo];exact txtW_no hh)
      clear hq hh
      go_wp2_with fail
      (with_reducible refine HRUN.out.mono ?_)
      rintro e w' ⟨rfl,rfl⟩
      go_wp2_with fail
      (with_reducible refine HDG.out.mono ?_)
      rintro e w' ⟨rfl,rfl⟩
      go_wp2_with fail
      (with_reducible refine HQ.out.mono ?_)
      rintro e w' ⟨rfl,rfl⟩
      have HE:=hide (HWN.out)
      exact Qw14
    ·have d34:((c.toNat:Int)==34)=false:=beq_eq_false_iff_ne.2 (fun e=>h34 (u8_eq (n:=34) (by omega)))
     have HWL:=hide (show wordL l=signW l by rw[E1.out];exact word_else HD.out HLO.out h34 (fun e=>HM.out (.inl e)) (fun e=>HM.out (.inr e)))
     clear h34
     have HSG:=hide (rsign_any s p W1 hs hp)
     rw[HL.out] at HSG
     obtain⟨n,hn⟩:∃n,signN l=n:=⟨_,rfl⟩
     have hse:signE p l=if n=0 then -1 else((p+n:Nat):Int):=by rw[←hn];rfl
     rw[hse] at HSG
     have hnl:n≤l.length:=by rw[←hn,E1.out];exact signN_le c r
     have HN:=hide hn
     clear hse hn
     by_cases h0:n=0
     ·rw[if_pos h0] at HSG
      have HWE:=hide (show wordL l= .error 4 by rw[HWL.out,signW_N,HN.out,if_pos h0])
      clear h0 hnl
      go_wp2_with fail
      (with_reducible refine HRUN.out.mono ?_)
      rintro e w' ⟨rfl,rfl⟩
      go_wp2_with fail
      (with_reducible refine HDG.out.mono ?_)
      rintro e w' ⟨rfl,rfl⟩
      go_wp2_with fail
      (with_reducible refine HSG.out.mono ?_)
      rintro e w' ⟨rfl,rfl⟩
      have HE:=hide (HWE.out)
      exact Qw14
     ·rw[if_neg h0] at HSG
      obtain⟨E,hE⟩:∃E,p+n=E:=⟨_,rfl⟩
      rw[hE] at HSG
      have hEs:E≤s.size:=by have:=HLL.out;omega
      have hsl:=slice_mid s (p:Int) (E:Int) (by omega) (by omega) (by omega)
      rw[show((p:Int)).toNat=p by omega,show((E:Int)).toNat=E by omega] at hsl
      obtain⟨T,hT⟩:∃T,s.extract p E=T:=⟨_,rfl⟩
      have htk:l.take n=dl T:=by rw[←hT,dl_ext,HL.out,←hE,Nat.add_sub_cancel_left]
      rw[hT] at hsl
      have HWE:=hide (show wordL l= .ok (⟨7,dl T,(0,0,dl ⟨#[]⟩)⟩,n) by rw[HWL.out,signW_N,HN.out,if_neg h0,htk];rfl)
      have HE0:=hide hE
      clear hE hT htk h0 hnl
      go_wp2_with fail
      (with_reducible refine HRUN.out.mono ?_)
      rintro e w' ⟨rfl,rfl⟩
      go_wp2_with fail
      (with_reducible refine HDG.out.mono ?_)
      rintro e w' ⟨rfl,rfl⟩
      go_wp2_with fail
      (with_reducible refine HSG.out.mono ?_)
      rintro e w' ⟨rfl,rfl⟩
      have HE:=hide (HWE.out)
      have hT:=TokAt.set7 HA.out.r 7 T 0 0 ⟨#[]⟩ 0 0
      have hB:=below_set7 HA.out.bel (Nat.le_refl _) 7 T 0 0 ⟨#[]⟩ 0 0
      obtain⟨Z,hZ⟩:∃Z,set7 W1 w.heap.size 7 T 0 0 ⟨#[]⟩ 0 0=Z:=⟨_,rfl⟩
      rw[hZ] at hT hB
      unfold set7 at hZ
      have HT:=hide hT
      have HB:=hide hB
      have HZ:=hide hZ
      clear hT hB hZ
      go_wp2_with fail
      rw[HZ.out]
      obtain⟨s0,s1,s2,s3,s4,s5,s6,_⟩:=HT.out
      exact bodyPost_ret (v:= .tuple #[.agg #[.int .u8 7,.string T,.int .u8 0,.int .i64 0,.string ⟨#[]⟩,.int .i64 0,.int .i64 0],.int .i64 (E:Int),.int .i64 0]) (by simp [results,Tryz.results90,go_sem, *]) rfl (wpost_ok HB.out HE.out HE0.out)
open Go Go.RowKit
def Turn (T:TypeId→Prop)(B:Nat)(W W':World):Prop:=
 ∃row,W.grownBy W' row∧∀r,row=some r→B≤r∧((∃o:Obj,W.heap[r]? =some o∧o.isCells=false)∨∃cs t fz,T t∧W.heap[r]? =some (.cells cs t fz))
theorem Turn.put {T:TypeId→Prop}{B l:Nat}{W:World}{o:Obj}(o':Obj)(hB:B≤l)(h:W.heap[l]? =some o)(ho:o.isCells=false):Turn T B W (W.putObj l o'):=
 ⟨some l,grownBy_putObj' W l o',fun r e=>by cases e;exact⟨hB,.inl ⟨o,h,ho⟩⟩⟩
theorem Turn.new (T:TypeId→Prop)(B:Nat)(W:World)(o:Obj):Turn T B W (W.alloc o):=⟨none,World.grownBy_alloc W o none,fun r e=>by cases e⟩
theorem Turn.mono {T:TypeId→Prop}{B B':Nat}{W W':World}(h:Turn T B W W')(hB:B'≤B):Turn T B' W W':=by
 obtain⟨row,h1,h2⟩:=h
 exact⟨row,h1,fun r e=>⟨Nat.le_trans hB (h2 r e).1,(h2 r e).2⟩⟩
theorem Turn.keeps {T:TypeId→Prop}{B k:Nat}{W W':World}{o:Obj}(h:Turn T B W W')(hk:W.heap[k]? =some o)(hn:k<B∨∃cs t fz,o= .cells cs t fz∧¬T t):W'.heap[k]? =some o:=by
 obtain⟨row,h1,h2⟩:=h
 refine(h1.block k (Array.getElem?_eq_some_iff.1 hk).1 fun e=>?_).trans hk
 obtain⟨h3,h4⟩:=h2 k e.symm
 rcases hn with hn|⟨cs,t,fz,rfl,ht⟩
 ·omega
 ·rcases h4 with ⟨o,ho,hc⟩|⟨cs',t',fz',ht',ho⟩
  ·rw[hk] at ho
   cases ho
   cases hc
  ·rw[hk] at ho
   cases ho
   exact ht ht'
def toldPost {α:Type}(B:Nat)(Kp:α→World→World→Prop)(I Ix:List α→World→Prop)(pre:List α)(x:α)(W:World):Exit→Act→World→Prop
 | .normal,_,W'=>KeepsFrom B W W'∧Kp x W W'∧I (pre++[x]) W'
 | .ret,_,W'=>KeepsFrom B W W'∧Ix (pre++[x]) W'
 |_,_,_=>False
def Tells {α:Type}(F:Fence)(n:Nat)(P:Program)(gf:Nat)(lb:Array Value)(encs:α→Array Value)(T:TypeId→Prop)(Of:List α→α→World→Prop)(Kp:α→World→World→Prop)(S:List α→Prop)(w:World):Prop:=
 ∀(l:Nat) (J Jx:List α→World→Prop) (W:World),Below w.heap.size w W→w.heap.size<W.heap.size→(∀s A B,J s A→Turn T W.heap.size A B→J s B)→(∀s A B,Jx s A→Turn T W.heap.size A B→Jx s B)→
  (∀pre x A,J pre A→Of pre x A→YieldAt F (n - 1) P l (encs x) A fun e B=>(e= .returned (.bool true)∧J (pre++[x]) B∧Kp x A B)∨(e= .returned (.bool false)∧Jx (pre++[x]) B))→
  J [] W→CallsIn F n P gf (#[.func (.yield l) #[] #[]]++lb) W fun e B=>(∃v,e= .returned v)∧((∃xs,S xs∧J xs B)∨(∃pre,Jx pre B))
theorem range_told {α:Type}{F:Fence}{n:Nat}{P:Program}{g:Operand}{ps:Array Tmp}{assign body:Code}{Q:Exit→Act→World→Prop}{a:Act}{w:World}
 (hro:F.round=none) (h1:1≤n) {gf:Nat} {lb:Array Value} (hg:a.eval g= .func (.func gf) #[] lb) (hFg:F.fn gf) (eg:∀args w,(callFunc gf args).run P w= .ok (.enter gf args) w)
 {encs:α→Array Value} {T:TypeId→Prop} {Of:List α→α→World→Prop} {Kp:α→World→World→Prop} {S:List α→Prop} (hseq:Tells F (n - 1) P gf lb encs T Of Kp S w) (hps:∀x,(encs x).size=ps.size)
 (I Ix:List α→World→Prop) (hI:∀s A B,I s A→Turn T w.heap.size A B→I s B) (hIx:∀s A B,Ix s A→Turn T w.heap.size A B→Ix s B) (h0:I [] w) (ob:α→Obj) (a₁:α→World→Act)
 (hOf:∀pre x W l o o',Of pre x W→W.heap[l]? =some o→o.isCells=false→Of pre x ((W.alloc (ob x)).putObj l o'))
 (hKp:∀x W Y l o o' p p',W.heap[l]? =some o→o.isCells=false→Kp x ((W.alloc (ob x)).putObj l o') Y→Y.heap[l]? =some p→p.isCells=false→Kp x W (Y.putObj l p'))
 (hassign:∀(l:Nat) (x:α) (W:World) (K:Act→World→Prop),K (a₁ x W) (W.alloc (ob x))→
  assign.wpIn (F.inRound l) (n - 1 - 1) P (Exit.then K (fun _ _ _=>False)) {tmps:=(ps.zip (encs x)).foldl (fun t (p,v)=>t.setIfInBounds p v) a.tmps,defers:=[]} W)
 (hbody:∀(l:Nat) (pre:List α) (x:α) (W:World) (o o':Obj),w.heap.size<l→W.heap[l]? =some o→o.isCells=false→I pre ((W.alloc (ob x)).putObj l o')→Of pre x ((W.alloc (ob x)).putObj l o')→body.wpIn (F.inRound l) (n - 1 - 1) P (toldPost w.heap.size Kp I Ix pre x ((W.alloc (ob x)).putObj l o')) (a₁ x W) ((W.alloc (ob x)).putObj l o'))
 (hdone:∀(D:Nat) (xs:List α) (W:World),w.heap.size≤D→S xs→I xs W→W.heap[D]? =some (.deferred (some []))→Q .normal {a with defers:={target:= .collected D,args:= #[]}::a.defers} W)
 (hstop:∀(D:Nat) (pre:List α) (W:World),w.heap.size≤D→Ix pre W→W.heap[D]? =some (.deferred (some []))→Code.ret.wpIn F n P Q {a with defers:={target:= .collected D,args:= #[]}::a.defers} W):
 (Code.rangeFunc g ps assign body).wpIn F n P Q a w:=by
 refine wpIn_rangeFunc fun fn hfn=>?_
 rw[hro]
 let R:LoopState→Option Code→Loop:=fun st pe=>{state:=st,pending:=pe,fn,tmps:=a.tmps,params:=ps,assign,body,defers:=w.heap.size}
 let L:=w.heap.size+1
 let Bk:LoopState→Option Code→World→Prop:=fun st pe W=>W.heap[L]? =some (.loop (R st pe))∧W.heap[w.heap.size]? =some (.deferred (some []))
 obtain⟨W1,hW1⟩:∃W1,(w.alloc (.deferred (some []))).alloc (.loop (R .ready none))=W1:=⟨_,rfl⟩
 have hbk1:Bk .ready none W1:=by
  rw[←hW1]
  refine⟨?_,(Below.heap_alloc _ _ _ (by simp)).trans (World.alloc_heap_new w _)⟩
  have:=World.alloc_heap_new (w.alloc (.deferred (some []))) (.loop (R .ready none))
  rwa [World.size_alloc] at this
 have hz1:W1.heap.size=w.heap.size+2:=by rw[←hW1];simp
 have hI1:I [] W1:=by rw[←hW1];exact hI _ _ _ (hI _ _ _ h0 (Turn.new T _ _ _)) (Turn.new T _ _ _)
 have hb1:Below w.heap.size w W1:=by rw[←hW1];exact((Below.refl _ w).alloc (Nat.le_refl _) _).alloc (by simp) _
 have hturn:∀{st pe A B},Bk st pe A→Turn T W1.heap.size A B→Bk st pe B:=fun hk ht=>⟨ht.keeps hk.1 (.inl (by omega)),ht.keeps hk.2 (.inl (by omega))⟩
 have hput:∀{st pe A} (st':LoopState) (pe':Option Code),Bk st pe A→Bk st' pe' (A.putObj L (.loop (R st' pe'))):=fun{st pe A} st' pe' hk=>
  ⟨World.putObj_heap_same (Array.getElem?_eq_some_iff.1 hk.1).1,(World.putObj_heap_other (by omega)).trans hk.2⟩
 have hkeep:∀{st pe A B},Bk st pe A→KeepsFrom w.heap.size A B→Bk st pe B:=fun hk hf=>⟨hf.same _ _ (by omega) hk.1 rfl,hf.same _ _ (Nat.le_refl _) hk.2 rfl⟩
 have hIp:∀{s st pe A} (o':Obj),I s A→Bk st pe A→I s (A.putObj L o'):=fun o' hi hk=>hI _ _ _ hi (Turn.put o' (by omega) hk.1 rfl)
 have hIxp:∀{s st pe A} (o':Obj),Ix s A→Bk st pe A→Ix s (A.putObj L o'):=fun o' hi hk=>hIx _ _ _ hi (Turn.put o' (by omega) hk.1 rfl)
 refine⟨L,[{target:= .collected w.heap.size,args:= #[]}],W1,{target:= .fn (.func gf) lb,args:= #[.func (.yield L) #[] #[]]},W1,gf,#[.func (.yield L) #[] #[]]++lb,W1,?_,?_,?_,?_,fun _=>h1,?_⟩
 ·rw[←hW1]
  exact run_enterLoop_outer _ _ _ _ _
 ·simp only[resolve,hg]
  simp [go_sem]
 ·intro f' hf'
  simp [Target.leads] at hf'
  subst hf'
  exact hFg
 ·simp [invoke,go_sem,eg]
 refine(hseq L (fun pre W=>I pre W∧Bk .ready none W) (fun pre W=>Ix pre W∧Bk .done (some .ret) W) W1 hb1 (by omega)
  (fun s A B hs ht=>⟨hI _ _ _ hs.1 (ht.mono (by omega)),hturn hs.2 ht⟩) (fun s A B hs ht=>⟨hIx _ _ _ hs.1 (ht.mono (by omega)),hturn hs.2 ht⟩) ?_ ⟨hI1,hbk1⟩).mono ?_
 ·rintro pre x A ⟨hi,hk⟩ hof
  have hka:Bk .ready none (A.alloc (ob x)):=⟨(Below.heap_alloc _ _ _ (Array.getElem?_eq_some_iff.1 hk.1).1).trans hk.1,(Below.heap_alloc _ _ _ (Array.getElem?_eq_some_iff.1 hk.2).1).trans hk.2⟩
  have hk2:=hput .busy none hka
  refine⟨fn,_,assign,body,run_yield (r:=R .ready none) hk.1 (hps x),roundIn_of_wpIn hfn (hassign _ x A _ ⟨_,run_beginRound hka.1 rfl,?_⟩)⟩
  refine wpIn_mono (hbody _ pre x A _ _ (by omega) hk.1 rfl (hIp _ (hI _ _ _ hi (Turn.new T _ _ _)) hka) (hOf _ _ _ _ _ _ hof hk.1 rfl)) ?_
  rintro e a3 B hp
  cases e with
  |normal=>
   obtain⟨hf,hkp,hi3⟩:=hp
   have hk3:=hkeep hk2 hf
   exact⟨_,_,run_endRound none hk3.1,.inl ⟨rfl,⟨hIp _ hi3 hk3,hput .ready none hk3⟩,hKp _ _ _ _ _ _ _ _ hk.1 rfl hkp hk3.1 rfl⟩⟩
  |ret=>
   obtain⟨hf,hi3⟩:=hp
   have hk3:=hkeep hk2 hf
   exact⟨_,_,run_endRound (some .ret) hk3.1,.inr ⟨rfl,hIxp _ hi3 hk3,hput .done (some .ret) hk3⟩⟩
  |exit id=>exact hp.elim
  |goto t=>exact hp.elim
  |panic ch=>exact hp.elim
  |outgrown=>exact hp.elim
 ·rintro e B ⟨⟨v,rfl⟩,(⟨xs,hS,hi,hk⟩|⟨pre,hi,hk⟩)⟩
  ·exact⟨none,_,run_endLoop hk.1 (by simp [R]),hdone _ xs _ (Nat.le_refl _) hS (hIp _ hi hk) (hput .exhausted none hk).2⟩
  ·exact⟨some .ret,_,run_endLoop hk.1 (by simp [R]),hstop _ pre _ (Nat.le_refl _) (hIxp _ hi hk) (hput .exhausted (some .ret) hk).2⟩
def noDefer (ops:Array Oper):Bool:=ops.all fun o=>match o.op with
 | .defer _=>false
 |_=>true
theorem noDefer_spec {ops:Array Oper}(h:noDefer ops=true){i:Nat}{o:Oper}(ho:ops[i]? =some o)(c:Call):o.op≠ .defer c:=fun e=>by
 obtain⟨hi,rfl⟩:=Array.getElem?_eq_some_iff.1 ho
 have:=Array.all_eq_true.1 h i hi
 rw[e] at this
 cases this
theorem operIn_round {F:Fence}{n:Nat}{P:Program}{o:Oper}{a:Act}{w:World}{K:Act→World→Prop}{Q:Exit→Act→World→Prop}(l:Nat)(_:F.round=none)(ho:∀c,o.op≠ .defer c)(h:o.wpIn F n P a w K Q):o.wpIn (F.inRound l) n P a w K Q:=by
 refine⟨h.1,?_⟩
 have h2:=h.2
 rw[Oper.semAt_eq _ _ _ ho] at h2 ⊢
 exact h2
theorem anyIn_round {F:Fence}{n:Nat}{P:Program}{md:Region.Mode}{ops:Array Oper}{Q:Exit→Act→World→Prop}(l:Nat)(hro:F.round=none)(hd:noDefer ops=true):∀(fuel:Nat) (listed:Array Bool) (a:Act) (w:World),wpAnyIn F n P md ops Q fuel listed a w→wpAnyIn (F.inRound l) n P md ops Q fuel listed a w
 |0,_,_,_,h=>h
 |fuel+1,listed,a,w,h=>by
  refine⟨h.1,fun i hi=>?_⟩
  have h2:=wpOpIn_mono (fun a w=>anyIn_round l hro hd fuel _ a w) (h.2 i hi)
  unfold wpOpIn at h2 ⊢
  cases ho:ops[i]? with
  |none=>rw[ho] at h2;exact h2
  |some o=>
   rw[ho] at h2
   simp only at h2 ⊢
   split
   ·rename_i hw
    rw[if_pos hw] at h2
    exact operIn_round l hro (fun c=>noDefer_spec hd ho c) h2
   ·rename_i hw
    rw[if_neg hw] at h2
    exact h2
theorem region_round {F:Fence}{n:Nat}{P:Program}{ops:Array Oper}{Q:Exit→Act→World→Prop}{id:Nat}{a:Act}{w:World}(l:Nat)(hro:F.round=none)(hd:noDefer ops=true)(hm:P.follows .mixedOrders=true)
 (h:wpAnyIn F n P .any ops Q ops.size (Array.replicate ops.size false) a w.drew):(Code.region id ops true).wpIn (F.inRound l) n P Q a w:=
 wpIn_region_any hm (anyIn_round l hro hd _ _ _ _ h)
end Go.Proofs.YtgfakdobajgnfaaGreatDoor
