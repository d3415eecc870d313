import Derived.Test.YtgfakdobajgnfaaGreatDoorQr11
import Derived.Test.YtgfakdobajgnfaaGreatDoorQr5
import Derived.Test.YtgfakdobajgnfaaGreatDoorQr0
namespace Go.Proofs.YtgfakdobajgnfaaGreatDoor
open Go Go.RowKit Go.Lib
set_option maxHeartbeats 4000000 in
theorem rtruth_any (b:Bool)(w:World):Calls Tryz.prog 212 #[.bool b] w fun e w'=>e= .returned (.agg #[.int .u8 4,.int .i64 (if b=true then 1 else 0),.string ⟨#[]⟩])∧Below w.heap.size w w':=by
 cases b with
 |false=>
  go_enter Tryz.func212,Tryz.ntmps212
  go_wp2_with fail
  exact bodyPost_ret (v:= .agg #[.int .u8 4,.int .i64 0,.string ⟨#[]⟩]) (by simp [results,Tryz.results212,go_sem, *]) rfl ⟨rfl,by first|exact(((Below.refl _ _).alloc (Nat.le_refl _) _).alloc (by simp) _)|exact((((Below.refl _ _).alloc (Nat.le_refl _) _).alloc (by simp) _).setCell (by simp) _)|exact(((((Below.refl _ _).alloc (Nat.le_refl _) _).alloc (by simp) _).setCell (by simp) _).setCell (by simp) _).setCell (by simp) _|exact((((((Below.refl _ _).alloc (Nat.le_refl _) _).alloc (by simp) _).setCell (by simp) _).setCell (by simp) _).setCell (by simp) _).setCell (by simp) _⟩
 |true=>
  go_enter Tryz.func212,Tryz.ntmps212
  go_wp2_with fail
  exact bodyPost_ret (v:= .agg #[.int .u8 4,.int .i64 1,.string ⟨#[]⟩]) (by simp [results,Tryz.results212,go_sem, *]) rfl ⟨rfl,by first|exact(((Below.refl _ _).alloc (Nat.le_refl _) _).alloc (by simp) _)|exact((((Below.refl _ _).alloc (Nat.le_refl _) _).alloc (by simp) _).setCell (by simp) _)|exact(((((Below.refl _ _).alloc (Nat.le_refl _) _).alloc (by simp) _).setCell (by simp) _).setCell (by simp) _).setCell (by simp) _|exact((((((Below.refl _ _).alloc (Nat.le_refl _) _).alloc (by simp) _).setCell (by simp) _).setCell (by simp) _).setCell (by simp) _).setCell (by simp) _⟩
theorem numR_head {c:UInt8}{r:List UInt8}(hc:digC c=false)(h45:c≠45):numR (c::r)=none:=by
 have hb:(if(c::r).head? =some 45 then(c::r).tail else c::r)=c::r:=if_neg (by simpa using h45)
 exact NumSt.bad hb (NumSt.start (c::r) 0) (by simp) (by simpa using hc) (fun h=>by have:=h.2.2;omega)
theorem readP_sym {l:List UInt8}(h:l.head? =some 35):readP l= .ok (5,0,l.tail):=by
 match l,h with
 |c::r,h=>simp at h;subst h;rfl
theorem readP_quo {l:List UInt8}(h:l.head? =some 34):readP l= .ok (3,0,innerL l.tail):=by
 match l,h with
 |c::r,h=>simp at h;subst h;rfl
theorem readP_else {l:List UInt8}(h1:l≠[116,114,117,101])(h2:l≠[102,97,108,115,101])(h3:l≠[110,117,108,108])(h4:l.head?≠some 35)(h5:l.head?≠some 34)(h6:l≠[]):
 readP l=match numR l with|none=> .error 4|some z=>if inR z.1 then .ok (if z.2 then 2 else 1,z.1,[]) else .error 9:=by
 match l,h6 with
 |c::r,_=>
  by_cases c1:c=116
  ·subst c1
   rw[numR_head (by decide) (by decide)]
   show(if r=[114,117,101] then _ else _)=_
   rw[if_neg fun e=>h1 (by rw[e])]
  by_cases c2:c=102
  ·subst c2
   rw[numR_head (by decide) (by decide)]
   show(if r=[97,108,115,101] then _ else _)=_
   rw[if_neg fun e=>h2 (by rw[e])]
  by_cases c3:c=110
  ·subst c3
   rw[numR_head (by decide) (by decide)]
   show(if r=[117,108,108] then _ else _)=_
   rw[if_neg fun e=>h3 (by rw[e])]
  rw[readP_num ⟨fun e=>h5 (by rw[e];rfl),fun e=>h4 (by rw[e];rfl),c1,c2,c3⟩,numP_numR]
  cases numR (c::r) with
  |none=>rfl
  |some z=>
   simp only
   split<;>rfl
theorem numR_len {l:List UInt8}{z:Int×Bool}(h:numR l=some z)(h4:l.length≤402):lenD z.1.natAbs≤102:=by
 unfold numR at h
 simp only at h
 generalize hc:cut (if l.head? =some 45 then l.tail else l) [46]=c at h
 obtain⟨a,r,f⟩:=c
 simp only at h
 by_cases hbad:((!digL a||(decide (1<a.length) && a.head? ==some 48))||(f && (!digL r||decide (4<r.length))))=true
 ·rw[if_pos hbad] at h;cases h
 ·rw[if_neg hbad] at h
  simp only[Bool.or_eq_true,Bool.and_eq_true,not_or,not_and,Bool.not_eq_true',Bool.not_eq_true,decide_eq_false_iff_not,Bool.not_eq_false] at hbad
  obtain⟨⟨h1,_⟩,h2⟩:=hbad
  obtain⟨ha,had⟩:=digL_parts h1
  injection h with h
  subst h
  have hal:a.length≤402:=by
   have hx:(if l.head? =some 45 then l.tail else l).length≤402:=by
    split
    ·rw[List.length_tail];omega
    ·exact h4
   rcases split_one 46 (if l.head? =some 45 then l.tail else l) with q|⟨a',r',q,q2⟩
   ·rw[cut_one_none q] at hc
    injection hc with hc _
    rw[←hc];exact hx
   ·rw[q,cut_one_some a' r' q2] at hc
    injection hc with hc _
    rw[←hc]
    rw[q] at hx
    simp at hx
    omega
  have:∀(b:Bool) (d:List UInt8),(sgn' b (val d 0)).natAbs=val d 0:=fun b d=>by unfold sgn';split<;>simp
  simp only[this]
  refine val_len ?_ ?_
  ·split
   ·next hf=>
    obtain⟨_,hr⟩:=digL_parts (h2 hf).1
    rw[List.all_append,had,Bool.true_and]
    refine List.all_eq_true.2 fun x hx=>?_
    rcases List.mem_append.1 (List.mem_of_mem_take hx) with q|q
    ·exact List.all_eq_true.1 hr x q
    ·simp at q;subst q;decide
   ·exact had
  ·split
   ·rw[List.length_append,List.length_take];omega
   ·omega
theorem PrsPost.may {w w':World}{l S:List UInt8}{k n:Int}(hb:Below w.heap.size w w')(h0:l≠[])(h4:l.length≤402)(hr:readP l= .ok (k,n,S))(hm:txtM k n S=l):PrsPost w (prsL l) (.returned (.tuple #[.agg #[.int .u8 k,.int .i64 n,.string ⟨S.toArray⟩],.int .i64 0])) w':=by
 refine⟨hb,?_⟩
 unfold prsL
 rw[if_neg (by omega),if_neg h0,hr]
 simp only
 rw[if_pos hm]
theorem PrsPost.bad {w w':World}{l S:List UInt8}{k n:Int}(hb:Below w.heap.size w w')(h0:l≠[])(h4:l.length≤402)(hr:readP l= .ok (k,n,S))(hm:txtM k n S≠l):PrsPost w (prsL l) (.returned (.tuple #[.agg #[.int .u8 0,.int .i64 0,.string ⟨#[]⟩],.int .i64 4])) w':=by
 refine⟨hb,?_⟩
 unfold prsL
 rw[if_neg (by omega),if_neg h0,hr]
 simp only
 rw[if_neg hm]
theorem PrsPost.err {w w':World}{l:List UInt8}{e:Int}(hb:Below w.heap.size w w')(h:prsL l= .error e):PrsPost w (prsL l) (.returned (.tuple #[.agg #[.int .u8 0,.int .i64 0,.string ⟨#[]⟩],.int .i64 e])) w':=by
 refine⟨hb,?_⟩
 rw[h]
theorem prsL_read {l:List UInt8}{e:Int}(h4:l.length≤402)(h:l=[]∧e=4∨l≠[]∧readP l= .error e):prsL l= .error e:=by
 unfold prsL
 rw[if_neg (by omega)]
 rcases h with ⟨rfl,rfl⟩|⟨h,hr⟩
 ·rw[if_pos rfl]
 ·rw[if_neg h,hr]
structure PvAt (w wr:World)(k n:Int)(S:ByteArray):Prop where
 r:wr.heap[w.heap.size]? =some (.cells #[.int .u8 0,.int .i64 0,.string ⟨#[]⟩] 23 (0,0))
 x:wr.heap[w.heap.size+1]? =some (.cells #[.int .u8 k,.int .i64 n,.string S] 23 (0,0))
 bel:Below w.heap.size w wr
theorem PvAt.below {w wr V:World}{k n:Int}{S:ByteArray}(h:PvAt w wr k n S)(hb:Below wr.heap.size wr V):PvAt w V k n S:=
 ⟨(hb.block _ (lt_some h.r)).trans h.r,(hb.block _ (lt_some h.x)).trans h.x,h.bel.trans (hb.mono h.bel.size)⟩
theorem pv_start (w:World):PvAt w ((w.alloc (.cells #[.int .u8 0,.int .i64 0,.string ⟨#[]⟩] 23)).alloc (.cells #[.int .u8 0,.int .i64 0,.string ⟨#[]⟩] 23)) 0 0 ⟨#[]⟩:=by
 refine⟨?_,?_,((Below.refl _ _).alloc (Nat.le_refl _) _).alloc (by simp) _⟩
 ·rw[Below.heap_alloc _ _ _ (by simp)];exact heap_alloc0 _ _
 ·have:=heap_alloc0 (w.alloc (.cells #[.int .u8 0,.int .i64 0,.string ⟨#[]⟩] 23)) (.cells #[.int .u8 0,.int .i64 0,.string ⟨#[]⟩] 23)
  simpa using this
theorem PvAt.cells {w wr:World}{k n:Int}{S:ByteArray}(h:PvAt w wr k n S):(wr.cell? ⟨w.heap.size+1,0,none⟩=some (.int .u8 k)∧wr.cell? ⟨w.heap.size+1,1,none⟩=some (.int .i64 n)∧wr.cell? ⟨w.heap.size+1,2,none⟩=some (.string S)∧∀i,wr.frozen? ⟨w.heap.size+1,i,none⟩=false)∧
 wr.cell? ⟨w.heap.size,0,none⟩=some (.int .u8 0)∧wr.cell? ⟨w.heap.size,1,none⟩=some (.int .i64 0)∧wr.cell? ⟨w.heap.size,2,none⟩=some (.string ⟨#[]⟩)∧∀i,wr.frozen? ⟨w.heap.size,i,none⟩=false:=
 ⟨⟨by simp only[World.cell?,h.x];rfl,by simp only[World.cell?,h.x];rfl,by simp only[World.cell?,h.x];rfl,fun i=>by simp only[World.frozen?,h.x];simp⟩,
  by simp only[World.cell?,h.r];rfl,by simp only[World.cell?,h.r];rfl,by simp only[World.cell?,h.r];rfl,fun i=>by simp only[World.frozen?,h.r];simp⟩
theorem PvAt.set {w wr:World}{k n:Int}{S:ByteArray}(h:PvAt w wr k n S)(k' n':Int)(S':ByteArray):PvAt w (((wr.setCell ⟨w.heap.size+1,0,none⟩ (.int .u8 k')).setCell ⟨w.heap.size+1,1,none⟩ (.int .i64 n')).setCell ⟨w.heap.size+1,2,none⟩ (.string S')) k' n' S':=by
 have h1:=setCell_heap (i:=2) (u:= .string S') (setCell_heap (i:=1) (u:= .int .i64 n') (setCell_heap (i:=0) (u:= .int .u8 k') h.x))
 have o1:Only [w.heap.size+1] wr (((wr.setCell ⟨w.heap.size+1,0,none⟩ (.int .u8 k')).setCell ⟨w.heap.size+1,1,none⟩ (.int .i64 n')).setCell ⟨w.heap.size+1,2,none⟩ (.string S')):=(((Only.refl _ _).setCell (.inl (by simp)) _).setCell (.inl (by simp)) _).setCell (.inl (by simp)) _
 exact⟨(o1.block _ (lt_some h.r) (by simp)).trans h.r,h1,((h.bel.setCell (by simp) _).setCell (by simp) _).setCell (by simp) _⟩
theorem PvAt.set0 {w wr:World}{k n:Int}{S:ByteArray}(h:PvAt w wr k n S)(k':Int):PvAt w (wr.setCell ⟨w.heap.size+1,0,none⟩ (.int .u8 k')) k' n S:=by
 have h1:=setCell_heap (i:=0) (u:= .int .u8 k') h.x
 have o1:Only [w.heap.size+1] wr (wr.setCell ⟨w.heap.size+1,0,none⟩ (.int .u8 k')):=(Only.refl _ _).setCell (.inl (by simp)) _
 exact⟨(o1.block _ (lt_some h.r) (by simp)).trans h.r,h1,h.bel.setCell (by simp) _⟩
theorem PvAt.ret {w wr:World}{k n:Int}{S:ByteArray}(h:PvAt w wr k n S)(u0 u1 u2:Value):Below w.heap.size w (((wr.setCell ⟨w.heap.size,0,none⟩ u0).setCell ⟨w.heap.size,1,none⟩ u1).setCell ⟨w.heap.size,2,none⟩ u2):=
 ((h.bel.setCell (Nat.le_refl _) _).setCell (Nat.le_refl _) _).setCell (Nat.le_refl _) _
theorem slice_from (s:ByteArray)(i:Int)(h0:0≤i)(h1:i≤(s.size:Int))(W:World):(Instr.slice 9 (.string s) (some (.int .i64 i)) none none).run Tryz.prog W= .ok (.string (s.extract i.toNat s.size)) W:=
 run_slice_string_l W 9 s Tryz.underlying9 .i64 i h0 h1
theorem innerL_le:∀(k:Nat) (l:List UInt8),l.length≤k→(innerL l).length≤l.length
 |0,l,h=>by
  have:l=[]:=List.eq_nil_of_length_eq_zero (by omega)
  subst this
  exact Nat.le_refl _
 |k+1,[],_=>Nat.le_refl _
 |k+1,[c],_=>by simp [innerL]
 |k+1,c::y::r,h=>by
  rw[innerL]
  split
  ·have:=innerL_le k r (by simp at h;omega)
   simp
   omega
  ·have:=innerL_le k (y::r) (by simp at h ⊢;omega)
   simp at this ⊢
   omega
theorem inner_len {s:ByteArray}(h:s.size≤402):(innerL (dl s).tail).length≤402:=by
 have:=innerL_le _ (dl s).tail (Nat.le_refl _)
 rw[List.length_tail,dl_size] at this
 omega
theorem Qw8{P:Prop}(h:P:=by
 clear hmy hXl hfit HTX
 go_wp2_with fail
 (with_reducible refine HMY.out.mono ?_)
 rintro e V6 ⟨rfl,hb6⟩
 have HP6:=hide (HP.out.below hb6)
 clear y0 y1 y2 z0 z1 z2 yf0 yf1 yf2 zf0 zf1 zf2
 obtain⟨⟨y0,y1,y2,yf⟩,z0,z1,z2,zf⟩:=PvAt.cells HP6.out
 have yf0:=yf 0
 have yf1:=yf 1
 have yf2:=yf 2
 have zf0:=zf 0
 have zf1:=zf 1
 have zf2:=zf 2
 clear yf zf
 clear hb6
 go_wp2_with fail
 exact bodyPost_ret (v:= .tuple #[.agg #[.int .u8 0,.int .i64 0,.string ⟨#[]⟩],.int .i64 4]) (by simp [results,Tryz.results159,go_sem, *]) rfl (PrsPost.bad (HP6.out.ret _ _ _) H0.out H4.out HR.out HBD.out)):P:=h
theorem Qw9{P:Prop}(h:P:=by
 have e1:(X.toList==s.toList)=false:=by rw[toList_dl,toList_dl];exact beq_eq_false_iff_ne.2 (fun e=>hXs (dl_inj e))
 clear hXs
 go_wp2_with fail
 exact bodyPost_ret (v:= .tuple #[.agg #[.int .u8 0,.int .i64 0,.string ⟨#[]⟩],.int .i64 4]) (by simp [results,Tryz.results159,go_sem, *]) rfl (PrsPost.bad (HP7.out.ret _ _ _) H0.out H4.out HR.out HBD.out)):P:=h
set_option maxRecDepth 100000 in
set_option maxHeartbeats 16000000 in
theorem rparse_any (s:ByteArray)(w:World)(hs:s.size≤9223372036854775807):Calls Tryz.prog 159 #[.string s] w (PrsPost w (prsL (dl s))):=by
 by_cases hbig:402<s.size
 ·have p0:(402:Int)<(s.size:Int):=by omega
  have HE:=hide (show prsL (dl s)= .error 3 by unfold prsL;rw[if_pos (by rw[dl_size];exact hbig)])
  clear hbig
  go_enter Tryz.func159,Tryz.ntmps159
  go_wp2_with fail
  exact bodyPost_ret (v:= .tuple #[.agg #[.int .u8 0,.int .i64 0,.string ⟨#[]⟩],.int .i64 3]) (by simp [results,Tryz.results159,go_sem, *]) rfl (PrsPost.err ((Below.refl _ _).alloc (Nat.le_refl _) _) HE.out)
 ·have hsm:s.size≤402:=by omega
  have p0:decide (402<s.size)=false:=decide_eq_false hbig
  have p1:decide ((402:Int)<(s.size:Int))=false:=decide_eq_false (by omega)
  have H4:Hid ((dl s).length≤402):=hide (by rw[dl_size];exact hsm)
  have HPS:=hide (pv_start w)
  obtain⟨W1,hW1⟩:∃W1,(w.alloc (.cells #[.int .u8 0,.int .i64 0,.string ⟨#[]⟩] 23)).alloc (.cells #[.int .u8 0,.int .i64 0,.string ⟨#[]⟩] 23)=W1:=⟨_,rfl⟩
  rw[hW1] at HPS
  have HW1:=hide hW1
  have HNM:=hide (rnumber_any (w:=W1) s hsm)
  clear hW1 hbig hs
  go_enter Tryz.func159,Tryz.ntmps159
  go_upto_region 4 with fail
  rw[HW1.out]
  go_wp2_with fail
  (with_reducible refine HNM.out.mono ?_)
  rintro e V1 ⟨hb1,nb,na,nn,nc,pt,ok,rfl,hnum⟩
  have HP1:=hide (HPS.out.below hb1)
  have HNU:=hide hnum
  have hal:=(Below.refl V1.heap.size V1).alloc (Nat.le_refl _) (.cells #[.bool nb,.slice na nn nc] 79)
  have HP:=hide (HP1.out.below hal)
  have HAL:=hide hal
  have HBX:=hide (heap_alloc0 V1 (.cells #[.bool nb,.slice na nn nc] 79))
  clear hb1 hnum hal HNM HPS HW1
  go_upto_region 6 with fail
  obtain⟨⟨y0,y1,y2,yf⟩,z0,z1,z2,zf⟩:=PvAt.cells HP.out
  have yf0:=yf 0
  have yf1:=yf 1
  have yf2:=yf 2
  have zf0:=zf 0
  have zf1:=zf 1
  have zf2:=zf 2
  clear yf zf
  obtain⟨Wn,hWn⟩:∃Wn,(V1.alloc (.cells #[.bool nb,.slice na nn nc] 79))=Wn:=⟨_,rfl⟩
  rw[hWn] at HP HAL HBX y0 y1 y2 z0 z1 z2 yf0 yf1 yf2 zf0 zf1 zf2 ⊢
  clear hWn
  by_cases hw:s=⟨#[116,114,117,101]⟩
  ·have H0:Hid (dl s≠[]):=hide (by rw[hw];decide)
   have HR:=hide (show readP (dl s)= .ok (4,1,dl (⟨#[]⟩:ByteArray)) by rw[hw];rfl)
   have tb:(s.toList==[116,114,117,101])=true:=by rw[toList_dl,hw];rfl
   have fb:(s.toList==[102,97,108,115,101])=false:=by rw[toList_dl,hw];rfl
   have nb:(s.toList==[110,117,108,108])=false:=by rw[toList_dl,hw];rfl
   clear hsm hw
   have HT:=hide (rtruth_any true Wn)
   go_wp2_with fail
   (with_reducible refine HT.out.mono ?_)
   rintro e V2 ⟨rfl,hb2⟩
   have HP2:=hide (HP.out.below hb2)
   clear y0 y1 y2 z0 z1 z2 yf0 yf1 yf2 zf0 zf1 zf2
   obtain⟨⟨y0,y1,y2,yf⟩,z0,z1,z2,zf⟩:=PvAt.cells HP2.out
   have yf0:=yf 0
   have yf1:=yf 1
   have yf2:=yf 2
   have zf0:=zf 0
   have zf1:=zf 1
   have zf2:=zf 2
   clear yf zf
   clear hb2 HP
   have HP:=hide (HP2.out.set 4 1 ⟨#[]⟩)
   clear HP2
   go_upto_region 20 with fail
   obtain⟨W,hW⟩:∃W,(((V2.setCell ⟨w.heap.size+1,0,none⟩ (.int .u8 4)).setCell ⟨w.heap.size+1,1,none⟩ (.int .i64 1)).setCell ⟨w.heap.size+1,2,none⟩ (.string ⟨#[]⟩))=W:=⟨_,rfl⟩
   (try simp only[if_true,if_false,Bool.false_eq_true])
   rw[hW] at HP ⊢
   clear hW
   clear y0 y1 y2 z0 z1 z2 yf0 yf1 yf2 zf0 zf1 zf2
   obtain⟨⟨y0,y1,y2,yf⟩,z0,z1,z2,zf⟩:=PvAt.cells HP.out
   have yf0:=yf 0
   have yf1:=yf 1
   have yf2:=yf 2
   have zf0:=zf 0
   have zf1:=zf 1
   have zf2:=zf 2
   clear yf zf
   have hfit:(⟨4,1,⟨#[]⟩⟩:Vl).fit:=⟨by show ByteArray.size ⟨#[]⟩≤_;first|decide|omega,by show _≤(1:Int);decide,by show(1:Int)≤_;decide⟩
   have HMY:=hide (rmay_any ⟨4,1,⟨#[]⟩⟩ hfit.1 W)
   rw[mayB_L] at HMY
   have HTX:Hid (∀V,_):=hide fun V=>rtext_any ⟨4,1,⟨#[]⟩⟩ V hfit
   obtain⟨X,hX⟩:∃X,txtB ⟨4,1,⟨#[]⟩⟩=X:=⟨_,rfl⟩
   have hXl:dl X=txtM 4 1 (dl ⟨#[]⟩):=by rw[←hX];rfl
   rw[hX] at HTX
   clear hX
   cases hmy:mayL 4 1 (dl ⟨#[]⟩) with
   |false=>
    rw[show mayL (⟨4,1,⟨#[]⟩⟩:Vl).k (⟨4,1,⟨#[]⟩⟩:Vl).n (dl (⟨4,1,⟨#[]⟩⟩:Vl).s)=false from hmy] at HMY
    have HBD:=hide (show txtM 4 1 (dl ⟨#[]⟩)≠dl s from fun e=>H0.out (by rw[←e];unfold txtM;rw[hmy];rfl))
    exact Qw8
   |true=>
    rw[show mayL (⟨4,1,⟨#[]⟩⟩:Vl).k (⟨4,1,⟨#[]⟩⟩:Vl).n (dl (⟨4,1,⟨#[]⟩⟩:Vl).s)=true from hmy] at HMY
    clear hmy hfit
    have HXL:=hide hXl
    clear hXl
    go_wp2_with fail
    (with_reducible refine HMY.out.mono ?_)
    rintro e V6 ⟨rfl,hb6⟩
    have HP6:=hide (HP.out.below hb6)
    clear y0 y1 y2 z0 z1 z2 yf0 yf1 yf2 zf0 zf1 zf2
    obtain⟨⟨y0,y1,y2,yf⟩,z0,z1,z2,zf⟩:=PvAt.cells HP6.out
    have yf0:=yf 0
    have yf1:=yf 1
    have yf2:=yf 2
    have zf0:=zf 0
    have zf1:=zf 1
    have zf2:=zf 2
    clear yf zf
    clear hb6
    go_wp2_with fail
    (with_reducible refine(HTX.out V6).mono ?_)
    rintro e V7 ⟨rfl,hb7⟩
    have HP7:=hide (HP6.out.below hb7)
    clear y0 y1 y2 z0 z1 z2 yf0 yf1 yf2 zf0 zf1 zf2
    obtain⟨⟨y0,y1,y2,yf⟩,z0,z1,z2,zf⟩:=PvAt.cells HP7.out
    have yf0:=yf 0
    have yf1:=yf 1
    have yf2:=yf 2
    have zf0:=zf 0
    have zf1:=zf 1
    have zf2:=zf 2
    clear yf zf
    clear hb7
    by_cases hXs:X=s
    ·have HOK:=hide (show txtM 4 1 (dl ⟨#[]⟩)=dl s from by rw[←HXL.out,hXs])
     subst hXs
     go_wp2_with fail
     exact bodyPost_ret (v:= .tuple #[.agg #[.int .u8 4,.int .i64 1,.string ⟨#[]⟩],.int .i64 0]) (by simp [results,Tryz.results159,go_sem, *]) rfl (by have:=PrsPost.may (HP7.out.ret (.int .u8 4) (.int .i64 1) (.string ⟨#[]⟩)) H0.out H4.out HR.out HOK.out;rw[mk_dl] at this;exact this)
    ·have HBD:=hide (show txtM 4 1 (dl ⟨#[]⟩)≠dl s from fun e=>hXs (dl_inj (by rw[HXL.out,e])))
     exact Qw9
  ·have tb:(s.toList==[116,114,117,101])=false:=by rw[toList_dl];exact beq_eq_false_iff_ne.2 (fun e=>hw (dl_inj e))
   have tc:dl s≠[116,114,117,101]:=fun e=>hw (dl_inj e)
   have td:=hide tc
   clear tc hw
   by_cases hw:s=⟨#[102,97,108,115,101]⟩
   ·clear tb td
    have H0:Hid (dl s≠[]):=hide (by rw[hw];decide)
    have HR:=hide (show readP (dl s)= .ok (4,0,dl (⟨#[]⟩:ByteArray)) by rw[hw];rfl)
    have tb:(s.toList==[116,114,117,101])=false:=by rw[toList_dl,hw];rfl
    have fb:(s.toList==[102,97,108,115,101])=true:=by rw[toList_dl,hw];rfl
    have nb:(s.toList==[110,117,108,108])=false:=by rw[toList_dl,hw];rfl
    clear hsm hw
    have HT:=hide (rtruth_any false Wn)
    go_wp2_with fail
    (with_reducible refine HT.out.mono ?_)
    rintro e V2 ⟨rfl,hb2⟩
    have HP2:=hide (HP.out.below hb2)
    clear y0 y1 y2 z0 z1 z2 yf0 yf1 yf2 zf0 zf1 zf2
    obtain⟨⟨y0,y1,y2,yf⟩,z0,z1,z2,zf⟩:=PvAt.cells HP2.out
    have yf0:=yf 0
    have yf1:=yf 1
    have yf2:=yf 2
    have zf0:=zf 0
    have zf1:=zf 1
    have zf2:=zf 2
    clear yf zf
    clear hb2 HP
    have HP:=hide (HP2.out.set 4 0 ⟨#[]⟩)
    clear HP2
    go_upto_region 20 with fail
    obtain⟨W,hW⟩:∃W,(((V2.setCell ⟨w.heap.size+1,0,none⟩ (.int .u8 4)).setCell ⟨w.heap.size+1,1,none⟩ (.int .i64 0)).setCell ⟨w.heap.size+1,2,none⟩ (.string ⟨#[]⟩))=W:=⟨_,rfl⟩
    (try simp only[if_true,if_false,Bool.false_eq_true])
    rw[hW] at HP ⊢
    clear hW
    clear y0 y1 y2 z0 z1 z2 yf0 yf1 yf2 zf0 zf1 zf2
    obtain⟨⟨y0,y1,y2,yf⟩,z0,z1,z2,zf⟩:=PvAt.cells HP.out
    have yf0:=yf 0
    have yf1:=yf 1
    have yf2:=yf 2
    have zf0:=zf 0
    have zf1:=zf 1
    have zf2:=zf 2
    clear yf zf
    have hfit:(⟨4,0,⟨#[]⟩⟩:Vl).fit:=⟨by show ByteArray.size ⟨#[]⟩≤_;first|decide|omega,by show _≤(0:Int);decide,by show(0:Int)≤_;decide⟩
    have HMY:=hide (rmay_any ⟨4,0,⟨#[]⟩⟩ hfit.1 W)
    rw[mayB_L] at HMY
    have HTX:Hid (∀V,_):=hide fun V=>rtext_any ⟨4,0,⟨#[]⟩⟩ V hfit
    obtain⟨X,hX⟩:∃X,txtB ⟨4,0,⟨#[]⟩⟩=X:=⟨_,rfl⟩
    have hXl:dl X=txtM 4 0 (dl ⟨#[]⟩):=by rw[←hX];rfl
    rw[hX] at HTX
    clear hX
    cases hmy:mayL 4 0 (dl ⟨#[]⟩) with
    |false=>
     rw[show mayL (⟨4,0,⟨#[]⟩⟩:Vl).k (⟨4,0,⟨#[]⟩⟩:Vl).n (dl (⟨4,0,⟨#[]⟩⟩:Vl).s)=false from hmy] at HMY
     have HBD:=hide (show txtM 4 0 (dl ⟨#[]⟩)≠dl s from fun e=>H0.out (by rw[←e];unfold txtM;rw[hmy];rfl))
     exact Qw8
    |true=>
     rw[show mayL (⟨4,0,⟨#[]⟩⟩:Vl).k (⟨4,0,⟨#[]⟩⟩:Vl).n (dl (⟨4,0,⟨#[]⟩⟩:Vl).s)=true from hmy] at HMY
     clear hmy hfit
     have HXL:=hide hXl
     clear hXl
     go_wp2_with fail
     (with_reducible refine HMY.out.mono ?_)
     rintro e V6 ⟨rfl,hb6⟩
     have HP6:=hide (HP.out.below hb6)
     clear y0 y1 y2 z0 z1 z2 yf0 yf1 yf2 zf0 zf1 zf2
     obtain⟨⟨y0,y1,y2,yf⟩,z0,z1,z2,zf⟩:=PvAt.cells HP6.out
     have yf0:=yf 0
     have yf1:=yf 1
     have yf2:=yf 2
     have zf0:=zf 0
     have zf1:=zf 1
     have zf2:=zf 2
     clear yf zf
     clear hb6
     go_wp2_with fail
     (with_reducible refine(HTX.out V6).mono ?_)
     rintro e V7 ⟨rfl,hb7⟩
     have HP7:=hide (HP6.out.below hb7)
     clear y0 y1 y2 z0 z1 z2 yf0 yf1 yf2 zf0 zf1 zf2
     obtain⟨⟨y0,y1,y2,yf⟩,z0,z1,z2,zf⟩:=PvAt.cells HP7.out
     have yf0:=yf 0
     have yf1:=yf 1
     have yf2:=yf 2
     have zf0:=zf 0
     have zf1:=zf 1
     have zf2:=zf 2
     clear yf zf
     clear hb7
     by_cases hXs:X=s
     ·have HOK:=hide (show txtM 4 0 (dl ⟨#[]⟩)=dl s from by rw[←HXL.out,hXs])
      subst hXs
      go_wp2_with fail
      exact bodyPost_ret (v:= .tuple #[.agg #[.int .u8 4,.int .i64 0,.string ⟨#[]⟩],.int .i64 0]) (by simp [results,Tryz.results159,go_sem, *]) rfl (by have:=PrsPost.may (HP7.out.ret (.int .u8 4) (.int .i64 0) (.string ⟨#[]⟩)) H0.out H4.out HR.out HOK.out;rw[mk_dl] at this;exact this)
     ·have HBD:=hide (show txtM 4 0 (dl ⟨#[]⟩)≠dl s from fun e=>hXs (dl_inj (by rw[HXL.out,e])))
      exact Qw9
   ·have fb:(s.toList==[102,97,108,115,101])=false:=by rw[toList_dl];exact beq_eq_false_iff_ne.2 (fun e=>hw (dl_inj e))
    have fc:dl s≠[102,97,108,115,101]:=fun e=>hw (dl_inj e)
    have fd:=hide fc
    clear fc hw
    by_cases hw:s=⟨#[110,117,108,108]⟩
    ·clear tb td fb fd
     have H0:Hid (dl s≠[]):=hide (by rw[hw];decide)
     have HR:=hide (show readP (dl s)= .ok (0,0,dl (⟨#[]⟩:ByteArray)) by rw[hw];rfl)
     have tb:(s.toList==[116,114,117,101])=false:=by rw[toList_dl,hw];rfl
     have fb:(s.toList==[102,97,108,115,101])=false:=by rw[toList_dl,hw];rfl
     have nb:(s.toList==[110,117,108,108])=true:=by rw[toList_dl,hw];rfl
     clear hsm hw
     go_upto_region 20 with fail
     have hfit:(⟨0,0,⟨#[]⟩⟩:Vl).fit:=⟨by show ByteArray.size ⟨#[]⟩≤_;first|decide|omega,by show _≤(0:Int);decide,by show(0:Int)≤_;decide⟩
     have HMY:=hide (rmay_any ⟨0,0,⟨#[]⟩⟩ hfit.1 Wn)
     rw[mayB_L] at HMY
     have HTX:Hid (∀V,_):=hide fun V=>rtext_any ⟨0,0,⟨#[]⟩⟩ V hfit
     obtain⟨X,hX⟩:∃X,txtB ⟨0,0,⟨#[]⟩⟩=X:=⟨_,rfl⟩
     have hXl:dl X=txtM 0 0 (dl ⟨#[]⟩):=by rw[←hX];rfl
     rw[hX] at HTX
     clear hX
     cases hmy:mayL 0 0 (dl ⟨#[]⟩) with
     |false=>
      rw[show mayL (⟨0,0,⟨#[]⟩⟩:Vl).k (⟨0,0,⟨#[]⟩⟩:Vl).n (dl (⟨0,0,⟨#[]⟩⟩:Vl).s)=false from hmy] at HMY
      have HBD:=hide (show txtM 0 0 (dl ⟨#[]⟩)≠dl s from fun e=>H0.out (by rw[←e];unfold txtM;rw[hmy];rfl))
      exact Qw8
     |true=>
      rw[show mayL (⟨0,0,⟨#[]⟩⟩:Vl).k (⟨0,0,⟨#[]⟩⟩:Vl).n (dl (⟨0,0,⟨#[]⟩⟩:Vl).s)=true from hmy] at HMY
      clear hmy hfit
      have HXL:=hide hXl
      clear hXl
      go_wp2_with fail
      (with_reducible refine HMY.out.mono ?_)
      rintro e V6 ⟨rfl,hb6⟩
      have HP6:=hide (HP.out.below hb6)
      clear y0 y1 y2 z0 z1 z2 yf0 yf1 yf2 zf0 zf1 zf2
      obtain⟨⟨y0,y1,y2,yf⟩,z0,z1,z2,zf⟩:=PvAt.cells HP6.out
      have yf0:=yf 0
      have yf1:=yf 1
      have yf2:=yf 2
      have zf0:=zf 0
      have zf1:=zf 1
      have zf2:=zf 2
      clear yf zf
      clear hb6
      go_wp2_with fail
      (with_reducible refine(HTX.out V6).mono ?_)
      rintro e V7 ⟨rfl,hb7⟩
      have HP7:=hide (HP6.out.below hb7)
      clear y0 y1 y2 z0 z1 z2 yf0 yf1 yf2 zf0 zf1 zf2
      obtain⟨⟨y0,y1,y2,yf⟩,z0,z1,z2,zf⟩:=PvAt.cells HP7.out
      have yf0:=yf 0
      have yf1:=yf 1
      have yf2:=yf 2
      have zf0:=zf 0
      have zf1:=zf 1
      have zf2:=zf 2
      clear yf zf
      clear hb7
      by_cases hXs:X=s
      ·have HOK:=hide (show txtM 0 0 (dl ⟨#[]⟩)=dl s from by rw[←HXL.out,hXs])
       subst hXs
       go_wp2_with fail
       exact bodyPost_ret (v:= .tuple #[.agg #[.int .u8 0,.int .i64 0,.string ⟨#[]⟩],.int .i64 0]) (by simp [results,Tryz.results159,go_sem, *]) rfl (by have:=PrsPost.may (HP7.out.ret (.int .u8 0) (.int .i64 0) (.string ⟨#[]⟩)) H0.out H4.out HR.out HOK.out;rw[mk_dl] at this;exact this)
      ·have HBD:=hide (show txtM 0 0 (dl ⟨#[]⟩)≠dl s from fun e=>hXs (dl_inj (by rw[HXL.out,e])))
       exact Qw9
    ·have nb:(s.toList==[110,117,108,108])=false:=by rw[toList_dl];exact beq_eq_false_iff_ne.2 (fun e=>hw (dl_inj e))
     have nc:dl s≠[110,117,108,108]:=fun e=>hw (dl_inj e)
     have nd:=hide nc
     clear nc hw
     by_cases h35:(dl s).head? =some 35
     ·have hp:0<s.size:=by rcases Nat.eq_zero_or_pos s.size with h|h;(have:=dl_size s;rw[h] at this;rw[List.eq_nil_of_length_eq_zero this] at h35;cases h35);exact h
      have H0:Hid (dl s≠[]):=hide (fun e=>by rw[e] at h35;cases h35)
      have c0:s[0]=35:=by rw[dl_head hp] at h35;exact Option.some.inj h35
      have d0:((s[0].toNat:Int)==35)=true:=by rw[c0];rfl
      have HR:=hide (show readP (dl s)= .ok (5,0,dl (s.extract 1 s.size)) by rw[dl_ext_end,List.drop_one];exact readP_sym h35)
      have hsl:=slice_from s 1 (by omega) (by omega)
      rw[show((1:Int)).toNat=1 from rfl] at hsl
      obtain⟨S,hS⟩:∃S,s.extract 1 s.size=S:=⟨_,rfl⟩
      have hSs:S.size≤402:=by rw[←hS,ByteArray.size_extract];omega
      rw[hS] at HR hsl
      clear c0 h35 hS
      have HP5:=hide (HP.out.set 5 0 S)
      clear HP
      have HP:=HP5
      clear HP5
      go_upto_region 20 with fail
      obtain⟨W,hW⟩:∃W,(((Wn.setCell ⟨w.heap.size+1,0,none⟩ (.int .u8 5)).setCell ⟨w.heap.size+1,1,none⟩ (.int .i64 0)).setCell ⟨w.heap.size+1,2,none⟩ (.string S))=W:=⟨_,rfl⟩
      rw[hW] at HP ⊢
      clear hW
      clear y0 y1 y2 z0 z1 z2 yf0 yf1 yf2 zf0 zf1 zf2
      obtain⟨⟨y0,y1,y2,yf⟩,z0,z1,z2,zf⟩:=PvAt.cells HP.out
      have yf0:=yf 0
      have yf1:=yf 1
      have yf2:=yf 2
      have zf0:=zf 0
      have zf1:=zf 1
      have zf2:=zf 2
      clear yf zf
      have hfit:(⟨5,0,S⟩:Vl).fit:=⟨by show ByteArray.size S≤_;first|decide|omega,by show _≤(0:Int);decide,by show(0:Int)≤_;decide⟩
      have HMY:=hide (rmay_any ⟨5,0,S⟩ hfit.1 W)
      rw[mayB_L] at HMY
      have HTX:Hid (∀V,_):=hide fun V=>rtext_any ⟨5,0,S⟩ V hfit
      obtain⟨X,hX⟩:∃X,txtB ⟨5,0,S⟩=X:=⟨_,rfl⟩
      have hXl:dl X=txtM 5 0 (dl S):=by rw[←hX];rfl
      rw[hX] at HTX
      clear hX
      cases hmy:mayL 5 0 (dl S) with
      |false=>
       rw[show mayL (⟨5,0,S⟩:Vl).k (⟨5,0,S⟩:Vl).n (dl (⟨5,0,S⟩:Vl).s)=false from hmy] at HMY
       have HBD:=hide (show txtM 5 0 (dl S)≠dl s from fun e=>H0.out (by rw[←e];unfold txtM;rw[hmy];rfl))
       exact Qw8
      |true=>
       rw[show mayL (⟨5,0,S⟩:Vl).k (⟨5,0,S⟩:Vl).n (dl (⟨5,0,S⟩:Vl).s)=true from hmy] at HMY
       clear hmy hfit
       have HXL:=hide hXl
       clear hXl
       go_wp2_with fail
       (with_reducible refine HMY.out.mono ?_)
       rintro e V6 ⟨rfl,hb6⟩
       have HP6:=hide (HP.out.below hb6)
       clear y0 y1 y2 z0 z1 z2 yf0 yf1 yf2 zf0 zf1 zf2
       obtain⟨⟨y0,y1,y2,yf⟩,z0,z1,z2,zf⟩:=PvAt.cells HP6.out
       have yf0:=yf 0
       have yf1:=yf 1
       have yf2:=yf 2
       have zf0:=zf 0
       have zf1:=zf 1
       have zf2:=zf 2
       clear yf zf
       clear hb6
       go_wp2_with fail
       (with_reducible refine(HTX.out V6).mono ?_)
       rintro e V7 ⟨rfl,hb7⟩
       have HP7:=hide (HP6.out.below hb7)
       clear y0 y1 y2 z0 z1 z2 yf0 yf1 yf2 zf0 zf1 zf2
       obtain⟨⟨y0,y1,y2,yf⟩,z0,z1,z2,zf⟩:=PvAt.cells HP7.out
       have yf0:=yf 0
       have yf1:=yf 1
       have yf2:=yf 2
       have zf0:=zf 0
       have zf1:=zf 1
       have zf2:=zf 2
       clear yf zf
       clear hb7
       by_cases hXs:X=s
       ·have HOK:=hide (show txtM 5 0 (dl S)=dl s from by rw[←HXL.out,hXs])
        subst hXs
        go_wp2_with fail
        exact bodyPost_ret (v:= .tuple #[.agg #[.int .u8 5,.int .i64 0,.string S],.int .i64 0]) (by simp [results,Tryz.results159,go_sem, *]) rfl (by have:=PrsPost.may (HP7.out.ret (.int .u8 5) (.int .i64 0) (.string S)) H0.out H4.out HR.out HOK.out;rw[mk_dl] at this;exact this)
       ·have HBD:=hide (show txtM 5 0 (dl S)≠dl s from fun e=>hXs (dl_inj (by rw[HXL.out,e])))
        exact Qw9
     ·by_cases h34:(dl s).head? =some 34
      ·have hp:0<s.size:=by rcases Nat.eq_zero_or_pos s.size with h|h;(have:=dl_size s;rw[h] at this;rw[List.eq_nil_of_length_eq_zero this] at h34;cases h34);exact h
       have H0:Hid (dl s≠[]):=hide (fun e=>by rw[e] at h34;cases h34)
       have c0:s[0]=34:=by rw[dl_head hp] at h34;exact Option.some.inj h34
       have d0:((s[0].toNat:Int)==34)=true:=by rw[c0];rfl
       have d1:((s[0].toNat:Int)==35)=false:=by rw[c0];rfl
       obtain⟨S,hS⟩:∃S:ByteArray,⟨(innerL (dl s).tail).toArray⟩=S:=⟨_,rfl⟩
       have HR:=hide (show readP (dl s)= .ok (3,0,dl S) by rw[←hS,dl_mk];exact readP_quo h34)
       have HI:=hide (inner_any (w:=Wn) s (by omega))
       rw[hS] at HI
       have hSs:S.size≤402:=by rw[←hS,←dl_size,dl_mk];exact inner_len hsm
       clear c0 h34 h35 hS
       have HP5:=hide (HP.out.set 3 0 S)
       clear HP
       have HP:=HP5
       clear HP5
       go_wp2_with fail
       (with_reducible refine HI.out.mono ?_)
       rintro e V2 ⟨rfl,rfl⟩
       go_upto_region 20 with fail
       obtain⟨W,hW⟩:∃W,(((Wn.setCell ⟨w.heap.size+1,0,none⟩ (.int .u8 3)).setCell ⟨w.heap.size+1,1,none⟩ (.int .i64 0)).setCell ⟨w.heap.size+1,2,none⟩ (.string S))=W:=⟨_,rfl⟩
       rw[hW] at HP ⊢
       clear hW
       clear y0 y1 y2 z0 z1 z2 yf0 yf1 yf2 zf0 zf1 zf2
       obtain⟨⟨y0,y1,y2,yf⟩,z0,z1,z2,zf⟩:=PvAt.cells HP.out
       have yf0:=yf 0
       have yf1:=yf 1
       have yf2:=yf 2
       have zf0:=zf 0
       have zf1:=zf 1
       have zf2:=zf 2
       clear yf zf
       have hfit:(⟨3,0,S⟩:Vl).fit:=⟨by show ByteArray.size S≤_;first|decide|omega,by show _≤(0:Int);decide,by show(0:Int)≤_;decide⟩
       have HMY:=hide (rmay_any ⟨3,0,S⟩ hfit.1 W)
       rw[mayB_L] at HMY
       have HTX:Hid (∀V,_):=hide fun V=>rtext_any ⟨3,0,S⟩ V hfit
       obtain⟨X,hX⟩:∃X,txtB ⟨3,0,S⟩=X:=⟨_,rfl⟩
       have hXl:dl X=txtM 3 0 (dl S):=by rw[←hX];rfl
       rw[hX] at HTX
       clear hX
       cases hmy:mayL 3 0 (dl S) with
       |false=>
        rw[show mayL (⟨3,0,S⟩:Vl).k (⟨3,0,S⟩:Vl).n (dl (⟨3,0,S⟩:Vl).s)=false from hmy] at HMY
        have HBD:=hide (show txtM 3 0 (dl S)≠dl s from fun e=>H0.out (by rw[←e];unfold txtM;rw[hmy];rfl))
        exact Qw8
       |true=>
        rw[show mayL (⟨3,0,S⟩:Vl).k (⟨3,0,S⟩:Vl).n (dl (⟨3,0,S⟩:Vl).s)=true from hmy] at HMY
        clear hmy hfit
        have HXL:=hide hXl
        clear hXl
        go_wp2_with fail
        (with_reducible refine HMY.out.mono ?_)
        rintro e V6 ⟨rfl,hb6⟩
        have HP6:=hide (HP.out.below hb6)
        clear y0 y1 y2 z0 z1 z2 yf0 yf1 yf2 zf0 zf1 zf2
        obtain⟨⟨y0,y1,y2,yf⟩,z0,z1,z2,zf⟩:=PvAt.cells HP6.out
        have yf0:=yf 0
        have yf1:=yf 1
        have yf2:=yf 2
        have zf0:=zf 0
        have zf1:=zf 1
        have zf2:=zf 2
        clear yf zf
        clear hb6
        go_wp2_with fail
        (with_reducible refine(HTX.out V6).mono ?_)
        rintro e V7 ⟨rfl,hb7⟩
        have HP7:=hide (HP6.out.below hb7)
        clear y0 y1 y2 z0 z1 z2 yf0 yf1 yf2 zf0 zf1 zf2
        obtain⟨⟨y0,y1,y2,yf⟩,z0,z1,z2,zf⟩:=PvAt.cells HP7.out
        have yf0:=yf 0
        have yf1:=yf 1
        have yf2:=yf 2
        have zf0:=zf 0
        have zf1:=zf 1
        have zf2:=zf 2
        clear yf zf
        clear hb7
        by_cases hXs:X=s
        ·have HOK:=hide (show txtM 3 0 (dl S)=dl s from by rw[←HXL.out,hXs])
         subst hXs
         go_wp2_with fail
         exact bodyPost_ret (v:= .tuple #[.agg #[.int .u8 3,.int .i64 0,.string S],.int .i64 0]) (by simp [results,Tryz.results159,go_sem, *]) rfl (by have:=PrsPost.may (HP7.out.ret (.int .u8 3) (.int .i64 0) (.string S)) H0.out H4.out HR.out HOK.out;rw[mk_dl] at this;exact this)
        ·have HBD:=hide (show txtM 3 0 (dl S)≠dl s from fun e=>hXs (dl_inj (by rw[HXL.out,e])))
         exact Qw9
      ·have HRE:=hide (fun h6:dl s≠[]=>readP_else td.out fd.out nd.out h35 h34 h6)
       have hp35:∀h:0<s.size,((s[0].toNat:Int)==35)=false:=fun h=>beq_eq_false_iff_ne.2 (fun e=>h35 (by rw[dl_head h];congr 1;exact u8_eq (n:=35) (by omega)))
       have hp34:∀h:0<s.size,((s[0].toNat:Int)==34)=false:=fun h=>beq_eq_false_iff_ne.2 (fun e=>h34 (by rw[dl_head h];congr 1;exact u8_eq (n:=34) (by omega)))
       have H35:=hide hp35
       have H34:=hide hp34
       clear h35 h34 hp35 hp34
       have hnu:=HNU.out
       cases hz:numR (dl s) with
       |none=>
        rw[hz] at hnu
        obtain rfl:=hnu
        have HE:=hide (show prsL (dl s)= .error 4 from prsL_read H4.out (by by_cases h6:dl s=[];exact .inl ⟨h6,rfl⟩;exact .inr ⟨h6,by rw[HRE.out h6,hz]⟩))
        clear hz
        by_cases hp:0<s.size
        ·have d0:=H35.out hp
         have d1:=H34.out hp
         go_wp2_with fail
         exact bodyPost_ret (v:= .tuple #[.agg #[.int .u8 0,.int .i64 0,.string ⟨#[]⟩],.int .i64 4]) (by simp [results,Tryz.results159,go_sem, *]) rfl (PrsPost.err (HP.out.ret _ _ _) HE.out)
        ·have d0:decide (0<s.size)=false:=decide_eq_false hp
         go_wp2_with fail
         exact bodyPost_ret (v:= .tuple #[.agg #[.int .u8 0,.int .i64 0,.string ⟨#[]⟩],.int .i64 4]) (by simp [results,Tryz.results159,go_sem, *]) rfl (PrsPost.err (HP.out.ret _ _ _) HE.out)
       |some z=>
        rw[hz] at hnu
        obtain⟨rfl,hpt,hni⟩:=hnu
        obtain⟨z,p⟩:=z
        simp only at hpt hni
        have h6:dl s≠[]:=fun e=>by rw[e] at hz;cases hz
        have H0:=hide h6
        have hlen:=numR_len hz H4.out
        have hre:=HRE.out h6
        rw[hz] at hre
        simp only at hre hlen
        have hp:0<s.size:=by rcases Nat.eq_zero_or_pos s.size with h|h;exact absurd (List.eq_nil_of_length_eq_zero (by rw[dl_size];exact h)) h6;exact h
        have d0:=H35.out hp
        have d1:=H34.out hp
        have HIN:=hide (int_any (hni.below HAL.out) (Nat.le_trans hlen (by decide)))
        obtain⟨i0,i1,_⟩:=two_cells' HBX.out
        have HRE2:=hide hre
        have HPT:=hide hpt
        clear hz hni hre hlen h6 hpt
        by_cases hin:inR z
        ·have hin3:=hin
         obtain⟨hz1,hz2⟩:=hin3
         have HZ:=hide (And.intro hz1 hz2)
         clear hz1 hz2
         cases p with
         |true=>
          have HR:=hide (show readP (dl s)= .ok (2,z,dl (⟨#[]⟩:ByteArray)) by have:=HRE2.out;rw[if_pos hin] at this;exact this)
          obtain rfl:pt=true:=HPT.out
          go_wp2_with fail
          (with_reducible refine HIN.out.mono ?_)
          rintro e V2 ⟨he,hb2⟩
          unfold IntOut at he
          rw[if_pos hin,if_pos hin] at he
          subst he
          have HP2:=hide (HP.out.below hb2)
          clear y0 y1 y2 z0 z1 z2 yf0 yf1 yf2 zf0 zf1 zf2
          obtain⟨⟨y0,y1,y2,yf⟩,z0,z1,z2,zf⟩:=PvAt.cells HP2.out
          have yf0:=yf 0
          have yf1:=yf 1
          have yf2:=yf 2
          have zf0:=zf 0
          have zf1:=zf 1
          have zf2:=zf 2
          clear yf zf
          clear hb2 HP i0 i1
          have HP:=hide (HP2.out.set 1 z ⟨#[]⟩)
          clear HP2
          have hin2:=hin
          have HIZ:=hide hin
          clear hin hin2
          go_upto_region 18 with fail
          obtain⟨W,hW⟩:∃W,(((V2.setCell ⟨w.heap.size+1,0,none⟩ (.int .u8 1)).setCell ⟨w.heap.size+1,1,none⟩ (.int .i64 z)).setCell ⟨w.heap.size+1,2,none⟩ (.string ⟨#[]⟩))=W:=⟨_,rfl⟩
          rw[hW] at HP ⊢
          clear hW
          clear y0 y1 y2 z0 z1 z2 yf0 yf1 yf2 zf0 zf1 zf2
          obtain⟨⟨y0,y1,y2,yf⟩,z0,z1,z2,zf⟩:=PvAt.cells HP.out
          have yf0:=yf 0
          have yf1:=yf 1
          have yf2:=yf 2
          have zf0:=zf 0
          have zf1:=zf 1
          have zf2:=zf 2
          clear yf zf
          have HP9:=hide (HP.out.set0 2)
          clear HP
          have HP:=HP9
          clear HP9
          go_upto_region 20 with fail
          obtain⟨W9,hW9⟩:∃W9,W.setCell ⟨w.heap.size+1,0,none⟩ (.int .u8 2)=W9:=⟨_,rfl⟩
          rw[hW9] at HP ⊢
          clear hW9
          clear y0 y1 y2 z0 z1 z2 yf0 yf1 yf2 zf0 zf1 zf2
          obtain⟨⟨y0,y1,y2,yf⟩,z0,z1,z2,zf⟩:=PvAt.cells HP.out
          have yf0:=yf 0
          have yf1:=yf 1
          have yf2:=yf 2
          have zf0:=zf 0
          have zf1:=zf 1
          have zf2:=zf 2
          clear yf zf
          have hfit:(⟨2,z,⟨#[]⟩⟩:Vl).fit:=⟨by show ByteArray.size ⟨#[]⟩≤_;first|decide|omega,by show _≤(z:Int);have:=HZ.out;omega,by show(z:Int)≤_;have:=HZ.out;omega⟩
          have HMY:=hide (rmay_any ⟨2,z,⟨#[]⟩⟩ hfit.1 W9)
          rw[mayB_L] at HMY
          have HTX:Hid (∀V,_):=hide fun V=>rtext_any ⟨2,z,⟨#[]⟩⟩ V hfit
          obtain⟨X,hX⟩:∃X,txtB ⟨2,z,⟨#[]⟩⟩=X:=⟨_,rfl⟩
          have hXl:dl X=txtM 2 z (dl ⟨#[]⟩):=by rw[←hX];rfl
          rw[hX] at HTX
          clear hX
          cases hmy:mayL 2 z (dl ⟨#[]⟩) with
          |false=>
           rw[show mayL (⟨2,z,⟨#[]⟩⟩:Vl).k (⟨2,z,⟨#[]⟩⟩:Vl).n (dl (⟨2,z,⟨#[]⟩⟩:Vl).s)=false from hmy] at HMY
           have HBD:=hide (show txtM 2 z (dl ⟨#[]⟩)≠dl s from fun e=>H0.out (by rw[←e];unfold txtM;rw[hmy];rfl))
           exact Qw8
          |true=>
           rw[show mayL (⟨2,z,⟨#[]⟩⟩:Vl).k (⟨2,z,⟨#[]⟩⟩:Vl).n (dl (⟨2,z,⟨#[]⟩⟩:Vl).s)=true from hmy] at HMY
           clear hmy hfit
           have HXL:=hide hXl
           clear hXl
           go_wp2_with fail
           (with_reducible refine HMY.out.mono ?_)
           rintro e V6 ⟨rfl,hb6⟩
           have HP6:=hide (HP.out.below hb6)
           clear y0 y1 y2 z0 z1 z2 yf0 yf1 yf2 zf0 zf1 zf2
           obtain⟨⟨y0,y1,y2,yf⟩,z0,z1,z2,zf⟩:=PvAt.cells HP6.out
           have yf0:=yf 0
           have yf1:=yf 1
           have yf2:=yf 2
           have zf0:=zf 0
           have zf1:=zf 1
           have zf2:=zf 2
           clear yf zf
           clear hb6
           go_wp2_with fail
           (with_reducible refine(HTX.out V6).mono ?_)
           rintro e V7 ⟨rfl,hb7⟩
           have HP7:=hide (HP6.out.below hb7)
           clear y0 y1 y2 z0 z1 z2 yf0 yf1 yf2 zf0 zf1 zf2
           obtain⟨⟨y0,y1,y2,yf⟩,z0,z1,z2,zf⟩:=PvAt.cells HP7.out
           have yf0:=yf 0
           have yf1:=yf 1
           have yf2:=yf 2
           have zf0:=zf 0
           have zf1:=zf 1
           have zf2:=zf 2
           clear yf zf
           clear hb7
           by_cases hXs:X=s
           ·have HOK:=hide (show txtM 2 z (dl ⟨#[]⟩)=dl s from by rw[←HXL.out,hXs])
            subst hXs
            go_wp2_with fail
            exact bodyPost_ret (v:= .tuple #[.agg #[.int .u8 2,.int .i64 z,.string ⟨#[]⟩],.int .i64 0]) (by simp [results,Tryz.results159,go_sem, *]) rfl (by have:=PrsPost.may (HP7.out.ret (.int .u8 2) (.int .i64 z) (.string ⟨#[]⟩)) H0.out H4.out HR.out HOK.out;rw[mk_dl] at this;exact this)
           ·have HBD:=hide (show txtM 2 z (dl ⟨#[]⟩)≠dl s from fun e=>hXs (dl_inj (by rw[HXL.out,e])))
            exact Qw9
         |false=>
          have HR:=hide (show readP (dl s)= .ok (1,z,dl (⟨#[]⟩:ByteArray)) by have:=HRE2.out;rw[if_pos hin] at this;exact this)
          obtain rfl:pt=false:=HPT.out
          go_wp2_with fail
          (with_reducible refine HIN.out.mono ?_)
          rintro e V2 ⟨he,hb2⟩
          unfold IntOut at he
          rw[if_pos hin,if_pos hin] at he
          subst he
          have HP2:=hide (HP.out.below hb2)
          clear y0 y1 y2 z0 z1 z2 yf0 yf1 yf2 zf0 zf1 zf2
          obtain⟨⟨y0,y1,y2,yf⟩,z0,z1,z2,zf⟩:=PvAt.cells HP2.out
          have yf0:=yf 0
          have yf1:=yf 1
          have yf2:=yf 2
          have zf0:=zf 0
          have zf1:=zf 1
          have zf2:=zf 2
          clear yf zf
          clear hb2 HP i0 i1
          have HP:=hide (HP2.out.set 1 z ⟨#[]⟩)
          clear HP2
          have hin2:=hin
          have HIZ:=hide hin
          clear hin hin2
          go_upto_region 18 with fail
          obtain⟨W,hW⟩:∃W,(((V2.setCell ⟨w.heap.size+1,0,none⟩ (.int .u8 1)).setCell ⟨w.heap.size+1,1,none⟩ (.int .i64 z)).setCell ⟨w.heap.size+1,2,none⟩ (.string ⟨#[]⟩))=W:=⟨_,rfl⟩
          rw[hW] at HP ⊢
          clear hW
          clear y0 y1 y2 z0 z1 z2 yf0 yf1 yf2 zf0 zf1 zf2
          obtain⟨⟨y0,y1,y2,yf⟩,z0,z1,z2,zf⟩:=PvAt.cells HP.out
          have yf0:=yf 0
          have yf1:=yf 1
          have yf2:=yf 2
          have zf0:=zf 0
          have zf1:=zf 1
          have zf2:=zf 2
          clear yf zf
          go_upto_region 20 with fail
          have hfit:(⟨1,z,⟨#[]⟩⟩:Vl).fit:=⟨by show ByteArray.size ⟨#[]⟩≤_;first|decide|omega,by show _≤(z:Int);have:=HZ.out;omega,by show(z:Int)≤_;have:=HZ.out;omega⟩
          have HMY:=hide (rmay_any ⟨1,z,⟨#[]⟩⟩ hfit.1 W)
          rw[mayB_L] at HMY
          have HTX:Hid (∀V,_):=hide fun V=>rtext_any ⟨1,z,⟨#[]⟩⟩ V hfit
          obtain⟨X,hX⟩:∃X,txtB ⟨1,z,⟨#[]⟩⟩=X:=⟨_,rfl⟩
          have hXl:dl X=txtM 1 z (dl ⟨#[]⟩):=by rw[←hX];rfl
          rw[hX] at HTX
          clear hX
          cases hmy:mayL 1 z (dl ⟨#[]⟩) with
          |false=>
           rw[show mayL (⟨1,z,⟨#[]⟩⟩:Vl).k (⟨1,z,⟨#[]⟩⟩:Vl).n (dl (⟨1,z,⟨#[]⟩⟩:Vl).s)=false from hmy] at HMY
           have HBD:=hide (show txtM 1 z (dl ⟨#[]⟩)≠dl s from fun e=>H0.out (by rw[←e];unfold txtM;rw[hmy];rfl))
           exact Qw8
          |true=>
           rw[show mayL (⟨1,z,⟨#[]⟩⟩:Vl).k (⟨1,z,⟨#[]⟩⟩:Vl).n (dl (⟨1,z,⟨#[]⟩⟩:Vl).s)=true from hmy] at HMY
           clear hmy hfit
           have HXL:=hide hXl
           clear hXl
           go_wp2_with fail
           (with_reducible refine HMY.out.mono ?_)
           rintro e V6 ⟨rfl,hb6⟩
           have HP6:=hide (HP.out.below hb6)
           clear y0 y1 y2 z0 z1 z2 yf0 yf1 yf2 zf0 zf1 zf2
           obtain⟨⟨y0,y1,y2,yf⟩,z0,z1,z2,zf⟩:=PvAt.cells HP6.out
           have yf0:=yf 0
           have yf1:=yf 1
           have yf2:=yf 2
           have zf0:=zf 0
           have zf1:=zf 1
           have zf2:=zf 2
           clear yf zf
           clear hb6
           go_wp2_with fail
           (with_reducible refine(HTX.out V6).mono ?_)
           rintro e V7 ⟨rfl,hb7⟩
           have HP7:=hide (HP6.out.below hb7)
           clear y0 y1 y2 z0 z1 z2 yf0 yf1 yf2 zf0 zf1 zf2
           obtain⟨⟨y0,y1,y2,yf⟩,z0,z1,z2,zf⟩:=PvAt.cells HP7.out
           have yf0:=yf 0
           have yf1:=yf 1
           have yf2:=yf 2
           have zf0:=zf 0
           have zf1:=zf 1
           have zf2:=zf 2
           clear yf zf
           clear hb7
           by_cases hXs:X=s
           ·have HOK:=hide (show txtM 1 z (dl ⟨#[]⟩)=dl s from by rw[←HXL.out,hXs])
            subst hXs
            go_wp2_with fail
            exact bodyPost_ret (v:= .tuple #[.agg #[.int .u8 1,.int .i64 z,.string ⟨#[]⟩],.int .i64 0]) (by simp [results,Tryz.results159,go_sem, *]) rfl (by have:=PrsPost.may (HP7.out.ret (.int .u8 1) (.int .i64 z) (.string ⟨#[]⟩)) H0.out H4.out HR.out HOK.out;rw[mk_dl] at this;exact this)
           ·have HBD:=hide (show txtM 1 z (dl ⟨#[]⟩)≠dl s from fun e=>hXs (dl_inj (by rw[HXL.out,e])))
            exact Qw9
        ·have HE:=hide (show prsL (dl s)= .error 9 from prsL_read H4.out (.inr ⟨H0.out,by rw[HRE2.out,if_neg hin]⟩))
         go_wp2_with fail
         (with_reducible refine HIN.out.mono ?_)
         rintro e V2 ⟨he,hb2⟩
         unfold IntOut at he
         rw[if_neg hin,if_neg hin] at he
         subst he
         have HP2:=hide (HP.out.below hb2)
         clear y0 y1 y2 z0 z1 z2 yf0 yf1 yf2 zf0 zf1 zf2
         obtain⟨⟨y0,y1,y2,yf⟩,z0,z1,z2,zf⟩:=PvAt.cells HP2.out
         have yf0:=yf 0
         have yf1:=yf 1
         have yf2:=yf 2
         have zf0:=zf 0
         have zf1:=zf 1
         have zf2:=zf 2
         clear yf zf
         clear hb2 HP i0 i1 hin
         go_wp2_with fail
         exact bodyPost_ret (v:= .tuple #[.agg #[.int .u8 0,.int .i64 0,.string ⟨#[]⟩],.int .i64 9]) (by simp [results,Tryz.results159,go_sem, *]) rfl (PrsPost.err (HP2.out.ret _ _ _) HE.out)
open Go Go.RowKit Go.Lib Go.Sort Go.Shelf
theorem lowC_dec (c:UInt8):lowC c=(decide (97≤(c.toNat:Int)) && decide ((c.toNat:Int)≤122)):=by
 unfold lowC
 congr 1
 ·exact decide_eq_decide.2 (by omega)
 ·exact decide_eq_decide.2 (by omega)
theorem digC_dec (c:UInt8):digC c=(decide (48≤(c.toNat:Int)) && decide ((c.toNat:Int)≤57)):=by
 unfold digC
 congr 1
 ·exact decide_eq_decide.2 (by omega)
 ·exact decide_eq_decide.2 (by omega)
theorem letter_any (c:UInt8)(w:World):Calls Tryz.prog 142 #[.int .u8 (c.toNat:Int)] w fun e w'=>e= .returned (.bool (lowC c))∧w=w':=by
 rw[lowC_dec]
 obtain⟨p,hp⟩:∃p,decide (97≤(c.toNat:Int))=p:=⟨_,rfl⟩
 obtain⟨q,hq⟩:∃q,decide ((c.toNat:Int)≤122)=q:=⟨_,rfl⟩
 cases p<;>cases q
 all_goals
  go_enter Tryz.func142,Tryz.ntmps142
  go_wp2
  go_ret
  exact⟨by simp [hp,hq],rfl⟩
theorem digit_any (c:UInt8)(w:World):Calls Tryz.prog 144 #[.int .u8 (c.toNat:Int)] w fun e w'=>e= .returned (.bool (digC c))∧w=w':=by
 rw[digC_dec]
 obtain⟨p,hp⟩:∃p,decide (48≤(c.toNat:Int))=p:=⟨_,rfl⟩
 obtain⟨q,hq⟩:∃q,decide ((c.toNat:Int)≤57)=q:=⟨_,rfl⟩
 cases p<;>cases q
 all_goals
  go_enter Tryz.func144,Tryz.ntmps144
  go_wp2
  go_ret
  exact⟨by simp [hp,hq],rfl⟩
def namC (c:UInt8):Bool:=lowC c||digC c
theorem named_any (c:UInt8)(w:World):Calls Tryz.prog 143 #[.int .u8 (c.toNat:Int)] w fun e w'=>e= .returned (.bool (namC c))∧w=w':=by
 unfold namC
 have h1:=letter_any c w
 have h2:=digit_any c w
 obtain⟨p,hp⟩:∃p,lowC c=p:=⟨_,rfl⟩
 obtain⟨q,hq⟩:∃q,digC c=q:=⟨_,rfl⟩
 rw[hp] at h1 ⊢
 rw[hq] at h2 ⊢
 have H1:=hide h1
 have H2:=hide h2
 clear h1 h2 hp hq
 cases p
 ·go_enter Tryz.func143,Tryz.ntmps143
  go_wp2_with fail
  (with_reducible refine H1.out.mono ?_)
  rintro e w' ⟨rfl,rfl⟩
  go_wp2_with fail
  (with_reducible refine H2.out.mono ?_)
  rintro e w' ⟨rfl,rfl⟩
  go_wp2
  go_ret
  exact⟨by simp,rfl⟩
 ·go_enter Tryz.func143,Tryz.ntmps143
  go_wp2_with fail
  (with_reducible refine H1.out.mono ?_)
  rintro e w' ⟨rfl,rfl⟩
  go_wp2
  go_ret
  exact⟨by simp,rfl⟩
theorem line_any (c:UInt8)(w:World):Calls Tryz.prog 140 #[.int .u8 (c.toNat:Int)] w fun e w'=>e= .returned (.bool (c !=10))∧w=w':=by
 have h:(c !=10)=((c.toNat:Int) !=10):=by
  by_cases e:c=10
  ·subst e;rfl
  ·have h1:(c !=10)=true:=by simpa using e
   have h2:c.toNat≠10:=fun q=>e (UInt8.toNat_inj.1 q)
   have h3:((c.toNat:Int) !=10)=true:=by simp;omega
   rw[h1,h3]
 rw[h]
 go_enter Tryz.func140,Tryz.ntmps140
 go_wp2
 go_ret
 exact⟨by simp,rfl⟩
set_option maxRecDepth 100000 in
set_option maxHeartbeats 1000000 in
theorem while_any (s:ByteArray)(fn:Nat)(caps:Array Value)(p:Nat→Bool)(I:Nat→World→Prop)(eg:∀args w,(callFunc fn args).run Tryz.prog w= .ok (.enter fn args) w)
 (hs:s.size≤9223372036854775806) (a n:Nat) (w:World) (han:a≤n) (hn:n≤s.size) (hlt:∀i,a≤i→i<n→p i=true) (hend:n<s.size→p n=false)
 (hI:I a w) (hstep:∀i V (h:i<s.size),a≤i→I i V→Calls Tryz.prog fn (#[.int .u8 (s[i].toNat:Int)]++caps) V fun e V'=>e= .returned (.bool (p i))∧I (i+1) V'):
 Calls Tryz.prog 139 #[.string s,.int .i64 a,.func (.func fn) #[] caps] w fun e w'=>e= .returned (.int .i64 ((n:Int) - (a:Int)))∧∃k,I k w':=by
 have Hlt:=hide hlt
 have Hend:=hide hend
 have Hst:=hide hstep
 have HI:=hide hI
 clear hlt hend hstep hI
 go_enter Tryz.func139,Tryz.ntmps139
 go_wp2
 go_loopw [7] (fun v7 wr=>∃i:Nat,a≤i∧i≤n∧v7= .int .i64 i∧Hid (I i wr)) (fun v7 _=>n - (intOf v7).toNat)
 case atStart=>exact⟨a,Nat.le_refl _,han,rfl,HI.out⟩
 case round=>
  obtain⟨i,hai,hin,rfl,hq⟩:=hrel
  by_cases hi:i<s.size
  ·have hc:=Hst.out i wr hi hai hq.out
   have j1:(i:Int)<(s.size:Int):=by omega
   have j0:(0:Int)≤(i:Int):=by omega
   by_cases hlt:i<n
   ·rw[Hlt.out i hai hlt] at hc
    have Hc:=hide hc
    clear hc hq
    go_wp2_with fail
    (with_reducible refine Hc.out.mono ?_)
    rintro e V ⟨rfl,hV⟩
    have HV:=hide hV
    clear hV Hc
    go_wp2
    go_roundw
    case rel=>exact⟨i+1,by omega,by omega,by go_num,HV.out⟩
    case measure=>simp [intOf];omega
   ·obtain rfl:i=n:=by omega
    rw[Hend.out hi] at hc
    have Hc:=hide hc
    clear hc hq
    go_wp2_with fail
    (with_reducible refine Hc.out.mono ?_)
    rintro e V ⟨rfl,hV⟩
    have HV:=hide hV
    clear hV Hc
    go_wp2
    go_ret
    exact⟨rfl,_,HV.out⟩
  ·obtain rfl:i=n:=by omega
   have j1:¬(i:Int)<(s.size:Int):=by omega
   go_wp2
   go_ret
   exact⟨rfl,_,hq.out⟩
def spanL (q:UInt8→Bool)(l:List UInt8):Nat:=(l.takeWhile q).length
theorem spanL_le (q:UInt8→Bool)(l:List UInt8):spanL q l≤l.length:=by
 unfold spanL
 have:=congrArg List.length (List.takeWhile_append_dropWhile (p:=q) (l:=l))
 rw[List.length_append] at this
 omega
theorem spanL_lt (q:UInt8→Bool):∀(l:List UInt8) (i:Nat),i<spanL q l→∃c,l[i]? =some c∧q c=true
 |[],i,h=>by simp [spanL] at h
 |c::l,i,h=>by
  unfold spanL at h
  rw[List.takeWhile_cons] at h
  by_cases hc:q c=true
  ·rw[if_pos hc] at h
   cases i with
   |zero=>exact⟨c,rfl,hc⟩
   |succ i=>
    obtain⟨d,h1,h2⟩:=spanL_lt q l i (by simpa[spanL] using h)
    exact⟨d,h1,h2⟩
  ·rw[if_neg hc] at h
   simp at h
theorem spanL_end (q:UInt8→Bool):∀(l:List UInt8),spanL q l<l.length→∃c,l[spanL q l]? =some c∧q c=false
 |[],h=>by simp [spanL] at h
 |c::l,h=>by
  unfold spanL at h ⊢
  rw[List.takeWhile_cons] at h ⊢
  by_cases hc:q c=true
  ·rw[if_pos hc] at h ⊢
   obtain⟨d,h1,h2⟩:=spanL_end q l (by simpa[spanL] using h)
   exact⟨d,by simpa[spanL] using h1,h2⟩
  ·rw[if_neg hc]
   exact⟨c,rfl,by simpa using hc⟩
theorem while_pure (s:ByteArray)(fn:Nat)(q:UInt8→Bool)(eg:∀args w,(callFunc fn args).run Tryz.prog w= .ok (.enter fn args) w)(hs:s.size≤9223372036854775806)(a:Nat)(w:World)(ha:a≤s.size)
 (hq:∀(c:UInt8) (V:World),Calls Tryz.prog fn #[.int .u8 (c.toNat:Int)] V fun e V'=>e= .returned (.bool (q c))∧V=V'):
 Calls Tryz.prog 139 #[.string s,.int .i64 a,.func (.func fn) #[] #[]] w fun e w'=>e= .returned (.int .i64 (spanL q ((dl s).drop a):Nat))∧w=w':=by
 have hle:=spanL_le q ((dl s).drop a)
 rw[List.length_drop,dl_size] at hle
 have hget:∀i (h:i<s.size),(dl s)[i]? =some s[i]:=fun i h=>dl_get h
 refine(while_any s fn #[] (fun i=>((dl s)[i]?.map q).getD false) (fun _ V=>w=V) eg hs a (a+spanL q ((dl s).drop a)) w (by omega) (by omega) (fun i h1 h2=>?_) (fun h=>?_) rfl (fun i V h _ hV=>?_)).mono ?_
 ·obtain⟨c,h3,h4⟩:=spanL_lt q ((dl s).drop a) (i - a) (by omega)
  rw[List.getElem?_drop,show a+(i - a)=i by omega] at h3
  simp [h3,h4]
 ·obtain⟨c,h3,h4⟩:=spanL_end q ((dl s).drop a) (by rw[List.length_drop,dl_size];omega)
  rw[List.getElem?_drop] at h3
  simp [h3,h4]
 ·refine(hq s[i] V).mono ?_
  rintro e V' ⟨rfl,rfl⟩
  exact⟨by rw[hget i h];rfl,hV⟩
 ·rintro e w' ⟨rfl,k,hk⟩
  exact⟨by congr 2;omega,hk⟩
end Go.Proofs.YtgfakdobajgnfaaGreatDoor
