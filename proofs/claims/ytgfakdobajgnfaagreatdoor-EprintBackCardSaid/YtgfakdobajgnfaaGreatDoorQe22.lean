import Derived.Test.YtgfakdobajgnfaaGreatDoorQe21
import Derived.Test.YtgfakdobajgnfaaGreatDoorQe9
set_option maxRecDepth 100000
set_option maxHeartbeats 16000000
namespace Go.Proofs.YtgfakdobajgnfaaGreatDoor
open Go Go.RowKit Go.Lib
theorem T6 (b:Bool)(w:World):Calls Tryz.prog 212 #[.bool b] w fun e w'=>e= .returned (.agg #[.int .u8 4,.int .i64 (if b=true then 1 else 0),.string ⟨#[]⟩])/\Below w.heap.size w w':=by
 cases b with
 |false=>
  go_enter Tryz.func212,Tryz.ntmps212
  go_wp2_with fail
  exact bodyPost_ret (v:= .agg #[.int .u8 4,.int .i64 0,.string ⟨#[]⟩]) (by simp [results,Tryz.results212,go_sem, *]) rfl ⟨rfl,by first|exact(((Below.refl _ _).alloc (Ak _) _).alloc rC _)|exact((((Below.refl _ _).alloc (Ak _) _).alloc rC _).setCell rC _)|exact(((((Below.refl _ _).alloc (Ak _) _).alloc rC _).setCell rC _).setCell rC _).setCell rC _|exact((((((Below.refl _ _).alloc (Ak _) _).alloc rC _).setCell rC _).setCell rC _).setCell rC _).setCell rC _⟩
 |true=>
  go_enter Tryz.func212,Tryz.ntmps212
  go_wp2_with fail
  exact bodyPost_ret (v:= .agg #[.int .u8 4,.int .i64 1,.string ⟨#[]⟩]) (by simp [results,Tryz.results212,go_sem, *]) rfl ⟨rfl,by first|exact(((Below.refl _ _).alloc (Ak _) _).alloc rC _)|exact((((Below.refl _ _).alloc (Ak _) _).alloc rC _).setCell rC _)|exact(((((Below.refl _ _).alloc (Ak _) _).alloc rC _).setCell rC _).setCell rC _).setCell rC _|exact((((((Below.refl _ _).alloc (Ak _) _).alloc rC _).setCell rC _).setCell rC _).setCell rC _).setCell rC _⟩
theorem Rg {c:UInt8}{r:List UInt8}(hc:A3 c=false)(h45:c≠45):Fv (c::r)=none:=by
 have hb:(if(c::r).head? =some 45 then(c::r).tail else c::r)=c::r:=if_neg (by simpa using h45)
 exact Da.bad hb (Da.start (c::r) 0) rC (by simpa using hc) (fun h=>by have:=h.2.2;omega)
theorem fR {l:List UInt8}(h:l.head? =some 35):E0 l= .ok (5,0,l.tail):=by
 match l,h with
 |c::r,h=>simp at h;subst h;rfl
theorem gN {l:List UInt8}(h:l.head? =some 34):E0 l= .ok (3,0,B4 l.tail):=by
 match l,h with
 |c::r,h=>simp at h;subst h;rfl
theorem aV {l:List UInt8}(h1:l≠[116,114,117,101])(h2:l≠[102,97,108,115,101])(h3:l≠[110,117,108,108])(h4:l.head?≠some 35)(h5:l.head?≠some 34)(h6:l≠[]):
 E0 l=match Fv l with|none=> .error 4|some z=>if inR z.1 then .ok (if z.2 then 2 else 1,z.1,[]) else .error 9:=by
 match l,h6 with
 |c::r,_=>
  by_cases c1:c=116
  ·subst c1
   rw[Rg rB rB]
   show(if r=[114,117,101] then _ else _)=_
   rw[if_neg fun e=>h1 (by rw[e])]
  by_cases c2:c=102
  ·subst c2
   rw[Rg rB rB]
   show(if r=[97,108,115,101] then _ else _)=_
   rw[if_neg fun e=>h2 (by rw[e])]
  by_cases c3:c=110
  ·subst c3
   rw[Rg rB rB]
   show(if r=[117,108,108] then _ else _)=_
   rw[if_neg fun e=>h3 (by rw[e])]
  rw[Vt ⟨fun e=>h5 rR,fun e=>h4 rR,c1,c2,c3⟩,eJ]
  cases Fv (c::r) with
  |none=>rfl
  |some z=>
   simp only
   split<;>rfl
theorem iM {l:List UInt8}{z:Int×Bool}(h:Fv l=some z)(h4:l.length<=402):Bo z.1.natAbs<=102:=by
 unfold Fv at h
 simp only at h
 generalize hc:cut (if l.head? =some 45 then l.tail else l) [46]=c at h
 obtain⟨a,r,f⟩:=c
 simp only at h
 by_cases hbad:((!G2 a||(decide (1<a.length) && a.head? ==some 48))||(f && (!G2 r||decide (4<r.length))))=true
 ·rw[if_pos hbad] at h;cases h
 ·rw[if_neg hbad] at h
  simp only[Bool.or_eq_true,Bool.and_eq_true,not_or,not_and,Bool.not_eq_true',Bool.not_eq_true,decide_eq_false_iff_not,Bool.not_eq_false] at hbad
  obtain⟨⟨h1,_⟩,h2⟩:=hbad
  obtain⟨ha,had⟩:=Gu h1
  injection h with h
  subst h
  have hal:a.length<=402:=by
   have hx:(if l.head? =some 45 then l.tail else l).length<=402:=by
    split
    ·rw[List.length_tail];omega
    ·exact h4
   rcases N2 46 (if l.head? =some 45 then l.tail else l) with q|⟨a',r',q,q2⟩
   ·rw[Mk q] at hc
    injection hc with hc _
    rw[←hc];exact hx
   ·rw[q,Jk a' r' q2] at hc
    injection hc with hc _
    rw[←hc]
    rw[q] at hx
    simp at hx
    omega
  have:∀(b:Bool) (d:List UInt8),(Km b (val d 0)).natAbs=val d 0:=fun b d=>by unfold Km;split<;>simp
  simp only[this]
  refine Wr ?_ ?_
  ·exact zyb
  ·split
   ·rw[Ab,List.length_take];omega
   ·omega
theorem B3.may {w w':World}{l S:List UInt8}{k n:Int}(hb:Below w.heap.size w w')(h0:l≠[])(h4:l.length<=402)(hr:E0 l= .ok (k,n,S))(hm:C9 k n S=l):B3 w (Dy l) (.returned (.tuple #[.agg #[.int .u8 k,.int .i64 n,.string ⟨S.toArray⟩],.int .i64 0])) w':=by
 refine⟨hb,?_⟩
 unfold Dy
 rw[if_neg rA,if_neg h0,hr]
 simp only
 rw[if_pos hm]
theorem B3.bad {w w':World}{l S:List UInt8}{k n:Int}(hb:Below w.heap.size w w')(h0:l≠[])(h4:l.length<=402)(hr:E0 l= .ok (k,n,S))(hm:C9 k n S≠l):B3 w (Dy l) (.returned (.tuple #[.agg #[.int .u8 0,.int .i64 0,.string ⟨#[]⟩],.int .i64 4])) w':=by
 refine⟨hb,?_⟩
 unfold Dy
 rw[if_neg rA,if_neg h0,hr]
 simp only
 rw[if_neg hm]
theorem B3.err {w w':World}{l:List UInt8}{e:Int}(hb:Below w.heap.size w w')(h:Dy l= .error e):B3 w (Dy l) (.returned (.tuple #[.agg #[.int .u8 0,.int .i64 0,.string ⟨#[]⟩],.int .i64 e])) w':=by
 refine⟨hb,?_⟩
 rw[h]
theorem Vi {l:List UInt8}{e:Int}(h4:l.length<=402)(h:l=[]/\e=4\/l≠[]/\E0 l= .error e):Dy l= .error e:=by
 unfold Dy
 rw[if_neg rA]
 rcases h with ⟨rfl,rfl⟩|⟨h,hr⟩
 ·rw[if_pos rfl]
 ·rw[if_neg h,hr]
structure D9 (w wr:World)(k n:Int)(S:ByteArray):Prop where
 r:wr.heap[w.heap.size]? =some (.cells #[.int .u8 0,.int .i64 0,.string ⟨#[]⟩] 23 (0,0))
 x:wr.heap[w.heap.size+1]? =some (.cells #[.int .u8 k,.int .i64 n,.string S] 23 (0,0))
 bel:Below w.heap.size w wr
theorem D9.below {w wr V:World}{k n:Int}{S:ByteArray}(h:D9 w wr k n S)(hb:Below wr.heap.size wr V):D9 w V k n S:=
 ⟨(hb.block _ (Bm h.r)).trans h.r,(hb.block _ (Bm h.x)).trans h.x,h.bel.trans (hb.mono h.bel.size)⟩
theorem lW (w:World):D9 w ((w.alloc (.cells #[.int .u8 0,.int .i64 0,.string ⟨#[]⟩] 23)).alloc (.cells #[.int .u8 0,.int .i64 0,.string ⟨#[]⟩] 23)) 0 0 ⟨#[]⟩:=by
 refine⟨?_,?_,((Below.refl _ _).alloc (Ak _) _).alloc rC _⟩
 ·rw[Below.heap_alloc _ _ _ rC];exact Au _ _
 ·have:=Au (w.alloc (.cells #[.int .u8 0,.int .i64 0,.string ⟨#[]⟩] 23)) (.cells #[.int .u8 0,.int .i64 0,.string ⟨#[]⟩] 23)
  simpa using this
theorem D9.cells {w wr:World}{k n:Int}{S:ByteArray}(h:D9 w wr k n S):(wr.cell? ⟨w.heap.size+1,0,none⟩=some (.int .u8 k)/\wr.cell? ⟨w.heap.size+1,1,none⟩=some (.int .i64 n)/\wr.cell? ⟨w.heap.size+1,2,none⟩=some (.string S)/\∀i,wr.frozen? ⟨w.heap.size+1,i,none⟩=false)/\
 wr.cell? ⟨w.heap.size,0,none⟩=some (.int .u8 0)/\wr.cell? ⟨w.heap.size,1,none⟩=some (.int .i64 0)/\wr.cell? ⟨w.heap.size,2,none⟩=some (.string ⟨#[]⟩)/\∀i,wr.frozen? ⟨w.heap.size,i,none⟩=false:=
 ⟨⟨by simp only[World.cell?,h.x];rfl,by simp only[World.cell?,h.x];rfl,by simp only[World.cell?,h.x];rfl,fun i=>by simp only[World.frozen?,h.x];simp⟩,
  by simp only[World.cell?,h.r];rfl,by simp only[World.cell?,h.r];rfl,by simp only[World.cell?,h.r];rfl,fun i=>by simp only[World.frozen?,h.r];simp⟩
theorem D9.set {w wr:World}{k n:Int}{S:ByteArray}(h:D9 w wr k n S)(k' n':Int)(S':ByteArray):D9 w (((wr.setCell ⟨w.heap.size+1,0,none⟩ (.int .u8 k')).setCell ⟨w.heap.size+1,1,none⟩ (.int .i64 n')).setCell ⟨w.heap.size+1,2,none⟩ (.string S')) k' n' S':=by
 have h1:=Av (i:=2) (u:= .string S') (Av (i:=1) (u:= .int .i64 n') (Av (i:=0) (u:= .int .u8 k') h.x))
 have o1:A4 [w.heap.size+1] wr (((wr.setCell ⟨w.heap.size+1,0,none⟩ (.int .u8 k')).setCell ⟨w.heap.size+1,1,none⟩ (.int .i64 n')).setCell ⟨w.heap.size+1,2,none⟩ (.string S')):=(((A4.refl _ _).setCell (.inl rC) _).setCell (.inl rC) _).setCell (.inl rC) _
 exact⟨(o1.block _ (Bm h.r) rC).trans h.r,h1,((h.bel.setCell rC _).setCell rC _).setCell rC _⟩
theorem D9.set0 {w wr:World}{k n:Int}{S:ByteArray}(h:D9 w wr k n S)(k':Int):D9 w (wr.setCell ⟨w.heap.size+1,0,none⟩ (.int .u8 k')) k' n S:=by
 have h1:=Av (i:=0) (u:= .int .u8 k') h.x
 have o1:A4 [w.heap.size+1] wr (wr.setCell ⟨w.heap.size+1,0,none⟩ (.int .u8 k')):=(A4.refl _ _).setCell (.inl rC) _
 exact⟨(o1.block _ (Bm h.r) rC).trans h.r,h1,h.bel.setCell rC _⟩
theorem D9.ret {w wr:World}{k n:Int}{S:ByteArray}(h:D9 w wr k n S)(u0 u1 u2:Value):Below w.heap.size w (((wr.setCell ⟨w.heap.size,0,none⟩ u0).setCell ⟨w.heap.size,1,none⟩ u1).setCell ⟨w.heap.size,2,none⟩ u2):=
 ((h.bel.setCell (Ak _) _).setCell (Ak _) _).setCell (Ak _) _
theorem aS (s:ByteArray)(i:Int)(h0:0<=i)(h1:i<=(s.size:Int))(W:World):(Instr.slice 9 (.string s) (some (.int .i64 i)) none none).run Tryz.prog W= .ok (.string (s.extract i.toNat s.size)) W:=
 run_slice_string_l W 9 s Tryz.underlying9 .i64 i h0 h1
theorem Q9:∀(k:Nat) (l:List UInt8),l.length<=k->(B4 l).length<=l.length
 |0,l,h=>by
  have:l=[]:=List.eq_nil_of_length_eq_zero rA
  subst this
  exact Ak _
 |k+1,[],_=>Ak _
 |k+1,[c],_=>by simp [B4]
 |k+1,c::y::r,h=>by
  rw[B4]
  split
  ·have:=Q9 k r (by simp at h;omega)
   simp
   omega
  ·have:=Q9 k (y::r) (by simp at h ⊢;omega)
   simp at this ⊢
   omega
theorem eE {s:ByteArray}(h:s.size<=402):(B4 (dl s).tail).length<=402:=by
 have:=Q9 _ (dl s).tail (Ak _)
 rw[List.length_tail,Ax] at this
 omega
theorem Tw (s:ByteArray)(w:World)(hs:s.size<=9223372036854775807):Calls Tryz.prog 159 #[.string s] w (B3 w (Dy (dl s))):=by
 by_cases hbig:402<s.size
 ·have p0:(402:Int)<(s.size:Int):=by omega
  have HE:=Ao (show Dy (dl s)= .error 3 by unfold Dy;rw[if_pos (by rw[Ax];exact hbig)])
  clear hbig
  go_enter Tryz.func159,Tryz.ntmps159
  go_wp2_with fail
  exact bodyPost_ret (v:= .tuple #[.agg #[.int .u8 0,.int .i64 0,.string ⟨#[]⟩],.int .i64 3]) rE rfl (B3.err ((Below.refl _ _).alloc (Ak _) _) HE.out)
 ·have hsm:s.size<=402:=by omega
  have p0:decide (402<s.size)=false:=An hbig
  have p1:decide ((402:Int)<(s.size:Int))=false:=An rA
  have H4:Hid ((dl s).length<=402):=Ao (by rw[Ax];exact hsm)
  have HPS:=Ao (lW w)
  obtain⟨W1,hW1⟩:∃W1,(w.alloc (.cells #[.int .u8 0,.int .i64 0,.string ⟨#[]⟩] 23)).alloc (.cells #[.int .u8 0,.int .i64 0,.string ⟨#[]⟩] 23)=W1:=⟨_,rfl⟩
  rw[hW1] at HPS
  have HW1:=Ao hW1
  have HNM:=Ao (Yl (w:=W1) s hsm)
  clear hW1 hbig hs
  go_enter Tryz.func159,Tryz.ntmps159
  go_upto_region 4 with fail
  rw[HW1.out]
  go_wp2_with fail
  refine HNM.out.mono ?_
  rintro e V1 ⟨hb1,nb,na,nn,nc,pt,ok,rfl,hnum⟩
  have HP1:=Ao (HPS.out.below hb1)
  have HNU:=Ao hnum
  have hal:=(Below.refl V1.heap.size V1).alloc (Ak _) (.cells #[.bool nb,.slice na nn nc] 79)
  have HP:=Ao (HP1.out.below hal)
  have HAL:=Ao hal
  have HBX:=Ao (Au V1 (.cells #[.bool nb,.slice na nn nc] 79))
  clear hb1 hnum hal HNM HPS HW1
  go_upto_region 6 with fail
  obtain⟨⟨y0,y1,y2,yf⟩,z0,z1,z2,zf⟩:=D9.cells HP.out
  have yf0:=yf 0
  have yf1:=yf 1
  have yf2:=yf 2
  have zf0:=zf 0
  have zf1:=zf 1
  have zf2:=zf 2
  clear yf zf
  obtain⟨Wn,hWn⟩:∃Wn,(V1.alloc (.cells #[.bool nb,.slice na nn nc] 79))=Wn:=⟨_,rfl⟩
  rw[hWn] at HP HAL HBX y0 y1 y2 z0 z1 z2 yf0 yf1 yf2 zf0 zf1 zf2 ⊢
  clear hWn
  by_cases hw:s=⟨#[116,114,117,101]⟩
  ·have H0:Hid (dl s≠[]):=Ao (by rw[hw];decide)
   have HR:=Ao (show E0 (dl s)= .ok (4,1,dl (⟨#[]⟩:ByteArray)) by rw[hw];rfl)
   have tb:(s.toList==[116,114,117,101])=true:=by rw[Ap,hw];rfl
   have fb:(s.toList==[102,97,108,115,101])=false:=by rw[Ap,hw];rfl
   have nb:(s.toList==[110,117,108,108])=false:=by rw[Ap,hw];rfl
   clear hsm hw
   have HT:=Ao (T6 true Wn)
   go_wp2_with fail
   refine HT.out.mono ?_
   rintro e V2 ⟨rfl,hb2⟩
   have HP2:=Ao (HP.out.below hb2)
   clear y0 y1 y2 z0 z1 z2 yf0 yf1 yf2 zf0 zf1 zf2
   obtain⟨⟨y0,y1,y2,yf⟩,z0,z1,z2,zf⟩:=D9.cells HP2.out
   have yf0:=yf 0
   have yf1:=yf 1
   have yf2:=yf 2
   have zf0:=zf 0
   have zf1:=zf 1
   have zf2:=zf 2
   clear yf zf
   clear hb2 HP
   have HP:=Ao (HP2.out.set 4 1 ⟨#[]⟩)
   clear HP2
   go_upto_region 20 with fail
   obtain⟨W,hW⟩:∃W,(((V2.setCell ⟨w.heap.size+1,0,none⟩ (.int .u8 4)).setCell ⟨w.heap.size+1,1,none⟩ (.int .i64 1)).setCell ⟨w.heap.size+1,2,none⟩ (.string ⟨#[]⟩))=W:=⟨_,rfl⟩
   (try simp only[if_true,if_false,Bool.false_eq_true])
   rw[hW] at HP ⊢
   clear hW
   clear y0 y1 y2 z0 z1 z2 yf0 yf1 yf2 zf0 zf1 zf2
   obtain⟨⟨y0,y1,y2,yf⟩,z0,z1,z2,zf⟩:=D9.cells HP.out
   have yf0:=yf 0
   have yf1:=yf 1
   have yf2:=yf 2
   have zf0:=zf 0
   have zf1:=zf 1
   have zf2:=zf 2
   clear yf zf
   have hfit:(⟨4,1,⟨#[]⟩⟩:Vl).fit:=⟨by show ByteArray.size ⟨#[]⟩<=_;first|decide|omega,by show _<=(1:Int);decide,by show(1:Int)<=_;decide⟩
   have HMY:=Ao (I1 ⟨4,1,⟨#[]⟩⟩ hfit.1 W)
   rw[Ly] at HMY
   have HTX:Hid (∀V,_):=Ao fun V=>Il ⟨4,1,⟨#[]⟩⟩ V hfit
   obtain⟨X,hX⟩:∃X,Oy ⟨4,1,⟨#[]⟩⟩=X:=⟨_,rfl⟩
   have hXl:dl X=C9 4 1 (dl ⟨#[]⟩):=by rw[←hX];rfl
   rw[hX] at HTX
   clear hX
   cases hmy:Gm 4 1 (dl ⟨#[]⟩) with
   |false=>
    rw[show Gm (⟨4,1,⟨#[]⟩⟩:Vl).k (⟨4,1,⟨#[]⟩⟩:Vl).n (dl (⟨4,1,⟨#[]⟩⟩:Vl).s)=false from hmy] at HMY
    have HBD:=Ao (show C9 4 1 (dl ⟨#[]⟩)≠dl s from fun e=>H0.out sG)
    exact zz1
   |true=>
    rw[show Gm (⟨4,1,⟨#[]⟩⟩:Vl).k (⟨4,1,⟨#[]⟩⟩:Vl).n (dl (⟨4,1,⟨#[]⟩⟩:Vl).s)=true from hmy] at HMY
    clear hmy hfit
    have HXL:=Ao hXl
    clear hXl
    go_wp2_with fail
    refine HMY.out.mono ?_
    rintro e V6 ⟨rfl,hb6⟩
    have HP6:=Ao (HP.out.below hb6)
    clear y0 y1 y2 z0 z1 z2 yf0 yf1 yf2 zf0 zf1 zf2
    obtain⟨⟨y0,y1,y2,yf⟩,z0,z1,z2,zf⟩:=D9.cells HP6.out
    have yf0:=yf 0
    have yf1:=yf 1
    have yf2:=yf 2
    have zf0:=zf 0
    have zf1:=zf 1
    have zf2:=zf 2
    clear yf zf
    clear hb6
    go_wp2_with fail
    refine(HTX.out V6).mono ?_
    rintro e V7 ⟨rfl,hb7⟩
    have HP7:=Ao (HP6.out.below hb7)
    clear y0 y1 y2 z0 z1 z2 yf0 yf1 yf2 zf0 zf1 zf2
    obtain⟨⟨y0,y1,y2,yf⟩,z0,z1,z2,zf⟩:=D9.cells HP7.out
    have yf0:=yf 0
    have yf1:=yf 1
    have yf2:=yf 2
    have zf0:=zf 0
    have zf1:=zf 1
    have zf2:=zf 2
    clear yf zf
    clear hb7
    by_cases hXs:X=s
    ·have HOK:=Ao (show C9 4 1 (dl ⟨#[]⟩)=dl s from by rw[←HXL.out,hXs])
     subst hXs
     go_wp2_with fail
     exact bodyPost_ret (v:= .tuple #[.agg #[.int .u8 4,.int .i64 1,.string ⟨#[]⟩],.int .i64 0]) rE rfl (by have:=B3.may (HP7.out.ret (.int .u8 4) (.int .i64 1) (.string ⟨#[]⟩)) H0.out H4.out HR.out HOK.out;rw[Kt] at this;exact this)
    ·have HBD:=Ao (show C9 4 1 (dl ⟨#[]⟩)≠dl s from fun e=>hXs (Cg tL))
     exact zzr
  ·have tb:(s.toList==[116,114,117,101])=false:=by rw[Ap];exact Af.2 (fun e=>hw (Cg e))
   have tc:dl s≠[116,114,117,101]:=fun e=>hw (Cg e)
   have td:=Ao tc
   clear tc hw
   by_cases hw:s=⟨#[102,97,108,115,101]⟩
   ·clear tb td
    have H0:Hid (dl s≠[]):=Ao (by rw[hw];decide)
    have HR:=Ao (show E0 (dl s)= .ok (4,0,dl (⟨#[]⟩:ByteArray)) by rw[hw];rfl)
    have tb:(s.toList==[116,114,117,101])=false:=by rw[Ap,hw];rfl
    have fb:(s.toList==[102,97,108,115,101])=true:=by rw[Ap,hw];rfl
    have nb:(s.toList==[110,117,108,108])=false:=by rw[Ap,hw];rfl
    clear hsm hw
    have HT:=Ao (T6 false Wn)
    go_wp2_with fail
    refine HT.out.mono ?_
    rintro e V2 ⟨rfl,hb2⟩
    have HP2:=Ao (HP.out.below hb2)
    clear y0 y1 y2 z0 z1 z2 yf0 yf1 yf2 zf0 zf1 zf2
    obtain⟨⟨y0,y1,y2,yf⟩,z0,z1,z2,zf⟩:=D9.cells HP2.out
    have yf0:=yf 0
    have yf1:=yf 1
    have yf2:=yf 2
    have zf0:=zf 0
    have zf1:=zf 1
    have zf2:=zf 2
    clear yf zf
    clear hb2 HP
    have HP:=Ao (HP2.out.set 4 0 ⟨#[]⟩)
    clear HP2
    go_upto_region 20 with fail
    obtain⟨W,hW⟩:∃W,(((V2.setCell ⟨w.heap.size+1,0,none⟩ (.int .u8 4)).setCell ⟨w.heap.size+1,1,none⟩ (.int .i64 0)).setCell ⟨w.heap.size+1,2,none⟩ (.string ⟨#[]⟩))=W:=⟨_,rfl⟩
    (try simp only[if_true,if_false,Bool.false_eq_true])
    rw[hW] at HP ⊢
    clear hW
    clear y0 y1 y2 z0 z1 z2 yf0 yf1 yf2 zf0 zf1 zf2
    obtain⟨⟨y0,y1,y2,yf⟩,z0,z1,z2,zf⟩:=D9.cells HP.out
    have yf0:=yf 0
    have yf1:=yf 1
    have yf2:=yf 2
    have zf0:=zf 0
    have zf1:=zf 1
    have zf2:=zf 2
    clear yf zf
    have hfit:(⟨4,0,⟨#[]⟩⟩:Vl).fit:=⟨by show ByteArray.size ⟨#[]⟩<=_;first|decide|omega,by show _<=(0:Int);decide,by show(0:Int)<=_;decide⟩
    have HMY:=Ao (I1 ⟨4,0,⟨#[]⟩⟩ hfit.1 W)
    rw[Ly] at HMY
    have HTX:Hid (∀V,_):=Ao fun V=>Il ⟨4,0,⟨#[]⟩⟩ V hfit
    obtain⟨X,hX⟩:∃X,Oy ⟨4,0,⟨#[]⟩⟩=X:=⟨_,rfl⟩
    have hXl:dl X=C9 4 0 (dl ⟨#[]⟩):=by rw[←hX];rfl
    rw[hX] at HTX
    clear hX
    cases hmy:Gm 4 0 (dl ⟨#[]⟩) with
    |false=>
     rw[show Gm (⟨4,0,⟨#[]⟩⟩:Vl).k (⟨4,0,⟨#[]⟩⟩:Vl).n (dl (⟨4,0,⟨#[]⟩⟩:Vl).s)=false from hmy] at HMY
     have HBD:=Ao (show C9 4 0 (dl ⟨#[]⟩)≠dl s from fun e=>H0.out sG)
     exact zz1
    |true=>
     rw[show Gm (⟨4,0,⟨#[]⟩⟩:Vl).k (⟨4,0,⟨#[]⟩⟩:Vl).n (dl (⟨4,0,⟨#[]⟩⟩:Vl).s)=true from hmy] at HMY
     clear hmy hfit
     have HXL:=Ao hXl
     clear hXl
     go_wp2_with fail
     refine HMY.out.mono ?_
     rintro e V6 ⟨rfl,hb6⟩
     have HP6:=Ao (HP.out.below hb6)
     clear y0 y1 y2 z0 z1 z2 yf0 yf1 yf2 zf0 zf1 zf2
     obtain⟨⟨y0,y1,y2,yf⟩,z0,z1,z2,zf⟩:=D9.cells HP6.out
     have yf0:=yf 0
     have yf1:=yf 1
     have yf2:=yf 2
     have zf0:=zf 0
     have zf1:=zf 1
     have zf2:=zf 2
     clear yf zf
     clear hb6
     go_wp2_with fail
     refine(HTX.out V6).mono ?_
     rintro e V7 ⟨rfl,hb7⟩
     have HP7:=Ao (HP6.out.below hb7)
     clear y0 y1 y2 z0 z1 z2 yf0 yf1 yf2 zf0 zf1 zf2
     obtain⟨⟨y0,y1,y2,yf⟩,z0,z1,z2,zf⟩:=D9.cells HP7.out
     have yf0:=yf 0
     have yf1:=yf 1
     have yf2:=yf 2
     have zf0:=zf 0
     have zf1:=zf 1
     have zf2:=zf 2
     clear yf zf
     clear hb7
     by_cases hXs:X=s
     ·have HOK:=Ao (show C9 4 0 (dl ⟨#[]⟩)=dl s from by rw[←HXL.out,hXs])
      subst hXs
      go_wp2_with fail
      exact bodyPost_ret (v:= .tuple #[.agg #[.int .u8 4,.int .i64 0,.string ⟨#[]⟩],.int .i64 0]) rE rfl (by have:=B3.may (HP7.out.ret (.int .u8 4) (.int .i64 0) (.string ⟨#[]⟩)) H0.out H4.out HR.out HOK.out;rw[Kt] at this;exact this)
     ·have HBD:=Ao (show C9 4 0 (dl ⟨#[]⟩)≠dl s from fun e=>hXs (Cg tL))
      exact zzr
   ·have fb:(s.toList==[102,97,108,115,101])=false:=by rw[Ap];exact Af.2 (fun e=>hw (Cg e))
    have fc:dl s≠[102,97,108,115,101]:=fun e=>hw (Cg e)
    have fd:=Ao fc
    clear fc hw
    by_cases hw:s=⟨#[110,117,108,108]⟩
    ·clear tb td fb fd
     have H0:Hid (dl s≠[]):=Ao (by rw[hw];decide)
     have HR:=Ao (show E0 (dl s)= .ok (0,0,dl (⟨#[]⟩:ByteArray)) by rw[hw];rfl)
     have tb:(s.toList==[116,114,117,101])=false:=by rw[Ap,hw];rfl
     have fb:(s.toList==[102,97,108,115,101])=false:=by rw[Ap,hw];rfl
     have nb:(s.toList==[110,117,108,108])=true:=by rw[Ap,hw];rfl
     clear hsm hw
     go_upto_region 20 with fail
     have hfit:(⟨0,0,⟨#[]⟩⟩:Vl).fit:=⟨by show ByteArray.size ⟨#[]⟩<=_;first|decide|omega,by show _<=(0:Int);decide,by show(0:Int)<=_;decide⟩
     have HMY:=Ao (I1 ⟨0,0,⟨#[]⟩⟩ hfit.1 Wn)
     rw[Ly] at HMY
     have HTX:Hid (∀V,_):=Ao fun V=>Il ⟨0,0,⟨#[]⟩⟩ V hfit
     obtain⟨X,hX⟩:∃X,Oy ⟨0,0,⟨#[]⟩⟩=X:=⟨_,rfl⟩
     have hXl:dl X=C9 0 0 (dl ⟨#[]⟩):=by rw[←hX];rfl
     rw[hX] at HTX
     clear hX
     cases hmy:Gm 0 0 (dl ⟨#[]⟩) with
     |false=>
      rw[show Gm (⟨0,0,⟨#[]⟩⟩:Vl).k (⟨0,0,⟨#[]⟩⟩:Vl).n (dl (⟨0,0,⟨#[]⟩⟩:Vl).s)=false from hmy] at HMY
      have HBD:=Ao (show C9 0 0 (dl ⟨#[]⟩)≠dl s from fun e=>H0.out sG)
      exact zz1
     |true=>
      rw[show Gm (⟨0,0,⟨#[]⟩⟩:Vl).k (⟨0,0,⟨#[]⟩⟩:Vl).n (dl (⟨0,0,⟨#[]⟩⟩:Vl).s)=true from hmy] at HMY
      clear hmy hfit
      have HXL:=Ao hXl
      clear hXl
      go_wp2_with fail
      refine HMY.out.mono ?_
      rintro e V6 ⟨rfl,hb6⟩
      have HP6:=Ao (HP.out.below hb6)
      clear y0 y1 y2 z0 z1 z2 yf0 yf1 yf2 zf0 zf1 zf2
      obtain⟨⟨y0,y1,y2,yf⟩,z0,z1,z2,zf⟩:=D9.cells HP6.out
      have yf0:=yf 0
      have yf1:=yf 1
      have yf2:=yf 2
      have zf0:=zf 0
      have zf1:=zf 1
      have zf2:=zf 2
      clear yf zf
      clear hb6
      go_wp2_with fail
      refine(HTX.out V6).mono ?_
      rintro e V7 ⟨rfl,hb7⟩
      have HP7:=Ao (HP6.out.below hb7)
      clear y0 y1 y2 z0 z1 z2 yf0 yf1 yf2 zf0 zf1 zf2
      obtain⟨⟨y0,y1,y2,yf⟩,z0,z1,z2,zf⟩:=D9.cells HP7.out
      have yf0:=yf 0
      have yf1:=yf 1
      have yf2:=yf 2
      have zf0:=zf 0
      have zf1:=zf 1
      have zf2:=zf 2
      clear yf zf
      clear hb7
      by_cases hXs:X=s
      ·have HOK:=Ao (show C9 0 0 (dl ⟨#[]⟩)=dl s from by rw[←HXL.out,hXs])
       subst hXs
       go_wp2_with fail
       exact bodyPost_ret (v:= .tuple #[.agg #[.int .u8 0,.int .i64 0,.string ⟨#[]⟩],.int .i64 0]) rE rfl (by have:=B3.may (HP7.out.ret (.int .u8 0) (.int .i64 0) (.string ⟨#[]⟩)) H0.out H4.out HR.out HOK.out;rw[Kt] at this;exact this)
      ·have HBD:=Ao (show C9 0 0 (dl ⟨#[]⟩)≠dl s from fun e=>hXs (Cg tL))
       exact zzr
    ·have nb:(s.toList==[110,117,108,108])=false:=by rw[Ap];exact Af.2 (fun e=>hw (Cg e))
     have nc:dl s≠[110,117,108,108]:=fun e=>hw (Cg e)
     have nd:=Ao nc
     clear nc hw
     by_cases h35:(dl s).head? =some 35
     ·have hp:0<s.size:=by rcases Nat.eq_zero_or_pos s.size with h|h;(have:=Ax s;rw[h] at this;rw[List.eq_nil_of_length_eq_zero this] at h35;cases h35);exact h
      have H0:Hid (dl s≠[]):=Ao (fun e=>by rw[e] at h35;cases h35)
      have c0:s[0]=35:=by rw[L0 hp] at h35;exact Option.some.inj h35
      have d0:((s[0].toNat:Int)==35)=true:=by rw[c0];rfl
      have HR:=Ao (show E0 (dl s)= .ok (5,0,dl (s.extract 1 s.size)) by rw[F1,List.drop_one];exact fR h35)
      have hsl:=aS s 1 rA rA
      rw[show((1:Int)).toNat=1 from rfl] at hsl
      obtain⟨S,hS⟩:∃S,s.extract 1 s.size=S:=⟨_,rfl⟩
      have hSs:S.size<=402:=by rw[←hS,ByteArray.size_extract];omega
      rw[hS] at HR hsl
      clear c0 h35 hS
      have HP5:=Ao (HP.out.set 5 0 S)
      clear HP
      have HP:=HP5
      clear HP5
      go_upto_region 20 with fail
      obtain⟨W,hW⟩:∃W,(((Wn.setCell ⟨w.heap.size+1,0,none⟩ (.int .u8 5)).setCell ⟨w.heap.size+1,1,none⟩ (.int .i64 0)).setCell ⟨w.heap.size+1,2,none⟩ (.string S))=W:=⟨_,rfl⟩
      rw[hW] at HP ⊢
      clear hW
      clear y0 y1 y2 z0 z1 z2 yf0 yf1 yf2 zf0 zf1 zf2
      obtain⟨⟨y0,y1,y2,yf⟩,z0,z1,z2,zf⟩:=D9.cells HP.out
      have yf0:=yf 0
      have yf1:=yf 1
      have yf2:=yf 2
      have zf0:=zf 0
      have zf1:=zf 1
      have zf2:=zf 2
      clear yf zf
      have hfit:(⟨5,0,S⟩:Vl).fit:=⟨by show ByteArray.size S<=_;first|decide|omega,by show _<=(0:Int);decide,by show(0:Int)<=_;decide⟩
      have HMY:=Ao (I1 ⟨5,0,S⟩ hfit.1 W)
      rw[Ly] at HMY
      have HTX:Hid (∀V,_):=Ao fun V=>Il ⟨5,0,S⟩ V hfit
      obtain⟨X,hX⟩:∃X,Oy ⟨5,0,S⟩=X:=⟨_,rfl⟩
      have hXl:dl X=C9 5 0 (dl S):=by rw[←hX];rfl
      rw[hX] at HTX
      clear hX
      cases hmy:Gm 5 0 (dl S) with
      |false=>
       rw[show Gm (⟨5,0,S⟩:Vl).k (⟨5,0,S⟩:Vl).n (dl (⟨5,0,S⟩:Vl).s)=false from hmy] at HMY
       have HBD:=Ao (show C9 5 0 (dl S)≠dl s from fun e=>H0.out sG)
       exact zz1
      |true=>
       rw[show Gm (⟨5,0,S⟩:Vl).k (⟨5,0,S⟩:Vl).n (dl (⟨5,0,S⟩:Vl).s)=true from hmy] at HMY
       clear hmy hfit
       have HXL:=Ao hXl
       clear hXl
       go_wp2_with fail
       refine HMY.out.mono ?_
       rintro e V6 ⟨rfl,hb6⟩
       have HP6:=Ao (HP.out.below hb6)
       clear y0 y1 y2 z0 z1 z2 yf0 yf1 yf2 zf0 zf1 zf2
       obtain⟨⟨y0,y1,y2,yf⟩,z0,z1,z2,zf⟩:=D9.cells HP6.out
       have yf0:=yf 0
       have yf1:=yf 1
       have yf2:=yf 2
       have zf0:=zf 0
       have zf1:=zf 1
       have zf2:=zf 2
       clear yf zf
       clear hb6
       go_wp2_with fail
       refine(HTX.out V6).mono ?_
       rintro e V7 ⟨rfl,hb7⟩
       have HP7:=Ao (HP6.out.below hb7)
       clear y0 y1 y2 z0 z1 z2 yf0 yf1 yf2 zf0 zf1 zf2
       obtain⟨⟨y0,y1,y2,yf⟩,z0,z1,z2,zf⟩:=D9.cells HP7.out
       have yf0:=yf 0
       have yf1:=yf 1
       have yf2:=yf 2
       have zf0:=zf 0
       have zf1:=zf 1
       have zf2:=zf 2
       clear yf zf
       clear hb7
       by_cases hXs:X=s
       ·have HOK:=Ao (show C9 5 0 (dl S)=dl s from by rw[←HXL.out,hXs])
        subst hXs
        go_wp2_with fail
        exact bodyPost_ret (v:= .tuple #[.agg #[.int .u8 5,.int .i64 0,.string S],.int .i64 0]) rE rfl (by have:=B3.may (HP7.out.ret (.int .u8 5) (.int .i64 0) (.string S)) H0.out H4.out HR.out HOK.out;rw[Kt] at this;exact this)
       ·have HBD:=Ao (show C9 5 0 (dl S)≠dl s from fun e=>hXs (Cg tL))
        exact zzr
     ·by_cases h34:(dl s).head? =some 34
      ·have hp:0<s.size:=by rcases Nat.eq_zero_or_pos s.size with h|h;(have:=Ax s;rw[h] at this;rw[List.eq_nil_of_length_eq_zero this] at h34;cases h34);exact h
       have H0:Hid (dl s≠[]):=Ao (fun e=>by rw[e] at h34;cases h34)
       have c0:s[0]=34:=by rw[L0 hp] at h34;exact Option.some.inj h34
       have d0:((s[0].toNat:Int)==34)=true:=by rw[c0];rfl
       have d1:((s[0].toNat:Int)==35)=false:=by rw[c0];rfl
       obtain⟨S,hS⟩:∃S:ByteArray,⟨(B4 (dl s).tail).toArray⟩=S:=⟨_,rfl⟩
       have HR:=Ao (show E0 (dl s)= .ok (3,0,dl S) by rw[←hS,C7];exact gN h34)
       have HI:=Ao (eU (w:=Wn) s rA)
       rw[hS] at HI
       have hSs:S.size<=402:=by rw[←hS,←Ax,C7];exact eE hsm
       clear c0 h34 h35 hS
       have HP5:=Ao (HP.out.set 3 0 S)
       clear HP
       have HP:=HP5
       clear HP5
       go_wp2_with fail
       refine HI.out.mono ?_
       rintro e V2 ⟨rfl,rfl⟩
       go_upto_region 20 with fail
       obtain⟨W,hW⟩:∃W,(((Wn.setCell ⟨w.heap.size+1,0,none⟩ (.int .u8 3)).setCell ⟨w.heap.size+1,1,none⟩ (.int .i64 0)).setCell ⟨w.heap.size+1,2,none⟩ (.string S))=W:=⟨_,rfl⟩
       rw[hW] at HP ⊢
       clear hW
       clear y0 y1 y2 z0 z1 z2 yf0 yf1 yf2 zf0 zf1 zf2
       obtain⟨⟨y0,y1,y2,yf⟩,z0,z1,z2,zf⟩:=D9.cells HP.out
       have yf0:=yf 0
       have yf1:=yf 1
       have yf2:=yf 2
       have zf0:=zf 0
       have zf1:=zf 1
       have zf2:=zf 2
       clear yf zf
       have hfit:(⟨3,0,S⟩:Vl).fit:=⟨by show ByteArray.size S<=_;first|decide|omega,by show _<=(0:Int);decide,by show(0:Int)<=_;decide⟩
       have HMY:=Ao (I1 ⟨3,0,S⟩ hfit.1 W)
       rw[Ly] at HMY
       have HTX:Hid (∀V,_):=Ao fun V=>Il ⟨3,0,S⟩ V hfit
       obtain⟨X,hX⟩:∃X,Oy ⟨3,0,S⟩=X:=⟨_,rfl⟩
       have hXl:dl X=C9 3 0 (dl S):=by rw[←hX];rfl
       rw[hX] at HTX
       clear hX
       cases hmy:Gm 3 0 (dl S) with
       |false=>
        rw[show Gm (⟨3,0,S⟩:Vl).k (⟨3,0,S⟩:Vl).n (dl (⟨3,0,S⟩:Vl).s)=false from hmy] at HMY
        have HBD:=Ao (show C9 3 0 (dl S)≠dl s from fun e=>H0.out sG)
        exact zz1
       |true=>
        rw[show Gm (⟨3,0,S⟩:Vl).k (⟨3,0,S⟩:Vl).n (dl (⟨3,0,S⟩:Vl).s)=true from hmy] at HMY
        clear hmy hfit
        have HXL:=Ao hXl
        clear hXl
        go_wp2_with fail
        refine HMY.out.mono ?_
        rintro e V6 ⟨rfl,hb6⟩
        have HP6:=Ao (HP.out.below hb6)
        clear y0 y1 y2 z0 z1 z2 yf0 yf1 yf2 zf0 zf1 zf2
        obtain⟨⟨y0,y1,y2,yf⟩,z0,z1,z2,zf⟩:=D9.cells HP6.out
        have yf0:=yf 0
        have yf1:=yf 1
        have yf2:=yf 2
        have zf0:=zf 0
        have zf1:=zf 1
        have zf2:=zf 2
        clear yf zf
        clear hb6
        go_wp2_with fail
        refine(HTX.out V6).mono ?_
        rintro e V7 ⟨rfl,hb7⟩
        have HP7:=Ao (HP6.out.below hb7)
        clear y0 y1 y2 z0 z1 z2 yf0 yf1 yf2 zf0 zf1 zf2
        obtain⟨⟨y0,y1,y2,yf⟩,z0,z1,z2,zf⟩:=D9.cells HP7.out
        have yf0:=yf 0
        have yf1:=yf 1
        have yf2:=yf 2
        have zf0:=zf 0
        have zf1:=zf 1
        have zf2:=zf 2
        clear yf zf
        clear hb7
        by_cases hXs:X=s
        ·have HOK:=Ao (show C9 3 0 (dl S)=dl s from by rw[←HXL.out,hXs])
         subst hXs
         go_wp2_with fail
         exact bodyPost_ret (v:= .tuple #[.agg #[.int .u8 3,.int .i64 0,.string S],.int .i64 0]) rE rfl (by have:=B3.may (HP7.out.ret (.int .u8 3) (.int .i64 0) (.string S)) H0.out H4.out HR.out HOK.out;rw[Kt] at this;exact this)
        ·have HBD:=Ao (show C9 3 0 (dl S)≠dl s from fun e=>hXs (Cg tL))
         exact zzr
      ·have HRE:=Ao (fun h6:dl s≠[]=>aV td.out fd.out nd.out h35 h34 h6)
       have hp35:∀h:0<s.size,((s[0].toNat:Int)==35)=false:=fun h=>Af.2 (fun e=>h35 (by rw[L0 h];congr 1;exact Cb (n:=35) rA))
       have hp34:∀h:0<s.size,((s[0].toNat:Int)==34)=false:=fun h=>Af.2 (fun e=>h34 (by rw[L0 h];congr 1;exact Cb (n:=34) rA))
       have H35:=Ao hp35
       have H34:=Ao hp34
       clear h35 h34 hp35 hp34
       have hnu:=HNU.out
       cases hz:Fv (dl s) with
       |none=>
        rw[hz] at hnu
        obtain rfl:=hnu
        have HE:=Ao (show Dy (dl s)= .error 4 from Vi H4.out (by by_cases h6:dl s=[];exact .inl ⟨h6,rfl⟩;exact .inr ⟨h6,by rw[HRE.out h6,hz]⟩))
        clear hz
        by_cases hp:0<s.size
        ·have d0:=H35.out hp
         have d1:=H34.out hp
         exact zw9
        ·have d0:decide (0<s.size)=false:=An hp
         exact zw9
       |some z=>
        rw[hz] at hnu
        obtain⟨rfl,hpt,hni⟩:=hnu
        obtain⟨z,p⟩:=z
        simp only at hpt hni
        have h6:dl s≠[]:=fun e=>by rw[e] at hz;cases hz
        have H0:=Ao h6
        have hlen:=iM hz H4.out
        have hre:=HRE.out h6
        rw[hz] at hre
        simp only at hre hlen
        have hp:0<s.size:=by rcases Nat.eq_zero_or_pos s.size with h|h;exact absurd (List.eq_nil_of_length_eq_zero (by rw[Ax];exact h)) h6;exact h
        have d0:=H35.out hp
        have d1:=H34.out hp
        have HIN:=Ao (nO (hni.below HAL.out) (Al hlen rB))
        obtain⟨i0,i1,_⟩:=Ar HBX.out
        have HRE2:=Ao hre
        have HPT:=Ao hpt
        clear hz hni hre hlen h6 hpt
        by_cases hin:inR z
        ·have hin3:=hin
         obtain⟨hz1,hz2⟩:=hin3
         have HZ:=Ao (And.intro hz1 hz2)
         clear hz1 hz2
         cases p with
         |true=>
          have HR:=Ao (show E0 (dl s)= .ok (2,z,dl (⟨#[]⟩:ByteArray)) by have:=HRE2.out;rw[if_pos hin] at this;exact this)
          obtain rfl:pt=true:=HPT.out
          go_wp2_with fail
          refine HIN.out.mono ?_
          rintro e V2 ⟨he,hb2⟩
          unfold H9 at he
          rw[if_pos hin,if_pos hin] at he
          subst he
          have HP2:=Ao (HP.out.below hb2)
          clear y0 y1 y2 z0 z1 z2 yf0 yf1 yf2 zf0 zf1 zf2
          obtain⟨⟨y0,y1,y2,yf⟩,z0,z1,z2,zf⟩:=D9.cells HP2.out
          have yf0:=yf 0
          have yf1:=yf 1
          have yf2:=yf 2
          have zf0:=zf 0
          have zf1:=zf 1
          have zf2:=zf 2
          clear yf zf
          clear hb2 HP i0 i1
          have HP:=Ao (HP2.out.set 1 z ⟨#[]⟩)
          clear HP2
          have hin2:=hin
          have HIZ:=Ao hin
          clear hin hin2
          go_upto_region 18 with fail
          obtain⟨W,hW⟩:∃W,(((V2.setCell ⟨w.heap.size+1,0,none⟩ (.int .u8 1)).setCell ⟨w.heap.size+1,1,none⟩ (.int .i64 z)).setCell ⟨w.heap.size+1,2,none⟩ (.string ⟨#[]⟩))=W:=⟨_,rfl⟩
          rw[hW] at HP ⊢
          clear hW
          clear y0 y1 y2 z0 z1 z2 yf0 yf1 yf2 zf0 zf1 zf2
          obtain⟨⟨y0,y1,y2,yf⟩,z0,z1,z2,zf⟩:=D9.cells HP.out
          have yf0:=yf 0
          have yf1:=yf 1
          have yf2:=yf 2
          have zf0:=zf 0
          have zf1:=zf 1
          have zf2:=zf 2
          clear yf zf
          have HP9:=Ao (HP.out.set0 2)
          clear HP
          have HP:=HP9
          clear HP9
          go_upto_region 20 with fail
          obtain⟨W9,hW9⟩:∃W9,W.setCell ⟨w.heap.size+1,0,none⟩ (.int .u8 2)=W9:=⟨_,rfl⟩
          rw[hW9] at HP ⊢
          clear hW9
          clear y0 y1 y2 z0 z1 z2 yf0 yf1 yf2 zf0 zf1 zf2
          obtain⟨⟨y0,y1,y2,yf⟩,z0,z1,z2,zf⟩:=D9.cells HP.out
          have yf0:=yf 0
          have yf1:=yf 1
          have yf2:=yf 2
          have zf0:=zf 0
          have zf1:=zf 1
          have zf2:=zf 2
          clear yf zf
          have hfit:(⟨2,z,⟨#[]⟩⟩:Vl).fit:=⟨by show ByteArray.size ⟨#[]⟩<=_;first|decide|omega,by show _<=(z:Int);have:=HZ.out;omega,by show(z:Int)<=_;have:=HZ.out;omega⟩
          have HMY:=Ao (I1 ⟨2,z,⟨#[]⟩⟩ hfit.1 W9)
          rw[Ly] at HMY
          have HTX:Hid (∀V,_):=Ao fun V=>Il ⟨2,z,⟨#[]⟩⟩ V hfit
          obtain⟨X,hX⟩:∃X,Oy ⟨2,z,⟨#[]⟩⟩=X:=⟨_,rfl⟩
          have hXl:dl X=C9 2 z (dl ⟨#[]⟩):=by rw[←hX];rfl
          rw[hX] at HTX
          clear hX
          cases hmy:Gm 2 z (dl ⟨#[]⟩) with
          |false=>
           rw[show Gm (⟨2,z,⟨#[]⟩⟩:Vl).k (⟨2,z,⟨#[]⟩⟩:Vl).n (dl (⟨2,z,⟨#[]⟩⟩:Vl).s)=false from hmy] at HMY
           have HBD:=Ao (show C9 2 z (dl ⟨#[]⟩)≠dl s from fun e=>H0.out sG)
           exact zz1
          |true=>
           rw[show Gm (⟨2,z,⟨#[]⟩⟩:Vl).k (⟨2,z,⟨#[]⟩⟩:Vl).n (dl (⟨2,z,⟨#[]⟩⟩:Vl).s)=true from hmy] at HMY
           clear hmy hfit
           have HXL:=Ao hXl
           clear hXl
           go_wp2_with fail
           refine HMY.out.mono ?_
           rintro e V6 ⟨rfl,hb6⟩
           have HP6:=Ao (HP.out.below hb6)
           clear y0 y1 y2 z0 z1 z2 yf0 yf1 yf2 zf0 zf1 zf2
           obtain⟨⟨y0,y1,y2,yf⟩,z0,z1,z2,zf⟩:=D9.cells HP6.out
           have yf0:=yf 0
           have yf1:=yf 1
           have yf2:=yf 2
           have zf0:=zf 0
           have zf1:=zf 1
           have zf2:=zf 2
           clear yf zf
           clear hb6
           go_wp2_with fail
           refine(HTX.out V6).mono ?_
           rintro e V7 ⟨rfl,hb7⟩
           have HP7:=Ao (HP6.out.below hb7)
           clear y0 y1 y2 z0 z1 z2 yf0 yf1 yf2 zf0 zf1 zf2
           obtain⟨⟨y0,y1,y2,yf⟩,z0,z1,z2,zf⟩:=D9.cells HP7.out
           have yf0:=yf 0
           have yf1:=yf 1
           have yf2:=yf 2
           have zf0:=zf 0
           have zf1:=zf 1
           have zf2:=zf 2
           clear yf zf
           clear hb7
           by_cases hXs:X=s
           ·have HOK:=Ao (show C9 2 z (dl ⟨#[]⟩)=dl s from by rw[←HXL.out,hXs])
            subst hXs
            go_wp2_with fail
            exact bodyPost_ret (v:= .tuple #[.agg #[.int .u8 2,.int .i64 z,.string ⟨#[]⟩],.int .i64 0]) rE rfl (by have:=B3.may (HP7.out.ret (.int .u8 2) (.int .i64 z) (.string ⟨#[]⟩)) H0.out H4.out HR.out HOK.out;rw[Kt] at this;exact this)
           ·have HBD:=Ao (show C9 2 z (dl ⟨#[]⟩)≠dl s from fun e=>hXs (Cg tL))
            exact zzr
         |false=>
          have HR:=Ao (show E0 (dl s)= .ok (1,z,dl (⟨#[]⟩:ByteArray)) by have:=HRE2.out;rw[if_pos hin] at this;exact this)
          obtain rfl:pt=false:=HPT.out
          go_wp2_with fail
          refine HIN.out.mono ?_
          rintro e V2 ⟨he,hb2⟩
          unfold H9 at he
          rw[if_pos hin,if_pos hin] at he
          subst he
          have HP2:=Ao (HP.out.below hb2)
          clear y0 y1 y2 z0 z1 z2 yf0 yf1 yf2 zf0 zf1 zf2
          obtain⟨⟨y0,y1,y2,yf⟩,z0,z1,z2,zf⟩:=D9.cells HP2.out
          have yf0:=yf 0
          have yf1:=yf 1
          have yf2:=yf 2
          have zf0:=zf 0
          have zf1:=zf 1
          have zf2:=zf 2
          clear yf zf
          clear hb2 HP i0 i1
          have HP:=Ao (HP2.out.set 1 z ⟨#[]⟩)
          clear HP2
          have hin2:=hin
          have HIZ:=Ao hin
          clear hin hin2
          go_upto_region 18 with fail
          obtain⟨W,hW⟩:∃W,(((V2.setCell ⟨w.heap.size+1,0,none⟩ (.int .u8 1)).setCell ⟨w.heap.size+1,1,none⟩ (.int .i64 z)).setCell ⟨w.heap.size+1,2,none⟩ (.string ⟨#[]⟩))=W:=⟨_,rfl⟩
          rw[hW] at HP ⊢
          clear hW
          clear y0 y1 y2 z0 z1 z2 yf0 yf1 yf2 zf0 zf1 zf2
          obtain⟨⟨y0,y1,y2,yf⟩,z0,z1,z2,zf⟩:=D9.cells HP.out
          have yf0:=yf 0
          have yf1:=yf 1
          have yf2:=yf 2
          have zf0:=zf 0
          have zf1:=zf 1
          have zf2:=zf 2
          clear yf zf
          go_upto_region 20 with fail
          have hfit:(⟨1,z,⟨#[]⟩⟩:Vl).fit:=⟨by show ByteArray.size ⟨#[]⟩<=_;first|decide|omega,by show _<=(z:Int);have:=HZ.out;omega,by show(z:Int)<=_;have:=HZ.out;omega⟩
          have HMY:=Ao (I1 ⟨1,z,⟨#[]⟩⟩ hfit.1 W)
          rw[Ly] at HMY
          have HTX:Hid (∀V,_):=Ao fun V=>Il ⟨1,z,⟨#[]⟩⟩ V hfit
          obtain⟨X,hX⟩:∃X,Oy ⟨1,z,⟨#[]⟩⟩=X:=⟨_,rfl⟩
          have hXl:dl X=C9 1 z (dl ⟨#[]⟩):=by rw[←hX];rfl
          rw[hX] at HTX
          clear hX
          cases hmy:Gm 1 z (dl ⟨#[]⟩) with
          |false=>
           rw[show Gm (⟨1,z,⟨#[]⟩⟩:Vl).k (⟨1,z,⟨#[]⟩⟩:Vl).n (dl (⟨1,z,⟨#[]⟩⟩:Vl).s)=false from hmy] at HMY
           have HBD:=Ao (show C9 1 z (dl ⟨#[]⟩)≠dl s from fun e=>H0.out sG)
           exact zz1
          |true=>
           rw[show Gm (⟨1,z,⟨#[]⟩⟩:Vl).k (⟨1,z,⟨#[]⟩⟩:Vl).n (dl (⟨1,z,⟨#[]⟩⟩:Vl).s)=true from hmy] at HMY
           clear hmy hfit
           have HXL:=Ao hXl
           clear hXl
           go_wp2_with fail
           refine HMY.out.mono ?_
           rintro e V6 ⟨rfl,hb6⟩
           have HP6:=Ao (HP.out.below hb6)
           clear y0 y1 y2 z0 z1 z2 yf0 yf1 yf2 zf0 zf1 zf2
           obtain⟨⟨y0,y1,y2,yf⟩,z0,z1,z2,zf⟩:=D9.cells HP6.out
           have yf0:=yf 0
           have yf1:=yf 1
           have yf2:=yf 2
           have zf0:=zf 0
           have zf1:=zf 1
           have zf2:=zf 2
           clear yf zf
           clear hb6
           go_wp2_with fail
           refine(HTX.out V6).mono ?_
           rintro e V7 ⟨rfl,hb7⟩
           have HP7:=Ao (HP6.out.below hb7)
           clear y0 y1 y2 z0 z1 z2 yf0 yf1 yf2 zf0 zf1 zf2
           obtain⟨⟨y0,y1,y2,yf⟩,z0,z1,z2,zf⟩:=D9.cells HP7.out
           have yf0:=yf 0
           have yf1:=yf 1
           have yf2:=yf 2
           have zf0:=zf 0
           have zf1:=zf 1
           have zf2:=zf 2
           clear yf zf
           clear hb7
           by_cases hXs:X=s
           ·have HOK:=Ao (show C9 1 z (dl ⟨#[]⟩)=dl s from by rw[←HXL.out,hXs])
            subst hXs
            go_wp2_with fail
            exact bodyPost_ret (v:= .tuple #[.agg #[.int .u8 1,.int .i64 z,.string ⟨#[]⟩],.int .i64 0]) rE rfl (by have:=B3.may (HP7.out.ret (.int .u8 1) (.int .i64 z) (.string ⟨#[]⟩)) H0.out H4.out HR.out HOK.out;rw[Kt] at this;exact this)
           ·have HBD:=Ao (show C9 1 z (dl ⟨#[]⟩)≠dl s from fun e=>hXs (Cg tL))
            exact zzr
        ·have HE:=Ao (show Dy (dl s)= .error 9 from Vi H4.out (.inr ⟨H0.out,by rw[HRE2.out,if_neg hin]⟩))
         go_wp2_with fail
         refine HIN.out.mono ?_
         rintro e V2 ⟨he,hb2⟩
         unfold H9 at he
         rw[if_neg hin,if_neg hin] at he
         subst he
         have HP2:=Ao (HP.out.below hb2)
         clear y0 y1 y2 z0 z1 z2 yf0 yf1 yf2 zf0 zf1 zf2
         obtain⟨⟨y0,y1,y2,yf⟩,z0,z1,z2,zf⟩:=D9.cells HP2.out
         have yf0:=yf 0
         have yf1:=yf 1
         have yf2:=yf 2
         have zf0:=zf 0
         have zf1:=zf 1
         have zf2:=zf 2
         clear yf zf
         clear hb2 HP i0 i1 hin
         go_wp2_with fail
         exact bodyPost_ret (v:= .tuple #[.agg #[.int .u8 0,.int .i64 0,.string ⟨#[]⟩],.int .i64 9]) rE rfl (B3.err (HP2.out.ret _ _ _) HE.out)
open Go Go.RowKit Go.Lib
theorem T8 (c:UInt8)(w:World):Calls Tryz.prog 210 #[.int .u8 (c.toNat:Int)] w fun e w'=>e= .returned (.bool (Dk c))/\w=w':=by
 obtain⟨r,hr⟩:∃r,Dk c=r:=⟨_,rfl⟩
 rw[hr]
 unfold Dk at hr
 by_cases h1:97<=c.toNat
 ·have d1:decide ((97:Int)<=(c.toNat:Int))=true:=Am rA
  rw[Am h1,Bool.true_and] at hr
  by_cases h2:c.toNat<=122
  ·have d2:decide ((c.toNat:Int)<=122)=true:=Am rA
   rw[Am h2] at hr
   subst hr
   go_enter Tryz.func210,Tryz.ntmps210
   go_wp2_with fail
   exact zyo
  ·have d2:decide ((c.toNat:Int)<=122)=false:=An rA
   rw[An h2] at hr
   subst hr
   go_enter Tryz.func210,Tryz.ntmps210
   go_wp2_with fail
   exact zyo
 ·have d1:decide ((97:Int)<=(c.toNat:Int))=false:=An rA
  rw[An h1,Bool.false_and] at hr
  subst hr
  go_enter Tryz.func210,Tryz.ntmps210
  go_wp2_with fail
  exact zyo
theorem Kc (c:UInt8)(w:World):Calls Tryz.prog 157 #[.int .u8 (c.toNat:Int)] w fun e w'=>e= .returned (.bool (A3 c))/\w=w':=by
 obtain⟨r,hr⟩:∃r,A3 c=r:=⟨_,rfl⟩
 rw[hr]
 unfold A3 at hr
 by_cases h1:48<=c.toNat
 ·have d1:decide ((48:Int)<=(c.toNat:Int))=true:=Am rA
  rw[Am h1,Bool.true_and] at hr
  by_cases h2:c.toNat<=57
  ·have d2:decide ((c.toNat:Int)<=57)=true:=Am rA
   rw[Am h2] at hr
   subst hr
   go_enter Tryz.func157,Tryz.ntmps157
   go_wp2_with fail
   exact zyo
  ·have d2:decide ((c.toNat:Int)<=57)=false:=An rA
   rw[An h2] at hr
   subst hr
   go_enter Tryz.func157,Tryz.ntmps157
   go_wp2_with fail
   exact zyo
 ·have d1:decide ((48:Int)<=(c.toNat:Int))=false:=An rA
  rw[An h1,Bool.false_and] at hr
  subst hr
  go_enter Tryz.func157,Tryz.ntmps157
  go_wp2_with fail
  exact zyo
theorem Ky {a b:Nat}(h:a=b):Ending.returned (.int .i64 (a:Int))= .returned (.int .i64 (b:Int)):=by rw[h]
theorem K3 {s:ByteArray}{p:Nat}(h:p<s.size):(dl s).drop p=s[p]::(dl s).drop (p+1):=by
 have hl:p<(dl s).length:=(Ax s).symm▸h
 have:=Fm h
 rw[Ag hl] at this
 rw[List.drop_eq_getElem_cons hl,Option.some.inj this]
theorem Iy {s:ByteArray}{p:Nat}(h:s.size<=p):(dl s).drop p=[]:=List.drop_eq_nil_of_le (by rw[Ax];exact h)
theorem P4 {q:UInt8->Bool}{c:UInt8}{r:List UInt8}(h:q c=false):Ay q (c::r)=0:=by
 unfold Ay
 rw[List.takeWhile_cons,h]
 rfl
theorem Gz {q:UInt8->Bool}{c:UInt8}{r:List UInt8}(h:q c=true):Ay q (c::r)=1+Ay q r:=by
 unfold Ay
 rw[List.takeWhile_cons,h]
 simp
 omega
def Hu (l:List UInt8):Nat:=match l with
 |c::r=>if Dk c then Ay B7 (c::r) else 0
 |[]=>0
theorem Xm {c:UInt8}(h:Dk c=true):B7 c=true:=by unfold B7;rw[h];rfl
theorem Xh (s:ByteArray)(p:Nat)(w:World)(hs:s.size<=1000000)(hp:p<=s.size+1):Calls Tryz.prog 156 #[.string s,.int .i64 (p:Int)] w fun e w'=>e= .returned (.int .i64 ((p+Hu ((dl s).drop p):Nat):Int))/\w=w':=by
 by_cases hlt:p<s.size
 ·have e1:=K3 hlt
  have q0:(0:Int)<=(p:Int):=by omega
  have q1:(p:Int)<(s.size:Int):=by omega
  have d0:decide (s.size<=p)=false:=An rA
  have HSM:=Ao (T8 s[p] w)
  cases hc:Dk s[p] with
  |false=>
   rw[hc] at HSM
   have HE:Hid (p+Hu ((dl s).drop p)=p):=Ao (by rw[e1];unfold Hu;simp only;rw[if_neg (by rw[hc];simp)];rfl)
   clear e1 hc
   rw[HE.out]
   go_enter Tryz.func156,Tryz.ntmps156
   go_wp2_with fail
   refine HSM.out.mono ?_
   rintro e w' ⟨rfl,rfl⟩
   go_wp2_with fail
   exact zyo
  |true=>
   rw[hc] at HSM
   have HE:Hid (p+Hu ((dl s).drop p)=p+Ay B7 ((dl s).drop p)):=Ao (by rw[e1];unfold Hu;simp only;rw[if_pos hc])
   clear e1 hc
   rw[HE.out]
   go_enter Tryz.func156,Tryz.ntmps156
   go_wp2_with fail
   refine HSM.out.mono ?_
   rintro e w' ⟨rfl,rfl⟩
   clear HSM d0 HE
   go_wp2_with fail
   go_loop [1] (fun v1=>∃q:Nat,v1= .int .i64 (q:Int)/\p<=q/\q<=s.size/\Hid (q+Ay B7 ((dl s).drop q)=p+Ay B7 ((dl s).drop p))) (fun v1=>s.size - (intOf v1).toNat)
   case atStart=>exact⟨p,rfl,Ak _,Nat.le_of_lt hlt,Ao rfl⟩
   case round=>
    obtain⟨q,rfl,hpq,hqs,hq⟩:=hrel
    by_cases hgo:q<s.size
    ·have d0:decide ((q:Int)<(s.size:Int))=true:=Am rA
     have q0:(0:Int)<=(q:Int):=by omega
     have q1:(q:Int)<(s.size:Int):=by omega
     have HS2:=Ao (T8 s[q] w)
     have HD2:=Ao (Kc s[q] w)
     have e1:=K3 hgo
     cases hl:Dk s[q] with
     |true=>
      rw[hl] at HS2
      have HN:=Ao (show q+1+Ay B7 ((dl s).drop (q+1))=p+Ay B7 ((dl s).drop p) by rw[←hq.out,e1,Gz (Xm hl)];omega)
      clear hl e1 hq HD2
      go_wp2_with fail
      refine HS2.out.mono ?_
      exact zye
     |false=>
      rw[hl] at HS2
      cases hd:A3 s[q] with
      |true=>
       rw[hd] at HD2
       have HN:=Ao (show q+1+Ay B7 ((dl s).drop (q+1))=p+Ay B7 ((dl s).drop p) by rw[←hq.out,e1,Gz (by unfold B7;rw[hd,Bool.or_true])];omega)
       clear hl hd e1 hq
       go_wp2_with fail
       refine HS2.out.mono ?_
       rintro e w' ⟨rfl,rfl⟩
       go_wp2_with fail
       refine HD2.out.mono ?_
       exact zye
      |false=>
       rw[hd] at HD2
       have HN:=Ao (show q=p+Ay B7 ((dl s).drop p) by rw[←hq.out,e1,P4 (by unfold B7;rw[hl,hd];rfl)];omega)
       clear hl hd e1 hq
       go_wp2_with fail
       refine HS2.out.mono ?_
       rintro e w' ⟨rfl,rfl⟩
       go_wp2_with fail
       refine HD2.out.mono ?_
       rintro e w' ⟨rfl,rfl⟩
       go_wp2_with fail
       go_ret
       exact⟨Ky HN.out,rfl⟩
    ·have d0:decide ((q:Int)<(s.size:Int))=false:=An rA
     have HN:=Ao (show q=p+Ay B7 ((dl s).drop p) by rw[←hq.out,Iy rA];rfl)
     clear hq
     go_wp2_with fail
     go_ret
     exact⟨Ky HN.out,rfl⟩
 ·have d0:decide ((s.size:Int)<=(p:Int))=true:=Am rA
  have HE:Hid (p+Hu ((dl s).drop p)=p):=Ao (by rw[Iy rA];rfl)
  rw[HE.out]
  go_enter Tryz.func156,Tryz.ntmps156
  go_wp2_with fail
  exact zyo
end Go.Proofs.YtgfakdobajgnfaaGreatDoor
