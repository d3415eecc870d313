import Derived.IntWalk
import Derived.Deep.CutRange
import Derived.Test.YtgfakdobajgnfaaGreatDoorQr3
import Derived.Test.YtgfakdobajgnfaaGreatDoorQr5
import Derived.Test.YtgfakdobajgnfaaGreatDoorQr6
import Derived.Test.YtgfakdobajgnfaaGreatDoorQr9
import Derived.Test.YtgfakdobajgnfaaGreatDoorQr8
namespace Go.Proofs.YtgfakdobajgnfaaGreatDoor
open Go Go.RowKit Go.Lib Go.Sort Go.Shelf
theorem escT_snoc (l:List UInt8)(c:UInt8):escT (l++[c])=escT l++(if c=92 then[92,92] else if c=34 then[92,34] else[c]):=by
 induction l with
 |nil=>rw[List.nil_append,escT_cons];simp [escT,repB]
 |cons b r ih=>rw[List.cons_append,escT_cons,ih,escT_cons b r,List.append_assoc]
theorem dl_byte {s:ByteArray}{i:Nat}(h:i<s.size):dl (s.extract i (i+1))=[s[i]]∧(s.extract i (i+1)).size=1∧(dl s).take (i+1)=(dl s).take i++[s[i]]:=by
 have hl:i<(dl s).length:=by rw[dl_size];exact h
 have hg:(dl s)[i]=s[i]:=by
  have:=dl_get h
  rw[List.getElem?_eq_getElem hl] at this
  exact Option.some.inj this
 have e1:dl (s.extract i (i+1))=[s[i]]:=by
  rw[dl_ext,List.drop_eq_getElem_cons hl,Nat.add_sub_cancel_left,hg]
  rfl
 refine⟨e1,by rw[←dl_size,e1];rfl,?_⟩
 rw[←hg]
 exact List.take_succ_eq_append_getElem hl
theorem u8_eq {c:UInt8}{n:Nat}(h:c.toNat=n):c=UInt8.ofNat n:=by rw[←h];exact(UInt8.ofNat_toNat).symm
theorem quo_two {s S:ByteArray}{i:Nat}(h:i<s.size)(hS:dl S=34::escT ((dl s).take i))(hz:S.size≤1+2*i)(hc:s[i].toNat=34∨s[i].toNat=92):(S++⟨#[92]⟩++s.extract i (i+1)).size≤1+2*(i+1)∧dl (S++⟨#[92]⟩++s.extract i (i+1))=34::escT ((dl s).take (i+1)):=by
 obtain⟨e1,e2,e3⟩:=dl_byte h
 have e4:dl (S++⟨#[92]⟩++s.extract i (i+1))=34::escT ((dl s).take (i+1)):=by
  rw[dl_app,dl_app,hS,e1,e3,escT_snoc]
  rcases hc with hc|hc
  ·rw[u8_eq hc];simp [dl]
  ·rw[u8_eq hc];simp [dl]
 refine⟨?_,e4⟩
 rw[ByteArray.size_append,ByteArray.size_append,e2]
 show S.size+1+1≤_
 omega
theorem quo_one {s S:ByteArray}{i:Nat}(h:i<s.size)(hS:dl S=34::escT ((dl s).take i))(hz:S.size≤1+2*i)(hc:s[i].toNat≠34)(hd:s[i].toNat≠92):(S++s.extract i (i+1)).size≤1+2*(i+1)∧dl (S++s.extract i (i+1))=34::escT ((dl s).take (i+1)):=by
 obtain⟨e1,e2,e3⟩:=dl_byte h
 have n1:¬s[i]=92:=fun e=>hd (by rw[e];rfl)
 have n2:¬s[i]=34:=fun e=>hc (by rw[e];rfl)
 refine⟨by rw[ByteArray.size_append,e2];omega,?_⟩
 rw[dl_app,hS,e1,e3,escT_snoc,if_neg n1,if_neg n2]
 rfl
theorem frac_at {r:List UInt8}(hl:r.length=4){j:Nat}(h1:1≤j)(h4:j≤4)(hz:∀i,j≤i→i<4→r[i]? =some 48)(hend:j=1∨∃c,r[j - 1]? =some c∧c≠48):fracT r=r.take j:=by
 match r,hl with
 |[a,b,c,d],_=>
  rcases (show j=1∨j=2∨j=3∨j=4 by omega) with rfl|rfl|rfl|rfl
  ·have e1:=hz 1 (by omega) (by omega)
   have e2:=hz 2 (by omega) (by omega)
   have e3:=hz 3 (by omega) (by omega)
   simp at e1 e2 e3
   subst e1 e2 e3
   by_cases ha:a=48
   ·subst ha;rfl
   ·simp [fracT,trimRightB,ha]
  ·have e2:=hz 2 (by omega) (by omega)
   have e3:=hz 3 (by omega) (by omega)
   simp at e2 e3
   subst e2 e3
   obtain⟨x,hx,hx2⟩:=hend.resolve_left (by omega)
   simp at hx
   subst hx
   simp [fracT,trimRightB,hx2]
  ·have e3:=hz 3 (by omega) (by omega)
   simp at e3
   subst e3
   obtain⟨x,hx,hx2⟩:=hend.resolve_left (by omega)
   simp at hx
   subst hx
   simp [fracT,trimRightB,hx2]
  ·obtain⟨x,hx,hx2⟩:=hend.resolve_left (by omega)
   simp at hx
   subst hx
   simp [fracT,trimRightB,hx2]
theorem dec_end {n:Int}{pd:ByteArray}{m:Nat}(hpd:dl pd=pad5 (decDigits n.natAbs))(h1:pd.size≤m+4)(h2:m<pd.size)(hz:∀i,m<i→i<pd.size→(dl pd)[i]? =some 48)(hend:m+4=pd.size∨∃c,(dl pd)[m]? =some c∧c≠48)(b:ByteArray)(hb:dl b=if n<0 then[45] else[]):
 dl (b++pd.extract 0 (pd.size - 4)++⟨#[46]⟩++pd.extract (pd.size - 4) (m+1))=decT n:=by
 have h5:5≤pd.size:=by
  have:=pad5_len (decDigits n.natAbs)
  rw[←hpd,dl_size] at this
  exact this
 rw[dl_app,dl_app,dl_app,dl_ext,dl_ext,hb]
 unfold decT
 rw[←hpd,dl_size,List.drop_zero,Nat.sub_zero]
 have hl:((dl pd).drop (pd.size - 4)).length=4:=by rw[List.length_drop,dl_size];omega
 have:=frac_at hl (j:=m+1 - (pd.size - 4)) (by omega) (by omega) (fun i q1 q2=>by
  rw[List.getElem?_drop]
  exact hz _ (by omega) (by omega)) (by
  rcases hend with q|⟨c,q1,q2⟩
  ·exact .inl (by omega)
  ·refine .inr ⟨c,?_,q2⟩
   rw[List.getElem?_drop,←q1]
   congr 1
   omega)
 rw[this]
 simp [dl]
theorem slice_to (s:ByteArray)(j:Int)(h0:0≤j)(h1:j≤(s.size:Int))(W:World):(Instr.slice 9 (.string s) none (some (.int .i64 j)) none).run Tryz.prog W= .ok (.string (s.extract 0 j.toNat)) W:=
 run_slice_string_h W 9 s Tryz.underlying9 .i64 j h0 h1
theorem slice_mid (s:ByteArray)(i j:Int)(h0:0≤i)(h1:i≤j)(h2:j≤(s.size:Int))(W:World):(Instr.slice 9 (.string s) (some (.int .i64 i)) (some (.int .i64 j)) none).run Tryz.prog W= .ok (.string (s.extract i.toNat j.toNat)) W:=
 run_slice_string W 9 s .i64 .i64 i j Tryz.underlying9 h0 h1 h2
theorem Qw5{P:Prop}(h:P:=by
 clear hnb
 go_wp2_with fail
 (with_reducible refine HDG.out.mono ?_)
 rintro e W3 ⟨rfl,hb3⟩
 have HB3:=hide (HBA.out.trans (hb3.mono HBA.out.size))
 clear hb3
 go_wp2_with fail
 go_loop [6] (fun v6=>∃m:Nat,v6= .int .i64 ((m:Int)+1)∧pd.size≤m+4∧m<pd.size∧Hid (∀i,m<i→i<pd.size→(dl pd)[i]? =some 48)) (fun v6=>(intOf v6).toNat)
 case atStart=>exact⟨pd.size - 1,by(congr 1;omega),by omega,by omega,hide (fun i h1 h2=>by omega)⟩
 case round=>
  obtain⟨m,rfl,hm4,hmp,hz⟩:=hrel
  have q0:(0:Int)≤(m:Int):=by omega
  have q1:(m:Int)<(pd.size:Int):=by omega
  have hg:(dl pd)[m]? =some pd[m]:=dl_get hmp
  by_cases hgo:pd.size≤m+3
  ·have p1:decide ((pd.size:Int) - 3<(m:Int)+1)=true:=decide_eq_true (by omega)
   by_cases h48:pd[m].toNat=48
   ·have d1:((pd[m].toNat:Int)==48)=true:=beq_iff_eq.2 (by omega)
    have e48:pd[m]=48:=u8_eq h48
    have HZ:=hide (show ∀i,m - 1<i→i<pd.size→(dl pd)[i]? =some 48 from fun i q1 q2=>by
     rcases Nat.lt_or_ge m i with q|q
     ·exact hz.out i q q2
     ·have:i=m:=by omega
      rw[this,hg,e48])
    clear hz hg e48
    go_wp2_with fail
    go_round
    case rel=>exact⟨m - 1,by(congr 1;omega),by omega,by omega,HZ⟩
    case measure=>simp [intOf]<;>omega
   ·have d1:((pd[m].toNat:Int)==48)=false:=beq_eq_false_iff_ne.2 (by omega)
    have HE:=hide (HDC.out m hm4 hmp hz.out (.inr ⟨_,hg,fun e=>h48 (by rw[e];rfl)⟩))
    clear hz hg
    go_wp2_with fail
    have w1:IntKind.i64.wrap ((pd.size:Int) - 4)=(pd.size:Int) - 4:=IntWalk.i64_in _ (by omega)
    have hs1:=slice_to pd ((pd.size:Int) - 4) (by omega) (by omega)
    have hs2:=slice_mid pd ((pd.size:Int) - 4) ((m:Int)+1) (by omega) (by omega) (by omega)
    have t1:((pd.size:Int) - 4).toNat=pd.size - 4:=by omega
    have t2:((m:Int)+1).toNat=m+1:=by omega
    rw[t1] at hs1
    rw[t1,t2] at hs2
    obtain⟨A,hA⟩:∃A,pd.extract 0 (pd.size - 4)=A:=⟨_,rfl⟩
    obtain⟨B,hB⟩:∃B,pd.extract (pd.size - 4) (m+1)=B:=⟨_,rfl⟩
    have hAs:A.size≤30:=by rw[←hA,ByteArray.size_extract];omega
    have hBs:B.size≤30:=by rw[←hB,ByteArray.size_extract];omega
    rw[hA] at hs1 HE
    rw[hB] at hs2 HE
    clear t1 t2 hpl hA hB
    go_quiet (fail)
    go_wp2_with fail
    go_ret
    exact⟨ret_str HE.out,below_drewN HB3.out _⟩
  ·have p1:decide ((pd.size:Int) - 3<(m:Int)+1)=false:=decide_eq_false (by omega)
   have HE:=hide (HDC.out m hm4 hmp hz.out (.inl (by omega)))
   clear hz hg
   go_wp2_with fail
   have w1:IntKind.i64.wrap ((pd.size:Int) - 4)=(pd.size:Int) - 4:=IntWalk.i64_in _ (by omega)
   have hs1:=slice_to pd ((pd.size:Int) - 4) (by omega) (by omega)
   have hs2:=slice_mid pd ((pd.size:Int) - 4) ((m:Int)+1) (by omega) (by omega) (by omega)
   have t1:((pd.size:Int) - 4).toNat=pd.size - 4:=by omega
   have t2:((m:Int)+1).toNat=m+1:=by omega
   rw[t1] at hs1
   rw[t1,t2] at hs2
   obtain⟨A,hA⟩:∃A,pd.extract 0 (pd.size - 4)=A:=⟨_,rfl⟩
   obtain⟨B,hB⟩:∃B,pd.extract (pd.size - 4) (m+1)=B:=⟨_,rfl⟩
   have hAs:A.size≤30:=by rw[←hA,ByteArray.size_extract];omega
   have hBs:B.size≤30:=by rw[←hB,ByteArray.size_extract];omega
   rw[hA] at hs1 HE
   rw[hB] at hs2 HE
   clear t1 t2 hpl hA hB
   go_quiet (fail)
   go_wp2_with fail
   go_ret
   exact⟨ret_str HE.out,below_drewN HB3.out _⟩):P:=h
set_option maxRecDepth 100000 in
set_option maxHeartbeats 4000000 in
theorem rtext_any (v:Vl)(w:World)(hv:v.fit):
 Calls Tryz.prog 16 #[.agg #[.int .u8 v.k,.int .i64 v.n,.string v.s]] w fun e w'=>e= .returned (.string (txtB v))∧Below w.heap.size w w':=by
 obtain⟨h1,h2,h3⟩:=hv
 have hbA:Below w.heap.size w (w.alloc (.cells #[.int .u8 v.k,.int .i64 v.n,.string v.s] 23)):=(Below.refl w.heap.size w).alloc (Nat.le_refl _) _
 have hm:=rmay_any v h1 (w.alloc (.cells #[.int .u8 v.k,.int .i64 v.n,.string v.s] 23))
 have hbx:=(MapKept.heap_alloc w (.cells #[.int .u8 v.k,.int .i64 v.n,.string v.s] 23)).1
 rw[mayB_L] at hm
 unfold txtB txtM
 obtain⟨k,n,s⟩:=v
 simp only at*
 have hbb:∀V,Below (w.heap.size+1) (w.alloc (.cells #[.int .u8 k,.int .i64 n,.string s] 23)) V→V.heap[w.heap.size]? =some (.cells #[.int .u8 k,.int .i64 n,.string s] 23 (0,0))∧Below w.heap.size w V:=fun V hV=>by
  have hz:(w.alloc (.cells #[.int .u8 k,.int .i64 n,.string s] 23)).heap.size=w.heap.size+1:=by simp
  exact⟨(hV.block w.heap.size (by omega)).trans hbx,hbA.trans (hV.mono (by omega))⟩
 have Hbb:=hide hbb
 have hz:(w.alloc (.cells #[.int .u8 k,.int .i64 n,.string s] 23)).heap.size=w.heap.size+1:=by simp
 have Hm:=hide hm
 have c0:(w.alloc (.cells #[.int .u8 k,.int .i64 n,.string s] 23)).cell? ⟨w.heap.size,0,none⟩=some (.int .u8 k):=by simp only[World.cell?,hbx];rfl
 have c1:(w.alloc (.cells #[.int .u8 k,.int .i64 n,.string s] 23)).cell? ⟨w.heap.size,1,none⟩=some (.int .i64 n):=by simp only[World.cell?,hbx];rfl
 have c2:(w.alloc (.cells #[.int .u8 k,.int .i64 n,.string s] 23)).cell? ⟨w.heap.size,2,none⟩=some (.string s):=by simp only[World.cell?,hbx];rfl
 cases hmy:mayL k n (dl s) with
 |false=>
  rw[hmy] at Hm
  simp only[Bool.false_eq_true,if_false]
  clear hm hbx hbA hbb hz hmy
  go_enter Tryz.func16,Tryz.ntmps16
  go_wp2_with fail
  (with_reducible refine Hm.out.mono ?_)
  rintro e W ⟨rfl,hb⟩
  rw[show(w.alloc (.cells #[.int .u8 k,.int .i64 n,.string s] 23)).heap.size=w.heap.size+1 by simp] at hb
  have HB:=hide (Hbb.out W hb).2
  clear hb
  go_wp2
  go_ret
  exact⟨rfl,HB.out⟩
 |true=>
  rw[hmy] at Hm
  simp only[if_true]
  have Hmy:=hide (mayL_cases hmy)
  clear hm hbx hbA hbb hz hmy
  go_enter Tryz.func16,Tryz.ntmps16
  go_wp2_with fail
  (with_reducible refine Hm.out.mono ?_)
  rintro e W ⟨rfl,hb⟩
  rw[show(w.alloc (.cells #[.int .u8 k,.int .i64 n,.string s] 23)).heap.size=w.heap.size+1 by simp] at hb
  obtain⟨hx,hbW⟩:=Hbb.out W hb
  have HX:=hide hx
  have d0:W.cell? ⟨w.heap.size,0,none⟩=some (.int .u8 k):=by simp only[World.cell?,hx];rfl
  have d1:W.cell? ⟨w.heap.size,1,none⟩=some (.int .i64 n):=by simp only[World.cell?,hx];rfl
  have d2:W.cell? ⟨w.heap.size,2,none⟩=some (.string s):=by simp only[World.cell?,hx];rfl
  have HbW:=hide hbW
  have HOf:=hide (of_num (w:=W) n h2 h3)
  clear hb c0 c1 c2 Hm Hbb hx hbW
  go_wp2_with fail
  (with_reducible refine HOf.out.mono ?_)
  rintro e W2 ⟨⟨x,rfl,hn⟩,hb2⟩
  obtain⟨ax,cx,rfl,hd⟩:=hn.form
  obtain⟨nx,hnx⟩:∃m,lenD n.natAbs=m:=⟨_,rfl⟩
  rw[hnx] at hd ⊢
  obtain⟨nb,hnb⟩:∃b,decide (n<0)=b:=⟨_,rfl⟩
  rw[hnb]
  have hx2:=(hb2.block _ (lt_of_heap HX.out)).trans HX.out
  have d0:W2.cell? ⟨w.heap.size,0,none⟩=some (.int .u8 k):=by simp only[World.cell?,hx2];rfl
  have d1:W2.cell? ⟨w.heap.size,1,none⟩=some (.int .i64 n):=by simp only[World.cell?,hx2];rfl
  have d2:W2.cell? ⟨w.heap.size,2,none⟩=some (.string s):=by simp only[World.cell?,hx2];rfl
  have HB2:=hide (HbW.out.trans (hb2.mono HbW.out.size))
  clear hn hb2 hx2 HOf
  have hA:=(Below.refl W2.heap.size W2).alloc (Nat.le_refl _) (.cells #[.bool nb,.slice ax nx cx] 79)
  have e0:=bcell hA d0
  have e1:=bcell hA d1
  have e2:=bcell hA d2
  have HBA:=hide (HB2.out.trans (hA.mono HB2.out.size))
  clear hA
  rcases Hmy.out with ⟨rfl,rfl,hs⟩|⟨rfl,hs⟩|⟨rfl,hs⟩|⟨rfl,rfl,hl,hp⟩|⟨rfl,hs,hn⟩|⟨rfl,rfl,hn⟩
  ·clear hs
   obtain rfl:nb=false:=by rw[←hnb];rfl
   clear hnb
   go_wp2_with fail
   go_ret
   exact⟨rfl,HBA.out⟩
  ·have hdg:=(rdigits_any (w:=W2.alloc (.cells #[.bool nb,.slice ax nx cx] 79)) nb (hd.below ((Below.refl _ _).alloc (Nat.le_refl _) _)) (dg_len20 (by omega)) 1 (by decide))
   have HDG:Hid (Calls Tryz.prog 48 #[.agg #[.bool nb,.slice ax nx cx],.int .i64 1] (W2.alloc (.cells #[.bool nb,.slice ax nx cx] 79)) _):=hide hdg
   have HD5:Hid ((padD n.natAbs 1).length≤30):=hide (padD_short (dg_len20 (by omega)) (by decide))
   have HIT:Hid (dl ((if nb=true then(⟨#[45]⟩:ByteArray) else⟨#[]⟩)++⟨(padD n.natAbs 1).toArray⟩)=dl ⟨(txtL 1 n (dl s)).toArray⟩):=hide (by
    rw[dl_app,dl_mk,dl_mk,padD_one,←hnb]
    simp only[txtL,if_true,itoa]
    by_cases h:n<0
    ·simp [h,dl]
    ·rw[show n.natAbs=n.toNat by omega];simp [h,dl])
   obtain⟨pd,hpd⟩:∃pd:ByteArray,⟨(padD n.natAbs 1).toArray⟩=pd:=⟨_,rfl⟩
   rw[hpd] at HDG HIT
   have hpl:pd.size≤30:=by rw[←hpd,←dl_size,dl_mk];exact HD5.out
   clear hs hdg hd hpd HD5
   cases nb with
   |false=>
    clear hnb
    go_wp2_with fail
    (with_reducible refine HDG.out.mono ?_)
    rintro e W3 ⟨rfl,hb3⟩
    have HB3:=hide (HBA.out.trans (hb3.mono HBA.out.size))
    clear hb3
    go_wp2_with fail
    go_ret
    exact⟨ret_str HIT.out,HB3.out⟩
   |true=>
    clear hnb
    go_wp2_with fail
    (with_reducible refine HDG.out.mono ?_)
    rintro e W3 ⟨rfl,hb3⟩
    have HB3:=hide (HBA.out.trans (hb3.mono HBA.out.size))
    clear hb3
    go_wp2_with fail
    go_ret
    exact⟨ret_str HIT.out,HB3.out⟩
  ·have hdg:=(rdigits_any (w:=W2.alloc (.cells #[.bool nb,.slice ax nx cx] 79)) nb (hd.below ((Below.refl _ _).alloc (Nat.le_refl _) _)) (dg_len20 (by omega)) 5 (by decide))
   have HDG:Hid (Calls Tryz.prog 48 #[.agg #[.bool nb,.slice ax nx cx],.int .i64 5] (W2.alloc (.cells #[.bool nb,.slice ax nx cx] 79)) _):=hide hdg
   obtain⟨pd,hpd⟩:∃pd:ByteArray,⟨(padD n.natAbs 5).toArray⟩=pd:=⟨_,rfl⟩
   have hpl:pd.size≤30:=by rw[←hpd,←dl_size,dl_mk];exact padD_short (dg_len20 (by omega)) (by decide)
   have hpe:dl pd=pad5 (decDigits n.natAbs):=by rw[←hpd,dl_mk,padD_five]
   have hp5:5≤pd.size:=by
    have:=pad5_len (decDigits n.natAbs)
    rw[←hpe,dl_size] at this
    exact this
   have HDC:Hid (∀m,pd.size≤m+4→m<pd.size→(∀i,m<i→i<pd.size→(dl pd)[i]? =some 48)→(m+4=pd.size∨∃c,(dl pd)[m]? =some c∧c≠48)→dl ((if nb=true then(⟨#[45]⟩:ByteArray) else⟨#[]⟩)++pd.extract 0 (pd.size - 4)++⟨#[46]⟩++pd.extract (pd.size - 4) (m+1))=dl ⟨(txtL 2 n (dl s)).toArray⟩):=hide fun m q1 q2 q3 q4=>by
    rw[dec_end hpe q1 q2 q3 q4 _ (by rw[←hnb];by_cases h:n<0<;>simp [h,dl]),dl_mk]
    rfl
   rw[hpd] at HDG
   clear hs hdg hd hpd hpe
   cases nb with
   |false=>
    exact Qw5
   |true=>
    exact Qw5
  ·rw[dl_size] at hl
   obtain rfl:nb=false:=by rw[←hnb];rfl
   clear hnb hp
   go_wp2_with fail
   go_loop [7,8] (fun v7 v8=>∃(i:Nat) (S:ByteArray),i≤s.size∧v8= .int .i64 i∧v7= .string S∧S.size≤1+2*i∧Hid (dl S=34::escT ((dl s).take i))) (fun _ v8=>s.size - (intOf v8).toNat)
   case atStart=>exact⟨0,⟨#[34]⟩,Nat.zero_le _,rfl,rfl,by decide,hide rfl⟩
   case round=>
    obtain⟨i,S,hi,rfl,rfl,hS,hq⟩:=hrel
    by_cases hil:i<s.size
    ·have p0:decide ((i:Int)<(s.size:Int))=true:=decide_eq_true (by omega)
     have q0:(0:Int)≤(i:Int):=by omega
     have q1:(i:Int)<(s.size:Int):=by omega
     by_cases h34:s[i].toNat=34
     ·have d1:((s[i].toNat:Int)==34)=true:=beq_iff_eq.2 (by omega)
      have d2:(s[i].toNat:Int)=34:=by omega
      have HN:=hide (quo_two hil hq.out hS (.inl h34))
      clear hq
      go_wp2_with fail
      go_round
      case rel=>exact⟨i+1,_,by omega,by go_num,rfl,HN.out.1,hide HN.out.2⟩
      case measure=>simp [intOf];omega
     ·have d1:((s[i].toNat:Int)==34)=false:=beq_eq_false_iff_ne.2 (by omega)
      by_cases h92:s[i].toNat=92
      ·have d2:((s[i].toNat:Int)==92)=true:=beq_iff_eq.2 (by omega)
       have HN:=hide (quo_two hil hq.out hS (.inr h92))
       clear hq
       go_wp2_with fail
       go_round
       case rel=>exact⟨i+1,_,by omega,by go_num,rfl,HN.out.1,hide HN.out.2⟩
       case measure=>simp [intOf];omega
      ·have d2:((s[i].toNat:Int)==92)=false:=beq_eq_false_iff_ne.2 (by omega)
       have HN:=hide (quo_one hil hq.out hS h34 h92)
       clear hq
       go_wp2_with fail
       go_round
       case rel=>exact⟨i+1,_,by omega,by go_num,rfl,HN.out.1,hide HN.out.2⟩
       case measure=>simp [intOf];omega
    ·obtain rfl:i=s.size:=by omega
     have p0:decide ((s.size:Int)<(s.size:Int))=false:=decide_eq_false (by omega)
     have HN:Hid (dl (S++⟨#[34]⟩)=dl ⟨(txtL 3 0 (dl s)).toArray⟩):=hide (by
      rw[dl_app,hq.out,dl_mk,←dl_size,List.take_length]
      simp [txtL,quoT,dl])
     clear hq
     go_wp2_with fail
     go_ret
     exact⟨ret_str HN.out,HBA.out⟩
  ·clear hs
   rcases hn with rfl|rfl
   ·obtain rfl:nb=false:=by rw[←hnb];rfl
    clear hnb
    go_wp2_with fail
    go_ret
    exact⟨rfl,HBA.out⟩
   ·obtain rfl:nb=false:=by rw[←hnb];rfl
    clear hnb
    go_wp2_with fail
    go_ret
    exact⟨rfl,HBA.out⟩
  ·have hs12:s.size≤12:=by rw[←dl_size];exact(nameL_facts hn).2.1
   obtain rfl:nb=false:=by rw[←hnb];rfl
   clear hnb hn
   go_wp2_with fail
   go_ret
   exact⟨ret_str (by rw[dl_app];rfl),HBA.out⟩
open Go Go.Lib
def sgn' (neg:Bool)(n:Nat):Int:=if neg then -(n:Int) else n
theorem val_noughts (l:List UInt8):∀k,val (l++List.replicate k 48) 0=val l 0*10^k
 |0=>by simp
 |k+1=>by
  rw[List.replicate_succ',←List.append_assoc,show val (l++List.replicate k 48++[48]) 0=val (l++List.replicate k 48) 0*10+((48:UInt8).toNat - 48) by simp [val],val_noughts l k,Nat.pow_succ,Nat.mul_assoc]
  rfl
theorem val_snoc (l:List UInt8)(c:UInt8)(acc:Nat):val (l++[c]) acc=val l acc*10+(c.toNat - 48):=by simp [val]
theorem val_lt:∀(l:List UInt8) (acc m:Nat),l.all digC=true→acc<10^m→val l acc<10^(m+l.length)
 |[],acc,m,_,h=>h
 |c::l,acc,m,hd,h=>by
  rw[List.all_cons,Bool.and_eq_true] at hd
  have hc:48≤c.toNat∧c.toNat≤57:=by simpa[digC] using hd.1
  have:=val_lt l (acc*10+(c.toNat - 48)) (m+1) hd.2 (by rw[Nat.pow_succ];omega)
  rw[List.length_cons,show m+(l.length+1)=m+1+l.length by omega]
  exact this
theorem val_len {l:List UInt8}(hd:l.all digC=true)(h:l.length≤406):lenD (val l 0)≤102:=by
 refine lenD_le ?_
 have h1:=val_lt l 0 0 hd (by decide)
 obtain⟨k,hk⟩:∃k,k=102:=⟨_,rfl⟩
 rw[←hk]
 have h2:10^(0+l.length)≤10^(4*k):=Nat.pow_le_pow_right (by decide) (by omega)
 have h3:10^(4*k)=10000^k:=by rw[Nat.pow_mul]
 rw[←h3]
 exact Nat.lt_of_lt_of_le h1 h2
theorem parseM_ok {M:Nat}:∀{l:List UInt8} {acc u:Nat},parseUintM M acc l= .ok u→u=val l acc
 |[],acc,u,h=>by
  simp only[parseUintM] at h
  injection h with h
  exact h.symm
 |c::r,acc,u,h=>by
  simp only[parseUintM] at h
  split at h
  ·split at h
   ·cases h
   ·split at h
    ·cases h
    ·have q:=parseM_ok (l:=r) h
     exact q
  ·cases h
theorem int_end {A:Type}{d:List UInt8}(hne:d≠[])(hd:d.all digC=true)(neg:Bool)(f:Int→A)(g:A):
 (match parseIntB 64 (if neg=true then 45::d else d) with| .ok n=>f n|_=>g)=if -9223372036854775808≤sgn' neg (val d 0)∧sgn' neg (val d 0)≤9223372036854775807 then f (sgn' neg (val d 0)) else g:=by
 have e63:(2:Nat)^(64 - 1)=9223372036854775808:=by decide
 have hok:∀u,parseUintB 64 d= .ok u→u=val d 0:=fun u h=>by
  unfold parseUintB at h
  rw[if_neg hne] at h
  exact parseM_ok h
 have hin:val d 0≤9223372036854775808→parseUintB 64 d= .ok (val d 0):=fun h=>by
  unfold parseUintB
  rw[if_neg hne]
  exact parse_val _ (by decide) d 0 hd (by have:(2:Nat)^64 - 1=18446744073709551615:=by decide
                                           omega)
 cases neg with
 |true=>
  simp only[if_true,parseIntB_minus,sgn']
  cases h:parseUintB 64 d
  case ok u=>
   have:=hok u h
   subst this
   simp only[signedC,e63]
   by_cases hv:9223372036854775808<val d 0
   ·rw[if_pos hv,if_neg (by omega)]
   ·rw[if_neg hv,if_pos (by omega)]
  all_goals
   simp only[signedC]
   rw[if_neg fun q=>by rw[hin (by omega)] at h;cases h]
 |false=>
  obtain⟨c,r,rfl⟩:=List.exists_cons_of_ne_nil hne
  have hc:=hd
  rw[List.all_cons,Bool.and_eq_true] at hc
  have hc1:48≤c.toNat∧c.toNat≤57:=by simpa[digC] using hc.1
  simp only[Bool.false_eq_true,if_false,parseIntB_plain 64 c r (by omega) (by omega),sgn']
  cases h:parseUintB 64 (c::r)
  case ok u=>
   have:=hok u h
   subst this
   simp only[signlessC,e63]
   by_cases hv:9223372036854775808≤val (c::r) 0
   ·rw[if_pos hv,if_neg (by omega)]
   ·rw[if_neg hv,if_pos (by omega)]
  all_goals
   simp only[signlessC]
   rw[if_neg fun q=>by rw[hin (by omega)] at h;cases h]
def numR (l:List UInt8):Option (Int×Bool):=
 let c:=cut (if l.head? =some 45 then l.tail else l) [46]
 if(!digL c.1||(decide (1<c.1.length) && c.1.head? ==some 48))||(c.2.2 && (!digL c.2.1||decide (4<c.2.1.length))) then none
 else some (sgn' (decide (l.head? =some 45)) (val (if c.2.2 then c.1++(c.2.1++[48,48,48,48]).take 4 else c.1) 0),c.2.2)
def inR (z:Int):Prop:= -9223372036854775808≤z∧z≤9223372036854775807
instance (z:Int):Decidable (inR z):=inferInstanceAs (Decidable (_∧_))
theorem digL_parts {l:List UInt8}(h:digL l=true):l≠[]∧l.all digC=true:=by
 unfold digL at h
 rw[Bool.and_eq_true] at h
 refine⟨fun e=>by subst e;simp at h,h.2⟩
theorem digL_mk {l:List UInt8}(h:l≠[])(hd:l.all digC=true):digL l=true:=by
 unfold digL
 rw[hd]
 cases l with
 |nil=>exact absurd rfl h
 |cons=>rfl
theorem numP_numR (l:List UInt8):numP l=match numR l with|none=> .error 4|some z=>if inR z.1 then .ok (if z.2 then 2 else 1,z.1) else .error 9:=by
 unfold numP numR
 simp only
 generalize hc:cut (if l.head? =some 45 then l.tail else l) [46]=c
 obtain⟨a,r,f⟩:=c
 simp only
 by_cases hbad:((!digL a||(decide (1<a.length) && a.head? ==some 48))||(f && (!digL r||decide (4<r.length))))=true
 ·rw[if_pos hbad,if_pos hbad]
 ·rw[if_neg hbad,if_neg hbad]
  simp only[Bool.or_eq_true,Bool.and_eq_true,not_or,not_and,Bool.not_eq_true',Bool.not_eq_true,decide_eq_false_iff_not,Bool.not_eq_false] at hbad
  obtain⟨⟨h1,_⟩,h2⟩:=hbad
  obtain⟨ha,had⟩:=digL_parts h1
  have hne:(if f=true then a++(r++[48,48,48,48]).take 4 else a)≠[]:=by
   split
   ·exact fun e=>ha (List.append_eq_nil_iff.1 e).1
   ·exact ha
  have hdd:(if f=true then a++(r++[48,48,48,48]).take 4 else a).all digC=true:=by
   split
   ·next hf=>
    obtain⟨_,hr⟩:=digL_parts (h2 hf).1
    rw[List.all_append,had,Bool.true_and]
    refine List.all_eq_true.2 fun x hx=>?_
    rcases List.mem_append.1 (List.mem_of_mem_take hx) with q|q
    ·exact List.all_eq_true.1 hr x q
    ·simp at q;subst q;decide
   ·exact had
  have:=int_end hne hdd (decide (l.head? =some 45)) (fun n=>(.ok (if f=true then 2 else 1,n):Except Int (Int×Int))) (.error 9)
  simp only[decide_eq_true_eq] at this
  exact this
def NumSt (b:List UInt8)(first j:Nat)(X:Nat)(pt:Int):Prop:=
 (pt= -1∧(b.take j).all digC=true∧X=val (b.take j) 0)∨∃a r,b.take j=a++46::r∧a≠[]∧a.all digC=true∧r.all digC=true∧pt=((first+a.length:Nat):Int)∧X=val (a++r) 0
theorem NumSt.start (b:List UInt8)(first:Nat):NumSt b first 0 0 (-1):= .inl ⟨rfl,by simp,by simp [val]⟩
theorem NumSt.len {b:List UInt8}{first j X:Nat}{pt:Int}(h:NumSt b first j X pt)(hb:b.length≤402):lenD X≤102:=by
 rcases h with ⟨_,hd,rfl⟩|⟨a,r,e,_,ha,hr,_,rfl⟩
 ·exact val_len hd (by rw[List.length_take];omega)
 ·refine val_len (by rw[List.all_append,ha,hr];rfl) ?_
  have:=congrArg List.length e
  rw[List.length_take,List.length_append,List.length_cons] at this
  rw[List.length_append]
  omega
theorem NumSt.pt {b:List UInt8}{first j X:Nat}{pt:Int}(h:NumSt b first j X pt)(hj:j≤b.length):pt= -1∨(0≤pt∧(first:Int)<pt∧pt<((first+j:Nat):Int)):=by
 rcases h with ⟨e,_⟩|⟨a,r,e,ha,_,_,hp,_⟩
 ·exact .inl e
 ·have h1:=congrArg List.length e
  rw[List.length_take,List.length_append,List.length_cons] at h1
  have h2:1≤a.length:=List.length_pos_iff.2 ha
  exact .inr ⟨by omega,by omega,by omega⟩
theorem NumSt.digit {b:List UInt8}{first j X:Nat}{pt:Int}(h:NumSt b first j X pt)(hj:j<b.length)(hc:digC b[j]=true):NumSt b first (j+1) (X*10+(b[j].toNat - 48)) pt:=by
 have e:=List.take_succ_eq_append_getElem hj
 rcases h with ⟨h1,h2,rfl⟩|⟨a,r,h1,h2,h3,h4,h5,rfl⟩
 ·refine .inl ⟨h1,?_,?_⟩
  ·rw[e,List.all_append,h2]
   simp [hc]
  ·rw[e,val_snoc]
 ·refine .inr ⟨a,r++[b[j]],?_,h2,h3,?_,h5,?_⟩
  ·rw[e,h1];simp
  ·rw[List.all_append,h4];simp [hc]
  ·rw[←List.append_assoc,val_snoc]
theorem NumSt.point {b:List UInt8}{first j X:Nat}{pt:Int}(h:NumSt b first j X pt)(hj:j<b.length)(hc:b[j]=46)(hp:pt<0)(h0:0<j):NumSt b first (j+1) X ((first+j:Nat):Int):=by
 have e:=List.take_succ_eq_append_getElem hj
 rcases h with ⟨h1,h2,rfl⟩|⟨a,r,h1,h2,h3,h4,h5,rfl⟩
 ·have hl:(b.take j).length=j:=by rw[List.length_take];omega
  refine .inr ⟨b.take j,[],?_,fun q=>?_,h2,rfl,?_,by simp⟩
  ·rw[e,hc]
  ·rw[q] at hl;simp at hl;omega
  ·rw[hl]
 ·omega
theorem all_not46 {l:List UInt8}(h:l.all digC=true):(46:UInt8)∉l:=not_dig h (by decide)
theorem NumSt.bad {l b:List UInt8}{first j X:Nat}{pt:Int}(hb:(if l.head? =some 45 then l.tail else l)=b)(h:NumSt b first j X pt)(hj:j<b.length)(hd:digC b[j]=false)(hc:¬(b[j]=46∧pt<0∧0<j)):numR l=none:=by
 have hmem:b[j]∈b.drop j:=by rw[List.drop_eq_getElem_cons hj];exact List.mem_cons_self
 have hsp:=List.take_append_drop j b
 unfold numR
 simp only[hb]
 refine if_pos ?_
 rcases h with ⟨h1,h2,rfl⟩|⟨a,r,h1,h2,h3,h4,h5,rfl⟩
 ·rcases split_one 46 b with hn|⟨a,r,e,hn⟩
  ·rw[cut_one_none hn]
   have:digL b=false:=by
    cases hq:digL b with
    |false=>rfl
    |true=>
     have:=List.all_eq_true.1 (digL_parts hq).2 _ (List.getElem_mem hj)
     rw[hd] at this
     cases this
   simp [this]
  ·rw[e,cut_one_some a r hn]
   have hx:digL a=false:=by
    cases hq:digL a with
    |false=>rfl
    |true=>
     exfalso
     obtain⟨q1,q2⟩:=digL_parts hq
     have hal:1≤a.length:=List.length_pos_iff.2 q1
     rcases Nat.lt_trichotomy j a.length with hlt|heq|hgt
     ·have:b[j]=a[j]:=by
       have h8:b[j]? =a[j]?:=by rw[e,List.getElem?_append_left hlt]
       rw[List.getElem?_eq_getElem hj,List.getElem?_eq_getElem hlt] at h8
       exact Option.some.inj h8
      have h9:=List.all_eq_true.1 q2 _ (List.getElem_mem hlt)
      rw[←this,hd] at h9
      cases h9
     ·refine hc ⟨?_,by omega,by omega⟩
      have h8:b[j]? =some 46:=by rw[e,heq,List.getElem?_append_right (Nat.le_refl _)];simp
      rw[List.getElem?_eq_getElem hj] at h8
      exact Option.some.inj h8
     ·have h8:(46:UInt8)∈b.take j:=by
       rw[e,List.take_append,List.mem_append]
       refine .inr ?_
       obtain⟨k,hk⟩:∃k,j - a.length=k+1:=⟨j - a.length - 1,by omega⟩
       rw[hk,List.take_succ_cons]
       exact List.mem_cons_self
      exact all_not46 h2 h8
   simp [hx]
 ·rw[←hsp,h1,List.append_assoc,List.cons_append,cut_one_some a _ (all_not46 h3)]
  have hx:digL (r++b.drop j)=false:=by
   cases hq:digL (r++b.drop j) with
   |false=>rfl
   |true=>
    have:=List.all_eq_true.1 (digL_parts hq).2 _ (List.mem_append_right _ hmem)
    rw[hd] at this
    cases this
  simp [hx]
theorem NumSt.plain {l b:List UInt8}{first X:Nat}{pt:Int}(hb:(if l.head? =some 45 then l.tail else l)=b)(h:NumSt b first b.length X pt)(hp:pt<0):
 numR l=if b=[]∨(1<b.length∧b.head? =some 48) then none else some (sgn' (decide (l.head? =some 45)) X,false):=by
 rcases h with ⟨h1,h2,rfl⟩|⟨a,r,_,_,_,_,h5,_⟩
 ·rw[List.take_length] at h2 ⊢
  unfold numR
  simp only[hb,cut_one_none (all_not46 h2),Bool.false_and,Bool.or_false,Bool.false_eq_true,if_false]
  by_cases hn:b=[]
  ·rw[if_pos (Or.inl hn:b=[]∨_),hn];rfl
  ·rw[digL_mk hn h2]
   by_cases hq:1<b.length∧b.head? =some 48
   ·rw[if_pos (Or.inr hq:b=[]∨_),if_pos (by simp [hq.1,hq.2])]
   ·rw[if_neg (by rintro (q|q);exact hn q;exact hq q:¬(b=[]∨_)),if_neg (by simpa using hq)]
 ·omega
theorem NumSt.pointed {l b:List UInt8}{first X:Nat}{pt:Int}(hb:(if l.head? =some 45 then l.tail else l)=b)(h:NumSt b first b.length X pt)(hp:0≤pt):
 numR l=(if(b.length - ((pt - first).toNat+1)<1∨4<b.length - ((pt - first).toNat+1))∨(1<(pt - first).toNat∧b.head? =some 48) then none else some (sgn' (decide (l.head? =some 45)) (X*10^(4 - (b.length - ((pt - first).toNat+1)))),true))∧1≤(pt - first).toNat∧(pt - first).toNat+1≤b.length:=by
 rcases h with ⟨h1,_⟩|⟨a,r,h1,h2,h3,h4,h5,rfl⟩
 ·omega
 ·rw[List.take_length] at h1
  have hl:=congrArg List.length h1
  rw[List.length_append,List.length_cons] at hl
  have e1:(pt - first).toNat=a.length:=by omega
  have e2:b.length - (a.length+1)=r.length:=by omega
  have hal:1≤a.length:=List.length_pos_iff.2 h2
  rw[e1,e2]
  refine⟨?_,hal,by omega⟩
  have hhd:b.head? =a.head?:=by
   rw[h1]
   cases a with
   |nil=>exact absurd rfl h2
   |cons=>rfl
  rw[hhd]
  unfold numR
  simp only[hb]
  rw[h1,cut_one_some a r (all_not46 h3)]
  simp only[if_true,Bool.true_and,digL_mk h2 h3]
  by_cases hr:r=[]
  ·subst hr
   rw[if_pos (by simp [digL]),if_pos (by simp)]
  ·rw[digL_mk hr h4]
   have hrl:1≤r.length:=List.length_pos_iff.2 hr
   by_cases hq:4<r.length∨(1<a.length∧a.head? =some 48)
   ·rw[if_pos (by rcases hq with q|⟨q1,q2⟩<;>simp [*]),if_pos (by rcases hq with q|q<;>simp [*])]
   ·rw[if_neg (by
     simp only[not_or,not_and] at hq
     simp
     exact⟨fun q=>by simpa using hq.2 q,by omega⟩),if_neg (by
     simp only[not_or,not_and] at hq ⊢
     exact⟨⟨by omega,hq.1⟩,hq.2⟩)]
    have ht:(r++[48,48,48,48]).take 4=r++List.replicate (4 - r.length) 48:=by
     simp only[not_or,not_and] at hq
     have:r.length=1∨r.length=2∨r.length=3∨r.length=4:=by omega
     rw[List.take_append,List.take_of_length_le (by omega)]
     rcases this with q|q|q|q<;>rw[q]<;>rfl
    rw[ht,←List.append_assoc,val_noughts]
open Go Go.RowKit Go.Lib
theorem nv_drop_le (l:List Nat)(k:Nat):nv (l.drop k)≤nv l:=by
 have h:=nv_split l k
 have h1:1≤10000^(l.take k).length:=Nat.pow_pos (by decide)
 have h2:nv (l.drop k)≤10000^(l.take k).length*nv (l.drop k):=Nat.le_mul_of_pos_left _ h1
 omega
theorem NumIs.digit {w:World}{b:Bool}{a:Option Addr}{n c:Nat}{z:Int}(h:NumIs w (.agg #[.bool b,.slice a n c]) z){i:Nat}(hi:i<(dg z.natAbs).length):∃bk off,a=some ⟨bk,off,none⟩∧w.cell? ⟨bk,off+i,none⟩=some (.int .i64 ((dg z.natAbs)[i]:Int)):=by
 obtain⟨s,e,hd⟩:=h
 simp at e
 obtain⟨_,rfl⟩:=e
 exact hd.at hi
def IntOut (z:Int)(e:Ending):Prop:=e= .returned (.tuple #[.int .i64 (if inR z then z else 0),.int .i64 (if inR z then 0 else 9)])
theorem IntOut.no {z:Int}(h:¬inR z):IntOut z (.returned (.tuple #[.int .i64 0,.int .i64 9])):=by unfold IntOut;rw[if_neg h,if_neg h]
theorem IntOut.yes {z:Int}(h:inR z):IntOut z (.returned (.tuple #[.int .i64 z,.int .i64 0])):=by unfold IntOut;rw[if_pos h,if_pos h]
theorem cmpZ_lt {x y:Int}(h:x<y):cmpZ x y= -1:=by unfold cmpZ;rw[if_pos h]
theorem cmpZ_ge {x y:Int}(h:y≤x):cmpZ x y=0∨cmpZ x y=1:=by
 unfold cmpZ
 rw[if_neg (by omega)]
 split<;>simp
theorem cmpZ_gt {x y:Int}(h:y<x):cmpZ x y=1:=by unfold cmpZ;rw[if_neg (by omega),if_neg (by omega)]
theorem cmpZ_le {x y:Int}(h:x≤y):cmpZ x y=0∨cmpZ x y= -1:=by
 unfold cmpZ
 split
 ·simp
 ·rw[if_pos (by omega)];simp
def dl5 (z:Int)(n:Nat):Prop:=lenD z.natAbs=n∧inR z
theorem dl5_step {z M:Int}{n m:Nat}{ng:Bool}(h:dl5 z n)(hj:m+1≤n)(hng:decide (z<0)=ng)(hM:M=sgn' ng (nv ((dg z.natAbs).drop (m+1)))):m<(dg z.natAbs).length∧
 ∃d:Nat,(dg z.natAbs)[m]? =some d∧d<10000∧ -9223372036854775808≤M*10000∧M*10000≤9223372036854775807∧(ng=true→ -9223372036854775808≤M*10000 - d∧M*10000 - d≤9223372036854775807∧M*10000 - d=sgn' ng (nv ((dg z.natAbs).drop m)))∧(ng=false→ -9223372036854775808≤M*10000+d∧M*10000+d≤9223372036854775807∧M*10000+d=sgn' ng (nv ((dg z.natAbs).drop m))):=by
 have hm:m<(dg z.natAbs).length:=by have:=h.1;unfold lenD at this;omega
 have hd:=ok_dg z.natAbs _ (List.getElem_mem hm)
 have h1:=nv_drop_cons hm
 have h2:=nv_drop_le (dg z.natAbs) m
 rw[nv_dg] at h2
 obtain⟨h3,h4⟩:=h.2
 refine⟨hm,_,List.getElem?_eq_getElem hm,hd,?_⟩
 subst hng hM
 unfold sgn'
 by_cases hz:z<0
 ·simp only[hz,decide_true,if_true]
  rw[h1] at h2 ⊢
  exact⟨by omega,by omega,fun _=>⟨by omega,by omega,by omega⟩,by simp⟩
 ·simp only[hz,decide_false,Bool.false_eq_true,if_false]
  rw[h1] at h2 ⊢
  exact⟨by omega,by omega,False.elim,fun _=>⟨by omega,by omega,by omega⟩⟩
set_option maxRecDepth 100000 in
set_option maxHeartbeats 8000000 in
theorem int_any {w:World}{v:Value}{z:Int}(hx:NumIs w v z)(hl:lenD z.natAbs≤40000):Calls Tryz.prog 214 #[v] w fun e w'=>IntOut z e∧Below w.heap.size w w':=by
 have HXN:=hide hx
 obtain⟨ax,cx,rfl,hd⟩:=hx.form
 obtain⟨nx,hnx⟩:∃n,lenD z.natAbs=n:=⟨_,rfl⟩
 rw[hnx] at hd HXN ⊢
 obtain⟨ng,hng⟩:∃b,decide (z<0)=b:=⟨_,rfl⟩
 rw[hng] at HXN ⊢
 have HNG:=hide hng
 have HD:=hide hd
 have HL:=hide hl
 have HNX:=hide hnx
 have HO1:Hid (∀V:World,Calls Tryz.prog 47 #[.int .i64 (-9223372036854775808)] V (NmPost V (-9223372036854775808))):=hide fun V=>of_num _ (by decide) (by decide)
 have HO2:Hid (∀V:World,Calls Tryz.prog 47 #[.int .i64 9223372036854775807] V (NmPost V 9223372036854775807)):=hide fun V=>of_num _ (by decide) (by decide)
 have hbA:=(Below.refl w.heap.size w).alloc (Nat.le_refl _) (.cells #[.bool ng,.slice ax nx cx] 79)
 have hbx:=(MapKept.heap_alloc w (.cells #[.bool ng,.slice ax nx cx] 79)).1
 have HA:=hide (And.intro hbA hbx)
 clear hx hd hnx hng hl hbA hbx
 go_enter Tryz.func214,Tryz.ntmps214
 go_upto_region 1 with fail
 obtain⟨W1,hW1⟩:∃W1,w.alloc (.cells #[.bool ng,.slice ax nx cx] 79)=W1:=⟨_,rfl⟩
 rw[hW1] at HA ⊢
 clear hW1
 go_wp2_with fail
 (with_reducible refine(HO1.out W1).mono ?_)
 rintro e V1 ⟨⟨v1,rfl,hv1⟩,hb1⟩
 have HV1:=hide hv1
 have HB1:=hide hb1
 clear hv1 hb1
 go_wp2_with fail
 (with_reducible refine(HO2.out V1).mono ?_)
 rintro e V2 ⟨⟨v2,rfl,hv2⟩,hb2⟩
 obtain⟨t1,a1,k1,c1,rfl⟩:=NumIs.parts HV1.out
 obtain⟨t2,a2,k2,c2,rfl⟩:=NumIs.parts hv2
 have HV2:=hide hv2
 have HB2:=hide hb2
 clear hv2 hb2 HO1 HO2
 go_upto_region 2 with fail
 have hb3:Below V2.heap.size V2 ((V2.alloc (.cells #[.bool t1,.slice a1 k1 c1] 79)).alloc (.cells #[.bool t2,.slice a2 k2 c2] 79)):=((Below.refl _ _).alloc (Nat.le_refl _) _).alloc (by simp) _
 have hp1:((V2.alloc (.cells #[.bool t1,.slice a1 k1 c1] 79)).alloc (.cells #[.bool t2,.slice a2 k2 c2] 79)).heap[V2.heap.size]? =some (.cells #[.bool t1,.slice a1 k1 c1] 79 (0,0)):=by
  rw[Below.heap_alloc _ _ _ (by simp)]
  exact heap_alloc0 _ _
 have hp2:((V2.alloc (.cells #[.bool t1,.slice a1 k1 c1] 79)).alloc (.cells #[.bool t2,.slice a2 k2 c2] 79)).heap[V2.heap.size+1]? =some (.cells #[.bool t2,.slice a2 k2 c2] 79 (0,0)):=by
  have:=heap_alloc0 (V2.alloc (.cells #[.bool t1,.slice a1 k1 c1] 79)) (.cells #[.bool t2,.slice a2 k2 c2] 79)
  simpa using this
 obtain⟨W3,hW3⟩:∃W3,(V2.alloc (.cells #[.bool t1,.slice a1 k1 c1] 79)).alloc (.cells #[.bool t2,.slice a2 k2 c2] 79)=W3:=⟨_,rfl⟩
 rw[hW3] at hb3 hp1 hp2 ⊢
 have hw1:=HA.out.1
 have hw2:=hw1.trans (HB1.out.mono hw1.size)
 have hw3:=hw2.trans (HB2.out.mono hw2.size)
 have hw4:=hw3.trans (hb3.mono hw3.size)
 have hbx:W3.heap[w.heap.size]? =some (.cells #[.bool ng,.slice ax nx cx] 79 (0,0)):=
  (hb3.block _ (by have:=HB2.out.size;have:=HB1.out.size;have:=lt_some HA.out.2;omega)).trans ((HB2.out.block _ (by have:=HB1.out.size;have:=lt_some HA.out.2;omega)).trans ((HB1.out.block _ (lt_some HA.out.2)).trans HA.out.2))
 have HX3:Hid (NumIs W3 (.agg #[.bool ng,.slice ax nx cx]) z):=hide (HXN.out.below hw4)
 have H13:Hid (NumIs W3 (.agg #[.bool t1,.slice a1 k1 c1]) (-9223372036854775808)):=hide ((HV1.out.below HB2.out).below hb3)
 have H23:Hid (NumIs W3 (.agg #[.bool t2,.slice a2 k2 c2]) 9223372036854775807):=hide (HV2.out.below hb3)
 obtain⟨c0,c1',_⟩:=two_cells' hbx
 obtain⟨d0,d1,_⟩:=two_cells' hp1
 obtain⟨e0,e1,_⟩:=two_cells' hp2
 have HC1:=hide (zcmp_any HX3.out H13.out (Nat.le_trans HL.out (by decide)) (Nat.le_trans (lenD_le (k:=10) (by decide)) (by decide)))
 have HB4:=hide hw4
 have HB:=hide (And.intro hbx (And.intro hp1 hp2))
 clear hb3 hp1 hp2 hW3 hw1 hw2 hw3 hw4 hbx HA HB1 HB2 HV1 HV2 H13
 obtain⟨p,hp⟩:∃p,V2.heap.size=p:=⟨_,rfl⟩
 rw[hp] at HB d0 d1 ⊢
 rw[hp] at e0 e1
 clear hp
 by_cases hlo:z< -9223372036854775808
 ·have hc:=cmpZ_lt hlo
  rw[hc] at HC1
  have HN:=hide (IntOut.no (z:=z) (fun h=>by have:=h.1;omega))
  clear hc hlo
  go_wp2_with fail
  (with_reducible refine HC1.out.mono ?_)
  rintro e V4 ⟨rfl,hb⟩
  have HF:=hide (HB4.out.trans (hb.mono HB4.out.size))
  clear hb
  go_wp2_with fail
  exact bodyPost_ret (v:= .tuple #[.int .i64 0,.int .i64 9]) (by simp [results,Tryz.results214,go_sem]) rfl ⟨HN.out,HF.out⟩
 ·have hc:=cmpZ_ge (x:=z) (y:= -9223372036854775808) (by omega)
  obtain⟨r1,hr1⟩:∃r,cmpZ z (-9223372036854775808)=r:=⟨_,rfl⟩
  rw[hr1] at HC1 hc
  have hr0:0≤r1:=by omega
  clear hc hr1
  have g1:decide (r1<0)=false:=decide_eq_false (by omega)
  have HLO:=hide hlo
  clear hlo
  go_wp2_with fail
  (with_reducible refine HC1.out.mono ?_)
  rintro e V4 ⟨rfl,hb⟩
  have HF:=hide (HB4.out.trans (hb.mono HB4.out.size))
  have HC2:=hide (zcmp_any (HX3.out.below hb) (H23.out.below hb) (Nat.le_trans HL.out (by decide)) (Nat.le_trans (lenD_le (k:=10) (by decide)) (by decide)))
  have c0:=bcell hb c0
  have c1':=bcell hb c1'
  have e0:=bcell hb e0
  have e1:=bcell hb e1
  have HX4:=hide (HX3.out.below hb)
  clear hb d0 d1 HC1 HB HX3 H23 HB4
  by_cases hhi:9223372036854775807<z
  ·have hc:=cmpZ_gt hhi
   rw[hc] at HC2
   have HN:=hide (IntOut.no (z:=z) (fun h=>by have:=h.2;omega))
   clear hc hhi HLO
   go_wp2_with fail
   (with_reducible refine HC2.out.mono ?_)
   rintro e V5 ⟨rfl,hb⟩
   have HG:=hide (HF.out.trans (hb.mono HF.out.size))
   clear hb
   go_wp2_with fail
   exact bodyPost_ret (v:= .tuple #[.int .i64 0,.int .i64 9]) (by simp [results,Tryz.results214,go_sem]) rfl ⟨HN.out,HG.out⟩
  ·have hc:=cmpZ_le (x:=z) (y:=9223372036854775807) (by omega)
   obtain⟨r2,hr2⟩:∃r,cmpZ z 9223372036854775807=r:=⟨_,rfl⟩
   rw[hr2] at HC2 hc
   have hr0:r2≤0:=by omega
   clear hc hr2
   have g2:decide (0<r2)=false:=decide_eq_false (by omega)
   have HN:=hide (show inR z from⟨by have:=HLO.out;omega,by omega⟩)
   clear hhi HLO
   go_wp2_with fail
   (with_reducible refine HC2.out.mono ?_)
   rintro e V5 ⟨rfl,hb⟩
   have HG:=hide (HF.out.trans (hb.mono HF.out.size))
   have c0:=bcell hb c0
   have c1':=bcell hb c1'
   have HX5:=hide (HX4.out.below hb)
   clear hb e0 e1 HC2 HF HX4
   have hnl:nx≤40000:=by rw[←HNX.out];exact HL.out
   go_wp2_with fail
   have HW:=hide (show dl5 z nx from⟨HNX.out,HN.out⟩)
   go_loop [6,7] (fun v6 v7=>∃(j:Nat) (M:Int),v6= .int .i64 M∧v7= .int .i64 ((j:Int) - 1)∧j≤nx∧Hid (M=sgn' ng (nv ((dg z.natAbs).drop j)))) (fun _ v7=>(intOf v7+1).toNat)
   case atStart=>exact⟨nx,0,rfl,rfl,Nat.le_refl _,hide (by rw[←HNX.out,List.drop_of_length_le (show(dg z.natAbs).length≤lenD z.natAbs from Nat.le_refl _)];cases ng<;>rfl)⟩
   case round=>
    obtain⟨j,M,rfl,rfl,hj,hq⟩:=hrel
    rcases j with _|m
    ·have p0:decide ((0:Int)≤ -1)=false:=by decide
     have hj0:(((0:Nat):Int) - 1)= -1:=rfl
     rw[hj0]
     have hM:M=z:=by
      rw[hq.out,List.drop_zero,nv_dg,←HNG.out]
      unfold sgn'
      by_cases h:z<0
      ·simp [h];omega
      ·simp [h];omega
     have HM:=hide hM
     clear hq hM hj0
     go_wp2_with fail
     exact bodyPost_ret (v:= .tuple #[.int .i64 M,.int .i64 0]) (by simp [results,Tryz.results214,go_sem]) rfl ⟨by rw[HM.out];exact IntOut.yes HN.out,HG.out⟩
    ·have ej:((m+1:Nat):Int) - 1=(m:Int):=by omega
     rw[ej]
     obtain⟨hm,d,hd,hd4,hb1,hb2,hb3,hb4⟩:=dl5_step HW.out hj HNG.out hq.out
     have hd5:=NumIs.digit HX5.out hm
     rw[List.getElem?_eq_getElem hm] at hd
     injection hd with hd
     rw[hd] at hd5
     obtain⟨bx,fx,rfl,hcx⟩:=hd5
     have q0:(0:Int)≤(m:Int):=by omega
     have q1:(m:Int)<(nx:Int):=by omega
     have p0:decide ((0:Int)≤(m:Int))=true:=decide_eq_true q0
     clear hd hm ej
     have HB3:=hide (And.intro hb3 hb4)
     clear hb3 hb4 hq
     cases ng with
     |true=>
      obtain⟨k1,k2,k3⟩:=HB3.out.1 rfl
      have HK:=hide k3
      clear k3
      go_wp2_with fail
      go_round
      case rel=>exact⟨m,M*10000 - d,rfl,by go_num,by omega,HK⟩
      case measure=>simp [intOf]<;>omega
     |false=>
      obtain⟨k1,k2,k3⟩:=HB3.out.2 rfl
      have HK:=hide k3
      clear k3
      go_wp2_with fail
      go_round
      case rel=>exact⟨m,M*10000+d,rfl,by go_num,by omega,HK⟩
      case measure=>simp [intOf]<;>omega
open Go Go.RowKit Go.Lib
theorem drop_two {l:List UInt8}{i:Nat}(h:i+1<l.length):l.drop i=l[i]::l[i+1]::l.drop (i+2):=by
 rw[List.drop_eq_getElem_cons (by omega),List.drop_eq_getElem_cons h]
theorem innerL_esc' {l:List UInt8}{i:Nat}(h:i+1<l.length)(hc:l[i]=92):innerL (l.drop i)=l[i+1]::innerL (l.drop (i+2)):=by
 rw[drop_two h,innerL,if_pos hc]
theorem innerL_one {l:List UInt8}{i:Nat}(h:i+1<l.length)(hc:l[i]≠92):innerL (l.drop i)=l[i]::innerL (l.drop (i+1)):=by
 rw[drop_two h,innerL,if_neg hc,List.drop_eq_getElem_cons h]
theorem inL_short {l:List UInt8}{i:Nat}(h:l.length≤i+1):innerL (l.drop i)=[]:=by
 have:(l.drop i).length≤1:=by rw[List.length_drop];omega
 match l.drop i,this with
 |[],_=>rfl
 |[c],_=>rfl
set_option maxRecDepth 100000 in
set_option maxHeartbeats 4000000 in
theorem inner_any {w:World}(s:ByteArray)(hs:s.size≤1000000):Calls Tryz.prog 213 #[.string s] w fun e w'=>e= .returned (.string ⟨(innerL (dl s).tail).toArray⟩)∧w=w':=by
 go_enter Tryz.func213,Tryz.ntmps213
 go_wp2_with fail
 go_loop [3,4] (fun v3 v4=>∃(i:Nat) (S:ByteArray),v4= .int .i64 (i:Int)∧v3= .string S∧i≤s.size+1∧S.size≤i∧Hid (dl S++innerL ((dl s).drop i)=innerL (dl s).tail)) (fun _ v4=>s.size+1 - (intOf v4).toNat)
 case atStart=>exact⟨1,⟨#[]⟩,rfl,rfl,by omega,by decide,hide (by rw[List.drop_one];rfl)⟩
 case round=>
  obtain⟨i,S,rfl,rfl,hi,hS,hq⟩:=hrel
  by_cases hgo:i+1<s.size
  ·have p0:decide ((i:Int)+1<(s.size:Int))=true:=decide_eq_true (by omega)
   have q0:(0:Int)≤(i:Int):=by omega
   have q1:(i:Int)<(s.size:Int):=by omega
   have hi0:i<s.size:=by omega
   have hl1:i+1<(dl s).length:=(dl_size s).symm▸hgo
   have hl0:i<(dl s).length:=(dl_size s).symm▸hi0
   have e0:(dl s)[i]'hl0=s[i]:=by
    have:=dl_get hi0
    rw[List.getElem?_eq_getElem hl0] at this
    exact Option.some.inj this
   have e1:(dl s)[i+1]'hl1=s[i+1]:=by
    have:=dl_get hgo
    rw[List.getElem?_eq_getElem hl1] at this
    exact Option.some.inj this
   by_cases h92:s[i].toNat=92
   ·have d1:((s[i].toNat:Int)==92)=true:=beq_iff_eq.2 (by omega)
    obtain⟨b1,b2,_⟩:=dl_byte hgo
    have hsl:=slice_mid s ((i:Int)+1) ((i:Int)+1+1) (by omega) (by omega) (by omega)
    rw[show((i:Int)+1).toNat=i+1 by omega,show((i:Int)+1+1).toNat=i+1+1 by omega] at hsl
    have HQ:=hide (show dl (S++s.extract (i+1) (i+1+1))++innerL ((dl s).drop (i+2))=innerL (dl s).tail by
     rw[dl_app,b1,←hq.out,innerL_esc' hl1 (by rw[e0];exact u8_eq h92),e1]
     simp)
    obtain⟨B,hB⟩:∃B,s.extract (i+1) (i+1+1)=B:=⟨_,rfl⟩
    rw[hB] at hsl HQ b2
    have hbs:B.size≤1:=by omega
    have hsz:(S++B).size≤i+2:=by rw[ByteArray.size_append];omega
    have HSZ:=hide hsz
    clear hq b1 b2 e0 e1 hB hsz
    go_wp2_with fail
    go_round
    case rel=>exact⟨i+2,S++B,by go_num,rfl,by omega,HSZ.out,HQ⟩
    case measure=>simp [intOf]<;>omega
   ·have d1:((s[i].toNat:Int)==92)=false:=beq_eq_false_iff_ne.2 (by omega)
    obtain⟨b1,b2,_⟩:=dl_byte hi0
    have hsl:=slice_mid s (i:Int) ((i:Int)+1) (by omega) (by omega) (by omega)
    rw[show((i:Int)).toNat=i by omega,show((i:Int)+1).toNat=i+1 by omega] at hsl
    have HQ:=hide (show dl (S++s.extract i (i+1))++innerL ((dl s).drop (i+1))=innerL (dl s).tail by
     rw[dl_app,b1,←hq.out,innerL_one hl1 (by rw[e0];exact fun e=>h92 (by rw[e];rfl)),e0]
     simp)
    obtain⟨B,hB⟩:∃B,s.extract i (i+1)=B:=⟨_,rfl⟩
    rw[hB] at hsl HQ b2
    have hbs:B.size≤1:=by omega
    have hsz:(S++B).size≤i+1:=by rw[ByteArray.size_append];omega
    have HSZ:=hide hsz
    clear hq b1 b2 e0 e1 hB hsz
    go_wp2_with fail
    go_round
    case rel=>exact⟨i+1,S++B,by go_num,rfl,by omega,HSZ.out,HQ⟩
    case measure=>simp [intOf]<;>omega
  ·have p0:decide ((i:Int)+1<(s.size:Int))=false:=decide_eq_false (by omega)
   have HE:=hide (ret_str (s:=S) (t:=⟨(innerL (dl s).tail).toArray⟩) (by
    have:=hq.out
    rw[inL_short (by rw[dl_size];omega),List.append_nil] at this
    rw[dl_mk]
    exact this))
   clear hq
   go_wp2_with fail
   go_ret
   exact⟨HE.out,rfl⟩
end Go.Proofs.YtgfakdobajgnfaaGreatDoor
