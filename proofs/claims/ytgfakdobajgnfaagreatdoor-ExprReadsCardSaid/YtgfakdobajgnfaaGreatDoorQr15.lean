import Derived.Test.YtgfakdobajgnfaaGreatDoorQr12
import Derived.Test.YtgfakdobajgnfaaGreatDoorQr14
import Derived.Test.YtgfakdobajgnfaaGreatDoorQr13
namespace Go.Proofs.YtgfakdobajgnfaaGreatDoor
open Go Go.RowKit Go.Lib
set_option maxHeartbeats 4000000 in
theorem rsmall_any (c:UInt8)(w:World):Calls Tryz.prog 210 #[.int .u8 (c.toNat:Int)] w fun e w'=>e= .returned (.bool (lowC c))∧w=w':=by
 obtain⟨r,hr⟩:∃r,lowC c=r:=⟨_,rfl⟩
 rw[hr]
 unfold lowC at hr
 by_cases h1:97≤c.toNat
 ·have d1:decide ((97:Int)≤(c.toNat:Int))=true:=decide_eq_true (by omega)
  rw[decide_eq_true h1,Bool.true_and] at hr
  by_cases h2:c.toNat≤122
  ·have d2:decide ((c.toNat:Int)≤122)=true:=decide_eq_true (by omega)
   rw[decide_eq_true h2] at hr
   subst hr
   go_enter Tryz.func210,Tryz.ntmps210
   go_wp2_with fail
   go_ret
   exact⟨rfl,rfl⟩
  ·have d2:decide ((c.toNat:Int)≤122)=false:=decide_eq_false (by omega)
   rw[decide_eq_false h2] at hr
   subst hr
   go_enter Tryz.func210,Tryz.ntmps210
   go_wp2_with fail
   go_ret
   exact⟨rfl,rfl⟩
 ·have d1:decide ((97:Int)≤(c.toNat:Int))=false:=decide_eq_false (by omega)
  rw[decide_eq_false h1,Bool.false_and] at hr
  subst hr
  go_enter Tryz.func210,Tryz.ntmps210
  go_wp2_with fail
  go_ret
  exact⟨rfl,rfl⟩
set_option maxHeartbeats 4000000 in
theorem rdigit_any (c:UInt8)(w:World):Calls Tryz.prog 157 #[.int .u8 (c.toNat:Int)] w fun e w'=>e= .returned (.bool (digC c))∧w=w':=by
 obtain⟨r,hr⟩:∃r,digC c=r:=⟨_,rfl⟩
 rw[hr]
 unfold digC at hr
 by_cases h1:48≤c.toNat
 ·have d1:decide ((48:Int)≤(c.toNat:Int))=true:=decide_eq_true (by omega)
  rw[decide_eq_true h1,Bool.true_and] at hr
  by_cases h2:c.toNat≤57
  ·have d2:decide ((c.toNat:Int)≤57)=true:=decide_eq_true (by omega)
   rw[decide_eq_true h2] at hr
   subst hr
   go_enter Tryz.func157,Tryz.ntmps157
   go_wp2_with fail
   go_ret
   exact⟨rfl,rfl⟩
  ·have d2:decide ((c.toNat:Int)≤57)=false:=decide_eq_false (by omega)
   rw[decide_eq_false h2] at hr
   subst hr
   go_enter Tryz.func157,Tryz.ntmps157
   go_wp2_with fail
   go_ret
   exact⟨rfl,rfl⟩
 ·have d1:decide ((48:Int)≤(c.toNat:Int))=false:=decide_eq_false (by omega)
  rw[decide_eq_false h1,Bool.false_and] at hr
  subst hr
  go_enter Tryz.func157,Tryz.ntmps157
  go_wp2_with fail
  go_ret
  exact⟨rfl,rfl⟩
theorem ret_nat {a b:Nat}(h:a=b):Ending.returned (.int .i64 (a:Int))= .returned (.int .i64 (b:Int)):=by rw[h]
theorem dl_at {s:ByteArray}{p:Nat}(h:p<s.size):(dl s).drop p=s[p]::(dl s).drop (p+1):=by
 have hl:p<(dl s).length:=(dl_size s).symm▸h
 have:=dl_get h
 rw[List.getElem?_eq_getElem hl] at this
 rw[List.drop_eq_getElem_cons hl,Option.some.inj this]
theorem dl_past {s:ByteArray}{p:Nat}(h:s.size≤p):(dl s).drop p=[]:=List.drop_eq_nil_of_le (by rw[dl_size];exact h)
theorem spanL_no {q:UInt8→Bool}{c:UInt8}{r:List UInt8}(h:q c=false):spanL q (c::r)=0:=by
 unfold spanL
 rw[List.takeWhile_cons,h]
 rfl
theorem spanL_yes {q:UInt8→Bool}{c:UInt8}{r:List UInt8}(h:q c=true):spanL q (c::r)=1+spanL q r:=by
 unfold spanL
 rw[List.takeWhile_cons,h]
 simp
 omega
def runL (l:List UInt8):Nat:=match l with
 |c::r=>if lowC c then spanL namC (c::r) else 0
 |[]=>0
theorem low_nam {c:UInt8}(h:lowC c=true):namC c=true:=by unfold namC;rw[h];rfl
set_option maxRecDepth 100000 in
set_option maxHeartbeats 4000000 in
theorem run_any (s:ByteArray)(p:Nat)(w:World)(hs:s.size≤1000000)(hp:p≤s.size+1):Calls Tryz.prog 156 #[.string s,.int .i64 (p:Int)] w fun e w'=>e= .returned (.int .i64 ((p+runL ((dl s).drop p):Nat):Int))∧w=w':=by
 by_cases hlt:p<s.size
 ·have e1:=dl_at hlt
  have q0:(0:Int)≤(p:Int):=by omega
  have q1:(p:Int)<(s.size:Int):=by omega
  have d0:decide (s.size≤p)=false:=decide_eq_false (by omega)
  have HSM:=hide (rsmall_any s[p] w)
  cases hc:lowC s[p] with
  |false=>
   rw[hc] at HSM
   have HE:Hid (p+runL ((dl s).drop p)=p):=hide (by rw[e1];unfold runL;simp only;rw[if_neg (by rw[hc];simp)];rfl)
   clear e1 hc
   rw[HE.out]
   go_enter Tryz.func156,Tryz.ntmps156
   go_wp2_with fail
   (with_reducible refine HSM.out.mono ?_)
   rintro e w' ⟨rfl,rfl⟩
   go_wp2_with fail
   go_ret
   exact⟨rfl,rfl⟩
  |true=>
   rw[hc] at HSM
   have HE:Hid (p+runL ((dl s).drop p)=p+spanL namC ((dl s).drop p)):=hide (by rw[e1];unfold runL;simp only;rw[if_pos hc])
   clear e1 hc
   rw[HE.out]
   go_enter Tryz.func156,Tryz.ntmps156
   go_wp2_with fail
   (with_reducible refine HSM.out.mono ?_)
   rintro e w' ⟨rfl,rfl⟩
   clear HSM d0 HE
   go_wp2_with fail
   go_loop [1] (fun v1=>∃q:Nat,v1= .int .i64 (q:Int)∧p≤q∧q≤s.size∧Hid (q+spanL namC ((dl s).drop q)=p+spanL namC ((dl s).drop p))) (fun v1=>s.size - (intOf v1).toNat)
   case atStart=>exact⟨p,rfl,Nat.le_refl _,Nat.le_of_lt hlt,hide rfl⟩
   case round=>
    obtain⟨q,rfl,hpq,hqs,hq⟩:=hrel
    by_cases hgo:q<s.size
    ·have d0:decide ((q:Int)<(s.size:Int))=true:=decide_eq_true (by omega)
     have q0:(0:Int)≤(q:Int):=by omega
     have q1:(q:Int)<(s.size:Int):=by omega
     have HS2:=hide (rsmall_any s[q] w)
     have HD2:=hide (rdigit_any s[q] w)
     have e1:=dl_at hgo
     cases hl:lowC s[q] with
     |true=>
      rw[hl] at HS2
      have HN:=hide (show q+1+spanL namC ((dl s).drop (q+1))=p+spanL namC ((dl s).drop p) by rw[←hq.out,e1,spanL_yes (low_nam hl)];omega)
      clear hl e1 hq HD2
      go_wp2_with fail
      (with_reducible refine HS2.out.mono ?_)
      rintro e w' ⟨rfl,rfl⟩
      go_wp2_with fail
      go_round
      case rel=>exact⟨q+1,by go_num,by omega,by omega,HN⟩
      case measure=>simp [intOf]<;>omega
     |false=>
      rw[hl] at HS2
      cases hd:digC s[q] with
      |true=>
       rw[hd] at HD2
       have HN:=hide (show q+1+spanL namC ((dl s).drop (q+1))=p+spanL namC ((dl s).drop p) by rw[←hq.out,e1,spanL_yes (by unfold namC;rw[hd,Bool.or_true])];omega)
       clear hl hd e1 hq
       go_wp2_with fail
       (with_reducible refine HS2.out.mono ?_)
       rintro e w' ⟨rfl,rfl⟩
       go_wp2_with fail
       (with_reducible refine HD2.out.mono ?_)
       rintro e w' ⟨rfl,rfl⟩
       go_wp2_with fail
       go_round
       case rel=>exact⟨q+1,by go_num,by omega,by omega,HN⟩
       case measure=>simp [intOf]<;>omega
      |false=>
       rw[hd] at HD2
       have HN:=hide (show q=p+spanL namC ((dl s).drop p) by rw[←hq.out,e1,spanL_no (by unfold namC;rw[hl,hd];rfl)];omega)
       clear hl hd e1 hq
       go_wp2_with fail
       (with_reducible refine HS2.out.mono ?_)
       rintro e w' ⟨rfl,rfl⟩
       go_wp2_with fail
       (with_reducible refine HD2.out.mono ?_)
       rintro e w' ⟨rfl,rfl⟩
       go_wp2_with fail
       go_ret
       exact⟨ret_nat HN.out,rfl⟩
    ·have d0:decide ((q:Int)<(s.size:Int))=false:=decide_eq_false (by omega)
     have HN:=hide (show q=p+spanL namC ((dl s).drop p) by rw[←hq.out,dl_past (by omega)];rfl)
     clear hq
     go_wp2_with fail
     go_ret
     exact⟨ret_nat HN.out,rfl⟩
 ·have d0:decide ((s.size:Int)≤(p:Int))=true:=decide_eq_true (by omega)
  have HE:Hid (p+runL ((dl s).drop p)=p):=hide (by rw[dl_past (by omega)];rfl)
  rw[HE.out]
  go_enter Tryz.func156,Tryz.ntmps156
  go_wp2_with fail
  go_ret
  exact⟨rfl,rfl⟩
open Go Go.RowKit Go.Lib
theorem numLen_at {s:ByteArray}{p q:Nat}(h:q=p+spanL digC ((dl s).drop p)):p+numLen ((dl s).drop p)=p+numTail (spanL digC ((dl s).drop p)) ((dl s).drop q):=by
 rw[numLen_eq,List.drop_drop,h]
theorem numTail_no {n:Nat}{l:List UInt8}(h:l.length≤1):numTail n l=n:=by
 match l,h with
 |[],_=>rfl
 |[a],_=>unfold numTail;split<;>first|rfl|simp_all
theorem numTail_other {n:Nat}{c:UInt8}{r:List UInt8}(h:c≠46):numTail n (c::r)=n:=by
 unfold numTail
 split
 ·rename_i e;injection e with e;exact absurd e h
 ·rfl
theorem numTail_point {n:Nat}{c:UInt8}{r:List UInt8}:numTail n (46::c::r)=if digC c then n+(1+spanL digC (c::r)) else n:=rfl
set_option maxRecDepth 100000 in
set_option maxHeartbeats 4000000 in
theorem rnum_any (s:ByteArray)(p:Nat)(w:World)(hs:s.size≤1000000)(hp:p≤s.size):Calls Tryz.prog 158 #[.string s,.int .i64 (p:Int)] w fun e w'=>e= .returned (.int .i64 ((p+numLen ((dl s).drop p):Nat):Int))∧w=w':=by
 go_enter Tryz.func158,Tryz.ntmps158
 go_wp2_with fail
 go_loop [1] (fun v1=>∃q:Nat,v1= .int .i64 (q:Int)∧p≤q∧q≤s.size∧Hid (q+spanL digC ((dl s).drop q)=p+spanL digC ((dl s).drop p))) (fun v1=>s.size - (intOf v1).toNat)
 case atStart=>exact⟨p,rfl,Nat.le_refl _,hp,hide rfl⟩
 case round=>
  obtain⟨q,rfl,hpq,hqs,hq⟩:=hrel
  by_cases hgo:q<s.size
  ·have d0:decide (q<s.size)=true:=decide_eq_true hgo
   have q0:(0:Int)≤(q:Int):=by omega
   have q1:(q:Int)<(s.size:Int):=by omega
   have HD2:=hide (rdigit_any s[q] w)
   have e1:=dl_at hgo
   cases hd:digC s[q] with
   |true=>
    rw[hd] at HD2
    have HN:=hide (show q+1+spanL digC ((dl s).drop (q+1))=p+spanL digC ((dl s).drop p) by rw[←hq.out,e1,spanL_yes hd];omega)
    clear hd e1 hq
    go_wp2_with fail
    (with_reducible refine HD2.out.mono ?_)
    rintro e w' ⟨rfl,rfl⟩
    go_wp2_with fail
    go_round
    case rel=>exact⟨q+1,by go_num,by omega,by omega,HN⟩
    case measure=>simp [intOf]<;>omega
   |false=>
    rw[hd] at HD2
    have hqe:q=p+spanL digC ((dl s).drop p):=by rw[←hq.out,e1,spanL_no hd];omega
    have hnl:=numLen_at hqe
    have HQE:=hide hqe
    clear hd hq hqe
    by_cases h2:q+1<s.size
    ·have d3:decide (s.size≤q+1)=false:=decide_eq_false (by omega)
     have d3':decide ((s.size:Int)≤(q:Int)+1)=false:=decide_eq_false (by omega)
     have e2:=dl_at h2
     by_cases h46:s[q].toNat=46
     ·have d4:((s[q].toNat:Int)==46)=true:=beq_iff_eq.2 (by omega)
      have d4':((s[q].toNat:Int) !=46)=false:=by rw[bne,d4];rfl
      have HD3:=hide (rdigit_any s[q+1] w)
      rw[e1,u8_eq (n:=46) h46,e2] at hnl
      have q2:(0:Int)≤(q:Int)+1:=by omega
      have q3:(q:Int)+1<(s.size:Int):=by omega
      have ix:((q:Int)+1).toNat=q+1:=by omega
      cases hd:digC s[q+1] with
      |false=>
       rw[hd] at HD3
       have HR:=hide (show q=p+numLen ((dl s).drop p) by rw[hnl,show UInt8.ofNat 46=46 from rfl,numTail_point,hd,if_neg (by simp),←HQE.out])
       clear e1 e2 hnl hd h46
       go_wp2_with fail
       (with_reducible refine HD2.out.mono ?_)
       rintro e w' ⟨rfl,rfl⟩
       go_wp2_with fail
       (with_reducible refine HD3.out.mono ?_)
       rintro e w' ⟨rfl,rfl⟩
       go_wp2_with fail
       go_ret
       exact⟨ret_nat HR.out,rfl⟩
      |true=>
       rw[hd] at HD3
       have HR:=hide (show q+1+spanL digC ((dl s).drop (q+1))=p+numLen ((dl s).drop p) by rw[hnl,show UInt8.ofNat 46=46 from rfl,numTail_point,hd,if_pos rfl,e2];have:=HQE.out;omega)
       clear e1 e2 hnl hd h46
       go_wp2_with fail
       (with_reducible refine HD2.out.mono ?_)
       rintro e w' ⟨rfl,rfl⟩
       go_wp2_with fail
       (with_reducible refine HD3.out.mono ?_)
       rintro e w' ⟨rfl,rfl⟩
       clear HD2 HD3 d0
       go_wp2_with fail
       go_loop [1] (fun v1=>∃r:Nat,v1= .int .i64 (r:Int)∧r≤s.size∧Hid (r+spanL digC ((dl s).drop r)=q+1+spanL digC ((dl s).drop (q+1)))) (fun v1=>s.size - (intOf v1).toNat)
       case atStart=>exact⟨q+1,by go_num,by omega,hide rfl⟩
       case round=>
        obtain⟨r,rfl,hrs,hr⟩:=hrel
        by_cases hgr:r<s.size
        ·have d5:decide (r<s.size)=true:=decide_eq_true hgr
         have q5:(0:Int)≤(r:Int):=by omega
         have q6:(r:Int)<(s.size:Int):=by omega
         have HD4:=hide (rdigit_any s[r] w)
         have e3:=dl_at hgr
         cases hd:digC s[r] with
         |true=>
          rw[hd] at HD4
          have HN:=hide (show r+1+spanL digC ((dl s).drop (r+1))=q+1+spanL digC ((dl s).drop (q+1)) by rw[←hr.out,e3,spanL_yes hd];omega)
          clear hd e3 hr
          go_wp2_with fail
          (with_reducible refine HD4.out.mono ?_)
          rintro e w' ⟨rfl,rfl⟩
          go_wp2_with fail
          go_round
          case rel=>exact⟨r+1,by go_num,by omega,HN⟩
          case measure=>simp [intOf]<;>omega
         |false=>
          rw[hd] at HD4
          have HE:=hide (show r=p+numLen ((dl s).drop p) by rw[←HR.out,←hr.out,e3,spanL_no hd];omega)
          clear hd e3 hr
          go_wp2_with fail
          (with_reducible refine HD4.out.mono ?_)
          rintro e w' ⟨rfl,rfl⟩
          go_wp2_with fail
          go_ret
          exact⟨ret_nat HE.out,rfl⟩
        ·have d5:decide (r<s.size)=false:=decide_eq_false hgr
         have HE:=hide (show r=p+numLen ((dl s).drop p) by rw[←HR.out,←hr.out,dl_past (by omega)];rfl)
         clear hr
         go_wp2_with fail
         go_ret
         exact⟨ret_nat HE.out,rfl⟩
     ·have d4:((s[q].toNat:Int)==46)=false:=beq_eq_false_iff_ne.2 (by omega)
      have d4':((s[q].toNat:Int) !=46)=true:=by rw[bne,d4];rfl
      have HR:=hide (show q=p+numLen ((dl s).drop p) by rw[hnl,e1,numTail_other (fun e=>h46 (by rw[e];rfl)),←HQE.out])
      clear e1 e2 hnl
      go_wp2_with fail
      (with_reducible refine HD2.out.mono ?_)
      rintro e w' ⟨rfl,rfl⟩
      go_wp2_with fail
      go_ret
      exact⟨ret_nat HR.out,rfl⟩
    ·have d3:decide (s.size≤q+1)=true:=decide_eq_true (by omega)
     have d3':decide ((s.size:Int)≤(q:Int)+1)=true:=decide_eq_true (by omega)
     have HR:=hide (show q=p+numLen ((dl s).drop p) by rw[hnl,numTail_no (by rw[List.length_drop,dl_size];omega),←HQE.out])
     clear e1 hnl
     go_wp2_with fail
     (with_reducible refine HD2.out.mono ?_)
     rintro e w' ⟨rfl,rfl⟩
     go_wp2_with fail
     go_ret
     exact⟨ret_nat HR.out,rfl⟩
  ·have d0:decide (q<s.size)=false:=decide_eq_false hgo
   have hqe:q=p+spanL digC ((dl s).drop p):=by rw[←hq.out,dl_past (by omega)];rfl
   have hnl:=numLen_at hqe
   have HR:=hide (show q=p+numLen ((dl s).drop p) by rw[hnl,numTail_no (by rw[List.length_drop,dl_size];omega),←hqe])
   have d3:decide (s.size≤q+1)=true:=decide_eq_true (by omega)
   have d3':decide ((s.size:Int)≤(q:Int)+1)=true:=decide_eq_true (by omega)
   clear hq hqe hnl
   go_wp2_with fail
   go_ret
   exact⟨ret_nat HR.out,rfl⟩
def quoE (p:Nat)(l:List UInt8):Int:=if(l.drop (1+txtSpan false l.tail)).head? =some 34 then((p+txtSpan false l.tail+2:Nat):Int) else -1
theorem quoE_yes {s:ByteArray}{p i:Nat}(hp:p<s.size)(h:i=p+1+txtSpan false ((dl s).drop (p+1)))(hi:i<s.size)(hc:s[i]=34):quoE p ((dl s).drop p)=((i+1:Nat):Int):=by
 have e:((dl s).drop p).tail=(dl s).drop (p+1):=by rw[dl_at hp];rfl
 unfold quoE
 rw[e,List.drop_drop,show p+(1+txtSpan false ((dl s).drop (p+1)))=i by omega,dl_at hi,hc,if_pos (show(34::(dl s).drop (i+1)).head? =some 34 from rfl)]
 omega
theorem quoE_no {s:ByteArray}{p i:Nat}(hp:p<s.size)(h:i=p+1+txtSpan false ((dl s).drop (p+1)))(hi:((dl s).drop i).head?≠some 34):quoE p ((dl s).drop p)= -1:=by
 have e:((dl s).drop p).tail=(dl s).drop (p+1):=by rw[dl_at hp];rfl
 unfold quoE
 rw[e,List.drop_drop,show p+(1+txtSpan false ((dl s).drop (p+1)))=i by omega,if_neg hi]
theorem pri_no {c:UInt8}(h:c.toNat<32∨126<c.toNat):priC c=false:=by
 unfold priC
 rcases h with h|h
 ·rw[decide_eq_false (by omega),Bool.false_and]
 ·rw[decide_eq_false (show ¬c.toNat≤126 by omega),Bool.and_false]
theorem pri_yes {c:UInt8}(h:32≤c.toNat)(h':c.toNat≤126):priC c=true:=by
 unfold priC
 rw[decide_eq_true h,decide_eq_true h']
 rfl
theorem ret_m1 {a:Int}(h:a= -1):Ending.returned (.int .i64 (-1))= .returned (.int .i64 a):=by rw[h]
theorem ret_quo {a:Int}{i:Nat}(h:a=((i:Nat):Int)):Ending.returned (.int .i64 ((i:Nat):Int))= .returned (.int .i64 a):=by rw[h]
set_option maxRecDepth 100000 in
set_option maxHeartbeats 4000000 in
theorem rquot_any (s:ByteArray)(p:Nat)(w:World)(hs:s.size≤1000000)(hp:p<s.size):Calls Tryz.prog 160 #[.string s,.int .i64 (p:Int)] w fun e w'=>e= .returned (.int .i64 (quoE p ((dl s).drop p)))∧w=w':=by
 obtain⟨R,hR⟩:∃R,quoE p ((dl s).drop p)=R:=⟨_,rfl⟩
 rw[hR]
 have HYES:Hid (∀i,i=p+1+txtSpan false ((dl s).drop (p+1))→∀hi:i<s.size,s[i]=34→R=((i+1:Nat):Int)):=hide fun i h hi hc=>by rw[←hR];exact quoE_yes hp h hi hc
 have HNO:Hid (∀i,i=p+1+txtSpan false ((dl s).drop (p+1))→((dl s).drop i).head?≠some 34→R= -1):=hide fun i h hc=>by rw[←hR];exact quoE_no hp h hc
 clear hR
 go_enter Tryz.func160,Tryz.ntmps160
 go_wp2_with fail
 go_loop [5] (fun v5=>∃i:Nat,v5= .int .i64 (i:Int)∧p+1≤i∧i≤s.size+1∧Hid (i+txtSpan false ((dl s).drop i)=p+1+txtSpan false ((dl s).drop (p+1))∨s.size<i∧R= -1)) (fun v5=>s.size+1 - (intOf v5).toNat)
 case atStart=>exact⟨p+1,by go_num,Nat.le_refl _,by omega,hide (.inl rfl)⟩
 case round=>
  obtain⟨i,rfl,hpi,his,hq⟩:=hrel
  by_cases hgo:i<s.size
  ·have d0:decide (i<s.size)=true:=decide_eq_true hgo
   have q0:(0:Int)≤(i:Int):=by omega
   have q1:(i:Int)<(s.size:Int):=by omega
   have hq:=hq.out.resolve_right (by omega)
   have e1:=dl_at hgo
   have HI:=hide (And.intro hpi his)
   clear his
   by_cases hlo:s[i].toNat<32
   ·have d1:decide ((s[i].toNat:Int)<32)=true:=decide_eq_true (by omega)
    have HR:=hide (HNO.out i (by rw[←hq,e1,txtSpan_cons,if_pos (by rw[pri_no (.inl hlo)];simp)];omega) (by rw[e1];intro e;have:=Option.some.inj e;rw[this] at hlo;revert hlo;decide))
    clear hq e1
    go_wp2_with fail
    go_ret
    exact⟨ret_m1 HR.out,rfl⟩
   ·have d1:decide ((s[i].toNat:Int)<32)=false:=decide_eq_false (by omega)
    by_cases hhi:126<s[i].toNat
    ·have d2:decide ((126:Int)<(s[i].toNat:Int))=true:=decide_eq_true (by omega)
     have HR:=hide (HNO.out i (by rw[←hq,e1,txtSpan_cons,if_pos (by rw[pri_no (.inr hhi)];simp)];omega) (by rw[e1];intro e;have:=Option.some.inj e;rw[this] at hhi;revert hhi;decide))
     clear hq e1
     go_wp2_with fail
     go_ret
     exact⟨ret_m1 HR.out,rfl⟩
    ·have d2:decide ((126:Int)<(s[i].toNat:Int))=false:=decide_eq_false (by omega)
     have hpr:=pri_yes (c:=s[i]) (by omega) (by omega)
     by_cases h34:s[i].toNat=34
     ·have d3:((s[i].toNat:Int)==34)=true:=beq_iff_eq.2 (by omega)
      have c34:s[i]=34:=u8_eq h34
      have HR:=hide (HYES.out i (by rw[←hq,e1,txtSpan_cons,if_pos (by rw[c34];rfl)];omega) hgo c34)
      clear hq e1 hpr c34
      go_wp2_with fail
      go_ret
      exact⟨ret_quo HR.out,rfl⟩
     ·have d3:((s[i].toNat:Int)==34)=false:=beq_eq_false_iff_ne.2 (by omega)
      have c34:(s[i]==34)=false:=beq_eq_false_iff_ne.2 (fun e=>h34 (by rw[e];rfl))
      by_cases h92:s[i].toNat=92
      ·have d4:((s[i].toNat:Int)==92)=true:=beq_iff_eq.2 (by omega)
       have c92:s[i]=92:=u8_eq h92
       have hq2:i+1+txtSpan true ((dl s).drop (i+1))=p+1+txtSpan false ((dl s).drop (p+1)):=by
        rw[←hq,e1,txtSpan_cons,if_neg (by rw[c34,hpr];simp),c92]
        show i+1+txtSpan true _=i+(1+txtSpan true _)
        omega
       clear hq e1 hpr c34 c92
       by_cases h2:i+1<s.size
       ·have d5:decide ((i:Int)+1<(s.size:Int))=true:=decide_eq_true (by omega)
        have q2:(0:Int)≤(i:Int)+1:=by omega
        have q3:(i:Int)+1<(s.size:Int):=by omega
        have ix:((i:Int)+1).toNat=i+1:=by omega
        have e2:=dl_at h2
        by_cases hlo2:s[i+1].toNat<32
        ·have d6:decide ((s[i+1].toNat:Int)<32)=true:=decide_eq_true (by omega)
         have HR:=hide (HNO.out (i+1) (by rw[←hq2,e2,txtSpan_cons,if_pos (by rw[pri_no (.inl hlo2)];simp)]<;>omega) (by rw[e2];intro e;have:=Option.some.inj e;rw[this] at hlo2;revert hlo2;decide))
         clear hq2 e2
         go_wp2_with fail
         go_ret
         exact⟨ret_m1 HR.out,rfl⟩
        ·have d6:decide ((s[i+1].toNat:Int)<32)=false:=decide_eq_false (by omega)
         by_cases hhi2:126<s[i+1].toNat
         ·have d7:decide ((126:Int)<(s[i+1].toNat:Int))=true:=decide_eq_true (by omega)
          have HR:=hide (HNO.out (i+1) (by rw[←hq2,e2,txtSpan_cons,if_pos (by rw[pri_no (.inr hhi2)];simp)]<;>omega) (by rw[e2];intro e;have:=Option.some.inj e;rw[this] at hhi2;revert hhi2;decide))
          clear hq2 e2
          go_wp2_with fail
          go_ret
          exact⟨ret_m1 HR.out,rfl⟩
         ·have d7:decide ((126:Int)<(s[i+1].toNat:Int))=false:=decide_eq_false (by omega)
          have HN:=hide (show i+2+txtSpan false ((dl s).drop (i+2))=p+1+txtSpan false ((dl s).drop (p+1)) by
           rw[←hq2,e2,txtSpan_cons,if_neg (by rw[pri_yes (c:=s[i+1]) (by omega) (by omega)];simp)]
           simp only[Bool.not_true,Bool.and_false]
           rw[show i+2=i+1+1 from rfl]
           omega)
          clear hq2 e2
          go_wp2_with fail
          go_round
          case rel=>exact⟨i+2,by go_num,by omega,by omega,hide (.inl HN.out)⟩
          case measure=>simp [intOf]<;>omega
       ·have d5:decide ((i:Int)+1<(s.size:Int))=false:=decide_eq_false (by omega)
        have HR:=hide (HNO.out (i+1) (by rw[←hq2,dl_past (by omega)];rfl) (by rw[dl_past (by omega)];simp))
        clear hq2
        go_wp2_with fail
        go_round
        case rel=>exact⟨i+2,by go_num,by omega,by omega,hide (.inr ⟨by omega,HR.out⟩)⟩
        case measure=>simp [intOf]<;>omega
      ·have d4:((s[i].toNat:Int)==92)=false:=beq_eq_false_iff_ne.2 (by omega)
       have c92:(s[i]==92)=false:=beq_eq_false_iff_ne.2 (fun e=>h92 (by rw[e];rfl))
       have HN:=hide (show i+1+txtSpan false ((dl s).drop (i+1))=p+1+txtSpan false ((dl s).drop (p+1)) by
        rw[←hq,e1,txtSpan_cons,if_neg (by rw[c34,hpr];simp),c92]
        simp only[Bool.false_and]
        omega)
       clear hq e1 hpr c34 c92
       go_wp2_with fail
       go_round
       case rel=>exact⟨i+1,by go_num,by omega,by omega,hide (.inl HN.out)⟩
       case measure=>simp [intOf]<;>omega
  ·have d0:decide (i<s.size)=false:=decide_eq_false hgo
   have HR:Hid (R= -1):=hide (by
    rcases hq.out with h|h
    ·exact HNO.out i (by rw[←h,dl_past (by omega)];rfl) (by rw[dl_past (by omega)];simp)
    ·exact h.2)
   clear hq
   go_wp2_with fail
   go_ret
   exact⟨ret_m1 HR.out,rfl⟩
open Go Go.RowKit Go.Lib
def signN (l:List UInt8):Nat:=if l.take 2∈twos then 2 else if l.take 1∈ones.map (fun c=>[c]) then 1 else 0
theorem signW_N (l:List UInt8):signW l=if signN l=0 then .error 4 else .ok (⟨7,l.take (signN l),v0⟩,signN l):=by
 unfold signW signN
 by_cases h:l.take 2∈twos
 ·rw[if_pos h,if_pos h];rfl
 ·rw[if_neg h,if_neg h]
  by_cases h1:l.take 1∈ones.map fun c=>[c]
  ·rw[if_pos h1,if_pos h1];rfl
  ·rw[if_neg h1,if_neg h1];rfl
def signE (p:Nat)(l:List UInt8):Int:=if signN l=0 then -1 else((p+signN l:Nat):Int)
theorem one_mem {c:UInt8}{r:List UInt8}:(c::r).take 1∈ones.map (fun c=>[c])↔c∈ones:=by
 rw[show(c::r).take 1=[c] from rfl,List.mem_map]
 constructor
 ·rintro ⟨x,h,e⟩
  injection e with e
  rw[←e];exact h
 ·exact fun h=>⟨c,h,rfl⟩
theorem signE_two {p:Nat}{l:List UInt8}(h:l.take 2∈twos):signE p l=((p+2:Nat):Int):=by unfold signE signN;rw[if_pos h];rfl
theorem signE_one {p:Nat}{c:UInt8}{r:List UInt8}(h:(c::r).take 2∉twos)(h1:c∈ones):signE p (c::r)=((p+1:Nat):Int):=by unfold signE signN;rw[if_neg h,if_pos (one_mem.2 h1)];rfl
theorem signE_no {p:Nat}{c:UInt8}{r:List UInt8}(h:(c::r).take 2∉twos)(h1:c∉ones):signE p (c::r)= -1:=by unfold signE signN;rw[if_neg h,if_neg (fun q=>h1 (one_mem.1 q))];rfl
theorem not_twos {l:List UInt8}(h1:l≠[60,61])(h2:l≠[62,61])(h3:l≠[60,62])(h4:l≠[46,46]):l∉twos:=by
 unfold twos
 simp only[List.mem_cons,List.not_mem_nil,or_false,not_or]
 exact⟨h1,h2,h3,h4⟩
theorem short_twos {l:List UInt8}(h:l.length<2):l∉twos:=fun q=>by
 unfold twos at q
 simp only[List.mem_cons,List.not_mem_nil,or_false] at q
 rcases q with rfl|rfl|rfl|rfl<;>simp at h
theorem ret_iI {a b:Int}(h:a=b):Ending.returned (.int .i64 b)= .returned (.int .i64 a):=by rw[h]
theorem Qw13{P:Prop}(h:P:=by
 by_cases h40:s[p].toNat=40
 ·have d40:((s[p].toNat:Int)==40)=true:=beq_iff_eq.2 (by omega)
  have HR:=hide (show signE p ((dl s).drop p)=((p+1:Nat):Int) by rw[e1];exact signE_one (by rw[←e1];exact HT.out) (by rw[u8_eq (n:=40) h40];decide))
  clear e1 h40
  go_wp2_with fail
  go_ret
  exact⟨ret_iI HR.out,rfl⟩
 have d40:((s[p].toNat:Int)==40)=false:=beq_eq_false_iff_ne.2 (by omega)
 by_cases h41:s[p].toNat=41
 ·have d41:((s[p].toNat:Int)==41)=true:=beq_iff_eq.2 (by omega)
  have HR:=hide (show signE p ((dl s).drop p)=((p+1:Nat):Int) by rw[e1];exact signE_one (by rw[←e1];exact HT.out) (by rw[u8_eq (n:=41) h41];decide))
  clear e1 h41
  go_wp2_with fail
  go_ret
  exact⟨ret_iI HR.out,rfl⟩
 have d41:((s[p].toNat:Int)==41)=false:=beq_eq_false_iff_ne.2 (by omega)
 by_cases h91:s[p].toNat=91
 ·have d91:((s[p].toNat:Int)==91)=true:=beq_iff_eq.2 (by omega)
  have HR:=hide (show signE p ((dl s).drop p)=((p+1:Nat):Int) by rw[e1];exact signE_one (by rw[←e1];exact HT.out) (by rw[u8_eq (n:=91) h91];decide))
  clear e1 h91
  go_wp2_with fail
  go_ret
  exact⟨ret_iI HR.out,rfl⟩
 have d91:((s[p].toNat:Int)==91)=false:=beq_eq_false_iff_ne.2 (by omega)
 by_cases h93:s[p].toNat=93
 ·have d93:((s[p].toNat:Int)==93)=true:=beq_iff_eq.2 (by omega)
  have HR:=hide (show signE p ((dl s).drop p)=((p+1:Nat):Int) by rw[e1];exact signE_one (by rw[←e1];exact HT.out) (by rw[u8_eq (n:=93) h93];decide))
  clear e1 h93
  go_wp2_with fail
  go_ret
  exact⟨ret_iI HR.out,rfl⟩
 have d93:((s[p].toNat:Int)==93)=false:=beq_eq_false_iff_ne.2 (by omega)
 by_cases h44:s[p].toNat=44
 ·have d44:((s[p].toNat:Int)==44)=true:=beq_iff_eq.2 (by omega)
  have HR:=hide (show signE p ((dl s).drop p)=((p+1:Nat):Int) by rw[e1];exact signE_one (by rw[←e1];exact HT.out) (by rw[u8_eq (n:=44) h44];decide))
  clear e1 h44
  go_wp2_with fail
  go_ret
  exact⟨ret_iI HR.out,rfl⟩
 have d44:((s[p].toNat:Int)==44)=false:=beq_eq_false_iff_ne.2 (by omega)
 by_cases h58:s[p].toNat=58
 ·have d58:((s[p].toNat:Int)==58)=true:=beq_iff_eq.2 (by omega)
  have HR:=hide (show signE p ((dl s).drop p)=((p+1:Nat):Int) by rw[e1];exact signE_one (by rw[←e1];exact HT.out) (by rw[u8_eq (n:=58) h58];decide))
  clear e1 h58
  go_wp2_with fail
  go_ret
  exact⟨ret_iI HR.out,rfl⟩
 have d58:((s[p].toNat:Int)==58)=false:=beq_eq_false_iff_ne.2 (by omega)
 by_cases h61:s[p].toNat=61
 ·have d61:((s[p].toNat:Int)==61)=true:=beq_iff_eq.2 (by omega)
  have HR:=hide (show signE p ((dl s).drop p)=((p+1:Nat):Int) by rw[e1];exact signE_one (by rw[←e1];exact HT.out) (by rw[u8_eq (n:=61) h61];decide))
  clear e1 h61
  go_wp2_with fail
  go_ret
  exact⟨ret_iI HR.out,rfl⟩
 have d61:((s[p].toNat:Int)==61)=false:=beq_eq_false_iff_ne.2 (by omega)
 by_cases h60:s[p].toNat=60
 ·have d60:((s[p].toNat:Int)==60)=true:=beq_iff_eq.2 (by omega)
  have HR:=hide (show signE p ((dl s).drop p)=((p+1:Nat):Int) by rw[e1];exact signE_one (by rw[←e1];exact HT.out) (by rw[u8_eq (n:=60) h60];decide))
  clear e1 h60
  go_wp2_with fail
  go_ret
  exact⟨ret_iI HR.out,rfl⟩
 have d60:((s[p].toNat:Int)==60)=false:=beq_eq_false_iff_ne.2 (by omega)
 by_cases h62:s[p].toNat=62
 ·have d62:((s[p].toNat:Int)==62)=true:=beq_iff_eq.2 (by omega)
  have HR:=hide (show signE p ((dl s).drop p)=((p+1:Nat):Int) by rw[e1];exact signE_one (by rw[←e1];exact HT.out) (by rw[u8_eq (n:=62) h62];decide))
  clear e1 h62
  go_wp2_with fail
  go_ret
  exact⟨ret_iI HR.out,rfl⟩
 have d62:((s[p].toNat:Int)==62)=false:=beq_eq_false_iff_ne.2 (by omega)
 by_cases h43:s[p].toNat=43
 ·have d43:((s[p].toNat:Int)==43)=true:=beq_iff_eq.2 (by omega)
  have HR:=hide (show signE p ((dl s).drop p)=((p+1:Nat):Int) by rw[e1];exact signE_one (by rw[←e1];exact HT.out) (by rw[u8_eq (n:=43) h43];decide))
  clear e1 h43
  go_wp2_with fail
  go_ret
  exact⟨ret_iI HR.out,rfl⟩
 have d43:((s[p].toNat:Int)==43)=false:=beq_eq_false_iff_ne.2 (by omega)
 by_cases h45:s[p].toNat=45
 ·have d45:((s[p].toNat:Int)==45)=true:=beq_iff_eq.2 (by omega)
  have HR:=hide (show signE p ((dl s).drop p)=((p+1:Nat):Int) by rw[e1];exact signE_one (by rw[←e1];exact HT.out) (by rw[u8_eq (n:=45) h45];decide))
  clear e1 h45
  go_wp2_with fail
  go_ret
  exact⟨ret_iI HR.out,rfl⟩
 have d45:((s[p].toNat:Int)==45)=false:=beq_eq_false_iff_ne.2 (by omega)
 by_cases h42:s[p].toNat=42
 ·have d42:((s[p].toNat:Int)==42)=true:=beq_iff_eq.2 (by omega)
  have HR:=hide (show signE p ((dl s).drop p)=((p+1:Nat):Int) by rw[e1];exact signE_one (by rw[←e1];exact HT.out) (by rw[u8_eq (n:=42) h42];decide))
  clear e1 h42
  go_wp2_with fail
  go_ret
  exact⟨ret_iI HR.out,rfl⟩
 have d42:((s[p].toNat:Int)==42)=false:=beq_eq_false_iff_ne.2 (by omega)
 by_cases h47:s[p].toNat=47
 ·have d47:((s[p].toNat:Int)==47)=true:=beq_iff_eq.2 (by omega)
  have HR:=hide (show signE p ((dl s).drop p)=((p+1:Nat):Int) by rw[e1];exact signE_one (by rw[←e1];exact HT.out) (by rw[u8_eq (n:=47) h47];decide))
  clear e1 h47
  go_wp2_with fail
  go_ret
  exact⟨ret_iI HR.out,rfl⟩
 have d47:((s[p].toNat:Int)==47)=false:=beq_eq_false_iff_ne.2 (by omega)
 have HR:=hide (show signE p ((dl s).drop p)= -1 by rw[e1];exact signE_no (by rw[←e1];exact HT.out) (by unfold ones;simp only[List.mem_cons,List.not_mem_nil,or_false,not_or];exact⟨fun e=>h40 (by rw[e];rfl),fun e=>h41 (by rw[e];rfl),fun e=>h91 (by rw[e];rfl),fun e=>h93 (by rw[e];rfl),fun e=>h44 (by rw[e];rfl),fun e=>h58 (by rw[e];rfl),fun e=>h61 (by rw[e];rfl),fun e=>h60 (by rw[e];rfl),fun e=>h62 (by rw[e];rfl),fun e=>h43 (by rw[e];rfl),fun e=>h45 (by rw[e];rfl),fun e=>h42 (by rw[e];rfl),fun e=>h47 (by rw[e];rfl)⟩))
 clear e1
 go_wp2_with fail
 go_ret
 exact⟨ret_iI HR.out,rfl⟩):P:=h
set_option maxRecDepth 100000 in
set_option maxHeartbeats 8000000 in
theorem rsign_any (s:ByteArray)(p:Nat)(w:World)(hs:s.size≤1000000)(hp:p<s.size):Calls Tryz.prog 161 #[.string s,.int .i64 (p:Int)] w fun e w'=>e= .returned (.int .i64 (signE p ((dl s).drop p)))∧w=w':=by
 have e1:=dl_at hp
 have q0:(0:Int)≤(p:Int):=by omega
 have q1:(p:Int)<(s.size:Int):=by omega
 go_enter Tryz.func161,Tryz.ntmps161
 by_cases h2:p+1<s.size
 ·have d0:decide ((p:Int)+1<(s.size:Int))=true:=decide_eq_true (by omega)
  have hsl:=slice_mid s (p:Int) ((p:Int)+2) (by omega) (by omega) (by omega)
  rw[show((p:Int)).toNat=p by omega,show((p:Int)+2).toNat=p+2 by omega] at hsl
  obtain⟨X,hXe⟩:∃X,s.extract p (p+2)=X:=⟨_,rfl⟩
  have hX:((dl s).drop p).take 2=dl X:=by rw[←hXe,dl_ext,Nat.add_sub_cancel_left]
  rw[hXe] at hsl
  have hd1:True:=trivial
  clear hXe
  by_cases w0:dl X=[60,61]
  ·have t0:(X.toList==[60,61])=true:=by rw[toList_dl,w0];rfl
   have HR:=hide (show signE p ((dl s).drop p)=((p+2:Nat):Int) from signE_two (by rw[hX,w0];decide))
   clear e1 hX hd1 w0
   go_wp2_with fail
   go_ret
   exact⟨ret_iI HR.out,rfl⟩
  have t0:(X.toList==[60,61])=false:=by rw[toList_dl];exact beq_eq_false_iff_ne.2 w0
  by_cases w1:dl X=[62,61]
  ·have t1:(X.toList==[62,61])=true:=by rw[toList_dl,w1];rfl
   have t0:(X.toList==[60,61])=false:=by rw[toList_dl,w1];rfl
   have HR:=hide (show signE p ((dl s).drop p)=((p+2:Nat):Int) from signE_two (by rw[hX,w1];decide))
   clear e1 hX hd1 w0 w1
   go_wp2_with fail
   go_ret
   exact⟨ret_iI HR.out,rfl⟩
  have t1:(X.toList==[62,61])=false:=by rw[toList_dl];exact beq_eq_false_iff_ne.2 w1
  by_cases w2:dl X=[60,62]
  ·have t2:(X.toList==[60,62])=true:=by rw[toList_dl,w2];rfl
   have t0:(X.toList==[60,61])=false:=by rw[toList_dl,w2];rfl
   have t1:(X.toList==[62,61])=false:=by rw[toList_dl,w2];rfl
   have HR:=hide (show signE p ((dl s).drop p)=((p+2:Nat):Int) from signE_two (by rw[hX,w2];decide))
   clear e1 hX hd1 w0 w1 w2
   go_wp2_with fail
   go_ret
   exact⟨ret_iI HR.out,rfl⟩
  have t2:(X.toList==[60,62])=false:=by rw[toList_dl];exact beq_eq_false_iff_ne.2 w2
  by_cases w3:dl X=[46,46]
  ·have t3:(X.toList==[46,46])=true:=by rw[toList_dl,w3];rfl
   have t0:(X.toList==[60,61])=false:=by rw[toList_dl,w3];rfl
   have t1:(X.toList==[62,61])=false:=by rw[toList_dl,w3];rfl
   have t2:(X.toList==[60,62])=false:=by rw[toList_dl,w3];rfl
   have HR:=hide (show signE p ((dl s).drop p)=((p+2:Nat):Int) from signE_two (by rw[hX,w3];decide))
   clear e1 hX hd1 w0 w1 w2 w3
   go_wp2_with fail
   go_ret
   exact⟨ret_iI HR.out,rfl⟩
  have t3:(X.toList==[46,46])=false:=by rw[toList_dl];exact beq_eq_false_iff_ne.2 w3
  have HT:=hide (show((dl s).drop p).take 2∉twos by rw[hX];exact not_twos w0 w1 w2 w3)
  clear hX w0 w1 w2 w3 hd1
  exact Qw13
 ·have d0:decide ((p:Int)+1<(s.size:Int))=false:=decide_eq_false (by omega)
  have HT:=hide (show((dl s).drop p).take 2∉twos from short_twos (by rw[List.length_take,List.length_drop,dl_size];omega))
  exact Qw13
end Go.Proofs.YtgfakdobajgnfaaGreatDoor
