import Derived.IntWalk
import Derived.Deep.CutRange
import Derived.Test.YtmpfilddeglgbaaGreatDoorQj8
import Derived.Test.YtmpfilddeglgbaaGreatDoorQj22
set_option maxRecDepth 100000
set_option maxHeartbeats 16000000
namespace Go.Proofs.YtmpfilddeglgbaaGreatDoor
open Go Go.RowKit Go.Lib Go.Sort Go.Shelf
theorem Va (l:List UInt8)(c:UInt8):Me (l++[c])=Me l++(if c=92 then[92,92] else if c=34 then[92,34] else[c]):=by
 induction l with
 |nil=>rw[List.nil_append,Q9];simp [Me,P5]
 |cons b r ih=>rw[List.cons_append,Q9,ih,Q9 b r,List.append_assoc]
theorem Sf {s:ByteArray}{i:Nat}(h:i<s.size):dl (s.extract i (i+1))=[s[i]]/\(s.extract i (i+1)).size=1/\(dl s).take (i+1)=(dl s).take i++[s[i]]:=by
 have hl:i<(dl s).length:=by rw[A4];exact h
 have hg:(dl s)[i]=s[i]:=by
  have:=Gw h
  rw[Ag hl] at this;exact Option.some.inj this
 have e1:dl (s.extract i (i+1))=[s[i]]:=by
  rw[Fg,List.drop_eq_getElem_cons hl,Nat.add_sub_cancel_left,hg];rfl
 refine⟨e1,by rw[←A4,e1];rfl,?_⟩;rw[←hg];exact List.take_succ_eq_append_getElem hl
theorem Ci {c:UInt8}{n:Nat}(h:c.toNat=n):c=UInt8.ofNat n:=by rw[←h];exact(UInt8.ofNat_toNat).symm
theorem dK {s S:ByteArray}{i:Nat}(h:i<s.size)(hS:dl S=34::Me ((dl s).take i))(hz:S.size<=1+2*i)(hc:s[i].toNat=34\/s[i].toNat=92):(S++⟨#[92]⟩++s.extract i (i+1)).size<=1+2*(i+1)/\dl (S++⟨#[92]⟩++s.extract i (i+1))=34::Me ((dl s).take (i+1)):=by
 obtain⟨e1,e2,e3⟩:=Sf h
 have e4:dl (S++⟨#[92]⟩++s.extract i (i+1))=34::Me ((dl s).take (i+1)):=by
  rw[Ef,Ef,hS,e1,e3,Va];rcases hc with hc|hc
  ·rw[Ci hc];simp [dl]
  rw[Ci hc];simp [dl]
 refine⟨?_,e4⟩;rw[ByteArray.size_append,ByteArray.size_append,e2];show S.size+1+1<=_;omega
theorem oO {s S:ByteArray}{i:Nat}(h:i<s.size)(hS:dl S=34::Me ((dl s).take i))(hz:S.size<=1+2*i)(hc:s[i].toNat≠34)(hd:s[i].toNat≠92):(S++s.extract i (i+1)).size<=1+2*(i+1)/\dl (S++s.extract i (i+1))=34::Me ((dl s).take (i+1)):=by
 obtain⟨e1,e2,e3⟩:=Sf h;have n1:¬s[i]=92:=fun e=>hd tU
 have n2:¬s[i]=34:=fun e=>hc tU
 refine⟨by rw[ByteArray.size_append,e2];omega,?_⟩;rw[Ef,hS,e1,e3,Va,Ao n1,Ao n2];rfl
theorem oW {r:List UInt8}(hl:r.length=4){j:Nat}(h1:1<=j)(h4:j<=4)(hz:∀i,j<=i->i<4->r[i]? =some 48)(hend:j=1\/∃c,r[j - 1]? =some c/\c≠48):Mq r=r.take j:=by
 match r,hl with
 |[a,b,c,d],_=>
  rcases (show j=1\/j=2\/j=3\/j=4 by omega) with rfl|rfl|rfl|rfl
  ·have e1:=hz 1 tE tE;have e2:=hz 2 tE tE;have e3:=hz 3 tE tE;simp at e1 e2 e3;subst e1 e2 e3;by_cases ha:a=48
   ·subst ha;rfl
   simp [Mq,trimRightB,ha]
  ·have e2:=hz 2 tE tE;have e3:=hz 3 tE tE;simp at e2 e3;subst e2 e3;exact zxf
  ·have e3:=hz 3 tE tE;simp at e3;subst e3;exact zxf
  exact zxf
theorem rD {n:Int}{pd:ByteArray}{m:Nat}(hpd:dl pd=Oh (decDigits n.natAbs))(h1:pd.size<=m+4)(h2:m<pd.size)(hz:∀i,m<i->i<pd.size->(dl pd)[i]? =some 48)(hend:m+4=pd.size\/∃c,(dl pd)[m]? =some c/\c≠48)(b:ByteArray)(hb:dl b=if n<0 then[45] else[]):
 dl (b++pd.extract 0 (pd.size - 4)++⟨#[46]⟩++pd.extract (pd.size - 4) (m+1))=Rb n:=by
 have h5:5<=pd.size:=by
  have:=Sy (decDigits n.natAbs)
  rw[←hpd,A4] at this;exact this
 rw[Ef,Ef,Ef,Fg,Fg,hb];unfold Rb;rw[←hpd,A4,List.drop_zero,Nat.sub_zero];have hl:((dl pd).drop (pd.size - 4)).length=4:=by rw[List.length_drop,A4];omega
 have:=oW hl (j:=m+1 - (pd.size - 4)) tE tE (fun i q1 q2=>by
  rw[List.getElem?_drop]
  exact hz _ tE tE) (by
  rcases hend with q|⟨c,q1,q2⟩
  ·exact .inl tE
  refine .inr ⟨c,?_,q2⟩;rw[List.getElem?_drop,←q1];congr 1
  omega)
 rw[this];simp [dl]
theorem Px (s:ByteArray)(j:Int)(h0:0<=j)(h1:j<=(s.size:Int))(W:World):(Instr.slice 9 (.string s) none (some (.int .i64 j)) none).run Tryz.prog W= .ok (.string (s.extract 0 j.toNat)) W:=
 run_slice_string_h W 9 s Tryz.underlying9 .i64 j h0 h1
theorem Dq (s:ByteArray)(i j:Int)(h0:0<=i)(h1:i<=j)(h2:j<=(s.size:Int))(W:World):(Instr.slice 9 (.string s) (some (.int .i64 i)) (some (.int .i64 j)) none).run Tryz.prog W= .ok (.string (s.extract i.toNat j.toNat)) W:=
 run_slice_string W 9 s .i64 .i64 i j Tryz.underlying9 h0 h1 h2
theorem Hu (v:Vl)(w:World)(hv:v.fit):
 Calls Tryz.prog 70 #[.agg #[.int .u8 v.k,.int .i64 v.n,.string v.s]] w fun e w'=>e= .returned (.string (O1 v))/\Below w.heap.size w w':=by
 obtain⟨h1,h2,h3⟩:=hv;have hbA:Below w.heap.size w (w.alloc (.cells #[.int .u8 v.k,.int .i64 v.n,.string v.s] 35)):=(Aq w.heap.size w).alloc (Ak _) _;have hm:=Ij v h1 (w.alloc (.cells #[.int .u8 v.k,.int .i64 v.n,.string v.s] 35));have hbx:=(MapKept.heap_alloc w (.cells #[.int .u8 v.k,.int .i64 v.n,.string v.s] 35)).1;rw[L0] at hm;unfold O1 Da;obtain⟨k,n,s⟩:=v;simp only at*
 have hbb:∀V,Below (w.heap.size+1) (w.alloc (.cells #[.int .u8 k,.int .i64 n,.string s] 35)) V->V.heap[w.heap.size]? =some (.cells #[.int .u8 k,.int .i64 n,.string s] 35 (0,0))/\Below w.heap.size w V:=fun V hV=>by
  have hz:(w.alloc (.cells #[.int .u8 k,.int .i64 n,.string s] 35)).heap.size=w.heap.size+1:=by simp
  exact⟨(hV.block w.heap.size tE).trans hbx,hbA.trans (hV.mono tE)⟩
 have Hbb:=Ax hbb;have hz:(w.alloc (.cells #[.int .u8 k,.int .i64 n,.string s] 35)).heap.size=w.heap.size+1:=by simp
 have Hm:=Ax hm;have c0:(w.alloc (.cells #[.int .u8 k,.int .i64 n,.string s] 35)).cell? ⟨w.heap.size,0,none⟩=some (.int .u8 k):=by simp only[World.cell?,hbx];rfl
 have c1:(w.alloc (.cells #[.int .u8 k,.int .i64 n,.string s] 35)).cell? ⟨w.heap.size,1,none⟩=some (.int .i64 n):=by simp only[World.cell?,hbx];rfl
 have c2:(w.alloc (.cells #[.int .u8 k,.int .i64 n,.string s] 35)).cell? ⟨w.heap.size,2,none⟩=some (.string s):=by simp only[World.cell?,hbx];rfl
 cases hmy:Gi k n (dl s) with
 |false=>
  rw[hmy] at Hm;simp only[Bool.false_eq_true,if_false];clear hm hbx hbA hbb hz hmy;go_enter Tryz.func70,Tryz.ntmps70;go_wp2_with fail;refine Hm.out.mono ?_;rintro e W ⟨rfl,hb⟩;rw[show(w.alloc (.cells #[.int .u8 k,.int .i64 n,.string s] 35)).heap.size=w.heap.size+1 by simp] at hb;have HB:=Ax (Hbb.out W hb).2;clear hb;exact zzh
 |true=>
  rw[hmy] at Hm;simp only[if_true];have Hmy:=Ax (O2 hmy);clear hm hbx hbA hbb hz hmy;go_enter Tryz.func70,Tryz.ntmps70;go_wp2_with fail;refine Hm.out.mono ?_;rintro e W ⟨rfl,hb⟩;rw[show(w.alloc (.cells #[.int .u8 k,.int .i64 n,.string s] 35)).heap.size=w.heap.size+1 by simp] at hb;obtain⟨hx,hbW⟩:=Hbb.out W hb;have HX:=Ax hx;have d0:W.cell? ⟨w.heap.size,0,none⟩=some (.int .u8 k):=by simp only[World.cell?,hx];rfl
  have d1:W.cell? ⟨w.heap.size,1,none⟩=some (.int .i64 n):=by simp only[World.cell?,hx];rfl
  have d2:W.cell? ⟨w.heap.size,2,none⟩=some (.string s):=by simp only[World.cell?,hx];rfl
  have HbW:=Ax hbW;have HOf:=Ax (Kv (w:=W) n h2 h3);clear hb c0 c1 c2 Hm Hbb hx hbW;go_wp2_with fail;refine HOf.out.mono ?_;rintro e W2 ⟨⟨x,rfl,hn⟩,hb2⟩;obtain⟨ax,cx,rfl,hd⟩:=hn.form;obtain⟨nx,hnx⟩:∃m,Bw n.natAbs=m:=⟨_,rfl⟩;rw[hnx] at hd ⊢;obtain⟨nb,hnb⟩:∃b,decide (n<0)=b:=⟨_,rfl⟩;rw[hnb];have hx2:=(hb2.block _ (Ay HX.out)).trans HX.out;have d0:W2.cell? ⟨w.heap.size,0,none⟩=some (.int .u8 k):=by simp only[World.cell?,hx2];rfl
  have d1:W2.cell? ⟨w.heap.size,1,none⟩=some (.int .i64 n):=by simp only[World.cell?,hx2];rfl
  have d2:W2.cell? ⟨w.heap.size,2,none⟩=some (.string s):=by simp only[World.cell?,hx2];rfl
  have HB2:=Ax (HbW.out.trans (hb2.mono HbW.out.size));clear hn hb2 hx2 HOf;have hA:=(Aq W2.heap.size W2).alloc (Ak _) (.cells #[.bool nb,.slice ax nx cx] 208);have e0:=Ba hA d0;have e1:=Ba hA d1;have e2:=Ba hA d2;have HBA:=Ax (HB2.out.trans (hA.mono HB2.out.size));clear hA;rcases Hmy.out with ⟨rfl,rfl,hs⟩|⟨rfl,hs⟩|⟨rfl,hs⟩|⟨rfl,rfl,hl,hp⟩|⟨rfl,hs,hn⟩|⟨rfl,rfl,hn⟩
  ·clear hs;exact zxl
  ·have hdg:=(Rq (w:=W2.alloc (.cells #[.bool nb,.slice ax nx cx] 208)) nb (hd.below ((Aq _ _).alloc (Ak _) _)) (Mu tE) 1 tG);have HDG:Hid (Calls Tryz.prog 135 #[.agg #[.bool nb,.slice ax nx cx],.int .i64 1] (W2.alloc (.cells #[.bool nb,.slice ax nx cx] 208)) _):=Ax hdg;have HD5:Hid ((Gz n.natAbs 1).length<=30):=Ax (Om (Mu tE) tG)
   have HIT:Hid (dl ((if nb=true then(⟨#[45]⟩:ByteArray) else⟨#[]⟩)++⟨(Gz n.natAbs 1).toArray⟩)=dl ⟨(Po 1 n (dl s)).toArray⟩):=Ax (by
    rw[Ef,Dj,Dj,lG,←hnb];simp only[Po,if_true,itoa];by_cases h:n<0
    ·simp [h,dl]
    rw[show n.natAbs=n.toNat by omega];simp [h,dl])
   obtain⟨pd,hpd⟩:∃pd:ByteArray,⟨(Gz n.natAbs 1).toArray⟩=pd:=⟨_,rfl⟩;rw[hpd] at HDG HIT;have hpl:pd.size<=30:=by rw[←hpd,←A4,Dj];exact HD5.out
   clear hs hdg hd hpd HD5;cases nb with
   |false=>
    exact zxn
   |true=>
    exact zxn
  ·have hdg:=(Rq (w:=W2.alloc (.cells #[.bool nb,.slice ax nx cx] 208)) nb (hd.below ((Aq _ _).alloc (Ak _) _)) (Mu tE) 5 tG);have HDG:Hid (Calls Tryz.prog 135 #[.agg #[.bool nb,.slice ax nx cx],.int .i64 5] (W2.alloc (.cells #[.bool nb,.slice ax nx cx] 208)) _):=Ax hdg;obtain⟨pd,hpd⟩:∃pd:ByteArray,⟨(Gz n.natAbs 5).toArray⟩=pd:=⟨_,rfl⟩;have hpl:pd.size<=30:=by rw[←hpd,←A4,Dj];exact Om (Mu tE) tG
   have hpe:dl pd=Oh (decDigits n.natAbs):=by rw[←hpd,Dj,iM]
   have hp5:5<=pd.size:=by
    have:=Sy (decDigits n.natAbs)
    rw[←hpe,A4] at this;exact this
   have HDC:Hid (∀m,pd.size<=m+4->m<pd.size->(∀i,m<i->i<pd.size->(dl pd)[i]? =some 48)->(m+4=pd.size\/∃c,(dl pd)[m]? =some c/\c≠48)->dl ((if nb=true then(⟨#[45]⟩:ByteArray) else⟨#[]⟩)++pd.extract 0 (pd.size - 4)++⟨#[46]⟩++pd.extract (pd.size - 4) (m+1))=dl ⟨(Po 2 n (dl s)).toArray⟩):=Ax fun m q1 q2 q3 q4=>by
    rw[rD hpe q1 q2 q3 q4 _ (by rw[←hnb];by_cases h:n<0<;>simp [h,dl]),Dj];rfl
   rw[hpd] at HDG;clear hs hdg hd hpd hpe;cases nb with
   |false=>
    exact zz0
   |true=>
    exact zz0
  ·rw[A4] at hl;obtain rfl:nb=false:=by rw[←hnb];rfl
   clear hnb hp;go_wp2_with fail
   go_loop [7,8] (fun v7 v8=>∃(i:Nat) (S:ByteArray),i<=s.size/\v8= .int .i64 i/\v7= .string S/\S.size<=1+2*i/\Hid (dl S=34::Me ((dl s).take i))) (fun _ v8=>s.size - (intOf v8).toNat)
   case atStart=>exact⟨0,⟨#[34]⟩,Nat.zero_le _,rfl,rfl,by decide,Ax rfl⟩
   obtain⟨i,S,hi,rfl,rfl,hS,hq⟩:=hrel;by_cases hil:i<s.size
   ·have p0:decide ((i:Int)<(s.size:Int))=true:=Am tE;have q0:(0:Int)<=(i:Int):=by omega
    have q1:(i:Int)<(s.size:Int):=by omega
    by_cases h34:s[i].toNat=34
    ·have d1:((s[i].toNat:Int)==34)=true:=beq_iff_eq.2 tE;have d2:(s[i].toNat:Int)=34:=by omega
     have HN:=Ax (dK hil hq.out hS (.inl h34));exact zyb
    have d1:((s[i].toNat:Int)==34)=false:=Af.2 tE;by_cases h92:s[i].toNat=92
    ·have d2:((s[i].toNat:Int)==92)=true:=beq_iff_eq.2 tE;have HN:=Ax (dK hil hq.out hS (.inr h92));exact zyb
    have d2:((s[i].toNat:Int)==92)=false:=Af.2 tE;have HN:=Ax (oO hil hq.out hS h34 h92);exact zyb
   obtain rfl:i=s.size:=by omega
   have p0:decide ((s.size:Int)<(s.size:Int))=false:=An tE
   have HN:Hid (dl (S++⟨#[34]⟩)=dl ⟨(Po 3 0 (dl s)).toArray⟩):=Ax (by
    rw[Ef,hq.out,Dj,←A4,List.take_length]
    simp [Po,rZ,dl])
   clear hq;go_wp2_with fail;go_ret;exact⟨Ep HN.out,HBA.out⟩
  ·clear hs;rcases hn with rfl|rfl
   ·exact zxl
   exact zxl
  have hs12:s.size<=12:=by rw[←A4];exact(Fm hn).2.1
  obtain rfl:nb=false:=by rw[←hnb];rfl
  clear hnb hn;go_wp2_with fail;go_ret;exact⟨Ep (by rw[Ef];rfl),HBA.out⟩
open Go Go.Lib
def Ka (neg:Bool)(n:Nat):Int:=if neg then -(n:Int) else n
theorem Rg (l:List UInt8):∀k,val (l++List.replicate k 48) 0=val l 0*10^k
 |0=>by simp
 |k+1=>by
  rw[List.replicate_succ',←List.append_assoc,show val (l++List.replicate k 48++[48]) 0=val (l++List.replicate k 48) 0*10+((48:UInt8).toNat - 48) by simp [val],Rg l k,Nat.pow_succ,Nat.mul_assoc];rfl
theorem Zn (l:List UInt8)(c:UInt8)(acc:Nat):val (l++[c]) acc=val l acc*10+(c.toNat - 48):=by simp [val]
theorem nS:∀(l:List UInt8) (acc m:Nat),l.all Bb=true->acc<10^m->val l acc<10^(m+l.length)
 |[],acc,m,_,h=>h
 |c::l,acc,m,hd,h=>by
  rw[List.all_cons,Bool.and_eq_true] at hd;have hc:48<=c.toNat/\c.toNat<=57:=by simpa[Bb] using hd.1
  have:=nS l (acc*10+(c.toNat - 48)) (m+1) hd.2 (by rw[Nat.pow_succ];omega)
  rw[Aa,show m+(l.length+1)=m+1+l.length by omega];exact this
theorem Ya {l:List UInt8}(hd:l.all Bb=true)(h:l.length<=406):Bw (val l 0)<=102:=by
 refine I5 ?_;have h1:=nS l 0 0 hd tG;obtain⟨k,hk⟩:∃k,k=102:=⟨_,rfl⟩;rw[←hk];have h2:10^(0+l.length)<=10^(4*k):=Nat.pow_le_pow_right tG tE;have h3:10^(4*k)=10000^k:=by rw[Nat.pow_mul]
 rw[←h3];exact Nat.lt_of_lt_of_le h1 h2
theorem Vt {M:Nat}:∀{l:List UInt8} {acc u:Nat},parseUintM M acc l= .ok u->u=val l acc
 |[],acc,u,h=>by
  simp only[parseUintM] at h;injection h with h;exact h.symm
 |c::r,acc,u,h=>by
  simp only[parseUintM] at h
  split at h
  ·split at h
   ·cases h
   split at h
   ·cases h
   have q:=Vt (l:=r) h;exact q
  cases h
theorem qF {A:Type}{d:List UInt8}(hne:d≠[])(hd:d.all Bb=true)(neg:Bool)(f:Int->A)(g:A):
 (match parseIntB 64 (if neg=true then 45::d else d) with| .ok n=>f n|_=>g)=if -9223372036854775808<=Ka neg (val d 0)/\Ka neg (val d 0)<=9223372036854775807 then f (Ka neg (val d 0)) else g:=by
 have e63:(2:Nat)^(64 - 1)=9223372036854775808:=by decide
 have hok:∀u,parseUintB 64 d= .ok u->u=val d 0:=fun u h=>by
  unfold parseUintB at h;rw[Ao hne] at h;exact Vt h
 have hin:val d 0<=9223372036854775808->parseUintB 64 d= .ok (val d 0):=fun h=>by
  unfold parseUintB;rw[Ao hne]
  exact Vw _ tG d 0 hd (by have:(2:Nat)^64 - 1=18446744073709551615:=by decide
                           omega)
 cases neg with
 |true=>
  simp only[if_true,parseIntB_minus,Ka];cases h:parseUintB 64 d
  case ok u=>
   have:=hok u h
   subst this;simp only[signedC,e63];by_cases hv:9223372036854775808<val d 0
   ·rw[Ap hv,Ao tE]
   rw[Ao hv,Ap tE]
  all_goals
   simp only[signedC];rw[Ao fun q=>by rw[hin tE] at h;cases h]
 |false=>
  obtain⟨c,r,rfl⟩:=List.exists_cons_of_ne_nil hne;have hc:=hd;rw[List.all_cons,Bool.and_eq_true] at hc;have hc1:48<=c.toNat/\c.toNat<=57:=by simpa[Bb] using hc.1
  simp only[Bool.false_eq_true,if_false,parseIntB_plain 64 c r tE tE,Ka];cases h:parseUintB 64 (c::r)
  case ok u=>
   have:=hok u h
   subst this;simp only[signlessC,e63];by_cases hv:9223372036854775808<=val (c::r) 0
   ·rw[Ap hv,Ao tE]
   rw[Ao hv,Ap tE]
  all_goals
   simp only[signlessC];rw[Ao fun q=>by rw[hin tE] at h;cases h]
def Fk (l:List UInt8):Option (Int×Bool):=
 let c:=cut (if l.head? =some 45 then l.tail else l) [46]
 if(!Gn c.1||(decide (1<c.1.length) && c.1.head? ==some 48))||(c.2.2 && (!Gn c.2.1||decide (4<c.2.1.length))) then none
 else some (Ka (decide (l.head? =some 45)) (val (if c.2.2 then c.1++(c.2.1++[48,48,48,48]).take 4 else c.1) 0),c.2.2)
def inR (z:Int):Prop:= -9223372036854775808<=z/\z<=9223372036854775807
instance (z:Int):Decidable (inR z):=inferInstanceAs (Decidable (_/\_))
theorem Ga {l:List UInt8}(h:Gn l=true):l≠[]/\l.all Bb=true:=by
 unfold Gn at h;rw[Bool.and_eq_true] at h;refine⟨fun e=>by subst e;simp at h,h.2⟩
theorem Xg {l:List UInt8}(h:l≠[])(hd:l.all Bb=true):Gn l=true:=by
 unfold Gn;rw[hd];cases l with
 |nil=>exact absurd rfl h
 |cons=>rfl
theorem iN (l:List UInt8):Pa l=match Fk l with|none=> .error 4|some z=>if inR z.1 then .ok (if z.2 then 2 else 1,z.1) else .error 9:=by
 unfold Pa Fk;simp only;generalize hc:cut (if l.head? =some 45 then l.tail else l) [46]=c;obtain⟨a,r,f⟩:=c;simp only;by_cases hbad:((!Gn a||(decide (1<a.length) && a.head? ==some 48))||(f && (!Gn r||decide (4<r.length))))=true
 ·rw[Ap hbad,Ap hbad]
 rw[Ao hbad,Ao hbad];simp only[Bool.or_eq_true,Bool.and_eq_true,not_or,not_and,Bool.not_eq_true',Bool.not_eq_true,decide_eq_false_iff_not,Bool.not_eq_false] at hbad;obtain⟨⟨h1,_⟩,h2⟩:=hbad;obtain⟨ha,had⟩:=Ga h1
 have hne:(if f=true then a++(r++[48,48,48,48]).take 4 else a)≠[]:=by
  split
  ·exact fun e=>ha (List.append_eq_nil_iff.1 e).1
  exact ha
 have hdd:(if f=true then a++(r++[48,48,48,48]).take 4 else a).all Bb=true:=by
  exact zx9
 have:=qF hne hdd (decide (l.head? =some 45)) (fun n=>(.ok (if f=true then 2 else 1,n):Except Int (Int×Int))) (.error 9)
 simp only[decide_eq_true_eq] at this;exact this
def Db (b:List UInt8)(first j:Nat)(X:Nat)(pt:Int):Prop:=
 (pt= -1/\(b.take j).all Bb=true/\X=val (b.take j) 0)\/∃a r,b.take j=a++46::r/\a≠[]/\a.all Bb=true/\r.all Bb=true/\pt=((first+a.length:Nat):Int)/\X=val (a++r) 0
theorem Db.start (b:List UInt8)(first:Nat):Db b first 0 0 (-1):= .inl ⟨rfl,by simp,by simp [val]⟩
theorem Db.len {b:List UInt8}{first j X:Nat}{pt:Int}(h:Db b first j X pt)(hb:b.length<=402):Bw X<=102:=by
 rcases h with ⟨_,hd,rfl⟩|⟨a,r,e,_,ha,hr,_,rfl⟩
 ·exact Ya hd uJ
 refine Ya (by rw[List.all_append,ha,hr];rfl) ?_
 have:=Ar List.length e
 rw[List.length_take,Ab,Aa] at this;rw[Ab];omega
theorem Db.pt {b:List UInt8}{first j X:Nat}{pt:Int}(h:Db b first j X pt)(hj:j<=b.length):pt= -1\/(0<=pt/\(first:Int)<pt/\pt<((first+j:Nat):Int)):=by
 rcases h with ⟨e,_⟩|⟨a,r,e,ha,_,_,hp,_⟩
 ·exact .inl e
 have h1:=Ar List.length e;rw[List.length_take,Ab,Aa] at h1;have h2:1<=a.length:=List.length_pos_iff.2 ha;exact .inr ⟨by omega,by omega,by omega⟩
theorem Db.digit {b:List UInt8}{first j X:Nat}{pt:Int}(h:Db b first j X pt)(hj:j<b.length)(hc:Bb b[j]=true):Db b first (j+1) (X*10+(b[j].toNat - 48)) pt:=by
 have e:=List.take_succ_eq_append_getElem hj;rcases h with ⟨h1,h2,rfl⟩|⟨a,r,h1,h2,h3,h4,h5,rfl⟩
 ·refine .inl ⟨h1,?_,?_⟩
  ·rw[e,List.all_append,h2];simp [hc]
  rw[e,Zn]
 refine .inr ⟨a,r++[b[j]],?_,h2,h3,?_,h5,?_⟩
 ·rw[e,h1];simp
 ·rw[List.all_append,h4];simp [hc]
 rw[←List.append_assoc,Zn]
theorem Db.point {b:List UInt8}{first j X:Nat}{pt:Int}(h:Db b first j X pt)(hj:j<b.length)(hc:b[j]=46)(hp:pt<0)(h0:0<j):Db b first (j+1) X ((first+j:Nat):Int):=by
 have e:=List.take_succ_eq_append_getElem hj;rcases h with ⟨h1,h2,rfl⟩|⟨a,r,h1,h2,h3,h4,h5,rfl⟩
 ·have hl:(b.take j).length=j:=by rw[List.length_take];omega
  refine .inr ⟨b.take j,[],?_,fun q=>?_,h2,rfl,?_,by simp⟩
  ·rw[e,hc]
  ·rw[q] at hl;simp at hl;omega
  rw[hl]
 omega
theorem Nq {l:List UInt8}(h:l.all Bb=true):(46:UInt8)∉l:=Sj h tG
theorem Db.bad {l b:List UInt8}{first j X:Nat}{pt:Int}(hb:(if l.head? =some 45 then l.tail else l)=b)(h:Db b first j X pt)(hj:j<b.length)(hd:Bb b[j]=false)(hc:¬(b[j]=46/\pt<0/\0<j)):Fk l=none:=by
 have hmem:b[j]∈b.drop j:=by rw[List.drop_eq_getElem_cons hj];exact Ai
 have hsp:=List.take_append_drop j b;unfold Fk;simp only[hb];refine Ap ?_;rcases h with ⟨h1,h2,rfl⟩|⟨a,r,h1,h2,h3,h4,h5,rfl⟩
 ·rcases Nx 46 b with hn|⟨a,r,e,hn⟩
  ·rw[Lm hn]
   have:Gn b=false:=by
    cases hq:Gn b with
    |false=>rfl
    |true=>
     have:=List.all_eq_true.1 (Ga hq).2 _ (List.getElem_mem hj)
     rw[hd] at this;cases this
   simp [this]
  rw[e,I4 a r hn]
  have hx:Gn a=false:=by
   cases hq:Gn a with
   |false=>rfl
   |true=>
    exfalso;obtain⟨q1,q2⟩:=Ga hq;have hal:1<=a.length:=List.length_pos_iff.2 q1;rcases Nat.lt_trichotomy j a.length with hlt|heq|hgt
    ·have:b[j]=a[j]:=by
      have h8:b[j]? =a[j]?:=by rw[e,List.getElem?_append_left hlt]
      rw[Ag hj,Ag hlt] at h8;exact Option.some.inj h8
     have h9:=List.all_eq_true.1 q2 _ (List.getElem_mem hlt);rw[←this,hd] at h9;cases h9
    ·refine hc ⟨?_,by omega,by omega⟩;have h8:b[j]? =some 46:=by rw[e,heq,List.getElem?_append_right (Ak _)];simp
     rw[Ag hj] at h8;exact Option.some.inj h8
    have h8:(46:UInt8)∈b.take j:=by
     rw[e,List.take_append,List.mem_append];refine .inr ?_;obtain⟨k,hk⟩:∃k,j - a.length=k+1:=⟨j - a.length - 1,by omega⟩;rw[hk,List.take_succ_cons];exact Ai
    exact Nq h2 h8
  simp [hx]
 rw[←hsp,h1,List.append_assoc,List.cons_append,I4 a _ (Nq h3)]
 have hx:Gn (r++b.drop j)=false:=by
  cases hq:Gn (r++b.drop j) with
  |false=>rfl
  |true=>
   have:=List.all_eq_true.1 (Ga hq).2 _ (List.mem_append_right _ hmem)
   rw[hd] at this;cases this
 simp [hx]
theorem Db.plain {l b:List UInt8}{first X:Nat}{pt:Int}(hb:(if l.head? =some 45 then l.tail else l)=b)(h:Db b first b.length X pt)(hp:pt<0):
 Fk l=if b=[]\/(1<b.length/\b.head? =some 48) then none else some (Ka (decide (l.head? =some 45)) X,false):=by
 rcases h with ⟨h1,h2,rfl⟩|⟨a,r,_,_,_,_,h5,_⟩
 ·rw[List.take_length] at h2 ⊢;unfold Fk;simp only[hb,Lm (Nq h2),Bool.false_and,Bool.or_false,Bool.false_eq_true,if_false];by_cases hn:b=[]
  ·rw[Ap (Or.inl hn:b=[]\/_),hn];rfl
  rw[Xg hn h2];by_cases hq:1<b.length/\b.head? =some 48
  ·rw[Ap (Or.inr hq:b=[]\/_),Ap (by simp [hq.1,hq.2])]
  rw[Ao (by rintro (q|q);exact hn q;exact hq q:¬(b=[]\/_)),Ao (by simpa using hq)]
 omega
theorem Db.pointed {l b:List UInt8}{first X:Nat}{pt:Int}(hb:(if l.head? =some 45 then l.tail else l)=b)(h:Db b first b.length X pt)(hp:0<=pt):
 Fk l=(if(b.length - ((pt - first).toNat+1)<1\/4<b.length - ((pt - first).toNat+1))\/(1<(pt - first).toNat/\b.head? =some 48) then none else some (Ka (decide (l.head? =some 45)) (X*10^(4 - (b.length - ((pt - first).toNat+1)))),true))/\1<=(pt - first).toNat/\(pt - first).toNat+1<=b.length:=by
 rcases h with ⟨h1,_⟩|⟨a,r,h1,h2,h3,h4,h5,rfl⟩
 ·omega
 rw[List.take_length] at h1;have hl:=Ar List.length h1;rw[Ab,Aa] at hl;have e1:(pt - first).toNat=a.length:=by omega
 have e2:b.length - (a.length+1)=r.length:=by omega
 have hal:1<=a.length:=List.length_pos_iff.2 h2;rw[e1,e2];refine⟨?_,hal,by omega⟩
 have hhd:b.head? =a.head?:=by
  rw[h1];cases a with
  |nil=>exact absurd rfl h2
  |cons=>rfl
 rw[hhd];unfold Fk;simp only[hb];rw[h1,I4 a r (Nq h3)];simp only[if_true,Bool.true_and,Xg h2 h3];by_cases hr:r=[]
 ·subst hr;rw[Ap (by simp [Gn]),Ap tH]
 rw[Xg hr h4];have hrl:1<=r.length:=List.length_pos_iff.2 hr;by_cases hq:4<r.length\/(1<a.length/\a.head? =some 48)
 ·rw[Ap (by rcases hq with q|⟨q1,q2⟩<;>simp [*]),Ap (by rcases hq with q|q<;>simp [*])]
 rw[Ao (by
  simp only[not_or,not_and] at hq;simp
  exact⟨fun q=>by simpa using hq.2 q,by omega⟩),Ao (by
  simp only[not_or,not_and] at hq ⊢
  exact⟨⟨by omega,hq.1⟩,hq.2⟩)]
 have ht:(r++[48,48,48,48]).take 4=r++List.replicate (4 - r.length) 48:=by
  simp only[not_or,not_and] at hq
  have:r.length=1\/r.length=2\/r.length=3\/r.length=4:=by omega
  rw[List.take_append,List.take_of_length_le tE];rcases this with q|q|q|q<;>rw[q]<;>rfl
 rw[ht,←List.append_assoc,Rg]
open Go Go.RowKit Go.Lib
theorem dF (l:List Nat)(k:Nat):nv (l.drop k)<=nv l:=by
 have h:=Ue l k;have h1:1<=10000^(l.take k).length:=Nat.pow_pos tG;have h2:nv (l.drop k)<=10000^(l.take k).length*nv (l.drop k):=Nat.le_mul_of_pos_left _ h1;omega
theorem Bn.digit {w:World}{b:Bool}{a:Option Addr}{n c:Nat}{z:Int}(h:Bn w (.agg #[.bool b,.slice a n c]) z){i:Nat}(hi:i<(dg z.natAbs).length):∃bk off,a=some ⟨bk,off,none⟩/\w.cell? ⟨bk,off+i,none⟩=some (.int .i64 ((dg z.natAbs)[i]:Int)):=by
 obtain⟨s,e,hd⟩:=h;simp at e;obtain⟨_,rfl⟩:=e;exact hd.at hi
def Hh (z:Int)(e:Ending):Prop:=e= .returned (.tuple #[.int .i64 (if inR z then z else 0),.int .i64 (if inR z then 0 else 9)])
theorem Hh.no {z:Int}(h:¬inR z):Hh z (.returned (.tuple #[.int .i64 0,.int .i64 9])):=by unfold Hh;rw[Ao h,Ao h]
theorem Hh.yes {z:Int}(h:inR z):Hh z (.returned (.tuple #[.int .i64 z,.int .i64 0])):=by unfold Hh;rw[Ap h,Ap h]
theorem rI {x y:Int}(h:x<y):Ku x y= -1:=by unfold Ku;rw[Ap h]
theorem oV {x y:Int}(h:y<=x):Ku x y=0\/Ku x y=1:=by
 unfold Ku;rw[Ao tE]
 split<;>simp
theorem pV {x y:Int}(h:y<x):Ku x y=1:=by unfold Ku;rw[Ao tE,Ao tE]
theorem qI {x y:Int}(h:x<=y):Ku x y=0\/Ku x y= -1:=by
 unfold Ku
 split
 ·simp
 rw[Ap tE];simp
def dl5 (z:Int)(n:Nat):Prop:=Bw z.natAbs=n/\inR z
theorem jV {z M:Int}{n m:Nat}{ng:Bool}(h:dl5 z n)(hj:m+1<=n)(hng:decide (z<0)=ng)(hM:M=Ka ng (nv ((dg z.natAbs).drop (m+1)))):m<(dg z.natAbs).length/\
 ∃d:Nat,(dg z.natAbs)[m]? =some d/\d<10000/\ -9223372036854775808<=M*10000/\M*10000<=9223372036854775807/\(ng=true-> -9223372036854775808<=M*10000 - d/\M*10000 - d<=9223372036854775807/\M*10000 - d=Ka ng (nv ((dg z.natAbs).drop m)))/\(ng=false-> -9223372036854775808<=M*10000+d/\M*10000+d<=9223372036854775807/\M*10000+d=Ka ng (nv ((dg z.natAbs).drop m))):=by
 have hm:m<(dg z.natAbs).length:=by have:=h.1;unfold Bw at this;omega
 have hd:=G0 z.natAbs _ (List.getElem_mem hm);have h1:=Dk hm;have h2:=dF (dg z.natAbs) m;rw[Fp] at h2;obtain⟨h3,h4⟩:=h.2;refine⟨hm,_,Ag hm,hd,?_⟩;subst hng hM;unfold Ka;by_cases hz:z<0
 ·simp only[hz,decide_true,if_true];rw[h1] at h2 ⊢;exact⟨by omega,by omega,fun _=>⟨by omega,by omega,by omega⟩,by simp⟩
 simp only[hz,decide_false,Bool.false_eq_true,if_false];rw[h1] at h2 ⊢;exact⟨by omega,by omega,False.elim,fun _=>⟨by omega,by omega,by omega⟩⟩
theorem qP {w:World}{v:Value}{z:Int}(hx:Bn w v z)(hl:Bw z.natAbs<=40000):Calls Tryz.prog 150 #[v] w fun e w'=>Hh z e/\Below w.heap.size w w':=by
 have HXN:=Ax hx;obtain⟨ax,cx,rfl,hd⟩:=hx.form;obtain⟨nx,hnx⟩:∃n,Bw z.natAbs=n:=⟨_,rfl⟩;rw[hnx] at hd HXN ⊢;obtain⟨ng,hng⟩:∃b,decide (z<0)=b:=⟨_,rfl⟩;rw[hng] at HXN ⊢;have HNG:=Ax hng;have HD:=Ax hd;have HL:=Ax hl;have HNX:=Ax hnx;have HO1:Hid (∀V:World,Calls Tryz.prog 134 #[.int .i64 (-9223372036854775808)] V (Gh V (-9223372036854775808))):=Ax fun V=>Kv _ tG tG
 have HO2:Hid (∀V:World,Calls Tryz.prog 134 #[.int .i64 9223372036854775807] V (Gh V 9223372036854775807)):=Ax fun V=>Kv _ tG tG
 have hbA:=(Aq w.heap.size w).alloc (Ak _) (.cells #[.bool ng,.slice ax nx cx] 208);have hbx:=(MapKept.heap_alloc w (.cells #[.bool ng,.slice ax nx cx] 208)).1;have HA:=Ax (And.intro hbA hbx);clear hx hd hnx hng hl hbA hbx;go_enter Tryz.func150,Tryz.ntmps150;go_upto_region 1 with fail
 obtain⟨W1,hW1⟩:∃W1,w.alloc (.cells #[.bool ng,.slice ax nx cx] 208)=W1:=⟨_,rfl⟩;rw[hW1] at HA ⊢;clear hW1;go_wp2_with fail;refine(HO1.out W1).mono ?_;rintro e V1 ⟨⟨v1,rfl,hv1⟩,hb1⟩;have HV1:=Ax hv1;have HB1:=Ax hb1;clear hv1 hb1;go_wp2_with fail;refine(HO2.out V1).mono ?_;rintro e V2 ⟨⟨v2,rfl,hv2⟩,hb2⟩;obtain⟨t1,a1,k1,c1,rfl⟩:=Bn.parts HV1.out;obtain⟨t2,a2,k2,c2,rfl⟩:=Bn.parts hv2;have HV2:=Ax hv2;have HB2:=Ax hb2;clear hv2 hb2 HO1 HO2;go_upto_region 2 with fail
 have hb3:Below V2.heap.size V2 ((V2.alloc (.cells #[.bool t1,.slice a1 k1 c1] 208)).alloc (.cells #[.bool t2,.slice a2 k2 c2] 208)):=((Aq _ _).alloc (Ak _) _).alloc tH _
 have hp1:((V2.alloc (.cells #[.bool t1,.slice a1 k1 c1] 208)).alloc (.cells #[.bool t2,.slice a2 k2 c2] 208)).heap[V2.heap.size]? =some (.cells #[.bool t1,.slice a1 k1 c1] 208 (0,0)):=by
  rw[Below.heap_alloc _ _ _ tH];exact A1 _ _
 have hp2:((V2.alloc (.cells #[.bool t1,.slice a1 k1 c1] 208)).alloc (.cells #[.bool t2,.slice a2 k2 c2] 208)).heap[V2.heap.size+1]? =some (.cells #[.bool t2,.slice a2 k2 c2] 208 (0,0)):=by
  have:=A1 (V2.alloc (.cells #[.bool t1,.slice a1 k1 c1] 208)) (.cells #[.bool t2,.slice a2 k2 c2] 208)
  simpa using this
 obtain⟨W3,hW3⟩:∃W3,(V2.alloc (.cells #[.bool t1,.slice a1 k1 c1] 208)).alloc (.cells #[.bool t2,.slice a2 k2 c2] 208)=W3:=⟨_,rfl⟩;rw[hW3] at hb3 hp1 hp2 ⊢;have hw1:=HA.out.1;have hw2:=hw1.trans (HB1.out.mono hw1.size);have hw3:=hw2.trans (HB2.out.mono hw2.size);have hw4:=hw3.trans (hb3.mono hw3.size)
 have hbx:W3.heap[w.heap.size]? =some (.cells #[.bool ng,.slice ax nx cx] 208 (0,0)):=
  (hb3.block _ (by have:=HB2.out.size;have:=HB1.out.size;have:=Bu HA.out.2;omega)).trans ((HB2.out.block _ (by have:=HB1.out.size;have:=Bu HA.out.2;omega)).trans ((HB1.out.block _ (Bu HA.out.2)).trans HA.out.2))
 have HX3:Hid (Bn W3 (.agg #[.bool ng,.slice ax nx cx]) z):=Ax (HXN.out.below hw4);have H13:Hid (Bn W3 (.agg #[.bool t1,.slice a1 k1 c1]) (-9223372036854775808)):=Ax ((HV1.out.below HB2.out).below hb3);have H23:Hid (Bn W3 (.agg #[.bool t2,.slice a2 k2 c2]) 9223372036854775807):=Ax (HV2.out.below hb3);obtain⟨c0,c1',_⟩:=A0 hbx;obtain⟨d0,d1,_⟩:=A0 hp1;obtain⟨e0,e1,_⟩:=A0 hp2;have HC1:=Ax (T6 HX3.out H13.out (Al HL.out tG) (Al (I5 (k:=10) tG) tG));have HB4:=Ax hw4;have HB:=Ax (And.intro hbx (And.intro hp1 hp2));clear hb3 hp1 hp2 hW3 hw1 hw2 hw3 hw4 hbx HA HB1 HB2 HV1 HV2 H13;obtain⟨p,hp⟩:∃p,V2.heap.size=p:=⟨_,rfl⟩;rw[hp] at HB d0 d1 ⊢;rw[hp] at e0 e1;clear hp;by_cases hlo:z< -9223372036854775808
 ·have hc:=rI hlo;rw[hc] at HC1;have HN:=Ax (Hh.no (z:=z) (fun h=>by have:=h.1;omega));clear hc hlo;go_wp2_with fail;refine HC1.out.mono ?_;rintro e V4 ⟨rfl,hb⟩;have HF:=Ax (HB4.out.trans (hb.mono HB4.out.size));clear hb;go_wp2_with fail;exact Au (v:= .tuple #[.int .i64 0,.int .i64 9]) vZ rfl ⟨HN.out,HF.out⟩
 have hc:=oV (x:=z) (y:= -9223372036854775808) tE;obtain⟨r1,hr1⟩:∃r,Ku z (-9223372036854775808)=r:=⟨_,rfl⟩;rw[hr1] at HC1 hc;have hr0:0<=r1:=by omega
 clear hc hr1;have g1:decide (r1<0)=false:=An tE;have HLO:=Ax hlo;clear hlo;go_wp2_with fail;refine HC1.out.mono ?_;rintro e V4 ⟨rfl,hb⟩;have HF:=Ax (HB4.out.trans (hb.mono HB4.out.size));have HC2:=Ax (T6 (HX3.out.below hb) (H23.out.below hb) (Al HL.out tG) (Al (I5 (k:=10) tG) tG));have c0:=Ba hb c0;have c1':=Ba hb c1';have e0:=Ba hb e0;have e1:=Ba hb e1;have HX4:=Ax (HX3.out.below hb);clear hb d0 d1 HC1 HB HX3 H23 HB4;by_cases hhi:9223372036854775807<z
 ·have hc:=pV hhi;rw[hc] at HC2;have HN:=Ax (Hh.no (z:=z) (fun h=>by have:=h.2;omega));clear hc hhi HLO;go_wp2_with fail;refine HC2.out.mono ?_;rintro e V5 ⟨rfl,hb⟩;have HG:=Ax (HF.out.trans (hb.mono HF.out.size));clear hb;go_wp2_with fail;exact Au (v:= .tuple #[.int .i64 0,.int .i64 9]) vZ rfl ⟨HN.out,HG.out⟩
 have hc:=qI (x:=z) (y:=9223372036854775807) tE;obtain⟨r2,hr2⟩:∃r,Ku z 9223372036854775807=r:=⟨_,rfl⟩;rw[hr2] at HC2 hc;have hr0:r2<=0:=by omega
 clear hc hr2;have g2:decide (0<r2)=false:=An tE;have HN:=Ax (show inR z from⟨by have:=HLO.out;omega,by omega⟩);clear hhi HLO;go_wp2_with fail;refine HC2.out.mono ?_;rintro e V5 ⟨rfl,hb⟩;have HG:=Ax (HF.out.trans (hb.mono HF.out.size));have c0:=Ba hb c0;have c1':=Ba hb c1';have HX5:=Ax (HX4.out.below hb);clear hb e0 e1 HC2 HF HX4;have hnl:nx<=40000:=by rw[←HNX.out];exact HL.out
 go_wp2_with fail;have HW:=Ax (show dl5 z nx from⟨HNX.out,HN.out⟩)
 go_loop [6,7] (fun v6 v7=>∃(j:Nat) (M:Int),v6= .int .i64 M/\v7= .int .i64 ((j:Int) - 1)/\j<=nx/\Hid (M=Ka ng (nv ((dg z.natAbs).drop j)))) (fun _ v7=>(intOf v7+1).toNat)
 case atStart=>exact⟨nx,0,rfl,rfl,Ak _,Ax (by rw[←HNX.out,List.drop_of_length_le (show(dg z.natAbs).length<=Bw z.natAbs from Ak _)];cases ng<;>rfl)⟩
 obtain⟨j,M,rfl,rfl,hj,hq⟩:=hrel;rcases j with _|m
 ·have p0:decide ((0:Int)<= -1)=false:=by decide
  have hj0:(((0:Nat):Int) - 1)= -1:=rfl;rw[hj0]
  have hM:M=z:=by
   rw[hq.out,List.drop_zero,Fp,←HNG.out];unfold Ka;by_cases h:z<0
   ·simp [h];omega
   simp [h];omega
  have HM:=Ax hM;clear hq hM hj0;go_wp2_with fail;exact Au (v:= .tuple #[.int .i64 M,.int .i64 0]) vZ rfl ⟨by rw[HM.out];exact Hh.yes HN.out,HG.out⟩
 have ej:((m+1:Nat):Int) - 1=(m:Int):=by omega
 rw[ej];obtain⟨hm,d,hd,hd4,hb1,hb2,hb3,hb4⟩:=jV HW.out hj HNG.out hq.out;have hd5:=Bn.digit HX5.out hm;rw[Ag hm] at hd;injection hd with hd;rw[hd] at hd5;obtain⟨bx,fx,rfl,hcx⟩:=hd5;have q0:(0:Int)<=(m:Int):=by omega
 have q1:(m:Int)<(nx:Int):=by omega
 have p0:decide ((0:Int)<=(m:Int))=true:=Am q0;clear hd hm ej;have HB3:=Ax (And.intro hb3 hb4);clear hb3 hb4 hq;cases ng with
 |true=>
  obtain⟨k1,k2,k3⟩:=HB3.out.1 rfl;have HK:=Ax k3;clear k3;go_wp2_with fail
  go_round
  case rel=>exact⟨m,M*10000 - d,rfl,by go_num,by omega,HK⟩
  case measure=>simp [intOf]<;>omega
 |false=>
  obtain⟨k1,k2,k3⟩:=HB3.out.2 rfl;have HK:=Ax k3;clear k3;go_wp2_with fail
  go_round
  case rel=>exact⟨m,M*10000+d,rfl,by go_num,by omega,HK⟩
  case measure=>simp [intOf]<;>omega
open Go Go.RowKit Go.Lib
theorem Yr {l:List UInt8}{i:Nat}(h:i+1<l.length):l.drop i=l[i]::l[i+1]::l.drop (i+2):=by
 rw[List.drop_eq_getElem_cons tE,List.drop_eq_getElem_cons h]
theorem Zd {l:List UInt8}{i:Nat}(h:i+1<l.length)(hc:l[i]=92):Cb (l.drop i)=l[i+1]::Cb (l.drop (i+2)):=by
 rw[Yr h,Cb,Ap hc]
theorem aV {l:List UInt8}{i:Nat}(h:i+1<l.length)(hc:l[i]≠92):Cb (l.drop i)=l[i]::Cb (l.drop (i+1)):=by
 rw[Yr h,Cb,Ao hc,List.drop_eq_getElem_cons h]
theorem hH {l:List UInt8}{i:Nat}(h:l.length<=i+1):Cb (l.drop i)=[]:=by
 have:(l.drop i).length<=1:=by rw[List.length_drop];omega
 match l.drop i,this with
 |[],_=>rfl
 |[c],_=>rfl
theorem iV {w:World}(s:ByteArray)(hs:s.size<=1000000):Calls Tryz.prog 149 #[.string s] w fun e w'=>e= .returned (.string ⟨(Cb (dl s).tail).toArray⟩)/\w=w':=by
 go_enter Tryz.func149,Tryz.ntmps149;go_wp2_with fail
 go_loop [3,4] (fun v3 v4=>∃(i:Nat) (S:ByteArray),v4= .int .i64 (i:Int)/\v3= .string S/\i<=s.size+1/\S.size<=i/\Hid (dl S++Cb ((dl s).drop i)=Cb (dl s).tail)) (fun _ v4=>s.size+1 - (intOf v4).toNat)
 case atStart=>exact⟨1,⟨#[]⟩,rfl,rfl,by omega,by decide,Ax (by rw[List.drop_one];rfl)⟩
 obtain⟨i,S,rfl,rfl,hi,hS,hq⟩:=hrel;by_cases hgo:i+1<s.size
 ·have p0:decide ((i:Int)+1<(s.size:Int))=true:=Am tE;have q0:(0:Int)<=(i:Int):=by omega
  have q1:(i:Int)<(s.size:Int):=by omega
  have hi0:i<s.size:=by omega
  have hl1:i+1<(dl s).length:=(A4 s).symm▸hgo;have hl0:i<(dl s).length:=(A4 s).symm▸hi0
  have e0:(dl s)[i]'hl0=s[i]:=by
   have:=Gw hi0
   rw[Ag hl0] at this;exact Option.some.inj this
  have e1:(dl s)[i+1]'hl1=s[i+1]:=by
   have:=Gw hgo
   rw[Ag hl1] at this;exact Option.some.inj this
  by_cases h92:s[i].toNat=92
  ·have d1:((s[i].toNat:Int)==92)=true:=beq_iff_eq.2 tE;obtain⟨b1,b2,_⟩:=Sf hgo;have hsl:=Dq s ((i:Int)+1) ((i:Int)+1+1) tE tE tE;rw[show((i:Int)+1).toNat=i+1 by omega,show((i:Int)+1+1).toNat=i+1+1 by omega] at hsl
   have HQ:=Ax (show dl (S++s.extract (i+1) (i+1+1))++Cb ((dl s).drop (i+2))=Cb (dl s).tail by
    rw[Ef,b1,←hq.out,Zd hl1 (by rw[e0];exact Ci h92),e1]
    simp)
   obtain⟨B,hB⟩:∃B,s.extract (i+1) (i+1+1)=B:=⟨_,rfl⟩;rw[hB] at hsl HQ b2;have hbs:B.size<=1:=by omega
   have hsz:(S++B).size<=i+2:=by rw[ByteArray.size_append];omega
   have HSZ:=Ax hsz;clear hq b1 b2 e0 e1 hB hsz;go_wp2_with fail
   go_round
   case rel=>exact⟨i+2,S++B,by go_num,rfl,by omega,HSZ.out,HQ⟩
   case measure=>simp [intOf]<;>omega
  have d1:((s[i].toNat:Int)==92)=false:=Af.2 tE;obtain⟨b1,b2,_⟩:=Sf hi0;have hsl:=Dq s (i:Int) ((i:Int)+1) tE tE tE;rw[show((i:Int)).toNat=i by omega,show((i:Int)+1).toNat=i+1 by omega] at hsl
  have HQ:=Ax (show dl (S++s.extract i (i+1))++Cb ((dl s).drop (i+1))=Cb (dl s).tail by
   rw[Ef,b1,←hq.out,aV hl1 (by rw[e0];exact fun e=>h92 tU),e0]
   simp)
  obtain⟨B,hB⟩:∃B,s.extract i (i+1)=B:=⟨_,rfl⟩;rw[hB] at hsl HQ b2;have hbs:B.size<=1:=by omega
  have hsz:(S++B).size<=i+1:=by rw[ByteArray.size_append];omega
  have HSZ:=Ax hsz;clear hq b1 b2 e0 e1 hB hsz;go_wp2_with fail
  go_round
  case rel=>exact⟨i+1,S++B,by go_num,rfl,by omega,HSZ.out,HQ⟩
  case measure=>simp [intOf]<;>omega
 have p0:decide ((i:Int)+1<(s.size:Int))=false:=An tE
 have HE:=Ax (Ep (s:=S) (t:=⟨(Cb (dl s).tail).toArray⟩) (by
  have:=hq.out
  rw[hH (by rw[A4];omega),List.append_nil] at this;rw[Dj]
  exact this))
 clear hq;go_wp2_with fail;go_ret;exact⟨HE.out,rfl⟩
end Go.Proofs.YtmpfilddeglgbaaGreatDoor
