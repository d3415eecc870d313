import Derived.IntWalk
import Derived.Deep.CutRange
import Derived.Test.YtgfakdobajgnfaaGreatDoorQk8
import Derived.Test.YtgfakdobajgnfaaGreatDoorQk22
set_option maxRecDepth 100000
set_option maxHeartbeats 16000000
namespace Go.Proofs.YtgfakdobajgnfaaGreatDoor
open Go Go.RowKit Go.Lib Go.Sort Go.Shelf
theorem S8 (l:List UInt8)(c:UInt8):Kc (l++[c])=Kc l++(if c=92 then[92,92] else if c=34 then[92,34] else[c]):=by
 induction l with
 |nil=>rw[List.nil_append,Ma];simp [Kc,N7]
 |cons b r ih=>rw[List.cons_append,Ma,ih,Ma b r,List.append_assoc]
theorem Qy {s:ByteArray}{i:Nat}(h:i<s.size):dl (s.extract i (i+1))=[s[i]]/\(s.extract i (i+1)).size=1/\(dl s).take (i+1)=(dl s).take i++[s[i]]:=by
 have c:i<(dl s).length:=by rw[A5];exact h
 have d:(dl s)[i]=s[i]:=by
  have:=Gc h
  rw[Ag c] at this;exact Option.some.inj this
 have e:dl (s.extract i (i+1))=[s[i]]:=by
  rw[Ep,List.drop_eq_getElem_cons c,Nat.add_sub_cancel_left,d];rfl
 refine⟨e,by rw[←A5,e];rfl,?_⟩;rw[←d];exact List.take_succ_eq_append_getElem c
theorem Cd {c:UInt8}{n:Nat}(h:c.toNat=n):c=UInt8.ofNat n:=by rw[←h];exact(UInt8.ofNat_toNat).symm
theorem cS {s S:ByteArray}{i:Nat}(h:i<s.size)(d:dl S=34::Kc ((dl s).take i))(k:S.size<=1+2*i)(c:s[i].toNat=34\/s[i].toNat=92):(S++⟨#[92]⟩++s.extract i (i+1)).size<=1+2*(i+1)/\dl (S++⟨#[92]⟩++s.extract i (i+1))=34::Kc ((dl s).take (i+1)):=by
 obtain⟨e,f,g⟩:=Qy h
 have j:dl (S++⟨#[92]⟩++s.extract i (i+1))=34::Kc ((dl s).take (i+1)):=by
  rw[Dz,Dz,d,e,g,S8];rcases c with c|c
  ·rw[Cd c];simp [dl]
  rw[Cd c];simp [dl]
 refine⟨?_,j⟩;rw[ByteArray.size_append,ByteArray.size_append,f];show S.size+1+1<=_;omega
theorem nU {s S:ByteArray}{i:Nat}(h:i<s.size)(c:dl S=34::Kc ((dl s).take i))(n:S.size<=1+2*i)(d:s[i].toNat≠34)(hd:s[i].toNat≠92):(S++s.extract i (i+1)).size<=1+2*(i+1)/\dl (S++s.extract i (i+1))=34::Kc ((dl s).take (i+1)):=by
 obtain⟨f,g,j⟩:=Qy h;have k:¬s[i]=92:=fun e=>hd rU
 have m:¬s[i]=34:=fun e=>d rU
 refine⟨by rw[ByteArray.size_append,g];omega,?_⟩;rw[Dz,c,f,j,S8,Ao k,Ao m];rfl
theorem oT {r:List UInt8}(k:r.length=4){j:Nat}(m:1<=j)(n:j<=4)(f:∀i,j<=i->i<4->r[i]? =some 48)(hend:j=1\/∃c,r[j - 1]? =some c/\c≠48):G8 r=r.take j:=by
 match r,k with
 |[a,b,c,d],_=>
  rcases (show j=1\/j=2\/j=3\/j=4 by omega) with rfl|rfl|rfl|rfl
  ·have h:=f 1 rF rF;have g:=f 2 rF rF;have e:=f 3 rF rF;simp at h g e;subst h g e;by_cases ha:a=48
   ·subst ha;rfl
   simp [G8,trimRightB,ha]
  ·have g:=f 2 rF rF;have e:=f 3 rF rF;simp at g e;subst g e;exact zwv
  ·have e:=f 3 rF rF;simp at e;subst e;exact zwv
  exact zwv
theorem nH {n:Int}{d:ByteArray}{m:Nat}(e:dl d=Ky (decDigits n.natAbs))(r:d.size<=m+4)(u:m<d.size)(k:∀i,m<i->i<d.size->(dl d)[i]? =some 48)(f:m+4=d.size\/∃c,(dl d)[m]? =some c/\c≠48)(b:ByteArray)(o:dl b=if n<0 then[45] else[]):
 dl (b++d.extract 0 (d.size - 4)++⟨#[46]⟩++d.extract (d.size - 4) (m+1))=K8 n:=by
 have v:5<=d.size:=by
  have:=O0 (decDigits n.natAbs)
  rw[←e,A5] at this;exact this
 rw[Dz,Dz,Dz,Ep,Ep,o];unfold K8;rw[←e,A5,List.drop_zero,Nat.sub_zero];have p:((dl d).drop (d.size - 4)).length=4:=by rw[List.length_drop,A5];omega
 have:=oT p (j:=m+1 - (d.size - 4)) rF rF (fun i g h=>by
  rw[List.getElem?_drop]
  exact k _ rF rF) (by
  rcases f with q|⟨c,g,h⟩
  ·exact .inl rF
  refine .inr ⟨c,?_,h⟩;rw[List.getElem?_drop,←g];congr 1
  omega)
 rw[this];simp [dl]
theorem Oo (s:ByteArray)(j:Int)(c:0<=j)(d:j<=(s.size:Int))(W:World):(Instr.slice 9 (.string s) none (some (.int .i64 j)) none).run Tryz.prog W= .ok (.string (s.extract 0 j.toNat)) W:=
 run_slice_string_h W 9 s Tryz.underlying9 .i64 j c d
theorem Dm (s:ByteArray)(i j:Int)(c:0<=i)(d:i<=j)(e:j<=(s.size:Int))(W:World):(Instr.slice 9 (.string s) (some (.int .i64 i)) (some (.int .i64 j)) none).run Tryz.prog W= .ok (.string (s.extract i.toNat j.toNat)) W:=
 run_slice_string W 9 s .i64 .i64 i j Tryz.underlying9 c d e
theorem Fy (v:Vl)(w:World)(hv:v.fit):
 Calls Tryz.prog 16 #[.agg #[.int .u8 v.k,.int .i64 v.n,.string v.s]] w fun e w'=>e= .returned (.string (Nu v))/\Below w.heap.size w w':=by
 obtain⟨h1,h2,h3⟩:=hv;have p:Below w.heap.size w (w.alloc (.cells #[.int .u8 v.k,.int .i64 v.n,.string v.s] 23)):=(Aq w.heap.size w).alloc (Ak _) _;have Z:=Hy v h1 (w.alloc (.cells #[.int .u8 v.k,.int .i64 v.n,.string v.s] 23));have f:=(MapKept.heap_alloc w (.cells #[.int .u8 v.k,.int .i64 v.n,.string v.s] 23)).1;rw[Kt] at Z;unfold Nu C3;obtain⟨k,n,s⟩:=v;simp only at*
 have r:∀V,Below (w.heap.size+1) (w.alloc (.cells #[.int .u8 k,.int .i64 n,.string s] 23)) V->V.heap[w.heap.size]? =some (.cells #[.int .u8 k,.int .i64 n,.string s] 23 (0,0))/\Below w.heap.size w V:=fun V hV=>by
  have hz:(w.alloc (.cells #[.int .u8 k,.int .i64 n,.string s] 23)).heap.size=w.heap.size+1:=by simp
  exact⟨(hV.block w.heap.size rF).trans f,p.trans (hV.mono rF)⟩
 have u:=Ax r;have hz:(w.alloc (.cells #[.int .u8 k,.int .i64 n,.string s] 23)).heap.size=w.heap.size+1:=by simp
 have M:=Ax Z;have c0:(w.alloc (.cells #[.int .u8 k,.int .i64 n,.string s] 23)).cell? ⟨w.heap.size,0,none⟩=some (.int .u8 k):=by simp only[World.cell?,f];rfl
 have c1:(w.alloc (.cells #[.int .u8 k,.int .i64 n,.string s] 23)).cell? ⟨w.heap.size,1,none⟩=some (.int .i64 n):=by simp only[World.cell?,f];rfl
 have c2:(w.alloc (.cells #[.int .u8 k,.int .i64 n,.string s] 23)).cell? ⟨w.heap.size,2,none⟩=some (.string s):=by simp only[World.cell?,f];rfl
 cases hmy:Fl k n (dl s) with
 |false=>
  rw[hmy] at M;simp only[Bool.false_eq_true,if_false];clear Z f p r hz hmy;go_enter Tryz.func16,Tryz.ntmps16;go_wp2_with fail;refine M.out.mono ?_;rintro e W ⟨rfl,y⟩;rw[show(w.alloc (.cells #[.int .u8 k,.int .i64 n,.string s] 23)).heap.size=w.heap.size+1 by simp] at y;have HB:=Ax (u.out W y).2;clear y;exact zzf
 |true=>
  rw[hmy] at M;simp only[if_true];have a8:=Ax (Kl hmy);clear Z f p r hz hmy;go_enter Tryz.func16,Tryz.ntmps16;go_wp2_with fail;refine M.out.mono ?_;rintro e W ⟨rfl,y⟩;rw[show(w.alloc (.cells #[.int .u8 k,.int .i64 n,.string s] 23)).heap.size=w.heap.size+1 by simp] at y;obtain⟨N,O⟩:=u.out W y;have HX:=Ax N;have d0:W.cell? ⟨w.heap.size,0,none⟩=some (.int .u8 k):=by simp only[World.cell?,N];rfl
  have d1:W.cell? ⟨w.heap.size,1,none⟩=some (.int .i64 n):=by simp only[World.cell?,N];rfl
  have R:W.cell? ⟨w.heap.size,2,none⟩=some (.string s):=by simp only[World.cell?,N];rfl
  have T:=Ax O;have U:=Ax (J5 (w:=W) n h2 h3);clear y c0 c1 c2 M u N O;go_wp2_with fail;refine U.out.mono ?_;rintro e j ⟨⟨x,rfl,C⟩,D⟩;obtain⟨E,F,rfl,hd⟩:=C.form;obtain⟨G,b7⟩:∃m,Br n.natAbs=m:=⟨_,rfl⟩;rw[b7] at hd ⊢;obtain⟨nb,hnb⟩:∃b,decide (n<0)=b:=⟨_,rfl⟩;rw[hnb];have o:=(D.block _ (Ay HX.out)).trans HX.out;have d0:j.cell? ⟨w.heap.size,0,none⟩=some (.int .u8 k):=by simp only[World.cell?,o];rfl
  have d1:j.cell? ⟨w.heap.size,1,none⟩=some (.int .i64 n):=by simp only[World.cell?,o];rfl
  have R:j.cell? ⟨w.heap.size,2,none⟩=some (.string s):=by simp only[World.cell?,o];rfl
  have X:=Ax (T.out.trans (D.mono T.out.size));clear C D o U;have hA:=(Aq j.heap.size j).alloc (Ak _) (.cells #[.bool nb,.slice E G F] 79);have e0:=A4 hA d0;have e1:=A4 hA d1;have e2:=A4 hA R;have HBA:=Ax (X.out.trans (hA.mono X.out.size));clear hA;rcases a8.out with ⟨rfl,rfl,I⟩|⟨rfl,I⟩|⟨rfl,I⟩|⟨rfl,rfl,hl,hp⟩|⟨rfl,I,C⟩|⟨rfl,rfl,C⟩
  ·clear I;exact zw5
  ·have g:=(P3 (w:=j.alloc (.cells #[.bool nb,.slice E G F] 79)) nb (hd.below ((Aq _ _).alloc (Ak _) _)) (Lo rF) 1 rH);have HDG:Hid (Calls Tryz.prog 48 #[.agg #[.bool nb,.slice E G F],.int .i64 1] (j.alloc (.cells #[.bool nb,.slice E G F] 79)) _):=Ax g;have Y:Hid ((F7 n.natAbs 1).length<=30):=Ax (Mq (Lo rF) rH)
   have HIT:Hid (dl ((if nb=true then(⟨#[45]⟩:ByteArray) else⟨#[]⟩)++⟨(F7 n.natAbs 1).toArray⟩)=dl ⟨(Nc 1 n (dl s)).toArray⟩):=Ax (by
    rw[Dz,Da,Da,iC,←hnb];simp only[Nc,if_true,itoa];by_cases h:n<0
    ·simp [h,dl]
    rw[show n.natAbs=n.toNat by omega];simp [h,dl])
   obtain⟨pd,d⟩:∃pd:ByteArray,⟨(F7 n.natAbs 1).toArray⟩=pd:=⟨_,rfl⟩;rw[d] at HDG HIT;have hpl:pd.size<=30:=by rw[←d,←A5,Da];exact Y.out
   clear I g hd d Y;cases nb with
   |false=>
    exact zw7
   |true=>
    exact zw7
  ·have g:=(P3 (w:=j.alloc (.cells #[.bool nb,.slice E G F] 79)) nb (hd.below ((Aq _ _).alloc (Ak _) _)) (Lo rF) 5 rH);have HDG:Hid (Calls Tryz.prog 48 #[.agg #[.bool nb,.slice E G F],.int .i64 5] (j.alloc (.cells #[.bool nb,.slice E G F] 79)) _):=Ax g;obtain⟨pd,d⟩:∃pd:ByteArray,⟨(F7 n.natAbs 5).toArray⟩=pd:=⟨_,rfl⟩;have hpl:pd.size<=30:=by rw[←d,←A5,Da];exact Mq (Lo rF) rH
   have L:dl pd=Ky (decDigits n.natAbs):=by rw[←d,Da,eQ]
   have d8:5<=pd.size:=by
    have:=O0 (decDigits n.natAbs)
    rw[←L,A5] at this;exact this
   have HDC:Hid (∀m,pd.size<=m+4->m<pd.size->(∀i,m<i->i<pd.size->(dl pd)[i]? =some 48)->(m+4=pd.size\/∃c,(dl pd)[m]? =some c/\c≠48)->dl ((if nb=true then(⟨#[45]⟩:ByteArray) else⟨#[]⟩)++pd.extract 0 (pd.size - 4)++⟨#[46]⟩++pd.extract (pd.size - 4) (m+1))=dl ⟨(Nc 2 n (dl s)).toArray⟩):=Ax fun m q1 q2 q3 q4=>by
    rw[nH L q1 q2 q3 q4 _ (by rw[←hnb];by_cases h:n<0<;>simp [h,dl]),Da];rfl
   rw[d] at HDG;clear I g hd d L;cases nb with
   |false=>
    exact zzz
   |true=>
    exact zzz
  ·rw[A5] at hl;obtain rfl:nb=false:=by rw[←hnb];rfl
   clear hnb hp;go_wp2_with fail
   go_loop [7,8] (fun v7 v8=>∃(i:Nat) (S:ByteArray),i<=s.size/\v8= .int .i64 i/\v7= .string S/\S.size<=1+2*i/\Hid (dl S=34::Kc ((dl s).take i))) (fun _ v8=>s.size - (intOf v8).toNat)
   case atStart=>exact⟨0,⟨#[34]⟩,Nat.zero_le _,rfl,rfl,by decide,Ax rfl⟩
   obtain⟨i,S,hi,rfl,rfl,hS,hq⟩:=hrel;by_cases hil:i<s.size
   ·have p0:decide ((i:Int)<(s.size:Int))=true:=Am rF;have q0:(0:Int)<=(i:Int):=by omega
    have q1:(i:Int)<(s.size:Int):=by omega
    by_cases h34:s[i].toNat=34
    ·have d1:((s[i].toNat:Int)==34)=true:=beq_iff_eq.2 rF;have R:(s[i].toNat:Int)=34:=by omega
     have HN:=Ax (cS hil hq.out hS (.inl h34));exact zxu
    have d1:((s[i].toNat:Int)==34)=false:=Af.2 rF;by_cases h92:s[i].toNat=92
    ·have R:((s[i].toNat:Int)==92)=true:=beq_iff_eq.2 rF;have HN:=Ax (cS hil hq.out hS (.inr h92));exact zxu
    have R:((s[i].toNat:Int)==92)=false:=Af.2 rF;have HN:=Ax (nU hil hq.out hS h34 h92);exact zxu
   obtain rfl:i=s.size:=by omega
   have p0:decide ((s.size:Int)<(s.size:Int))=false:=An rF
   have HN:Hid (dl (S++⟨#[34]⟩)=dl ⟨(Nc 3 0 (dl s)).toArray⟩):=Ax (by
    rw[Dz,hq.out,Da,←A5,List.take_length]
    simp [Nc,Z2,dl])
   clear hq;go_wp2_with fail;go_ret;exact⟨Ee HN.out,HBA.out⟩
  ·clear I;rcases C with rfl|rfl
   ·exact zw5
   exact zw5
  have b8:s.size<=12:=by rw[←A5];exact(E8 C).2.1
  obtain rfl:nb=false:=by rw[←hnb];rfl
  clear hnb C;go_wp2_with fail;go_ret;exact⟨Ee (by rw[Dz];rfl),HBA.out⟩
open Go Go.Lib
def Jj (c:Bool)(n:Nat):Int:=if c then -(n:Int) else n
theorem P9 (l:List UInt8):∀k,val (l++List.replicate k 48) 0=val l 0*10^k
 |0=>by simp
 |k+1=>by
  rw[List.replicate_succ',←List.append_assoc,show val (l++List.replicate k 48++[48]) 0=val (l++List.replicate k 48) 0*10+((48:UInt8).toNat - 48) by simp [val],P9 l k,Nat.pow_succ,Nat.mul_assoc];rfl
theorem Yq (l:List UInt8)(c:UInt8)(d:Nat):val (l++[c]) d=val l d*10+(c.toNat - 48):=by simp [val]
theorem iF:∀(l:List UInt8) (d m:Nat),l.all Bg=true->d<10^m->val l d<10^(m+l.length)
 |[],d,m,_,h=>h
 |c::l,d,m,hd,h=>by
  rw[List.all_cons,Bool.and_eq_true] at hd;have e:48<=c.toNat/\c.toNat<=57:=by simpa[Bg] using hd.1
  have:=iF l (d*10+(c.toNat - 48)) (m+1) hd.2 (by rw[Nat.pow_succ];omega)
  rw[Aa,show m+(l.length+1)=m+1+l.length by omega];exact this
theorem Vj {l:List UInt8}(hd:l.all Bg=true)(h:l.length<=406):Br (val l 0)<=102:=by
 refine Im ?_;have c:=iF l 0 0 hd rH;obtain⟨k,d⟩:∃k,k=102:=⟨_,rfl⟩;rw[←d];have e:10^(0+l.length)<=10^(4*k):=Nat.pow_le_pow_right rH rF;have f:10^(4*k)=10000^k:=by rw[Nat.pow_mul]
 rw[←f];exact Nat.lt_of_lt_of_le c e
theorem Un {M:Nat}:∀{l:List UInt8} {d u:Nat},parseUintM M d l= .ok u->u=val l d
 |[],d,u,h=>by
  simp only[parseUintM] at h;injection h with h;exact h.symm
 |c::r,d,u,h=>by
  simp only[parseUintM] at h
  split at h
  ·split at h
   ·cases h
   split at h
   ·cases h
   have q:=Un (l:=r) h;exact q
  cases h
theorem oO {A:Type}{d:List UInt8}(i:d≠[])(hd:d.all Bg=true)(e:Bool)(f:Int->A)(g:A):
 (match parseIntB 64 (if e=true then 45::d else d) with| .ok n=>f n|_=>g)=if -9223372036854775808<=Jj e (val d 0)/\Jj e (val d 0)<=9223372036854775807 then f (Jj e (val d 0)) else g:=by
 have j:(2:Nat)^(64 - 1)=9223372036854775808:=by decide
 have k:∀u,parseUintB 64 d= .ok u->u=val d 0:=fun u h=>by
  unfold parseUintB at h;rw[Ao i] at h;exact Un h
 have m:val d 0<=9223372036854775808->parseUintB 64 d= .ok (val d 0):=fun h=>by
  unfold parseUintB;rw[Ao i]
  exact Ue _ rH d 0 hd (by have:(2:Nat)^64 - 1=18446744073709551615:=by decide
                           omega)
 cases e with
 |true=>
  simp only[if_true,parseIntB_minus,Jj];cases h:parseUintB 64 d
  case ok u=>
   have:=k u h
   subst this;simp only[signedC,j];by_cases hv:9223372036854775808<val d 0
   ·rw[Ap hv,Ao rF]
   rw[Ao hv,Ap rF]
  all_goals
   simp only[signedC];rw[Ao fun q=>by rw[m rF] at h;cases h]
 |false=>
  obtain⟨c,r,rfl⟩:=List.exists_cons_of_ne_nil i;have o:=hd;rw[List.all_cons,Bool.and_eq_true] at o;have p:48<=c.toNat/\c.toNat<=57:=by simpa[Bg] using o.1
  simp only[Bool.false_eq_true,if_false,parseIntB_plain 64 c r rF rF,Jj];cases h:parseUintB 64 (c::r)
  case ok u=>
   have:=k u h
   subst this;simp only[signlessC,j];by_cases hv:9223372036854775808<=val (c::r) 0
   ·rw[Ap hv,Ao rF]
   rw[Ao hv,Ap rF]
  all_goals
   simp only[signlessC];rw[Ao fun q=>by rw[m rF] at h;cases h]
def E4 (l:List UInt8):Option (Int×Bool):=
 let c:=cut (if l.head? =some 45 then l.tail else l) [46]
 if(!F3 c.1||(decide (1<c.1.length) && c.1.head? ==some 48))||(c.2.2 && (!F3 c.2.1||decide (4<c.2.1.length))) then none
 else some (Jj (decide (l.head? =some 45)) (val (if c.2.2 then c.1++(c.2.1++[48,48,48,48]).take 4 else c.1) 0),c.2.2)
def inR (z:Int):Prop:= -9223372036854775808<=z/\z<=9223372036854775807
instance (z:Int):Decidable (inR z):=inferInstanceAs (Decidable (_/\_))
theorem Fr {l:List UInt8}(h:F3 l=true):l≠[]/\l.all Bg=true:=by
 unfold F3 at h;rw[Bool.and_eq_true] at h;refine⟨fun e=>by subst e;simp at h,h.2⟩
theorem Ve {l:List UInt8}(h:l≠[])(hd:l.all Bg=true):F3 l=true:=by
 unfold F3;rw[hd];cases l with
 |nil=>exact absurd rfl h
 |cons=>rfl
theorem gF (l:List UInt8):Nt l=match E4 l with|none=> .error 4|some z=>if inR z.1 then .ok (if z.2 then 2 else 1,z.1) else .error 9:=by
 unfold Nt E4;simp only;generalize hc:cut (if l.head? =some 45 then l.tail else l) [46]=c;obtain⟨a,r,f⟩:=c;simp only;by_cases hbad:((!F3 a||(decide (1<a.length) && a.head? ==some 48))||(f && (!F3 r||decide (4<r.length))))=true
 ·rw[Ap hbad,Ap hbad]
 rw[Ao hbad,Ao hbad];simp only[Bool.or_eq_true,Bool.and_eq_true,not_or,not_and,Bool.not_eq_true',Bool.not_eq_true,decide_eq_false_iff_not,Bool.not_eq_false] at hbad;obtain⟨⟨i,_⟩,h2⟩:=hbad;obtain⟨h,had⟩:=Fr i
 have d:(if f=true then a++(r++[48,48,48,48]).take 4 else a)≠[]:=by
  split
  ·exact fun e=>h (List.append_eq_nil_iff.1 e).1
  exact h
 have g:(if f=true then a++(r++[48,48,48,48]).take 4 else a).all Bg=true:=by
  exact zxt
 have:=oO d g (decide (l.head? =some 45)) (fun n=>(.ok (if f=true then 2 else 1,n):Except Int (Int×Int))) (.error 9)
 simp only[decide_eq_true_eq] at this;exact this
def C9 (b:List UInt8)(c j:Nat)(X:Nat)(pt:Int):Prop:=
 (pt= -1/\(b.take j).all Bg=true/\X=val (b.take j) 0)\/∃a r,b.take j=a++46::r/\a≠[]/\a.all Bg=true/\r.all Bg=true/\pt=((c+a.length:Nat):Int)/\X=val (a++r) 0
theorem C9.start (b:List UInt8)(c:Nat):C9 b c 0 0 (-1):= .inl ⟨rfl,by simp,by simp [val]⟩
theorem C9.len {b:List UInt8}{c j X:Nat}{pt:Int}(h:C9 b c j X pt)(g:b.length<=402):Br X<=102:=by
 rcases h with ⟨_,hd,rfl⟩|⟨a,r,e,_,d,f,_,rfl⟩
 ·exact Vj hd (by rw[List.length_take];omega)
 refine Vj (by rw[List.all_append,d,f];rfl) ?_
 have:=Ar List.length e
 rw[List.length_take,Ab,Aa] at this;rw[Ab];omega
theorem C9.pt {b:List UInt8}{c j X:Nat}{pt:Int}(h:C9 b c j X pt)(g:j<=b.length):pt= -1\/(0<=pt/\(c:Int)<pt/\pt<((c+j:Nat):Int)):=by
 rcases h with ⟨e,_⟩|⟨a,r,e,d,_,_,i,_⟩
 ·exact .inl e
 have f:=Ar List.length e;rw[List.length_take,Ab,Aa] at f;have k:1<=a.length:=List.length_pos_iff.2 d;exact .inr ⟨by omega,by omega,by omega⟩
theorem C9.digit {b:List UInt8}{c j X:Nat}{pt:Int}(h:C9 b c j X pt)(i:j<b.length)(g:Bg b[j]=true):C9 b c (j+1) (X*10+(b[j].toNat - 48)) pt:=by
 have e:=List.take_succ_eq_append_getElem i;rcases h with ⟨d,f,rfl⟩|⟨a,r,d,f,k,m,n,rfl⟩
 ·refine .inl ⟨d,?_,?_⟩
  ·rw[e,List.all_append,f];simp [g]
  rw[e,Yq]
 refine .inr ⟨a,r++[b[j]],?_,f,k,?_,n,?_⟩
 ·rw[e,d];simp
 ·rw[List.all_append,m];simp [g]
 rw[←List.append_assoc,Yq]
theorem C9.point {b:List UInt8}{c j X:Nat}{pt:Int}(h:C9 b c j X pt)(g:j<b.length)(i:b[j]=46)(m:pt<0)(n:0<j):C9 b c (j+1) X ((c+j:Nat):Int):=by
 have e:=List.take_succ_eq_append_getElem g;rcases h with ⟨k,f,rfl⟩|⟨a,r,k,f,o,p,u,rfl⟩
 ·have d:(b.take j).length=j:=by rw[List.length_take];omega
  refine .inr ⟨b.take j,[],?_,fun q=>?_,f,rfl,?_,by simp⟩
  ·rw[e,i]
  ·rw[q] at d;simp at d;omega
  rw[d]
 omega
theorem L3 {l:List UInt8}(h:l.all Bg=true):(46:UInt8)∉l:=Q6 h rH
theorem C9.bad {l b:List UInt8}{c j X:Nat}{pt:Int}(x:(if l.head? =some 45 then l.tail else l)=b)(h:C9 b c j X pt)(i:j<b.length)(hd:Bg b[j]=false)(y:¬(b[j]=46/\pt<0/\0<j)):E4 l=none:=by
 have g:b[j]∈b.drop j:=by rw[List.drop_eq_getElem_cons i];exact Ai
 have m:=List.take_append_drop j b;unfold E4;simp only[x];refine Ap ?_;rcases h with ⟨q,u,rfl⟩|⟨a,r,q,u,A,I,L,rfl⟩
 ·rcases Mb 46 b with n|⟨a,r,e,n⟩
  ·rw[Kv n]
   have:F3 b=false:=by
    cases hq:F3 b with
    |false=>rfl
    |true=>
     have:=List.all_eq_true.1 (Fr hq).2 _ (List.getElem_mem i)
     rw[hd] at this;cases this
   simp [this]
  rw[e,Ik a r n]
  have o:F3 a=false:=by
   cases hq:F3 a with
   |false=>rfl
   |true=>
    exfalso;obtain⟨C,D⟩:=Fr hq;have E:1<=a.length:=List.length_pos_iff.2 C;rcases Nat.lt_trichotomy j a.length with d|p|F
    ·have:b[j]=a[j]:=by
      have f:b[j]? =a[j]?:=by rw[e,List.getElem?_append_left d]
      rw[Ag i,Ag d] at f;exact Option.some.inj f
     have v:=List.all_eq_true.1 D _ (List.getElem_mem d);rw[←this,hd] at v;cases v
    ·refine y ⟨?_,by omega,by omega⟩;have f:b[j]? =some 46:=by rw[e,p,List.getElem?_append_right (Ak _)];simp
     rw[Ag i] at f;exact Option.some.inj f
    have f:(46:UInt8)∈b.take j:=by
     rw[e,List.take_append,List.mem_append];refine .inr ?_;obtain⟨k,G⟩:∃k,j - a.length=k+1:=⟨j - a.length - 1,by omega⟩;rw[G,List.take_succ_cons];exact Ai
    exact L3 u f
  simp [o]
 rw[←m,q,List.append_assoc,List.cons_append,Ik a _ (L3 A)]
 have o:F3 (r++b.drop j)=false:=by
  cases hq:F3 (r++b.drop j) with
  |false=>rfl
  |true=>
   have:=List.all_eq_true.1 (Fr hq).2 _ (List.mem_append_right _ g)
   rw[hd] at this;cases this
 simp [o]
theorem C9.plain {l b:List UInt8}{c X:Nat}{pt:Int}(e:(if l.head? =some 45 then l.tail else l)=b)(h:C9 b c b.length X pt)(f:pt<0):
 E4 l=if b=[]\/(1<b.length/\b.head? =some 48) then none else some (Jj (decide (l.head? =some 45)) X,false):=by
 rcases h with ⟨g,d,rfl⟩|⟨a,r,_,_,_,_,i,_⟩
 ·rw[List.take_length] at d ⊢;unfold E4;simp only[e,Kv (L3 d),Bool.false_and,Bool.or_false,Bool.false_eq_true,if_false];by_cases hn:b=[]
  ·rw[Ap (Or.inl hn:b=[]\/_),hn];rfl
  rw[Ve hn d];by_cases hq:1<b.length/\b.head? =some 48
  ·rw[Ap (Or.inr hq:b=[]\/_),Ap (by simp [hq.1,hq.2])]
  rw[Ao (by rintro (q|q);exact hn q;exact hq q:¬(b=[]\/_)),Ao (by simpa using hq)]
 omega
theorem C9.pointed {l b:List UInt8}{c X:Nat}{pt:Int}(j:(if l.head? =some 45 then l.tail else l)=b)(h:C9 b c b.length X pt)(v:0<=pt):
 E4 l=(if(b.length - ((pt - c).toNat+1)<1\/4<b.length - ((pt - c).toNat+1))\/(1<(pt - c).toNat/\b.head? =some 48) then none else some (Jj (decide (l.head? =some 45)) (X*10^(4 - (b.length - ((pt - c).toNat+1)))),true))/\1<=(pt - c).toNat/\(pt - c).toNat+1<=b.length:=by
 rcases h with ⟨d,_⟩|⟨a,r,d,e,i,k,x,rfl⟩
 ·omega
 rw[List.take_length] at d;have m:=Ar List.length d;rw[Ab,Aa] at m;have n:(pt - c).toNat=a.length:=by omega
 have o:b.length - (a.length+1)=r.length:=by omega
 have f:1<=a.length:=List.length_pos_iff.2 e;rw[n,o];refine⟨?_,f,by omega⟩
 have g:b.head? =a.head?:=by
  rw[d];cases a with
  |nil=>exact absurd rfl e
  |cons=>rfl
 rw[g];unfold E4;simp only[j];rw[d,Ik a r (L3 i)];simp only[if_true,Bool.true_and,Ve e i];by_cases hr:r=[]
 ·subst hr;rw[Ap (by simp [F3]),Ap rI]
 rw[Ve hr k];have p:1<=r.length:=List.length_pos_iff.2 hr;by_cases hq:4<r.length\/(1<a.length/\a.head? =some 48)
 ·rw[Ap (by rcases hq with q|⟨y,A⟩<;>simp [*]),Ap (by rcases hq with q|q<;>simp [*])]
 rw[Ao (by
  simp only[not_or,not_and] at hq;simp
  exact⟨fun q=>by simpa using hq.2 q,by omega⟩),Ao (by
  simp only[not_or,not_and] at hq ⊢
  exact⟨⟨by omega,hq.1⟩,hq.2⟩)]
 have u:(r++[48,48,48,48]).take 4=r++List.replicate (4 - r.length) 48:=by
  simp only[not_or,not_and] at hq
  have:r.length=1\/r.length=2\/r.length=3\/r.length=4:=by omega
  rw[List.take_append,List.take_of_length_le rF];rcases this with q|q|q|q<;>rw[q]<;>rfl
 rw[u,←List.append_assoc,P9]
open Go Go.RowKit Go.Lib
theorem Z3 (l:List Nat)(k:Nat):nv (l.drop k)<=nv l:=by
 have h:=Rj l k;have c:1<=10000^(l.take k).length:=Nat.pow_pos rH;have d:nv (l.drop k)<=10000^(l.take k).length*nv (l.drop k):=Nat.le_mul_of_pos_left _ c;omega
theorem Bm.digit {w:World}{b:Bool}{a:Option Addr}{n c:Nat}{z:Int}(h:Bm w (.agg #[.bool b,.slice a n c]) z){i:Nat}(f:i<(dg z.natAbs).length):∃d off,a=some ⟨d,off,none⟩/\w.cell? ⟨d,off+i,none⟩=some (.int .i64 ((dg z.natAbs)[i]:Int)):=by
 obtain⟨s,e,hd⟩:=h;simp at e;obtain⟨_,rfl⟩:=e;exact hd.at f
def Gp (z:Int)(e:Ending):Prop:=e= .returned (.tuple #[.int .i64 (if inR z then z else 0),.int .i64 (if inR z then 0 else 9)])
theorem Gp.no {z:Int}(h:¬inR z):Gp z (.returned (.tuple #[.int .i64 0,.int .i64 9])):=by unfold Gp;rw[Ao h,Ao h]
theorem Gp.yes {z:Int}(h:inR z):Gp z (.returned (.tuple #[.int .i64 z,.int .i64 0])):=by unfold Gp;rw[Ap h,Ap h]
theorem mK {x y:Int}(h:x<y):J2 x y= -1:=by unfold J2;rw[Ap h]
theorem mU {x y:Int}(h:y<=x):J2 x y=0\/J2 x y=1:=by
 unfold J2;rw[Ao rF]
 split<;>simp
theorem pB {x y:Int}(h:y<x):J2 x y=1:=by unfold J2;rw[Ao rF,Ao rF]
theorem mZ {x y:Int}(h:x<=y):J2 x y=0\/J2 x y= -1:=by
 unfold J2
 split
 ·simp
 rw[Ap rF];simp
def dl5 (z:Int)(n:Nat):Prop:=Br z.natAbs=n/\inR z
theorem jD {z M:Int}{n m:Nat}{c:Bool}(h:dl5 z n)(k:m+1<=n)(f:decide (z<0)=c)(j:M=Jj c (nv ((dg z.natAbs).drop (m+1)))):m<(dg z.natAbs).length/\
 ∃d:Nat,(dg z.natAbs)[m]? =some d/\d<10000/\ -9223372036854775808<=M*10000/\M*10000<=9223372036854775807/\(c=true-> -9223372036854775808<=M*10000 - d/\M*10000 - d<=9223372036854775807/\M*10000 - d=Jj c (nv ((dg z.natAbs).drop m)))/\(c=false-> -9223372036854775808<=M*10000+d/\M*10000+d<=9223372036854775807/\M*10000+d=Jj c (nv ((dg z.natAbs).drop m))):=by
 have e:m<(dg z.natAbs).length:=by have:=h.1;unfold Br at this;omega
 have hd:=Gb z.natAbs _ (List.getElem_mem e);have i:=Dj e;have g:=Z3 (dg z.natAbs) m;rw[Fb] at g;obtain⟨o,p⟩:=h.2;refine⟨e,_,Ag e,hd,?_⟩;subst f j;unfold Jj;by_cases hz:z<0
 ·simp only[hz,decide_true,if_true];rw[i] at g ⊢;exact⟨by omega,by omega,fun _=>⟨by omega,by omega,by omega⟩,by simp⟩
 simp only[hz,decide_false,Bool.false_eq_true,if_false];rw[i] at g ⊢;exact⟨by omega,by omega,False.elim,fun _=>⟨by omega,by omega,by omega⟩⟩
theorem nX {w:World}{v:Value}{z:Int}(hx:Bm w v z)(hl:Br z.natAbs<=40000):Calls Tryz.prog 214 #[v] w fun e w'=>Gp z e/\Below w.heap.size w w':=by
 have T:=Ax hx;obtain⟨ax,cx,rfl,hd⟩:=hx.form;obtain⟨D,U⟩:∃n,Br z.natAbs=n:=⟨_,rfl⟩;rw[U] at hd T ⊢;obtain⟨R,W⟩:∃b,decide (z<0)=b:=⟨_,rfl⟩;rw[W] at T ⊢;have i7:=Ax W;have HD:=Ax hd;have HL:=Ax hl;have X:=Ax U;have j8:Hid (∀V:World,Calls Tryz.prog 47 #[.int .i64 (-9223372036854775808)] V (Fv V (-9223372036854775808))):=Ax fun V=>J5 _ rH rH
 have j9:Hid (∀V:World,Calls Tryz.prog 47 #[.int .i64 9223372036854775807] V (Fv V 9223372036854775807)):=Ax fun V=>J5 _ rH rH
 have k8:=(Aq w.heap.size w).alloc (Ak _) (.cells #[.bool R,.slice ax D cx] 79);have g:=(MapKept.heap_alloc w (.cells #[.bool R,.slice ax D cx] 79)).1;have Y:=Ax (And.intro k8 g);clear hx hd U W hl k8 g;go_enter Tryz.func214,Tryz.ntmps214;go_upto_region 1 with fail
 obtain⟨W1,l7⟩:∃W1,w.alloc (.cells #[.bool R,.slice ax D cx] 79)=W1:=⟨_,rfl⟩;rw[l7] at Y ⊢;clear l7;go_wp2_with fail;refine(j8.out W1).mono ?_;rintro e V1 ⟨⟨v1,rfl,n9⟩,Z⟩;have a8:=Ax n9;have i:=Ax Z;clear n9 Z;go_wp2_with fail;refine(j9.out V1).mono ?_;rintro e E ⟨⟨v2,rfl,b7⟩,b8⟩;obtain⟨t1,a1,F,c1,rfl⟩:=Bm.parts a8.out;obtain⟨t2,a2,G,c2,rfl⟩:=Bm.parts b7;have p8:=Ax b7;have o:=Ax b8;clear b7 b8 j8 j9;go_upto_region 2 with fail
 have f:Below E.heap.size E ((E.alloc (.cells #[.bool t1,.slice a1 F c1] 79)).alloc (.cells #[.bool t2,.slice a2 G c2] 79)):=((Aq _ _).alloc (Ak _) _).alloc rI _
 have I:((E.alloc (.cells #[.bool t1,.slice a1 F c1] 79)).alloc (.cells #[.bool t2,.slice a2 G c2] 79)).heap[E.heap.size]? =some (.cells #[.bool t1,.slice a1 F c1] 79 (0,0)):=by
  rw[Below.heap_alloc _ _ _ rI];exact Az _ _
 have L:((E.alloc (.cells #[.bool t1,.slice a1 F c1] 79)).alloc (.cells #[.bool t2,.slice a2 G c2] 79)).heap[E.heap.size+1]? =some (.cells #[.bool t2,.slice a2 G c2] 79 (0,0)):=by
  have:=Az (E.alloc (.cells #[.bool t1,.slice a1 F c1] 79)) (.cells #[.bool t2,.slice a2 G c2] 79)
  simpa using this
 obtain⟨W3,r7⟩:∃W3,(E.alloc (.cells #[.bool t1,.slice a1 F c1] 79)).alloc (.cells #[.bool t2,.slice a2 G c2] 79)=W3:=⟨_,rfl⟩;rw[r7] at f I L ⊢;have d8:=Y.out.1;have f7:=d8.trans (i.out.mono d8.size);have f8:=f7.trans (o.out.mono f7.size);have f9:=f8.trans (f.mono f8.size)
 have g:W3.heap[w.heap.size]? =some (.cells #[.bool R,.slice ax D cx] 79 (0,0)):=
  (f.block _ (by have:=o.out.size;have:=i.out.size;have:=Bp Y.out.2;omega)).trans ((o.out.block _ (by have:=i.out.size;have:=Bp Y.out.2;omega)).trans ((i.out.block _ (Bp Y.out.2)).trans Y.out.2))
 have N:Hid (Bm W3 (.agg #[.bool R,.slice ax D cx]) z):=Ax (T.out.below f9);have r8:Hid (Bm W3 (.agg #[.bool t1,.slice a1 F c1]) (-9223372036854775808)):=Ax ((a8.out.below o.out).below f);have r9:Hid (Bm W3 (.agg #[.bool t2,.slice a2 G c2]) 9223372036854775807):=Ax (p8.out.below f);obtain⟨c0,O,_⟩:=A1 g;obtain⟨d0,d1,_⟩:=A1 I;obtain⟨e0,e1,_⟩:=A1 L;have q:=Ax (R8 N.out r8.out (Al HL.out rH) (Al (Im (k:=10) rH) rH));have u:=Ax f9;have HB:=Ax (And.intro g (And.intro I L));clear f I L r7 d8 f7 f8 f9 g Y i o a8 p8 r8;obtain⟨p,hp⟩:∃p,E.heap.size=p:=⟨_,rfl⟩;rw[hp] at HB d0 d1 ⊢;rw[hp] at e0 e1;clear hp;by_cases hlo:z< -9223372036854775808
 ·have A:=mK hlo;rw[A] at q;have HN:=Ax (Gp.no (z:=z) (fun h=>by have:=h.1;omega));clear A hlo;go_wp2_with fail;refine q.out.mono ?_;rintro e V4 ⟨rfl,c⟩;have HF:=Ax (u.out.trans (c.mono u.out.size));clear c;go_wp2_with fail;exact Au (v:= .tuple #[.int .i64 0,.int .i64 9]) uE rfl ⟨HN.out,HF.out⟩
 have A:=mU (x:=z) (y:= -9223372036854775808) rF;obtain⟨r1,s7⟩:∃r,J2 z (-9223372036854775808)=r:=⟨_,rfl⟩;rw[s7] at q A;have x9:0<=r1:=by omega
 clear A s7;have g1:decide (r1<0)=false:=An rF;have i6:=Ax hlo;clear hlo;go_wp2_with fail;refine q.out.mono ?_;rintro e V4 ⟨rfl,c⟩;have HF:=Ax (u.out.trans (c.mono u.out.size));have C:=Ax (R8 (N.out.below c) (r9.out.below c) (Al HL.out rH) (Al (Im (k:=10) rH) rH));have c0:=A4 c c0;have O:=A4 c O;have e0:=A4 c e0;have e1:=A4 c e1;have s8:=Ax (N.out.below c);clear c d0 d1 q HB N r9 u;by_cases hhi:9223372036854775807<z
 ·have A:=pB hhi;rw[A] at C;have HN:=Ax (Gp.no (z:=z) (fun h=>by have:=h.2;omega));clear A hhi i6;go_wp2_with fail;refine C.out.mono ?_;rintro e V5 ⟨rfl,c⟩;have HG:=Ax (HF.out.trans (c.mono HF.out.size));clear c;go_wp2_with fail;exact Au (v:= .tuple #[.int .i64 0,.int .i64 9]) uE rfl ⟨HN.out,HG.out⟩
 have A:=mZ (x:=z) (y:=9223372036854775807) rF;obtain⟨r2,s9⟩:∃r,J2 z 9223372036854775807=r:=⟨_,rfl⟩;rw[s9] at C A;have x9:r2<=0:=by omega
 clear A s9;have g2:decide (0<r2)=false:=An rF;have HN:=Ax (show inR z from⟨by have:=i6.out;omega,by omega⟩);clear hhi i6;go_wp2_with fail;refine C.out.mono ?_;rintro e V5 ⟨rfl,c⟩;have HG:=Ax (HF.out.trans (c.mono HF.out.size));have c0:=A4 c c0;have O:=A4 c O;have y8:=Ax (s8.out.below c);clear c e0 e1 C HF s8;have y9:D<=40000:=by rw[←X.out];exact HL.out
 go_wp2_with fail;have HW:=Ax (show dl5 z D from⟨X.out,HN.out⟩)
 go_loop [6,7] (fun v6 v7=>∃(j:Nat) (M:Int),v6= .int .i64 M/\v7= .int .i64 ((j:Int) - 1)/\j<=D/\Hid (M=Jj R (nv ((dg z.natAbs).drop j)))) (fun _ v7=>(intOf v7+1).toNat)
 case atStart=>exact⟨D,0,rfl,rfl,Ak _,Ax (by rw[←X.out,List.drop_of_length_le (show(dg z.natAbs).length<=Br z.natAbs from Ak _)];cases R<;>rfl)⟩
 obtain⟨j,M,rfl,rfl,hj,hq⟩:=hrel;rcases j with _|m
 ·have p0:decide ((0:Int)<= -1)=false:=by decide
  have w7:(((0:Nat):Int) - 1)= -1:=rfl;rw[w7]
  have hM:M=z:=by
   rw[hq.out,List.drop_zero,Fb,←i7.out];unfold Jj;by_cases h:z<0
   ·simp [h];omega
   simp [h];omega
  have HM:=Ax hM;clear hq hM w7;go_wp2_with fail;exact Au (v:= .tuple #[.int .i64 M,.int .i64 0]) uE rfl ⟨by rw[HM.out];exact Gp.yes HN.out,HG.out⟩
 have ej:((m+1:Nat):Int) - 1=(m:Int):=by omega
 rw[ej];obtain⟨hm,d,hd,uR,Z,b8,f,w8⟩:=jD HW.out hj i7.out hq.out;have w9:=Bm.digit y8.out hm;rw[Ag hm] at hd;injection hd with hd;rw[hd] at w9;obtain⟨bx,fx,rfl,uS⟩:=w9;have q0:(0:Int)<=(m:Int):=by omega
 have q1:(m:Int)<(D:Int):=by omega
 have p0:decide ((0:Int)<=(m:Int))=true:=Am q0;clear hd hm ej;have x8:=Ax (And.intro f w8);clear f w8 hq;cases R with
 |true=>
  obtain⟨F,G,k3⟩:=x8.out.1 rfl;have HK:=Ax k3;clear k3;go_wp2_with fail
  go_round
  case rel=>exact⟨m,M*10000 - d,rfl,by go_num,by omega,HK⟩
  case measure=>simp [intOf]<;>omega
 |false=>
  obtain⟨F,G,k3⟩:=x8.out.2 rfl;have HK:=Ax k3;clear k3;go_wp2_with fail
  go_round
  case rel=>exact⟨m,M*10000+d,rfl,by go_num,by omega,HK⟩
  case measure=>simp [intOf]<;>omega
open Go Go.RowKit Go.Lib
theorem Wu {l:List UInt8}{i:Nat}(h:i+1<l.length):l.drop i=l[i]::l[i+1]::l.drop (i+2):=by
 rw[List.drop_eq_getElem_cons rF,List.drop_eq_getElem_cons h]
theorem Ya {l:List UInt8}{i:Nat}(h:i+1<l.length)(c:l[i]=92):B8 (l.drop i)=l[i+1]::B8 (l.drop (i+2)):=by
 rw[Wu h,B8,Ap c]
theorem aB {l:List UInt8}{i:Nat}(h:i+1<l.length)(c:l[i]≠92):B8 (l.drop i)=l[i]::B8 (l.drop (i+1)):=by
 rw[Wu h,B8,Ao c,List.drop_eq_getElem_cons h]
theorem fN {l:List UInt8}{i:Nat}(h:l.length<=i+1):B8 (l.drop i)=[]:=by
 have:(l.drop i).length<=1:=by rw[List.length_drop];omega
 match l.drop i,this with
 |[],_=>rfl
 |[c],_=>rfl
theorem eD {w:World}(s:ByteArray)(A:s.size<=1000000):Calls Tryz.prog 213 #[.string s] w fun e w'=>e= .returned (.string ⟨(B8 (dl s).tail).toArray⟩)/\w=w':=by
 go_enter Tryz.func213,Tryz.ntmps213;go_wp2_with fail
 go_loop [3,4] (fun v3 v4=>∃(i:Nat) (S:ByteArray),v4= .int .i64 (i:Int)/\v3= .string S/\i<=s.size+1/\S.size<=i/\Hid (dl S++B8 ((dl s).drop i)=B8 (dl s).tail)) (fun _ v4=>s.size+1 - (intOf v4).toNat)
 case atStart=>exact⟨1,⟨#[]⟩,rfl,rfl,by omega,by decide,Ax (by rw[List.drop_one];rfl)⟩
 obtain⟨i,S,rfl,rfl,C,D,j⟩:=hrel;by_cases hgo:i+1<s.size
 ·have v:decide ((i:Int)+1<(s.size:Int))=true:=Am rF;have E:(0:Int)<=(i:Int):=by omega
  have F:(i:Int)<(s.size:Int):=by omega
  have g:i<s.size:=by omega
  have f:i+1<(dl s).length:=(A5 s).symm▸hgo;have k:i<(dl s).length:=(A5 s).symm▸g
  have m:(dl s)[i]'k=s[i]:=by
   have:=Gc g
   rw[Ag k] at this;exact Option.some.inj this
  have r:(dl s)[i+1]'f=s[i+1]:=by
   have:=Gc hgo
   rw[Ag f] at this;exact Option.some.inj this
  by_cases h92:s[i].toNat=92
  ·have x:((s[i].toNat:Int)==92)=true:=beq_iff_eq.2 rF;obtain⟨n,o,_⟩:=Qy hgo;have c:=Dm s ((i:Int)+1) ((i:Int)+1+1) rF rF rF;rw[show((i:Int)+1).toNat=i+1 by omega,show((i:Int)+1+1).toNat=i+1+1 by omega] at c
   have p:=Ax (show dl (S++s.extract (i+1) (i+1+1))++B8 ((dl s).drop (i+2))=B8 (dl s).tail by
    rw[Dz,n,←j.out,Ya f (by rw[m];exact Cd h92),r]
    simp)
   obtain⟨B,q⟩:∃B,s.extract (i+1) (i+1+1)=B:=⟨_,rfl⟩;rw[q] at c p o;have u:B.size<=1:=by omega
   have d:(S++B).size<=i+2:=by rw[ByteArray.size_append];omega
   have h:=Ax d;clear j n o m r q d;go_wp2_with fail
   go_round
   case rel=>exact⟨i+2,S++B,by go_num,rfl,by omega,h.out,p⟩
   case measure=>simp [intOf]<;>omega
  have x:((s[i].toNat:Int)==92)=false:=Af.2 rF;obtain⟨n,o,_⟩:=Qy g;have c:=Dm s (i:Int) ((i:Int)+1) rF rF rF;rw[show((i:Int)).toNat=i by omega,show((i:Int)+1).toNat=i+1 by omega] at c
  have p:=Ax (show dl (S++s.extract i (i+1))++B8 ((dl s).drop (i+1))=B8 (dl s).tail by
   rw[Dz,n,←j.out,aB f (by rw[m];exact fun e=>h92 rU),m]
   simp)
  obtain⟨B,q⟩:∃B,s.extract i (i+1)=B:=⟨_,rfl⟩;rw[q] at c p o;have u:B.size<=1:=by omega
  have d:(S++B).size<=i+1:=by rw[ByteArray.size_append];omega
  have h:=Ax d;clear j n o m r q d;go_wp2_with fail
  go_round
  case rel=>exact⟨i+1,S++B,by go_num,rfl,by omega,h.out,p⟩
  case measure=>simp [intOf]<;>omega
 have v:decide ((i:Int)+1<(s.size:Int))=false:=An rF
 have y:=Ax (Ee (s:=S) (t:=⟨(B8 (dl s).tail).toArray⟩) (by
  have:=j.out
  rw[fN (by rw[A5];omega),List.append_nil] at this;rw[Da]
  exact this))
 clear j;go_wp2_with fail;go_ret;exact⟨y.out,rfl⟩
end Go.Proofs.YtgfakdobajgnfaaGreatDoor
