import Derived.IntWalk
import Derived.Deep.CutRange
import Derived.Test.YtgfakdobajgnfaaGreatDoorQn20
set_option maxRecDepth 100000
set_option maxHeartbeats 16000000
namespace Go.Proofs.YtgfakdobajgnfaaGreatDoor
open Go Go.Lib
def Iz (neg:Bool)(n:Nat):Int:=if neg then -(n:Int) else n
theorem Pn (l:List UInt8):∀k,val (l++List.replicate k 48) 0=val l 0*10^k
 |0=>by simp
 |k+1=>by
  rw[List.replicate_succ',←List.append_assoc,show val (l++List.replicate k 48++[48]) 0=val (l++List.replicate k 48) 0*10+((48:UInt8).toNat - 48) by simp [val],Pn l k,Nat.pow_succ,Nat.mul_assoc];rfl
theorem Vr (l:List UInt8)(c:UInt8)(acc:Nat):val (l++[c]) acc=val l acc*10+(c.toNat - 48):=by simp [val]
theorem fM:∀(l:List UInt8) (acc m:Nat),l.all Bg=true->acc<10^m->val l acc<10^(m+l.length)
 |[],acc,m,_,h=>h
 |c::l,acc,m,hd,h=>by
  rw[List.all_cons,Bool.and_eq_true] at hd;have hc:48<=c.toNat/\c.toNat<=57:=by simpa[Bg] using hd.1
  have:=fM l (acc*10+(c.toNat - 48)) (m+1) hd.2 (by rw[Nat.pow_succ];omega)
  rw[Aa,show m+(l.length+1)=m+1+l.length by omega];exact this
theorem T7 {l:List UInt8}(hd:l.all Bg=true)(h:l.length<=406):Bo (val l 0)<=102:=by
 refine G2 ?_;have h1:=fM l 0 0 hd nV;obtain⟨k,hk⟩:∃k,k=102:=⟨_,rfl⟩;rw[←hk];have h2:10^(0+l.length)<=10^(4*k):=Nat.pow_le_pow_right nV nU;have h3:10^(4*k)=10000^k:=by rw[Nat.pow_mul]
 rw[←h3];exact Nat.lt_of_lt_of_le h1 h2
theorem Sp {M:Nat}:∀{l:List UInt8} {acc u:Nat},parseUintM M acc l= .ok u->u=val l acc
 |[],acc,u,h=>by
  simp only[parseUintM] at h;injection h with h;exact h.symm
 |c::r,acc,u,h=>by
  simp only[parseUintM] at h
  split at h
  ·split at h
   ·cases h
   split at h
   ·cases h
   have q:=Sp (l:=r) h;exact q
  cases h
theorem lB {A:Type}{d:List UInt8}(hne:d≠[])(hd:d.all Bg=true)(neg:Bool)(f:Int->A)(g:A):
 (match parseIntB 64 (if neg=true then 45::d else d) with| .ok n=>f n|_=>g)=if -9223372036854775808<=Iz neg (val d 0)/\Iz neg (val d 0)<=9223372036854775807 then f (Iz neg (val d 0)) else g:=by
 have e63:(2:Nat)^(64 - 1)=9223372036854775808:=by decide
 have hok:∀u,parseUintB 64 d= .ok u->u=val d 0:=fun u h=>by
  unfold parseUintB at h;rw[Ao hne] at h;exact Sp h
 have hin:val d 0<=9223372036854775808->parseUintB 64 d= .ok (val d 0):=fun h=>by
  unfold parseUintB;rw[Ao hne]
  exact S7 _ nV d 0 hd (by have:(2:Nat)^64 - 1=18446744073709551615:=by decide
                           omega)
 cases neg with
 |true=>
  simp only[if_true,parseIntB_minus,Iz];cases h:parseUintB 64 d
  case ok u=>
   have:=hok u h
   subst this;simp only[signedC,e63];by_cases hv:9223372036854775808<val d 0
   ·rw[Ap hv,Ao nU]
   rw[Ao hv,Ap nU]
  all_goals
   simp only[signedC];rw[Ao fun q=>by rw[hin nU] at h;cases h]
 |false=>
  obtain⟨c,r,rfl⟩:=List.exists_cons_of_ne_nil hne;have hc:=hd;rw[List.all_cons,Bool.and_eq_true] at hc;have hc1:48<=c.toNat/\c.toNat<=57:=by simpa[Bg] using hc.1
  simp only[Bool.false_eq_true,if_false,parseIntB_plain 64 c r nU nU,Iz];cases h:parseUintB 64 (c::r)
  case ok u=>
   have:=hok u h
   subst this;simp only[signlessC,e63];by_cases hv:9223372036854775808<=val (c::r) 0
   ·rw[Ap hv,Ao nU]
   rw[Ao hv,Ap nU]
  all_goals
   simp only[signlessC];rw[Ao fun q=>by rw[hin nU] at h;cases h]
def Em (l:List UInt8):Option (Int×Bool):=
 let c:=cut (if l.head? =some 45 then l.tail else l) [46]
 if(!Fp c.1||(decide (1<c.1.length) && c.1.head? ==some 48))||(c.2.2 && (!Fp c.2.1||decide (4<c.2.1.length))) then none
 else some (Iz (decide (l.head? =some 45)) (val (if c.2.2 then c.1++(c.2.1++[48,48,48,48]).take 4 else c.1) 0),c.2.2)
def inR (z:Int):Prop:= -9223372036854775808<=z/\z<=9223372036854775807
instance (z:Int):Decidable (inR z):=inferInstanceAs (Decidable (_/\_))
theorem Fe {l:List UInt8}(h:Fp l=true):l≠[]/\l.all Bg=true:=by
 unfold Fp at h;rw[Bool.and_eq_true] at h;refine⟨fun e=>by subst e;simp at h,h.2⟩
theorem Un {l:List UInt8}(h:l≠[])(hd:l.all Bg=true):Fp l=true:=by
 unfold Fp;rw[hd];cases l with
 |nil=>exact absurd rfl h
 |cons=>rfl
theorem cH (l:List UInt8):L5 l=match Em l with|none=> .error 4|some z=>if inR z.1 then .ok (if z.2 then 2 else 1,z.1) else .error 9:=by
 unfold L5 Em;simp only;generalize hc:cut (if l.head? =some 45 then l.tail else l) [46]=c;obtain⟨a,r,f⟩:=c;simp only;by_cases hbad:((!Fp a||(decide (1<a.length) && a.head? ==some 48))||(f && (!Fp r||decide (4<r.length))))=true
 ·rw[Ap hbad,Ap hbad]
 rw[Ao hbad,Ao hbad];simp only[Bool.or_eq_true,Bool.and_eq_true,not_or,not_and,Bool.not_eq_true',Bool.not_eq_true,decide_eq_false_iff_not,Bool.not_eq_false] at hbad;obtain⟨⟨h1,_⟩,h2⟩:=hbad;obtain⟨ha,had⟩:=Fe h1
 have hne:(if f=true then a++(r++[48,48,48,48]).take 4 else a)≠[]:=by
  split
  ·exact fun e=>ha (List.append_eq_nil_iff.1 e).1
  exact ha
 have hdd:(if f=true then a++(r++[48,48,48,48]).take 4 else a).all Bg=true:=by
  exact zya
 have:=lB hne hdd (decide (l.head? =some 45)) (fun n=>(.ok (if f=true then 2 else 1,n):Except Int (Int×Int))) (.error 9)
 simp only[decide_eq_true_eq] at this;exact this
def Cz (b:List UInt8)(first j:Nat)(X:Nat)(pt:Int):Prop:=
 (pt= -1/\(b.take j).all Bg=true/\X=val (b.take j) 0)\/∃a r,b.take j=a++46::r/\a≠[]/\a.all Bg=true/\r.all Bg=true/\pt=((first+a.length:Nat):Int)/\X=val (a++r) 0
theorem Cz.start (b:List UInt8)(first:Nat):Cz b first 0 0 (-1):= .inl ⟨rfl,by simp,by simp [val]⟩
theorem Cz.len {b:List UInt8}{first j X:Nat}{pt:Int}(h:Cz b first j X pt)(hb:b.length<=402):Bo X<=102:=by
 rcases h with ⟨_,hd,rfl⟩|⟨a,r,e,_,ha,hr,_,rfl⟩
 ·exact T7 hd (by rw[List.length_take];omega)
 refine T7 (by rw[List.all_append,ha,hr];rfl) ?_
 have:=Ar List.length e
 rw[List.length_take,Ab,Aa] at this;rw[Ab];omega
theorem Cz.pt {b:List UInt8}{first j X:Nat}{pt:Int}(h:Cz b first j X pt)(hj:j<=b.length):pt= -1\/(0<=pt/\(first:Int)<pt/\pt<((first+j:Nat):Int)):=by
 rcases h with ⟨e,_⟩|⟨a,r,e,ha,_,_,hp,_⟩
 ·exact .inl e
 have h1:=Ar List.length e;rw[List.length_take,Ab,Aa] at h1;have h2:1<=a.length:=List.length_pos_iff.2 ha;exact .inr ⟨by omega,by omega,by omega⟩
theorem Cz.digit {b:List UInt8}{first j X:Nat}{pt:Int}(h:Cz b first j X pt)(hj:j<b.length)(hc:Bg b[j]=true):Cz b first (j+1) (X*10+(b[j].toNat - 48)) pt:=by
 have e:=List.take_succ_eq_append_getElem hj;rcases h with ⟨h1,h2,rfl⟩|⟨a,r,h1,h2,h3,h4,h5,rfl⟩
 ·refine .inl ⟨h1,?_,?_⟩
  ·rw[e,List.all_append,h2];simp [hc]
  rw[e,Vr]
 refine .inr ⟨a,r++[b[j]],?_,h2,h3,?_,h5,?_⟩
 ·rw[e,h1];simp
 ·rw[List.all_append,h4];simp [hc]
 rw[←List.append_assoc,Vr]
theorem Cz.point {b:List UInt8}{first j X:Nat}{pt:Int}(h:Cz b first j X pt)(hj:j<b.length)(hc:b[j]=46)(hp:pt<0)(h0:0<j):Cz b first (j+1) X ((first+j:Nat):Int):=by
 have e:=List.take_succ_eq_append_getElem hj;rcases h with ⟨h1,h2,rfl⟩|⟨a,r,h1,h2,h3,h4,h5,rfl⟩
 ·have hl:(b.take j).length=j:=by rw[List.length_take];omega
  refine .inr ⟨b.take j,[],?_,fun q=>?_,h2,rfl,?_,by simp⟩
  ·rw[e,hc]
  ·rw[q] at hl;simp at hl;omega
  rw[hl]
 omega
theorem Ld {l:List UInt8}(h:l.all Bg=true):(46:UInt8)∉l:=P7 h nV
theorem Cz.bad {l b:List UInt8}{first j X:Nat}{pt:Int}(hb:(if l.head? =some 45 then l.tail else l)=b)(h:Cz b first j X pt)(hj:j<b.length)(hd:Bg b[j]=false)(hc:¬(b[j]=46/\pt<0/\0<j)):Em l=none:=by
 have hmem:b[j]∈b.drop j:=by rw[List.drop_eq_getElem_cons hj];exact Ai
 have hsp:=List.take_append_drop j b;unfold Em;simp only[hb];refine Ap ?_;rcases h with ⟨h1,h2,rfl⟩|⟨a,r,h1,h2,h3,h4,h5,rfl⟩
 ·rcases Lh 46 b with hn|⟨a,r,e,hn⟩
  ·rw[J4 hn]
   have:Fp b=false:=by
    cases hq:Fp b with
    |false=>rfl
    |true=>
     have:=List.all_eq_true.1 (Fe hq).2 _ (List.getElem_mem hj)
     rw[hd] at this;cases this
   simp [this]
  rw[e,G5 a r hn]
  have hx:Fp a=false:=by
   cases hq:Fp a with
   |false=>rfl
   |true=>
    exfalso;obtain⟨q1,q2⟩:=Fe hq;have hal:1<=a.length:=List.length_pos_iff.2 q1;rcases Nat.lt_trichotomy j a.length with hlt|heq|hgt
    ·have:b[j]=a[j]:=by
      have h8:b[j]? =a[j]?:=by rw[e,List.getElem?_append_left hlt]
      rw[Ag hj,Ag hlt] at h8;exact Option.some.inj h8
     have h9:=List.all_eq_true.1 q2 _ (List.getElem_mem hlt);rw[←this,hd] at h9;cases h9
    ·refine hc ⟨?_,by omega,by omega⟩;have h8:b[j]? =some 46:=by rw[e,heq,List.getElem?_append_right (Ak _)];simp
     rw[Ag hj] at h8;exact Option.some.inj h8
    have h8:(46:UInt8)∈b.take j:=by
     rw[e,List.take_append,List.mem_append];refine .inr ?_;obtain⟨k,hk⟩:∃k,j - a.length=k+1:=⟨j - a.length - 1,by omega⟩;rw[hk,List.take_succ_cons];exact Ai
    exact Ld h2 h8
  simp [hx]
 rw[←hsp,h1,List.append_assoc,List.cons_append,G5 a _ (Ld h3)]
 have hx:Fp (r++b.drop j)=false:=by
  cases hq:Fp (r++b.drop j) with
  |false=>rfl
  |true=>
   have:=List.all_eq_true.1 (Fe hq).2 _ (List.mem_append_right _ hmem)
   rw[hd] at this;cases this
 simp [hx]
theorem Cz.plain {l b:List UInt8}{first X:Nat}{pt:Int}(hb:(if l.head? =some 45 then l.tail else l)=b)(h:Cz b first b.length X pt)(hp:pt<0):
 Em l=if b=[]\/(1<b.length/\b.head? =some 48) then none else some (Iz (decide (l.head? =some 45)) X,false):=by
 rcases h with ⟨h1,h2,rfl⟩|⟨a,r,_,_,_,_,h5,_⟩
 ·rw[List.take_length] at h2 ⊢;unfold Em;simp only[hb,J4 (Ld h2),Bool.false_and,Bool.or_false,Bool.false_eq_true,if_false];by_cases hn:b=[]
  ·rw[Ap (Or.inl hn:b=[]\/_),hn];rfl
  rw[Un hn h2];by_cases hq:1<b.length/\b.head? =some 48
  ·rw[Ap (Or.inr hq:b=[]\/_),Ap (by simp [hq.1,hq.2])]
  rw[Ao (by rintro (q|q);exact hn q;exact hq q:¬(b=[]\/_)),Ao (by simpa using hq)]
 omega
theorem Cz.pointed {l b:List UInt8}{first X:Nat}{pt:Int}(hb:(if l.head? =some 45 then l.tail else l)=b)(h:Cz b first b.length X pt)(hp:0<=pt):
 Em l=(if(b.length - ((pt - first).toNat+1)<1\/4<b.length - ((pt - first).toNat+1))\/(1<(pt - first).toNat/\b.head? =some 48) then none else some (Iz (decide (l.head? =some 45)) (X*10^(4 - (b.length - ((pt - first).toNat+1)))),true))/\1<=(pt - first).toNat/\(pt - first).toNat+1<=b.length:=by
 rcases h with ⟨h1,_⟩|⟨a,r,h1,h2,h3,h4,h5,rfl⟩
 ·omega
 rw[List.take_length] at h1;have hl:=Ar List.length h1;rw[Ab,Aa] at hl;have e1:(pt - first).toNat=a.length:=by omega
 have e2:b.length - (a.length+1)=r.length:=by omega
 have hal:1<=a.length:=List.length_pos_iff.2 h2;rw[e1,e2];refine⟨?_,hal,by omega⟩
 have hhd:b.head? =a.head?:=by
  rw[h1];cases a with
  |nil=>exact absurd rfl h2
  |cons=>rfl
 rw[hhd];unfold Em;simp only[hb];rw[h1,G5 a r (Ld h3)];simp only[if_true,Bool.true_and,Un h2 h3];by_cases hr:r=[]
 ·subst hr;rw[Ap (by simp [Fp]),Ap nW]
 rw[Un hr h4];have hrl:1<=r.length:=List.length_pos_iff.2 hr;by_cases hq:4<r.length\/(1<a.length/\a.head? =some 48)
 ·rw[Ap (by rcases hq with q|⟨q1,q2⟩<;>simp [*]),Ap (by rcases hq with q|q<;>simp [*])]
 rw[Ao (by
  simp only[not_or,not_and] at hq;simp
  exact⟨fun q=>by simpa using hq.2 q,by omega⟩),Ao (by
  simp only[not_or,not_and] at hq ⊢
  exact⟨⟨by omega,hq.1⟩,hq.2⟩)]
 have ht:(r++[48,48,48,48]).take 4=r++List.replicate (4 - r.length) 48:=by
  simp only[not_or,not_and] at hq
  have:r.length=1\/r.length=2\/r.length=3\/r.length=4:=by omega
  rw[List.take_append,List.take_of_length_le nU];rcases this with q|q|q|q<;>rw[q]<;>rfl
 rw[ht,←List.append_assoc,Pn]
open Go Go.RowKit Go.Lib
theorem Y9 (l:List Nat)(k:Nat):nv (l.drop k)<=nv l:=by
 have h:=Qf l k;have h1:1<=10000^(l.take k).length:=Nat.pow_pos nV;have h2:nv (l.drop k)<=10000^(l.take k).length*nv (l.drop k):=Nat.le_mul_of_pos_left _ h1;omega
theorem Bj.digit {w:World}{b:Bool}{a:Option Addr}{n c:Nat}{z:Int}(h:Bj w (.agg #[.bool b,.slice a n c]) z){i:Nat}(hi:i<(dg z.natAbs).length):∃bk off,a=some ⟨bk,off,none⟩/\w.cell? ⟨bk,off+i,none⟩=some (.int .i64 ((dg z.natAbs)[i]:Int)):=by
 obtain⟨s,e,hd⟩:=h;simp at e;obtain⟨_,rfl⟩:=e;exact hd.at hi
def Gg (z:Int)(e:Ending):Prop:=e= .returned (.tuple #[.int .i64 (if inR z then z else 0),.int .i64 (if inR z then 0 else 9)])
theorem Gg.no {z:Int}(h:¬inR z):Gg z (.returned (.tuple #[.int .i64 0,.int .i64 9])):=by unfold Gg;rw[Ao h,Ao h]
theorem Gg.yes {z:Int}(h:inR z):Gg z (.returned (.tuple #[.int .i64 z,.int .i64 0])):=by unfold Gg;rw[Ap h,Ap h]
theorem jS {x y:Int}(h:x<y):Jb x y= -1:=by unfold Jb;rw[Ap h]
theorem lQ {x y:Int}(h:y<=x):Jb x y=0\/Jb x y=1:=by
 unfold Jb;rw[Ao nU]
 split<;>simp
theorem lO {x y:Int}(h:y<x):Jb x y=1:=by unfold Jb;rw[Ao nU,Ao nU]
theorem kF {x y:Int}(h:x<=y):Jb x y=0\/Jb x y= -1:=by
 unfold Jb
 split
 ·simp
 rw[Ap nU];simp
def dl5 (z:Int)(n:Nat):Prop:=Bo z.natAbs=n/\inR z
theorem jF {z M:Int}{n m:Nat}{ng:Bool}(h:dl5 z n)(hj:m+1<=n)(hng:decide (z<0)=ng)(hM:M=Iz ng (nv ((dg z.natAbs).drop (m+1)))):m<(dg z.natAbs).length/\
 ∃d:Nat,(dg z.natAbs)[m]? =some d/\d<10000/\ -9223372036854775808<=M*10000/\M*10000<=9223372036854775807/\(ng=true-> -9223372036854775808<=M*10000 - d/\M*10000 - d<=9223372036854775807/\M*10000 - d=Iz ng (nv ((dg z.natAbs).drop m)))/\(ng=false-> -9223372036854775808<=M*10000+d/\M*10000+d<=9223372036854775807/\M*10000+d=Iz ng (nv ((dg z.natAbs).drop m))):=by
 have hm:m<(dg z.natAbs).length:=by have:=h.1;unfold Bo at this;omega
 have hd:=Fy z.natAbs _ (List.getElem_mem hm);have h1:=C8 hm;have h2:=Y9 (dg z.natAbs) m;rw[Es] at h2;obtain⟨h3,h4⟩:=h.2;refine⟨hm,_,Ag hm,hd,?_⟩;subst hng hM;unfold Iz;by_cases hz:z<0
 ·simp only[hz,decide_true,if_true];rw[h1] at h2 ⊢;exact⟨by omega,by omega,fun _=>⟨by omega,by omega,by omega⟩,by simp⟩
 simp only[hz,decide_false,Bool.false_eq_true,if_false];rw[h1] at h2 ⊢;exact⟨by omega,by omega,False.elim,fun _=>⟨by omega,by omega,by omega⟩⟩
theorem kB {w:World}{v:Value}{z:Int}(hx:Bj w v z)(hl:Bo z.natAbs<=40000):Calls Tryz.prog 214 #[v] w fun e w'=>Gg z e/\Below w.heap.size w w':=by
 have HXN:=Ax hx;obtain⟨ax,cx,rfl,hd⟩:=hx.form;obtain⟨nx,hnx⟩:∃n,Bo z.natAbs=n:=⟨_,rfl⟩;rw[hnx] at hd HXN ⊢;obtain⟨ng,hng⟩:∃b,decide (z<0)=b:=⟨_,rfl⟩;rw[hng] at HXN ⊢;have HNG:=Ax hng;have HD:=Ax hd;have HL:=Ax hl;have HNX:=Ax hnx;have HO1:Hid (∀V:World,Calls Tryz.prog 47 #[.int .i64 (-9223372036854775808)] V (Fd V (-9223372036854775808))):=Ax fun V=>Jd _ nV nV
 have HO2:Hid (∀V:World,Calls Tryz.prog 47 #[.int .i64 9223372036854775807] V (Fd V 9223372036854775807)):=Ax fun V=>Jd _ nV nV
 have hbA:=(Aq w.heap.size w).alloc (Ak _) (.cells #[.bool ng,.slice ax nx cx] 79);have hbx:=(MapKept.heap_alloc w (.cells #[.bool ng,.slice ax nx cx] 79)).1;have HA:=Ax (And.intro hbA hbx);clear hx hd hnx hng hl hbA hbx;go_enter Tryz.func214,Tryz.ntmps214;go_upto_region 1 with fail
 obtain⟨W1,hW1⟩:∃W1,w.alloc (.cells #[.bool ng,.slice ax nx cx] 79)=W1:=⟨_,rfl⟩;rw[hW1] at HA ⊢;clear hW1;go_wp2_with fail;refine(HO1.out W1).mono ?_;rintro e V1 ⟨⟨v1,rfl,hv1⟩,hb1⟩;have HV1:=Ax hv1;have HB1:=Ax hb1;clear hv1 hb1;go_wp2_with fail;refine(HO2.out V1).mono ?_;rintro e V2 ⟨⟨v2,rfl,hv2⟩,hb2⟩;obtain⟨t1,a1,k1,c1,rfl⟩:=Bj.parts HV1.out;obtain⟨t2,a2,k2,c2,rfl⟩:=Bj.parts hv2;have HV2:=Ax hv2;have HB2:=Ax hb2;clear hv2 hb2 HO1 HO2;go_upto_region 2 with fail
 have hb3:Below V2.heap.size V2 ((V2.alloc (.cells #[.bool t1,.slice a1 k1 c1] 79)).alloc (.cells #[.bool t2,.slice a2 k2 c2] 79)):=((Aq _ _).alloc (Ak _) _).alloc nW _
 have hp1:((V2.alloc (.cells #[.bool t1,.slice a1 k1 c1] 79)).alloc (.cells #[.bool t2,.slice a2 k2 c2] 79)).heap[V2.heap.size]? =some (.cells #[.bool t1,.slice a1 k1 c1] 79 (0,0)):=by
  rw[Below.heap_alloc _ _ _ nW];exact A0 _ _
 have hp2:((V2.alloc (.cells #[.bool t1,.slice a1 k1 c1] 79)).alloc (.cells #[.bool t2,.slice a2 k2 c2] 79)).heap[V2.heap.size+1]? =some (.cells #[.bool t2,.slice a2 k2 c2] 79 (0,0)):=by
  have:=A0 (V2.alloc (.cells #[.bool t1,.slice a1 k1 c1] 79)) (.cells #[.bool t2,.slice a2 k2 c2] 79)
  simpa using this
 obtain⟨W3,hW3⟩:∃W3,(V2.alloc (.cells #[.bool t1,.slice a1 k1 c1] 79)).alloc (.cells #[.bool t2,.slice a2 k2 c2] 79)=W3:=⟨_,rfl⟩;rw[hW3] at hb3 hp1 hp2 ⊢;have hw1:=HA.out.1;have hw2:=hw1.trans (HB1.out.mono hw1.size);have hw3:=hw2.trans (HB2.out.mono hw2.size);have hw4:=hw3.trans (hb3.mono hw3.size)
 have hbx:W3.heap[w.heap.size]? =some (.cells #[.bool ng,.slice ax nx cx] 79 (0,0)):=
  (hb3.block _ (by have:=HB2.out.size;have:=HB1.out.size;have:=Bm HA.out.2;omega)).trans ((HB2.out.block _ (by have:=HB1.out.size;have:=Bm HA.out.2;omega)).trans ((HB1.out.block _ (Bm HA.out.2)).trans HA.out.2))
 have HX3:Hid (Bj W3 (.agg #[.bool ng,.slice ax nx cx]) z):=Ax (HXN.out.below hw4);have H13:Hid (Bj W3 (.agg #[.bool t1,.slice a1 k1 c1]) (-9223372036854775808)):=Ax ((HV1.out.below HB2.out).below hb3);have H23:Hid (Bj W3 (.agg #[.bool t2,.slice a2 k2 c2]) 9223372036854775807):=Ax (HV2.out.below hb3);obtain⟨c0,c1',_⟩:=A1 hbx;obtain⟨d0,d1,_⟩:=A1 hp1;obtain⟨e0,e1,_⟩:=A1 hp2;have HC1:=Ax (Ru HX3.out H13.out (Al HL.out nV) (Al (G2 (k:=10) nV) nV));have HB4:=Ax hw4;have HB:=Ax (And.intro hbx (And.intro hp1 hp2));clear hb3 hp1 hp2 hW3 hw1 hw2 hw3 hw4 hbx HA HB1 HB2 HV1 HV2 H13;obtain⟨p,hp⟩:∃p,V2.heap.size=p:=⟨_,rfl⟩;rw[hp] at HB d0 d1 ⊢;rw[hp] at e0 e1;clear hp;by_cases hlo:z< -9223372036854775808
 ·have hc:=jS hlo;rw[hc] at HC1;have HN:=Ax (Gg.no (z:=z) (fun h=>by have:=h.1;omega));clear hc hlo;go_wp2_with fail;refine HC1.out.mono ?_;rintro e V4 ⟨rfl,hb⟩;have HF:=Ax (HB4.out.trans (hb.mono HB4.out.size));clear hb;go_wp2_with fail;exact Au (v:= .tuple #[.int .i64 0,.int .i64 9]) qP rfl ⟨HN.out,HF.out⟩
 have hc:=lQ (x:=z) (y:= -9223372036854775808) nU;obtain⟨r1,hr1⟩:∃r,Jb z (-9223372036854775808)=r:=⟨_,rfl⟩;rw[hr1] at HC1 hc;have hr0:0<=r1:=by omega
 clear hc hr1;have g1:decide (r1<0)=false:=An nU;have HLO:=Ax hlo;clear hlo;go_wp2_with fail;refine HC1.out.mono ?_;rintro e V4 ⟨rfl,hb⟩;have HF:=Ax (HB4.out.trans (hb.mono HB4.out.size));have HC2:=Ax (Ru (HX3.out.below hb) (H23.out.below hb) (Al HL.out nV) (Al (G2 (k:=10) nV) nV));have c0:=A6 hb c0;have c1':=A6 hb c1';have e0:=A6 hb e0;have e1:=A6 hb e1;have HX4:=Ax (HX3.out.below hb);clear hb d0 d1 HC1 HB HX3 H23 HB4;by_cases hhi:9223372036854775807<z
 ·have hc:=lO hhi;rw[hc] at HC2;have HN:=Ax (Gg.no (z:=z) (fun h=>by have:=h.2;omega));clear hc hhi HLO;go_wp2_with fail;refine HC2.out.mono ?_;rintro e V5 ⟨rfl,hb⟩;have HG:=Ax (HF.out.trans (hb.mono HF.out.size));clear hb;go_wp2_with fail;exact Au (v:= .tuple #[.int .i64 0,.int .i64 9]) qP rfl ⟨HN.out,HG.out⟩
 have hc:=kF (x:=z) (y:=9223372036854775807) nU;obtain⟨r2,hr2⟩:∃r,Jb z 9223372036854775807=r:=⟨_,rfl⟩;rw[hr2] at HC2 hc;have hr0:r2<=0:=by omega
 clear hc hr2;have g2:decide (0<r2)=false:=An nU;have HN:=Ax (show inR z from⟨by have:=HLO.out;omega,by omega⟩);clear hhi HLO;go_wp2_with fail;refine HC2.out.mono ?_;rintro e V5 ⟨rfl,hb⟩;have HG:=Ax (HF.out.trans (hb.mono HF.out.size));have c0:=A6 hb c0;have c1':=A6 hb c1';have HX5:=Ax (HX4.out.below hb);clear hb e0 e1 HC2 HF HX4;have hnl:nx<=40000:=by rw[←HNX.out];exact HL.out
 go_wp2_with fail;have HW:=Ax (show dl5 z nx from⟨HNX.out,HN.out⟩)
 go_loop [6,7] (fun v6 v7=>∃(j:Nat) (M:Int),v6= .int .i64 M/\v7= .int .i64 ((j:Int) - 1)/\j<=nx/\Hid (M=Iz ng (nv ((dg z.natAbs).drop j)))) (fun _ v7=>(intOf v7+1).toNat)
 case atStart=>exact⟨nx,0,rfl,rfl,Ak _,Ax (by rw[←HNX.out,List.drop_of_length_le (show(dg z.natAbs).length<=Bo z.natAbs from Ak _)];cases ng<;>rfl)⟩
 obtain⟨j,M,rfl,rfl,hj,hq⟩:=hrel;rcases j with _|m
 ·have p0:decide ((0:Int)<= -1)=false:=by decide
  have hj0:(((0:Nat):Int) - 1)= -1:=rfl;rw[hj0]
  have hM:M=z:=by
   rw[hq.out,List.drop_zero,Es,←HNG.out];unfold Iz;by_cases h:z<0
   ·simp [h];omega
   simp [h];omega
  have HM:=Ax hM;clear hq hM hj0;go_wp2_with fail;exact Au (v:= .tuple #[.int .i64 M,.int .i64 0]) qP rfl ⟨by rw[HM.out];exact Gg.yes HN.out,HG.out⟩
 have ej:((m+1:Nat):Int) - 1=(m:Int):=by omega
 rw[ej];obtain⟨hm,d,hd,hd4,hb1,hb2,hb3,hb4⟩:=jF HW.out hj HNG.out hq.out;have hd5:=Bj.digit HX5.out hm;rw[Ag hm] at hd;injection hd with hd;rw[hd] at hd5;obtain⟨bx,fx,rfl,hcx⟩:=hd5;have q0:(0:Int)<=(m:Int):=by omega
 have q1:(m:Int)<(nx:Int):=by omega
 have p0:decide ((0:Int)<=(m:Int))=true:=Am q0;clear hd hm ej;have HB3:=Ax (And.intro hb3 hb4);clear hb3 hb4 hq;cases ng with
 |true=>
  obtain⟨k1,k2,k3⟩:=HB3.out.1 rfl;have HK:=Ax k3;clear k3;go_wp2_with fail
  go_round
  case rel=>exact⟨m,M*10000 - d,rfl,by go_num,by omega,HK⟩
  case measure=>simp [intOf]<;>omega
 |false=>
  obtain⟨k1,k2,k3⟩:=HB3.out.2 rfl;have HK:=Ax k3;clear k3;go_wp2_with fail
  go_round
  case rel=>exact⟨m,M*10000+d,rfl,by go_num,by omega,HK⟩
  case measure=>simp [intOf]<;>omega
open Go Go.RowKit Go.Lib
theorem Wv {l:List UInt8}{i:Nat}(h:i+1<l.length):l.drop i=l[i]::l[i+1]::l.drop (i+2):=by
 rw[List.drop_eq_getElem_cons nU,List.drop_eq_getElem_cons h]
theorem Vg {l:List UInt8}{i:Nat}(h:i+1<l.length)(hc:l[i]=92):B5 (l.drop i)=l[i+1]::B5 (l.drop (i+2)):=by
 rw[Wv h,B5,Ap hc]
theorem Ze {l:List UInt8}{i:Nat}(h:i+1<l.length)(hc:l[i]≠92):B5 (l.drop i)=l[i]::B5 (l.drop (i+1)):=by
 rw[Wv h,B5,Ao hc,List.drop_eq_getElem_cons h]
theorem aY {l:List UInt8}{i:Nat}(h:l.length<=i+1):B5 (l.drop i)=[]:=by
 have:(l.drop i).length<=1:=by rw[List.length_drop];omega
 match l.drop i,this with
 |[],_=>rfl
 |[c],_=>rfl
theorem bZ {w:World}(s:ByteArray)(hs:s.size<=1000000):Calls Tryz.prog 213 #[.string s] w fun e w'=>e= .returned (.string ⟨(B5 (dl s).tail).toArray⟩)/\w=w':=by
 go_enter Tryz.func213,Tryz.ntmps213;go_wp2_with fail
 go_loop [3,4] (fun v3 v4=>∃(i:Nat) (S:ByteArray),v4= .int .i64 (i:Int)/\v3= .string S/\i<=s.size+1/\S.size<=i/\Hid (dl S++B5 ((dl s).drop i)=B5 (dl s).tail)) (fun _ v4=>s.size+1 - (intOf v4).toNat)
 case atStart=>exact⟨1,⟨#[]⟩,rfl,rfl,by omega,by decide,Ax (by rw[List.drop_one];rfl)⟩
 obtain⟨i,S,rfl,rfl,hi,hS,hq⟩:=hrel;by_cases hgo:i+1<s.size
 ·have p0:decide ((i:Int)+1<(s.size:Int))=true:=Am nU;have q0:(0:Int)<=(i:Int):=by omega
  have q1:(i:Int)<(s.size:Int):=by omega
  have hi0:i<s.size:=by omega
  have hl1:i+1<(dl s).length:=(A4 s).symm▸hgo;have hl0:i<(dl s).length:=(A4 s).symm▸hi0
  have e0:(dl s)[i]'hl0=s[i]:=by
   have:=Fu hi0
   rw[Ag hl0] at this;exact Option.some.inj this
  have e1:(dl s)[i+1]'hl1=s[i+1]:=by
   have:=Fu hgo
   rw[Ag hl1] at this;exact Option.some.inj this
  by_cases h92:s[i].toNat=92
  ·have d1:((s[i].toNat:Int)==92)=true:=beq_iff_eq.2 nU;obtain⟨b1,b2,_⟩:=P5 hgo;have hsl:=Db s ((i:Int)+1) ((i:Int)+1+1) nU nU nU;rw[show((i:Int)+1).toNat=i+1 by omega,show((i:Int)+1+1).toNat=i+1+1 by omega] at hsl
   have HQ:=Ax (show dl (S++s.extract (i+1) (i+1+1))++B5 ((dl s).drop (i+2))=B5 (dl s).tail by
    rw[Du,b1,←hq.out,Vg hl1 (by rw[e0];exact Ca h92),e1]
    simp)
   obtain⟨B,hB⟩:∃B,s.extract (i+1) (i+1+1)=B:=⟨_,rfl⟩;rw[hB] at hsl HQ b2;have hbs:B.size<=1:=by omega
   have hsz:(S++B).size<=i+2:=by rw[ByteArray.size_append];omega
   have HSZ:=Ax hsz;clear hq b1 b2 e0 e1 hB hsz;go_wp2_with fail
   go_round
   case rel=>exact⟨i+2,S++B,by go_num,rfl,by omega,HSZ.out,HQ⟩
   case measure=>simp [intOf]<;>omega
  have d1:((s[i].toNat:Int)==92)=false:=Af.2 nU;obtain⟨b1,b2,_⟩:=P5 hi0;have hsl:=Db s (i:Int) ((i:Int)+1) nU nU nU;rw[show((i:Int)).toNat=i by omega,show((i:Int)+1).toNat=i+1 by omega] at hsl
  have HQ:=Ax (show dl (S++s.extract i (i+1))++B5 ((dl s).drop (i+1))=B5 (dl s).tail by
   rw[Du,b1,←hq.out,Ze hl1 (by rw[e0];exact fun e=>h92 oK),e0]
   simp)
  obtain⟨B,hB⟩:∃B,s.extract i (i+1)=B:=⟨_,rfl⟩;rw[hB] at hsl HQ b2;have hbs:B.size<=1:=by omega
  have hsz:(S++B).size<=i+1:=by rw[ByteArray.size_append];omega
  have HSZ:=Ax hsz;clear hq b1 b2 e0 e1 hB hsz;go_wp2_with fail
  go_round
  case rel=>exact⟨i+1,S++B,by go_num,rfl,by omega,HSZ.out,HQ⟩
  case measure=>simp [intOf]<;>omega
 have p0:decide ((i:Int)+1<(s.size:Int))=false:=An nU
 have HE:=Ax (D7 (s:=S) (t:=⟨(B5 (dl s).tail).toArray⟩) (by
  have:=hq.out
  rw[aY (by rw[A4];omega),List.append_nil] at this;rw[C7]
  exact this))
 clear hq;go_wp2_with fail;go_ret;exact⟨HE.out,rfl⟩
end Go.Proofs.YtgfakdobajgnfaaGreatDoor
