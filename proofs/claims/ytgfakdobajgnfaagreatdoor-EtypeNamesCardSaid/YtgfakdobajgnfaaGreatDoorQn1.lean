import Derived.Lib.Replace
import Derived.Lib.TrimByte
import Derived.Lib.ParseIntBCases
import Derived.Lib.ItoaMem
import Derived.ProofKit
import Derived.OpenShut
import Derived.Lib.LaidU8
import Derived.Deep.Fields
import Derived.Maps.RangeWalk
import Derived.Test.YtgfakdobajgnfaaGreatDoorQn0
import Derived.Test.YtgfakdobajgnfaaGreatDoorRows
set_option maxRecDepth 100000
set_option maxHeartbeats 16000000
namespace Go.Proofs.YtgfakdobajgnfaaGreatDoor
open Go Go.Lib
theorem R2 (c b:UInt8)(l:List UInt8):[c].isPrefixOf (b::l)=(c==b):=by
 simp [List.isPrefixOf]
theorem Il (c b:UInt8)(l:List UInt8):index (b::l) [c]=if b=c then 0 else if index l [c]= -1 then -1 else index l [c]+1:=by
 rw[index,R2];by_cases h:b=c
 ·subst h;simp
 have:(c==b)=false:=by simpa using fun e:c=b=>h e.symm
 rw[this,Ao h];simp only[Bool.false_eq_true,if_false];by_cases h2:index l [c]= -1
 ·simp [h2]
 have:(index l [c]== -1)=false:=by simpa using h2
 rw[this,Ao h2];simp
theorem F1 {c:UInt8}{l:List UInt8}(h:c∉l):index l [c]= -1:=by
 induction l with
 |nil=>rfl
 |cons b l ih=>
  rw[Il,Ao (fun e:b=c=>h (e▸Ai)),Ap (ih fun q=>h (Aj _ q))]
theorem Fv {c:UInt8}(a r:List UInt8)(h:c∉a):index (a++c::r) [c]=(a.length:Nat):=by
 induction a with
 |nil=>rw[List.nil_append,Il,Ap rfl];rfl
 |cons b a ih=>
  rw[List.cons_append,Il,Ao (fun e:b=c=>h (e▸Ai)),ih fun q=>h (Aj _ q),Ao nU];simp
theorem J4 {c:UInt8}{l:List UInt8}(h:c∉l):cut l [c]=(l,[],false):=by
 unfold cut;rw[F1 h];rfl
theorem G5 {c:UInt8}(a r:List UInt8)(h:c∉a):cut (a++c::r) [c]=(a,r,true):=by
 unfold cut;rw[Fv a r h,Ap nU];simp [List.drop_append]
theorem Lh (c:UInt8)(l:List UInt8):c∉l\/∃a r,l=a++c::r/\c∉a:=by
 by_cases h:c∈l
 ·refine .inr ?_
  induction l with
  |nil=>cases h
  |cons b l ih=>
   by_cases e:b=c
   ·exact⟨[],l,by rw[e];rfl,by simp⟩
   rcases List.mem_cons.1 h with q|q
   ·exact absurd q.symm e
   obtain⟨a,r,e1,hn⟩:=ih q;refine⟨b::a,r,by rw[e1];rfl,?_⟩;rw[List.mem_cons];rintro (q|q)
   ·exact e q.symm
   exact hn q
 exact .inl h
def N0 (c:UInt8)(new:List UInt8)(l:List UInt8):List UInt8:=l.flatMap fun b=>if b=c then new else[b]
theorem O2 {c:UInt8}{new l:List UInt8}(h:c∉l):N0 c new l=l:=by
 unfold N0
 induction l with
 |nil=>rfl
 |cons b l ih=>
  rw[List.flatMap_cons,Ao (fun e:b=c=>h (e▸Ai)),ih fun q=>h (Aj _ q)];rfl
theorem Tt (c:UInt8):∀(k:Nat) (l:List UInt8),l.length<=k->count l [c]=l.count c
 |0,l,h=>by
  obtain rfl:l=[]:=List.eq_nil_of_length_eq_zero nU;rfl
 |k+1,l,h=>by
  rcases Lh c l with hn|⟨a,r,rfl,hn⟩
  ·rw[count_miss (F1 hn),List.count_eq_zero.2 hn]
  rw[count_hit nW (Fv a r hn)];have hd:(a++c::r).drop (a.length+[c].length)=r:=by simp [List.drop_append]
  rw[hd,Tt c k r (by simp at h;omega),List.count_append,List.count_eq_zero.2 hn];simp;omega
theorem Nx (c:UInt8)(new:List UInt8):∀(k:Nat) (l:List UInt8),l.count c<=k->replaceK [c] new k l=N0 c new l
 |0,l,h=>by
  have hn:c∉l:=List.count_eq_zero.1 nU;rw[O2 hn];rfl
 |k+1,l,h=>by
  rcases Lh c l with hn|⟨a,r,rfl,hn⟩
  ·rw[O2 hn,replaceK,F1 hn];rfl
  rw[replaceK_hit [c] new k _ a.length (Fv a r hn)];have hd:(a++c::r).drop (a.length+[c].length)=r:=by simp [List.drop_append]
  have hc:(a++c::r).count c=r.count c+1:=by rw[List.count_append,List.count_eq_zero.2 hn];simp
  rw[hd,Nx c new k r nU];unfold N0;rw[List.flatMap_append,List.flatMap_cons,Ap rfl]
  have:=O2 (new:=new) hn
  unfold N0 at this;rw[this];simp
theorem Iq (c:UInt8)(new l:List UInt8)(h:[c]≠new):replaceAll l [c] new=N0 c new l:=by
 unfold replaceAll replace replaceNum
 have:([c]==new)=false:=by simpa using h
 rw[this,Ao nW,Ap (.inl nU),Tt c l.length l (Ak _)];exact Nx c new _ l (Ak _)
def Bg (c:UInt8):Bool:=decide (48<=c.toNat) && decide (c.toNat<=57)
def Fp (l:List UInt8):Bool:=!l.isEmpty && l.all Bg
def val (l:List UInt8)(acc:Nat):Nat:=l.foldl (fun a c=>a*10+(c.toNat - 48)) acc
theorem mU (l:List UInt8):∀acc,acc<=val l acc:=by
 induction l with
 |nil=>intro acc;exact Ak _
 |cons c l ih=>
  intro acc
  have:=ih (acc*10+(c.toNat - 48))
  show acc<=val l (acc*10+(c.toNat - 48));omega
theorem S7 (M:Nat)(hM:M<=18446744073709551615):∀(l:List UInt8) (acc:Nat),l.all Bg=true->val l acc<=M->parseUintM M acc l= .ok (val l acc)
 |[],acc,_,_=>rfl
 |c::l,acc,hd,hv=>by
  rw[List.all_cons,Bool.and_eq_true] at hd;obtain⟨h1,h2⟩:=hd;have hc:48<=c.toNat/\c.toNat<=57:=by simpa[Bg] using h1
  have hv':val l (acc*10+(c.toNat - 48))<=M:=hv;have hg:=mU l (acc*10+(c.toNat - 48));rw[parseUintM,Ap hc,Ao nU,Ao nU];exact S7 M hM l _ h2 hv'
theorem Tu (u:Nat)(h:u<10):(UInt8.ofNat (48+u)).toNat=48+u:=by
 rw[UInt8.toNat_ofNat'];omega
theorem Z5 (u:Nat)(h:u<10):Bg (UInt8.ofNat (48+u))=true:=by
 unfold Bg;rw[Tu u h];simp;omega
theorem Dg {u:Nat}(h:u<10):decDigits u=[UInt8.ofNat (48+u)]:=by rw[decDigits,dif_pos h]
theorem Gh {u:Nat}(h:¬u<10):decDigits u=decDigits (u/10)++[UInt8.ofNat (48+u % 10)]:=by rw[decDigits,dif_neg h]
theorem E7 (u:Nat):(decDigits u).all Bg=true:=by
 induction u using Nat.strongRecOn with
 |_ u ih=>
  by_cases h:u<10
  ·rw[Dg h];rw[List.all_cons,Z5 u h];rfl
  rw[Gh h,List.all_append,ih _ nU];rw[List.all_cons,Z5 (u % 10) nU];rfl
theorem J5 (u:Nat):decDigits u≠[]:=by
 by_cases h:u<10
 ·rw[Dg h];simp
 rw[Gh h];simp
theorem P7 {c:UInt8}{l:List UInt8}(h:l.all Bg=true)(hc:Bg c=false):c∉l:=fun q=>by
 have:=List.all_eq_true.1 h c q
 rw[hc] at this;cases this
def L8 (l:List UInt8):List UInt8:=List.replicate (5 - l.length) 48++l
theorem Rv (l:List UInt8):5<=(L8 l).length:=by
 unfold L8;rw[Ab,List.length_replicate];omega
theorem dI (k:Nat):(List.replicate k (48:UInt8)).all Bg=true:=by
 rw[List.all_eq_true];intro c hc;rw[List.eq_of_mem_replicate hc];rfl
theorem Ve {l:List UInt8}(h:l.all Bg=true):(L8 l).all Bg=true:=by
 unfold L8;rw[List.all_append,h,dI];rfl
def Kf (r:List UInt8):List UInt8:=if trimRightB r 48=[] then[48] else trimRightB r 48
theorem Pu (r:List UInt8):∃k,r=trimRightB r 48++List.replicate k 48:=by
 refine⟨(r.reverse.takeWhile (· ==48)).length,?_⟩
 have h1:r.reverse.takeWhile (· ==(48:UInt8))=List.replicate (r.reverse.takeWhile (· ==48)).length 48:=by
  refine List.eq_replicate_iff.2 ⟨rfl,fun b hb=>?_⟩
  have:=List.all_takeWhile (l:=r.reverse) (p:=(· ==(48:UInt8)))
  rw[List.all_eq_true] at this;simpa using this b hb
 have h2:=List.takeWhile_append_dropWhile (p:=(· ==(48:UInt8))) (l:=r.reverse);have h3:=Ar List.reverse h2;rw[List.reverse_append,List.reverse_reverse] at h3;unfold trimRightB;refine h3.symm.trans ?_;congr 1;rw[h1,List.reverse_replicate];simp
def O8 (n:Int):List UInt8:=(if n<0 then[45] else[])++((L8 (decDigits n.natAbs)).take ((L8 (decDigits n.natAbs)).length - 4)++46::Kf ((L8 (decDigits n.natAbs)).drop ((L8 (decDigits n.natAbs)).length - 4)))
def Ka (l:List UInt8):List UInt8:=N0 34 [92,34] (N0 92 [92,92] l)
def mO (l:List UInt8):List UInt8:=34::(Ka l++[34])
def P0 (k n:Int)(s:List UInt8):List UInt8:=
 if k=1 then itoa n else if k=2 then O8 n else if k=3 then mO s else if k=4 then(if n=1 then[116,114,117,101] else[102,97,108,115,101]) else if k=5 then 35::s else[110,117,108,108]
def L5 (l:List UInt8):Except Int (Int×Int):=
 let c:=cut (if l.head? =some 45 then l.tail else l) [46]
 if(!Fp c.1||(decide (1<c.1.length) && c.1.head? ==some 48))||(c.2.2 && (!Fp c.2.1||decide (4<c.2.1.length))) then .error 4
 else
  let d:=if c.2.2 then c.1++(c.2.1++[48,48,48,48]).take 4 else c.1
  match parseIntB 64 (if l.head? =some 45 then 45::d else d) with
  | .ok n=> .ok (if c.2.2 then 2 else 1,n)
  |_=> .error 9
def B5:List UInt8->List UInt8
 |c::y::r=>if c=92 then y::B5 r else c::B5 (y::r)
 |_=>[]
def Ea (l:List UInt8):Except Int (Int×Int×List UInt8):=
 match l with
 |34::r=> .ok (3,0,B5 r)
 |35::r=> .ok (5,0,r)
 |116::r=>if r=[114,117,101] then .ok (4,1,[]) else .error 4
 |102::r=>if r=[97,108,115,101] then .ok (4,0,[]) else .error 4
 |110::r=>if r=[117,108,108] then .ok (0,0,[]) else .error 4
 |l=>(L5 l).map fun p=>(p.1,p.2,[])
theorem Tp {c:UInt8}{r:List UInt8}(h:c≠34/\c≠35/\c≠116/\c≠102/\c≠110):Ea (c::r)=(L5 (c::r)).map fun p=>(p.1,p.2,[]):=by
 obtain⟨h1,h2,h3,h4,h5⟩:=h;unfold Ea
 split
 ·rename_i e;injection e with e;exact absurd e h1
 ·rename_i e;injection e with e;exact absurd e h2
 ·rename_i e;injection e with e;exact absurd e h3
 ·rename_i e;injection e with e;exact absurd e h4
 ·rename_i e;injection e with e;exact absurd e h5
 rfl
theorem O3 (c:UInt8)(l:List UInt8):Ka (c::l)=(if c=92 then[92,92] else if c=34 then[92,34] else[c])++Ka l:=by
 unfold Ka N0;rw[List.flatMap_cons,List.flatMap_append];congr 1;by_cases h:c=92
 ·subst h;rfl
 rw[Ao h,Ao h];simp
def D6 (c:UInt8):Bool:=decide (97<=c.toNat) && decide (c.toNat<=122)
def Hy (s:List UInt8):Bool:=match s with
 |[]=>false
 |c::r=>decide (r.length<12) && D6 c && r.all fun b=>D6 b||Bg b
def Gy (c:UInt8):Bool:=decide (32<=c.toNat) && decide (c.toNat<=126)
def Z6 (s:List UInt8):Bool:=decide (s.length<=200) && s.all Gy
def Fa (k n:Int)(s:List UInt8):Bool:=
 if k=0 then decide (n=0) && s.isEmpty else if k=1\/k=2 then s.isEmpty else if k=3 then decide (n=0) && Z6 s
 else if k=4 then s.isEmpty && decide (n=0\/n=1) else if k=5 then decide (n=0) && Hy s else false
theorem Ma {k n:Int}{s:List UInt8}(h:Fa k n s=true):
 (k=0/\n=0/\s=[])\/(k=1/\s=[])\/(k=2/\s=[])\/(k=3/\n=0/\s.length<=200/\s.all Gy=true)\/(k=4/\s=[]/\(n=0\/n=1))\/(k=5/\n=0/\Hy s=true):=by
 unfold Fa at h;by_cases k0:k=0
 ·rw[Ap k0,Bool.and_eq_true,decide_eq_true_eq,List.isEmpty_iff] at h;exact .inl ⟨k0,h.1,h.2⟩
 rw[Ao k0] at h;by_cases k12:k=1\/k=2
 ·rw[Ap k12,List.isEmpty_iff] at h;rcases k12 with e|e
  ·exact .inr (.inl ⟨e,h⟩)
  exact .inr (.inr (.inl ⟨e,h⟩))
 rw[Ao k12] at h;by_cases k3:k=3
 ·rw[Ap k3] at h;unfold Z6 at h;simp only[Bool.and_eq_true,decide_eq_true_eq] at h;exact .inr (.inr (.inr (.inl ⟨k3,h.1,h.2.1,h.2.2⟩)))
 rw[Ao k3] at h;by_cases k4:k=4
 ·rw[Ap k4,Bool.and_eq_true,decide_eq_true_eq,List.isEmpty_iff] at h;exact .inr (.inr (.inr (.inr (.inl ⟨k4,h.1,h.2⟩))))
 rw[Ao k4] at h;by_cases k5:k=5
 ·rw[Ap k5,Bool.and_eq_true,decide_eq_true_eq] at h;exact .inr (.inr (.inr (.inr (.inr ⟨k5,h.1,h.2⟩))))
 rw[Ao k5] at h;cases h
theorem Zr {l:List UInt8}(hd:l.all Bg=true)(hne:l≠[])(r:List UInt8)(b:Bool):∃c q,(if b then 45::l else l)++r=c::q/\(c=45\/Bg c=true):=by
 cases b with
 |true=>exact⟨45,l++r,rfl,.inl rfl⟩
 |false=>
  obtain⟨c,q,rfl⟩:=List.exists_cons_of_ne_nil hne;rw[List.all_cons,Bool.and_eq_true] at hd;exact⟨c,q++r,rfl,.inr hd.1⟩
theorem cD (n:Int):∃c q,itoa n=c::q/\(c=45\/Bg c=true):=by
 have:=Zr (E7 n.natAbs) (J5 _) [] (decide (n<0))
 rw[List.append_nil] at this
 have e:itoa n=if decide (n<0)=true then 45::decDigits n.natAbs else decDigits n.natAbs:=by
  unfold itoa;by_cases h:n<0
  ·simp [h]
  simp only[h,decide_false,if_false,Bool.false_eq_true];congr 1;omega
 rw[e];exact this
theorem dV (n:Int):∃c q,O8 n=c::q/\(c=45\/Bg c=true):=by
 have hd:=Ve (E7 n.natAbs);have hl5:=Rv (decDigits n.natAbs);unfold O8;generalize L8 (decDigits n.natAbs)=p at hd hl5 ⊢;have hw:(p.take (p.length - 4)).all Bg=true:=List.all_eq_true.2 fun c hc=>List.all_eq_true.1 hd c (List.mem_of_mem_take hc)
 have hwne:p.take (p.length - 4)≠[]:=by
  intro e
  have:=Ar List.length e
  rw[List.length_take] at this;simp at this;omega
 have:=Zr hw hwne (46::Kf (p.drop (p.length - 4))) (decide (n<0))
 obtain⟨c,q,e,h⟩:=this;refine⟨c,q,?_,h⟩;rw[←e];by_cases h:n<0
 ·simp [h]
 simp [h]
theorem cA {c:UInt8}(h:c=45\/Bg c=true):c≠34/\c≠35/\c≠116/\c≠102/\c≠110:=by
 rcases h with rfl|h
 ·decide
 refine⟨?_,?_,?_,?_,?_⟩<;>(rintro rfl;revert h;decide)
theorem Fi {s:List UInt8}(h:Hy s=true):1<=s.length/\s.length<=12/\s.all (fun b=>D6 b||Bg b)=true/\∃c r,s=c::r/\D6 c=true:=by
 cases s with
 |nil=>cases h
 |cons c r=>
  unfold Hy at h;simp only[Bool.and_eq_true,decide_eq_true_eq] at h;refine⟨by simp,by simp;omega,?_,c,r,rfl,h.1.2⟩;rw[List.all_cons,h.1.2,h.2];rfl
def Cy (k n:Int)(s:List UInt8):List UInt8:=if Fa k n s=true then P0 k n s else[]
def Dq (l:List UInt8):Except Int (Int×Int×List UInt8):=
 if 402<l.length then .error 3 else if l=[] then .error 4 else
  match Ea l with
  | .error e=> .error e
  | .ok v=>if Cy v.1 v.2.1 v.2.2=l then .ok v else .error 4
theorem Um {l:List UInt8}{k n:Int}{s:List UInt8}(h:Dq l= .ok (k,n,s)):Fa k n s=true/\P0 k n s=l/\l≠[]/\l.length<=402:=by
 unfold Dq at h;by_cases h4:402<l.length
 ·rw[Ap h4] at h;cases h
 rw[Ao h4] at h;by_cases hl:l=[]
 ·rw[Ap hl] at h;cases h
 rw[Ao hl] at h;cases hr:Ea l with
 |error e=>rw[hr] at h;cases h
 |ok v=>
  rw[hr] at h;simp only at h;by_cases ht:Cy v.1 v.2.1 v.2.2=l
  ·rw[Ap ht] at h;injection h with h;subst h;unfold Cy at ht;by_cases hm:Fa k n s=true
   ·simp only[Ap hm] at ht;exact⟨hm,ht,hl,by omega⟩
   simp only[Ao hm] at ht;exact absurd ht.symm hl
  rw[Ao ht] at h;cases h
open Go Go.Lib
theorem So {l:List UInt8}{q:Int}(h:L5 l= .error q):q=4\/q=9:=by
 unfold L5 at h;simp only at h;generalize cut (if l.head? =some 45 then l.tail else l) [46]=c at h;by_cases hc:((!Fp c.1||(decide (1<c.1.length) && c.1.head? ==some 48))||(c.2.2 && (!Fp c.2.1||decide (4<c.2.1.length))))=true
 ·rw[Ap hc] at h;injection h with h;exact .inl h.symm
 rw[Ao hc] at h;generalize parseIntB 64 _=z at h;cases z
 case ok n=>cases h
 all_goals (injection h with h;exact .inr h.symm)
theorem N2 {l:List UInt8}{e:Int}(h:Dq l= .error e):e=3\/e=4\/e=9:=by
 unfold Dq at h;by_cases h4:402<l.length
 ·rw[Ap h4] at h;injection h with h;exact .inl h.symm
 rw[Ao h4] at h;by_cases hl:l=[]
 ·rw[Ap hl] at h;injection h with h;exact .inr (.inl h.symm)
 rw[Ao hl] at h;cases hr:Ea l with
 |ok v=>
  rw[hr] at h;simp only at h
  split at h
  ·cases h
  injection h with h;exact .inr (.inl h.symm)
 |error q=>
  rw[hr] at h;injection h with h;subst h;have hnum:∀x,L5 x= .error q->q=4\/q=9:=fun x hx=>So hx
  unfold Ea at hr
  split at hr
  ·cases hr
  ·cases hr
  ·exact zwz
  ·exact zwz
  ·exact zwz
  cases hq:L5 l with
  |ok p=>rw[hq] at hr;cases hr
  |error z=>
   rw[hq] at hr;injection hr with hr;subst hr;exact .inr (hnum l hq)
def U0 (l:List UInt8):Int:=
 if l.head? =some 34 then 3 else if l.head? =some 35 then 5 else if l=[110,117,108,108] then 0 else if l=[116,114,117,101]\/l=[102,97,108,115,101] then 4 else if contains l [46]=true then 2 else 1
theorem Up (n:Int):contains (itoa n) [46]=false:=by
 have:(46:UInt8)∉itoa n:=by
  unfold itoa
  split
  ·rw[List.mem_cons];rintro (q|q)
   ·revert q;decide
   exact P7 (E7 _) rfl q
  exact P7 (E7 _) rfl
 unfold contains;rw[F1 this];rfl
theorem X8 (n:Int):contains (O8 n) [46]=true:=by
 have hd:=Ve (E7 n.natAbs);unfold O8;generalize L8 (decDigits n.natAbs)=p at hd ⊢;have hw:(p.take (p.length - 4)).all Bg=true:=List.all_eq_true.2 fun c hc=>List.all_eq_true.1 hd c (List.mem_of_mem_take hc)
 have hn:(46:UInt8)∉(if n<0 then[(45:UInt8)] else[])++p.take (p.length - 4):=by
  rw[List.mem_append];rintro (q|q)
  ·split at q
   ·simp at q
   simp at q
  exact P7 hw rfl q
 rw[←List.append_assoc];unfold contains;rw[Fv _ _ hn,decide_eq_true_eq];omega
theorem Qh {c:UInt8}{l q:List UInt8}(e:l=c::q)(hc:c=45\/Bg c=true):U0 l=if contains l [46]=true then 2 else 1:=by
 obtain⟨h1,h2,h3,h4,h5⟩:=cA hc;subst e;unfold U0;rw[Ao qO,Ao (by simpa using h2),Ao (by simp [h5]),Ao (by simp [h3,h4])]
theorem Sl {k n:Int}{s:List UInt8}(h:Fa k n s=true):U0 (P0 k n s)=k:=by
 rcases Ma h with ⟨rfl,rfl,rfl⟩|⟨rfl,rfl⟩|⟨rfl,rfl⟩|⟨rfl,rfl,hl,hp⟩|⟨rfl,rfl,hn⟩|⟨rfl,rfl,hn⟩
 ·rfl
 ·show U0 (itoa n)=1;obtain⟨c,q,e,hc⟩:=cD n;rw[Qh e hc,Up];rfl
 ·show U0 (O8 n)=2;obtain⟨c,q,e,hc⟩:=dV n;rw[Qh e hc,X8];rfl
 ·rfl
 ·rcases hn with rfl|rfl
  ·rfl
  rfl
 rfl
open Go Go.RowKit Go.Lib
abbrev dl (s:ByteArray):List UInt8:=s.data.toList
theorem C7 (l:List UInt8):dl ⟨l.toArray⟩=l:=rfl
theorem Ce {s t:ByteArray}(h:dl s=dl t):s=t:=by
 obtain⟨⟨a⟩⟩:=s;obtain⟨⟨b⟩⟩:=t;simp only[dl] at h;rw[h]
theorem A4 (s:ByteArray):(dl s).length=s.size:=by simp [dl]
theorem Du (s t:ByteArray):dl (s++t)=dl s++dl t:=by
 show(s++t).data.toList=s.data.toList++t.data.toList
 simp
theorem Ei (s:ByteArray)(a b:Nat):dl (s.extract a b)=((dl s).drop a).take (b - a):=extract_data s a b
theorem Ff (s:ByteArray)(a:Nat):dl (s.extract a s.size)=(dl s).drop a:=extract_to_end s a
theorem Ji (s:ByteArray):(⟨(dl s).toArray⟩:ByteArray)=s:=by
 obtain⟨⟨l⟩⟩:=s;rfl
theorem Az (s:ByteArray):s.toList=dl s:=ByteArray.toList_eq s
theorem Fu {s:ByteArray}{i:Nat}(h:i<s.size):(dl s)[i]? =some s[i]:=by
 have h':i<(dl s).length:=by rw[A4];exact h
 rw[Ag h'];rfl
theorem J3 {s:ByteArray}(h:0<s.size):(dl s).head? =some s[0]:=by
 rw[List.head?_eq_getElem?];exact Fu h
theorem D7 {s t:ByteArray}(h:dl s=dl t):Ending.returned (.string s)= .returned (.string t):=by rw[Ce h]
def nS:Value->ByteArray
 | .string s=>s
 |_=>ByteArray.empty
open Go Go.RowKit Go.Lib Go.Sort Go.Shelf
theorem dS {w w':World}{P:Program}{n:String}{cs:Array Value}(h:w.var? P n=some cs)(hb:Below w.heap.size w w'):w'.var? P n=some cs:=by
 unfold World.var? at*
 cases hg:P.globalNamed n with
 |none=>rw[hg] at h;cases h
 |some g=>
  rw[hg] at h;simp only[Option.bind_some] at h ⊢;cases ho:w.heap[g]? with
  |none=>rw[ho] at h;cases h
  |some o=>
   rw[(hb.block g (lt_of_block ho)).trans ho];rw[ho] at h;exact h
structure Rd (w:World):Prop where
 ml:∃m,w.cell? ⟨0,0,none⟩=some (.int .i64 m)
 tab:Lib.TabIs Tryz.prog w "internal/strconv.uint64pow10" .u64 Lib.pow10Tab
 rng:∃ev,w.cell? ⟨3,0,none⟩=some ev/\(ev= .nilIface\/∃te pe,ev= .iface te pe)
 syn:∃ev,w.cell? ⟨2,0,none⟩=some ev/\(ev= .nilIface\/∃te pe,ev= .iface te pe)
theorem Rd.below {w w':World}(h:Rd w)(hb:Below w.heap.size w w'):Rd w':=
 ⟨h.ml.imp fun _ hm=>A6 hb hm,dS h.tab hb,h.rng.imp fun _ hm=>⟨A6 hb hm.1,hm.2⟩,h.syn.imp fun _ hm=>⟨A6 hb hm.1,hm.2⟩⟩
theorem Qv (w:World)(k:Nat)(os:Array Obj):Below w.heap.size w (grow (w.drewN k) os):=
 ⟨rfl,rfl,rfl,by simp [grow,World.drewN],fun i hi=>by
  have:i<(w.drewN k).heap.size:=hi
  rw[heap_grow_old _ _ this]
  rfl⟩
open Go Go.ChangeShapes Go.WideShapes Go.ChangeAt Go.RowKit
section
variable {H:Type} {enc:TypeId×Value->H} {P:Program}
theorem R4 {f:Func}{s:ChangeSpec}{apart fresh handsOn again:Bool}{W W':World}{args:Array Value}{v:Value}{ds gs:List (DataW H)}{before pa pv:List MemPlace}
 (hW:DataW.Whole enc P f.params.toList s.vars apart W args.toList ds gs before)
 (hres:∀(b:Nat) (sp:Nat->Bool) (hd:Bool),DataW.TrodAll enc P W' b sp hd f.resultTypes.toList (v.resultList f.resultTypes.size) (s.fn H (ds++gs)).results [])
 (hargs:∀sp:Nat->Bool,(∀p∈before,sp p.block=true)->DataW.TrodAll enc P W' 0 sp true f.params.toList args.toList (s.fn H (ds++gs)).args pa)
 (hvars:∀sp:Nat->Bool,(∀p∈before,sp p.block=true)->DataW.TrodVars enc P W' sp s.vars (s.fn H (ds++gs)).vars pv)
 (hps:before=pa++pv) (hb:Below W.heap.size W W')
 (hok:∀(j:Nat) (t:TypeId) (r:Value),f.resultTypes[j]? =some t->(v.resultList f.resultTypes.size)[j]? =some r->Value.okWide P W' .any 0 t r):
 s.post enc P f apart fresh handsOn again W args v W':=by
 have hlt:∀p∈before,p.block<W.heap.size:=fun p hp=>hW.lt p hp
 have hold:∀p∈before,(fun b=>decide (b<W.heap.size)) p.block=true:=fun p hp=>by simpa using hlt p hp
 refine⟨ds,gs,before,[],pa,pv,hW,hres _ _ _,hargs _ hold,hvars _ hold,World.keptBut_mono (fun p hp=>⟨hp,?_⟩) (hb.frame (· ∈before)),fun _=>?_⟩
 ·rw[hps,List.mem_append] at hp;exact Or.inr hp
 obtain⟨_,_,_,_,_,hz,hn⟩:=hW;refine⟨hok,_,_,([]++pa)++pv,⟨[]++pa,pv,trodAll_append (hargs _ (fun _ _=>rfl)) (hres _ _ _),hvars _ (fun _ _=>rfl),rfl,?_,?_⟩,?_⟩
 ·intro b off hp;have hin:MemPlace.cell b off∈before:=by rw[hps];simpa using hp
  rw[hb.frozen (hlt _ hin)];exact hz b off hin
 ·intro ha
  have:=hn ha
  rw[hps] at this;simpa using this
 intro p hp _;rw[hps];simpa using hp
end
theorem own:ownKnob Tryz.prog.godebug=none:=by kernel_rfl
open Go Go.ChangeShapes Go.WideShapes Go.ChangeAt Go.RowKit Go.Lib Go.ChangeMaps
theorem N1 {W:World}{n:String}{g:Nat}{nm:String}{d:DataW Unit}(h:Lib.VarReads Tryz.prog W n (.iface nm d))(hg:Tryz.prog.globalNamed n=some g)(ht:(Tryz.prog.globals[g]?).map (·.type)=some 119):
 ∃ev,W.cell? ⟨g,0,none⟩=some ev/\(ev= .nilIface\/∃te pe,ev= .iface te pe):=by
 obtain⟨g',t,cs,fuel,p,hg',ht',hv,hd⟩:=h;obtain rfl:g'=g:=Option.some.inj (hg'.symm.trans hg);obtain rfl:t=119:=Option.some.inj (ht'.symm.trans ht);obtain⟨f1,u,v,hc,_,_⟩:=iface_of_trod Tryz.underlying119 hd;refine⟨.iface u v,?_,.inr ⟨u,v,rfl⟩⟩;have h0:=World.var?_cell hg hv 0;rw[h0,←Array.getElem?_toList,hc];rfl
theorem mP:Rows.laid_internal_strconv_uint64pow10=Lib.tabData (H:=Unit) .u64 Lib.pow10Tab:=by kernel_rfl
theorem nD {W:World}{l:List (String×DataW Unit)}(hL:laidMet Tryz.prog l W)(hsh:W.ShapedOpen Tryz.prog)
 (h1:("internal/strconv.uint64pow10",Rows.laid_internal_strconv_uint64pow10)∈l) (h2:("strconv.ErrRange",Rows.laid_strconv_ErrRange)∈l) (h3:("strconv.ErrSyntax",Rows.laid_strconv_ErrSyntax)∈l):Rd W:=by
 refine⟨Go.Proofs.cell_of_shapedOpen_int (zero:= #[.int .i64 0]) (t:=3) hsh (of_decide_eq_true nT) nT rfl nT nT Tryz.underlying3,?_,?_,?_⟩
 ·have h:=Lib.laidMet.reads hL h1;rw[mP] at h;obtain⟨g,t,cs,fuel,p,hg,ht,hv,hd⟩:=h;obtain rfl:g=1:=Option.some.inj (hg.symm.trans nT);obtain rfl:t=205:=Option.some.inj (ht.symm.trans nT);unfold Lib.TabIs;rw[hv,←Lib.cells_of_tab Tryz.underlying205 Tryz.underlying55 nT nT hd]
 ·exact N1 (Lib.laidMet.reads hL h2) nT nT
 exact N1 (Lib.laidMet.reads hL h3) nT nT
open Go Go.ChangeShapes Go.WideShapes Go.ChangeAt Go.RowKit Go.Deep
section
variable {H:Type} {enc:TypeId×Value->H} {P:Program} {w:World} {base:Nat} {spare:Nat->Bool} {held:Bool}
theorem Lx {W W':World}(hl:laidOutB P=true)(hb:Below W.heap.size W W'){sp':Nat->Bool}:∀{ts:List TypeId} {vs:List Value} {ds:List (DataW H)} {ps:List MemPlace},
 (∀t∈ts,P.readableRec t=true/\t<P.types.size)->DataW.TrodAll enc P W 0 (fun _=>true) true ts vs ds ps->(∀p∈ps,p.block<W.heap.size/\sp' p.block=true)->DataW.TrodAll enc P W' 0 sp' true ts vs ds ps
 |[],[],[],_,_,h,_=>h
 |_::_,_::_,_::_,_,hT,⟨p,q,h1,h2,e⟩,hs=>⟨p,q,WideElems.Trod_stays hl (hT _ (.head _)).1 (hT _ (.head _)).2 h1 (fun x hx=>hb.same (hs x (by rw[e];exact List.mem_append_left _ hx)).1) (fun x hx=>(hs x (by rw[e];exact List.mem_append_left _ hx)).2),
   Lx hl hb (fun t ht=>hT t (.tail _ ht)) h2 (fun x hx=>hs x (by rw[e];exact List.mem_append_right _ hx)),e⟩
theorem Jr {a:Addr}{v:Value}(h:w.cell? a=some v):a=⟨a.block,a.off,none⟩:=by
 obtain⟨b,o,s⟩:=a;simp only[World.cell?] at h;cases s with
 |none=>rfl
 |some s=>
  simp only[Option.isSome_some,if_true] at h;cases hh:w.heap[b]? with
  |none=>simp [hh] at h
  |some ob=>cases ob<;>simp [hh] at h
end
theorem nJ:laidOutB Tryz.prog=true:=by kernel_rfl
theorem Gq {α:Type}(p:Nat->α->Prop):∀(n:Nat),(∀i,i<n->∃v,p i v)->∃l:List α,l.length=n/\∀i (h:i<l.length),p i l[i]
 |0,_=>⟨[],rfl,fun i h=>by simp at h⟩
 |n+1,h=>by
  obtain⟨l,hl,hp⟩:=Gq p n fun i hi=>h i nU
  obtain⟨v,hv⟩:=h n nU;refine⟨l++[v],by simp [hl],fun i hi=>?_⟩;by_cases hin:i<l.length
  ·rw[List.getElem_append_left hin];exact hp i hin
  have:i=l.length:=by simp at hi;omega
  subst this;rw[List.getElem_append_right (Ak _)];simpa[hl] using hv
open Go Go.RowKit Go.MapKept
structure A8 (S:List Nat)(w w':World):Prop where
 os:w'.os=w.os
 tape:w'.tape=w.tape
 output:w'.output=w.output
 size:w.heap.size<=w'.heap.size
 block:∀k,k<w.heap.size->k∉S->w'.heap[k]? =w.heap[k]?
theorem A8.refl (S:List Nat)(w:World):A8 S w w:=⟨rfl,rfl,rfl,Ak _,fun _ _ _=>rfl⟩
theorem A8.step {S T:List Nat}{a b c:World}(h:A8 S a b)(k:A8 T b c)(hT:∀i∈T,i∈S\/a.heap.size<=i):A8 S a c:=
 ⟨k.os.trans h.os,k.tape.trans h.tape,k.output.trans h.output,Al h.size k.size,fun i hi hn=>
   (k.block i (Nat.lt_of_lt_of_le hi h.size) (fun hm=>by rcases hT i hm with q|q;exact hn q;omega)).trans (h.block i hi hn)⟩
theorem A8.trans {S:List Nat}{a b c:World}(h:A8 S a b)(k:A8 S b c):A8 S a c:=h.step k fun _ hi=> .inl hi
theorem A8.mono {S T:List Nat}{a b:World}(h:A8 S a b)(hs:∀i∈S,i∈T):A8 T a b:=
 ⟨h.os,h.tape,h.output,h.size,fun i hi hn=>h.block i hi fun hm=>hn (hs i hm)⟩
theorem A8.of_below {a b:World}(h:Below a.heap.size a b)(S:List Nat):A8 S a b:=⟨h.os,h.tape,h.output,h.size,fun i hi _=>h.block i hi⟩
theorem A8.below {a b:World}(h:A8 [] a b):Below a.heap.size a b:=⟨h.os,h.tape,h.output,h.size,fun i hi=>h.block i hi nW⟩
theorem A8.drew {S:List Nat}{a b:World}(h:A8 S a b):A8 S a b.drew:=⟨h.os,h.tape,h.output,h.size,h.block⟩
theorem A8.drewN {S:List Nat}{a b:World}(h:A8 S a b)(n:Nat):A8 S a (b.drewN n):=⟨h.os,h.tape,h.output,h.size,h.block⟩
theorem A8.alloc {S:List Nat}{a b:World}(h:A8 S a b)(o:Obj):A8 S a (b.alloc o):=
 h.step (T:=[]) ⟨rfl,rfl,rfl,by simp,fun k hk _=>Below.heap_alloc _ _ _ hk⟩ nW
theorem A8.setCell {S:List Nat}{a b:World}(h:A8 S a b){p:Addr}(hp:p.block∈S\/a.heap.size<=p.block)(u:Value):A8 S a (b.setCell p u):=
 h.step (T:=[p.block]) ⟨rfl,rfl,rfl,by simp [World.setCell],fun k _ hn=>Below.heap_setCell _ _ _ _ (by simpa using hn)⟩ (by simpa using hp)
theorem A8.of_grown {a b:World}{row:Option Nat}(h:a.grownBy b row)(S:List Nat)(hr:∀k,row=some k->k∈S):A8 S a b:=
 ⟨h.os,h.tape,h.output,h.size,fun i hi hn=>h.block i hi fun e=>hn (hr i e.symm)⟩
theorem A8.cell {S:List Nat}{a b:World}(h:A8 S a b){p:Addr}(hp:p.block<a.heap.size)(hn:p.block∉S):b.cell? p=a.cell? p:=World.cell?_of_block (w:=a) (h.block p.block hp hn)
theorem A8.frozen {S:List Nat}{a b:World}(h:A8 S a b){p:Addr}(hp:p.block<a.heap.size)(hn:p.block∉S):b.frozen? p=a.frozen? p:=World.frozen?_of_block (w:=a) (h.block p.block hp hn)
theorem Bn {B:Nat}{a b c:World}{S:List Nat}(h:Below B a b)(k:A8 S b c)(hS:∀i∈S,B<=i)(hB:B<=b.heap.size):Below B a c:=
 h.trans ⟨k.os,k.tape,k.output,k.size,fun i hi=>k.block i nU fun hm=>by have:=hS i hm;omega⟩
theorem Bd {B:Nat}{a w:World}(h:Below B a w)(n:Nat):Below B a (w.drewN n):=⟨h.os,h.tape,h.output,h.size,h.block⟩
theorem Ay {w:World}{b:Nat}{o:Obj}(h:w.heap[b]? =some o):b<w.heap.size:=lt_of_block h
theorem A2 {w:World}{b i:Nat}{u:Value}{c:Array Value}{t:TypeId}{fz:Nat×Nat}(h:w.heap[b]? =some (.cells c t fz)):(w.setCell ⟨b,i,none⟩ u).heap[b]? =some (.cells (c.setIfInBounds i u) t fz):=by
 simp [World.setCell,Array.getElem?_modify,h]
section
variable {K:IntKind}
def Hu (K:IntKind)(w:World)(b:Nat)(l:List (Int×Value)):Prop:=
 ∃es clock,w.heap[b]? =some (.map es clock)/\Stamped es clock/\es.toList.map (fun e=>(e.key,e.val))=l.map (fun p=>(Value.int K p.1,p.2))
theorem Hu.of_block {w w':World}{b:Nat}{l:List (Int×Value)}(h:Hu K w b l)(he:w'.heap[b]? =w.heap[b]?):Hu K w' b l:=by
 obtain⟨es,c,h1,h2,h3⟩:=h;exact⟨es,c,he.trans h1,h2,h3⟩
theorem Hu.lt {w:World}{b:Nat}{l:List (Int×Value)}(h:Hu K w b l):b<w.heap.size:=by
 obtain⟨es,c,h1,_⟩:=h;exact Ay h1
theorem Hu.only {w w':World}{b:Nat}{l:List (Int×Value)}{S:List Nat}(h:Hu K w b l)(ho:A8 S w w')(hn:b∉S):Hu K w' b l:=h.of_block (ho.block b h.lt hn)
theorem Hu.new (w:World):Hu K (w.alloc (.map #[] 0)) w.heap.size []:=⟨#[],0,(MapKept.heap_alloc w _).1,stamped_empty 0,rfl⟩
def Wk (l:List (Int×Value))(k:Int):Option Value:=(l.find? (fun p=>p.1==k)).map (·.2)
def Ft (z:Value):Option Value->Value
 |some v=> .tuple #[v,.bool true]
 |none=> .tuple #[z,.bool false]
def put:List (Int×Value)->Int->Value->List (Int×Value)
 |[],k,v=>[(k,v)]
 |p::r,k,v=>if p.1=k then(k,v)::r else p::put r k v
theorem Hu.size {l:List (Int×Value)}{es:Array MapEntry}(h:es.toList.map (fun e=>(e.key,e.val))=l.map (fun p=>(Value.int K p.1,p.2))):es.size=l.length:=by
 have:=Ar List.length h
 simpa using this
theorem Wp {l:List (Int×Value)}{es:Array MapEntry}(h:es.toList.map (fun e=>(e.key,e.val))=l.map (fun p=>(Value.int K p.1,p.2))){e:MapEntry}(he:e∈es.toList):∃p∈l,e.key= .int K p.1/\e.val=p.2:=by
 have:(e.key,e.val)∈es.toList.map (fun e=>(e.key,e.val)):=List.mem_map.2 ⟨e,he,rfl⟩
 rw[h] at this;obtain⟨p,hp,q⟩:=List.mem_map.1 this;simp only[Prod.mk.injEq] at q;exact⟨p,hp,q.1.symm,q.2.symm⟩
theorem Kl (k:Int):∀(es:List MapEntry) (l:List (Int×Value)) (i:Nat),es.map (fun e=>(e.key,e.val))=l.map (fun p=>(Value.int K p.1,p.2))->
 Instr.findNow (.int K) (.int K k) es i=some ((l.findIdx? (fun p=>p.1==k)).bind fun j=>(l[j]?).map fun p=>(i+j,p.2))
 |[],[],_,_=>rfl
 |[],_::_,_,h=>by simp at h
 |_::_,[],_,h=>by simp at h
 |e::es,p::l,i,h=>by
  simp only[List.map_cons,List.cons.injEq,Prod.mk.injEq] at h;obtain⟨⟨h1,h2⟩,h3⟩:=h;by_cases hk:p.1=k
  ·subst hk;simp [Instr.findNow,h1,Instr.sameNow,h2,List.findIdx?_cons]
  have hk':¬k=p.1:=fun q=>hk q.symm
  have hb:(k==p.1)=false:=by simpa using hk'
  have hb2:(p.1==k)=false:=by simpa using hk
  rw[show Instr.findNow (.int K) (.int K k) (e::es) i=Instr.findNow (.int K) (.int K k) es (i+1) from by simp [Instr.findNow,h1,Instr.sameNow,hb],Kl k es l (i+1) h3];exact zww
theorem eB (l:List (Int×Value))(k:Int):Wk l k=(l.findIdx? (fun p=>p.1==k)).bind fun j=>(l[j]?).map (·.2):=by
 induction l with
 |nil=>rfl
 |cons p l ih=>
  unfold Wk at ih ⊢;exact zxl
section
variable {P:Program} {w:World} {t kt et:TypeId} {b:Nat} {l:List (Int×Value)}
theorem Hu.keys {es:Array MapEntry}(h3:es.toList.map (fun e=>(e.key,e.val))=l.map (fun p=>(Value.int K p.1,p.2))):∀x∈es.toList,IsKey (.int K) x.key:=by
 intro x hx;obtain⟨p,_,hk,_⟩:=Wp h3 hx;rw[hk];rfl
theorem Qi (ht:P.underlying t=some (.map kt et))(hk:P.underlying kt=some (.int K))(h:Hu K w b l){z:Value}(hz:(zeroValue et).run P w= .ok z w)(k:Int):
 (Instr.lookup t (.map (some b)) (.int K k) true).run P w= .ok (Ft z (Wk l k)) w:=by
 obtain⟨es,c,h1,h2,h3⟩:=h;have hf:=run_findKey (P:=P) (w:=w) hk (Kl k es.toList l 0 h3);rw[eB];simp only[Instr.lookup,Sem.run_bind,run_underlying ht,MapKept.run_getObj_map h1,Result.andThen_ok,Sem.run_pure,run_checkKey (k:= .int K k) hk rfl,hf];cases hi:l.findIdx? (fun p=>p.1==k) with
 |none=>simp [hz,Ft]
 |some j=>
  have hj:=(List.findIdx?_eq_some_iff_getElem.1 hi).1;simp [Ag hj,Ft]
theorem mK (l:List (Int×Value))(k:Int)(v:Value):put l k v=match l.findIdx? (fun p=>p.1==k) with|some j=>l.set j (k,v)|none=>l++[(k,v)]:=by
 induction l with
 |nil=>rfl
 |cons p l ih=>
  unfold put;by_cases hk:p.1=k
  ·simp [hk,List.findIdx?_cons]
  have hb2:(p.1==k)=false:=by simpa using hk
  rw[Ao hk,ih];simp only[List.findIdx?_cons,hb2];cases l.findIdx? (fun p=>p.1==k)<;>simp
theorem Cb (ht:P.underlying t=some (.map kt et))(hk:P.underlying kt=some (.int K))(h:Hu K w b l)(k:Int)(v:Value):
 ∃w',(Instr.mapUpdate t (.map (some b)) (.int K k) v).run P w= .ok () w'/\Hu K w' b (put l k v)/\A8 [b] w w'/\w'.heap.size=w.heap.size:=by
 obtain⟨es,c,h1,h2,h3⟩:=h;have hfn:=Kl k es.toList l 0 h3;have hf:=run_findKey (P:=P) (w:=w) hk hfn;have hks:∀x∈es.toList,IsKey (.int K) x.key:=Hu.keys h3;have hlt:=Ay h1;rw[mK]
 have honly:∀o,A8 [b] w {w with heap:=w.heap.setIfInBounds b o}:=fun o=>⟨rfl,rfl,rfl,by simp,fun i _ hn=>by
  have:b≠i:=fun e=>hn (by simp [e])
  simp [this]⟩
 cases hi:l.findIdx? (fun p=>p.1==k) with
 |none=>
  rw[hi] at hf hfn;refine⟨{w with heap:=w.heap.setIfInBounds b (.map (es.push {key:= .int K k,val:=v,born:=c}) (c+1))},?_,?_,honly _,by simp⟩
  ·simp only[Instr.mapUpdate,Sem.run_bind,run_underlying ht,MapKept.run_getObj_map h1,Result.andThen_ok,run_checkKey (k:= .int K k) hk rfl,hf,Option.bind_none,MapKept.run_setObj_map _ h1]
  refine⟨_,_,(heap_set h1).1,stamped_push h2 ?_,?_⟩
  ·intro x hx hxk;obtain⟨p,hp,q,_⟩:=Wp h3 hx;rw[hxk] at q;cases q
   have:=List.findIdx?_eq_none_iff.1 hi p hp
   simp at this
  simp [h3]
 |some j=>
  have hjl:=(List.findIdx?_eq_some_iff_getElem.1 hi);obtain⟨hj,hjk,_⟩:=hjl;have hjk':(l[j]).1=k:=by simpa using hjk
  rw[hi] at hf hfn;simp only[Option.bind_some,Ag hj,Option.map_some,Nat.zero_add] at hf hfn;have hsz:es.size=l.length:=Hu.size h3;have hje:j<es.size:=by omega
  have hkey:es[j].key= .int K k/\es[j].val=l[j].2:=by
   have:=Ar (fun q=>q[j]?) h3
   simp only[List.getElem?_map,Array.getElem?_toList,Array.getElem?_eq_getElem hje,Ag hj,Option.map_some,Option.some.injEq,Prod.mk.injEq] at this;exact⟨this.1.trans (by rw[hjk']),this.2⟩
  refine⟨{w with heap:=w.heap.setIfInBounds b (.map (es.modify j fun e=>{e with key:= .int K k,val:=v}) c)},?_,?_,honly _,by simp⟩
  ·simp only[Instr.mapUpdate,Sem.run_bind,run_underlying ht,MapKept.run_getObj_map h1,Result.andThen_ok,run_checkKey (k:= .int K k) hk rfl,hf,Array.getElem?_eq_getElem hje,Option.map_some,Option.getD_some,hkey.1,run_keyThatStays (d:= .int K) (k:= .int K k) rfl,MapKept.run_setObj_map _ h1]
  refine⟨_,_,(heap_set h1).1,stamped_modify h2 _ _ (fun _ _=>rfl) (fun e' _ he'=>?_),?_⟩
  ·rw[Array.getElem?_eq_getElem hje] at he';cases he';exact hkey.1.symm
  apply List.ext_getElem?;intro i;simp only[List.getElem?_map,Array.getElem?_toList,Array.getElem?_modify,List.getElem?_set];have h3i:=Ar (fun q=>q[i]?) h3;simp only[List.getElem?_map,Array.getElem?_toList] at h3i;by_cases hij:j=i
  ·subst hij;simp [hj,Array.getElem?_eq_getElem hje]
  simp [hij,h3i]
end
end
end Go.Proofs.YtgfakdobajgnfaaGreatDoor
