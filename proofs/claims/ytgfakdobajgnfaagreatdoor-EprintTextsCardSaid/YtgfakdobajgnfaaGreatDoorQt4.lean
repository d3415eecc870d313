import Derived.Lib.Replace
import Derived.Lib.TrimByte
import Derived.Lib.ParseIntBCases
import Derived.Lib.ItoaMem
import Derived.Test.YtgfakdobajgnfaaGreatDoorQt3
set_option maxRecDepth 100000
set_option maxHeartbeats 16000000
namespace Go.Proofs.YtgfakdobajgnfaaGreatDoor
open Go Go.Lib
theorem S3 (c b:UInt8)(l:List UInt8):[c].isPrefixOf (b::l)=(c==b):=by
 simp [List.isPrefixOf]
theorem Jf (c b:UInt8)(l:List UInt8):index (b::l) [c]=if b=c then 0 else if index l [c]= -1 then -1 else index l [c]+1:=by
 rw[index,S3];by_cases h:b=c
 ·subst h;simp
 have:(c==b)=false:=by simpa using fun e:c=b=>h e.symm
 rw[this,Ao h];simp only[Bool.false_eq_true,if_false];by_cases h2:index l [c]= -1
 ·simp [h2]
 have:(index l [c]== -1)=false:=by simpa using h2
 rw[this,Ao h2];simp
theorem Gv {c:UInt8}{l:List UInt8}(h:c∉l):index l [c]= -1:=by
 induction l with
 |nil=>rfl
 |cons b l ih=>
  rw[Jf,Ao (fun e:b=c=>h (e▸Ai)),Ap (ih fun q=>h (Aj _ q))]
theorem Gk {c:UInt8}(a r:List UInt8)(h:c∉a):index (a++c::r) [c]=(a.length:Nat):=by
 induction a with
 |nil=>rw[List.nil_append,Jf,Ap rfl];rfl
 |cons b a ih=>
  rw[List.cons_append,Jf,Ao (fun e:b=c=>h (e▸Ai)),ih fun q=>h (Aj _ q),Ao qO];simp
theorem K8 {c:UInt8}{l:List UInt8}(h:c∉l):cut l [c]=(l,[],false):=by
 unfold cut;rw[Gv h];rfl
theorem I0 {c:UInt8}(a r:List UInt8)(h:c∉a):cut (a++c::r) [c]=(a,r,true):=by
 unfold cut;rw[Gk a r h,Ap qO];simp [List.drop_append]
theorem Mv (c:UInt8)(l:List UInt8):c∉l\/∃a r,l=a++c::r/\c∉a:=by
 by_cases h:c∈l
 ·refine .inr ?_
  induction l with
  |nil=>cases h
  |cons b l ih=>
   by_cases e:b=c
   ·exact⟨[],l,by rw[e];rfl,by simp⟩
   rcases List.mem_cons.1 h with q|q
   ·exact absurd q.symm e
   obtain⟨a,r,e1,hn⟩:=ih q;refine⟨b::a,r,by rw[e1];rfl,?_⟩;rw[List.mem_cons];rintro (q|q)
   ·exact e q.symm
   exact hn q
 exact .inl h
def Pr (c:UInt8)(new:List UInt8)(l:List UInt8):List UInt8:=l.flatMap fun b=>if b=c then new else[b]
theorem Qe {c:UInt8}{new l:List UInt8}(h:c∉l):Pr c new l=l:=by
 unfold Pr
 induction l with
 |nil=>rfl
 |cons b l ih=>
  rw[List.flatMap_cons,Ao (fun e:b=c=>h (e▸Ai)),ih fun q=>h (Aj _ q)];rfl
theorem Ua (c:UInt8):∀(k:Nat) (l:List UInt8),l.length<=k->count l [c]=l.count c
 |0,l,h=>by
  obtain rfl:l=[]:=List.eq_nil_of_length_eq_zero qO;rfl
 |k+1,l,h=>by
  rcases Mv c l with hn|⟨a,r,rfl,hn⟩
  ·rw[count_miss (Gv hn),List.count_eq_zero.2 hn]
  rw[count_hit qQ (Gk a r hn)];have hd:(a++c::r).drop (a.length+[c].length)=r:=by simp [List.drop_append]
  rw[hd,Ua c k r (by simp at h;omega),List.count_append,List.count_eq_zero.2 hn];simp;omega
theorem Pm (c:UInt8)(new:List UInt8):∀(k:Nat) (l:List UInt8),l.count c<=k->replaceK [c] new k l=Pr c new l
 |0,l,h=>by
  have hn:c∉l:=List.count_eq_zero.1 qO;rw[Qe hn];rfl
 |k+1,l,h=>by
  rcases Mv c l with hn|⟨a,r,rfl,hn⟩
  ·rw[Qe hn,replaceK,Gv hn];rfl
  rw[replaceK_hit [c] new k _ a.length (Gk a r hn)];have hd:(a++c::r).drop (a.length+[c].length)=r:=by simp [List.drop_append]
  have hc:(a++c::r).count c=r.count c+1:=by rw[List.count_append,List.count_eq_zero.2 hn];simp
  rw[hd,Pm c new k r qO];unfold Pr;rw[List.flatMap_append,List.flatMap_cons,Ap rfl]
  have:=Qe (new:=new) hn
  unfold Pr at this;rw[this];simp
theorem Jt (c:UInt8)(new l:List UInt8)(h:[c]≠new):replaceAll l [c] new=Pr c new l:=by
 unfold replaceAll replace replaceNum
 have:([c]==new)=false:=by simpa using h
 rw[this,Ao qQ,Ap (.inl qO),Ua c l.length l (Ak _)];exact Pm c new _ l (Ak _)
def Bc (c:UInt8):Bool:=decide (48<=c.toNat) && decide (c.toNat<=57)
def Gf (l:List UInt8):Bool:=!l.isEmpty && l.all Bc
def val (l:List UInt8)(acc:Nat):Nat:=l.foldl (fun a c=>a*10+(c.toNat - 48)) acc
theorem pL (l:List UInt8):∀acc,acc<=val l acc:=by
 induction l with
 |nil=>intro acc;exact Ak _
 |cons c l ih=>
  intro acc
  have:=ih (acc*10+(c.toNat - 48))
  show acc<=val l (acc*10+(c.toNat - 48));omega
theorem Vd (M:Nat)(hM:M<=18446744073709551615):∀(l:List UInt8) (acc:Nat),l.all Bc=true->val l acc<=M->parseUintM M acc l= .ok (val l acc)
 |[],acc,_,_=>rfl
 |c::l,acc,hd,hv=>by
  rw[List.all_cons,Bool.and_eq_true] at hd;obtain⟨h1,h2⟩:=hd;have hc:48<=c.toNat/\c.toNat<=57:=by simpa[Bc] using h1
  have hv':val l (acc*10+(c.toNat - 48))<=M:=hv;have hg:=pL l (acc*10+(c.toNat - 48));rw[parseUintM,Ap hc,Ao qO,Ao qO];exact Vd M hM l _ h2 hv'
theorem U1 (u:Nat)(h:u<10):(UInt8.ofNat (48+u)).toNat=48+u:=by
 rw[UInt8.toNat_ofNat'];omega
theorem bX (u:Nat)(h:u<10):Bc (UInt8.ofNat (48+u))=true:=by
 unfold Bc;rw[U1 u h];simp;omega
theorem Dv {u:Nat}(h:u<10):decDigits u=[UInt8.ofNat (48+u)]:=by rw[decDigits,dif_pos h]
theorem Hh {u:Nat}(h:¬u<10):decDigits u=decDigits (u/10)++[UInt8.ofNat (48+u % 10)]:=by rw[decDigits,dif_neg h]
theorem D2 (u:Nat):(decDigits u).all Bc=true:=by
 induction u using Nat.strongRecOn with
 |_ u ih=>
  by_cases h:u<10
  ·rw[Dv h];rw[List.all_cons,bX u h];rfl
  rw[Hh h,List.all_append,ih _ qO];rw[List.all_cons,bX (u % 10) qO];rfl
theorem K9 (u:Nat):decDigits u≠[]:=by
 by_cases h:u<10
 ·rw[Dv h];simp
 rw[Hh h];simp
theorem Rv {c:UInt8}{l:List UInt8}(h:l.all Bc=true)(hc:Bc c=false):c∉l:=fun q=>by
 have:=List.all_eq_true.1 h c q
 rw[hc] at this;cases this
def Lo (l:List UInt8):List UInt8:=List.replicate (5 - l.length) 48++l
theorem Pi (l:List UInt8):5<=(Lo l).length:=by
 unfold Lo;rw[Ab,List.length_replicate];omega
theorem eE (k:Nat):(List.replicate k (48:UInt8)).all Bc=true:=by
 rw[List.all_eq_true];intro c hc;rw[List.eq_of_mem_replicate hc];rfl
theorem Tf {l:List UInt8}(h:l.all Bc=true):(Lo l).all Bc=true:=by
 unfold Lo;rw[List.all_append,h,eE];rfl
def Hy (r:List UInt8):List UInt8:=if trimRightB r 48=[] then[48] else trimRightB r 48
theorem J2 (r:List UInt8):∃k,r=trimRightB r 48++List.replicate k 48:=by
 refine⟨(r.reverse.takeWhile (· ==48)).length,?_⟩
 have h1:r.reverse.takeWhile (· ==(48:UInt8))=List.replicate (r.reverse.takeWhile (· ==48)).length 48:=by
  refine List.eq_replicate_iff.2 ⟨rfl,fun b hb=>?_⟩
  have:=List.all_takeWhile (l:=r.reverse) (p:=(· ==(48:UInt8)))
  rw[List.all_eq_true] at this;simpa using this b hb
 have h2:=List.takeWhile_append_dropWhile (p:=(· ==(48:UInt8))) (l:=r.reverse);have h3:=Ar List.reverse h2;rw[List.reverse_append,List.reverse_reverse] at h3;unfold trimRightB;refine h3.symm.trans ?_;congr 1;rw[h1,List.reverse_replicate];simp
theorem fK {r:List UInt8}:∀c∈Hy r,c=48\/c∈r:=by
 intro c hc;unfold Hy at hc
 split at hc
 ·exact .inl (by simpa using hc)
 obtain⟨k,hk⟩:=J2 r;rw[hk];exact .inr (List.mem_append_left _ hc)
theorem cZ {r:List UInt8}(hl:r.length=4):1<=(Hy r).length/\(Hy r).length<=4:=by
 unfold Hy;obtain⟨k,hk⟩:=J2 r
 have:=Ar List.length hk
 rw[Ab] at this
 split
 ·simp
 rename_i h0
 have:=List.length_pos_iff.2 h0
 omega
theorem fL {r:List UInt8}(h:r.all Bc=true):(Hy r).all Bc=true:=by
 rw[List.all_eq_true];intro c hc;rcases fK c hc with rfl|q
 ·rfl
 exact List.all_eq_true.1 h c q
def Lu (n:Int):List UInt8:=(if n<0 then[45] else[])++((Lo (decDigits n.natAbs)).take ((Lo (decDigits n.natAbs)).length - 4)++46::Hy ((Lo (decDigits n.natAbs)).drop ((Lo (decDigits n.natAbs)).length - 4)))
def Ks (l:List UInt8):List UInt8:=Pr 34 [92,34] (Pr 92 [92,92] l)
def bK (l:List UInt8):List UInt8:=34::(Ks l++[34])
def Nc (k n:Int)(s:List UInt8):List UInt8:=
 if k=1 then itoa n else if k=2 then Lu n else if k=3 then bK s else if k=4 then(if n=1 then[116,114,117,101] else[102,97,108,115,101]) else if k=5 then 35::s else[110,117,108,108]
def Oj (l:List UInt8):Except Int (Int×Int):=
 let c:=cut (if l.head? =some 45 then l.tail else l) [46]
 if(!Gf c.1||(decide (1<c.1.length) && c.1.head? ==some 48))||(c.2.2 && (!Gf c.2.1||decide (4<c.2.1.length))) then .error 4
 else
  let d:=if c.2.2 then c.1++(c.2.1++[48,48,48,48]).take 4 else c.1
  match parseIntB 64 (if l.head? =some 45 then 45::d else d) with
  | .ok n=> .ok (if c.2.2 then 2 else 1,n)
  |_=> .error 9
def Ce:List UInt8->List UInt8
 |c::y::r=>if c=92 then y::Ce r else c::Ce (y::r)
 |_=>[]
def Ej (l:List UInt8):Except Int (Int×Int×List UInt8):=
 match l with
 |34::r=> .ok (3,0,Ce r)
 |35::r=> .ok (5,0,r)
 |116::r=>if r=[114,117,101] then .ok (4,1,[]) else .error 4
 |102::r=>if r=[97,108,115,101] then .ok (4,0,[]) else .error 4
 |110::r=>if r=[117,108,108] then .ok (0,0,[]) else .error 4
 |l=>(Oj l).map fun p=>(p.1,p.2,[])
theorem T7 {c:UInt8}{r:List UInt8}(h:c≠34/\c≠35/\c≠116/\c≠102/\c≠110):Ej (c::r)=(Oj (c::r)).map fun p=>(p.1,p.2,[]):=by
 obtain⟨h1,h2,h3,h4,h5⟩:=h;unfold Ej
 split
 ·rename_i e;injection e with e;exact absurd e h1
 ·rename_i e;injection e with e;exact absurd e h2
 ·rename_i e;injection e with e;exact absurd e h3
 ·rename_i e;injection e with e;exact absurd e h4
 ·rename_i e;injection e with e;exact absurd e h5
 rfl
theorem Mz (c:UInt8)(l:List UInt8):Ks (c::l)=(if c=92 then[92,92] else if c=34 then[92,34] else[c])++Ks l:=by
 unfold Ks Pr;rw[List.flatMap_cons,List.flatMap_append];congr 1;by_cases h:c=92
 ·subst h;rfl
 rw[Ao h,Ao h];simp
def Dx (c:UInt8):Bool:=decide (97<=c.toNat) && decide (c.toNat<=122)
def Ir (s:List UInt8):Bool:=match s with
 |[]=>false
 |c::r=>decide (r.length<12) && Dx c && r.all fun b=>Dx b||Bc b
def El (c:UInt8):Bool:=decide (32<=c.toNat) && decide (c.toNat<=126)
def bT (s:List UInt8):Bool:=decide (s.length<=200) && s.all El
def Fz (k n:Int)(s:List UInt8):Bool:=
 if k=0 then decide (n=0) && s.isEmpty else if k=1\/k=2 then s.isEmpty else if k=3 then decide (n=0) && bT s
 else if k=4 then s.isEmpty && decide (n=0\/n=1) else if k=5 then decide (n=0) && Ir s else false
theorem Lg {k n:Int}{s:List UInt8}(h:Fz k n s=true):
 (k=0/\n=0/\s=[])\/(k=1/\s=[])\/(k=2/\s=[])\/(k=3/\n=0/\s.length<=200/\s.all El=true)\/(k=4/\s=[]/\(n=0\/n=1))\/(k=5/\n=0/\Ir s=true):=by
 unfold Fz at h;by_cases k0:k=0
 ·rw[Ap k0,Bool.and_eq_true,decide_eq_true_eq,List.isEmpty_iff] at h;exact .inl ⟨k0,h.1,h.2⟩
 rw[Ao k0] at h;by_cases k12:k=1\/k=2
 ·rw[Ap k12,List.isEmpty_iff] at h;rcases k12 with e|e
  ·exact .inr (.inl ⟨e,h⟩)
  exact .inr (.inr (.inl ⟨e,h⟩))
 rw[Ao k12] at h;by_cases k3:k=3
 ·rw[Ap k3] at h;unfold bT at h;simp only[Bool.and_eq_true,decide_eq_true_eq] at h;exact .inr (.inr (.inr (.inl ⟨k3,h.1,h.2.1,h.2.2⟩)))
 rw[Ao k3] at h;by_cases k4:k=4
 ·rw[Ap k4,Bool.and_eq_true,decide_eq_true_eq,List.isEmpty_iff] at h;exact .inr (.inr (.inr (.inr (.inl ⟨k4,h.1,h.2⟩))))
 rw[Ao k4] at h;by_cases k5:k=5
 ·rw[Ap k5,Bool.and_eq_true,decide_eq_true_eq] at h;exact .inr (.inr (.inr (.inr (.inr ⟨k5,h.1,h.2⟩))))
 rw[Ao k5] at h;cases h
theorem bU {l:List UInt8}(hd:l.all Bc=true)(hne:l≠[])(r:List UInt8)(b:Bool):∃c q,(if b then 45::l else l)++r=c::q/\(c=45\/Bc c=true):=by
 cases b with
 |true=>exact⟨45,l++r,rfl,.inl rfl⟩
 |false=>
  obtain⟨c,q,rfl⟩:=List.exists_cons_of_ne_nil hne;rw[List.all_cons,Bool.and_eq_true] at hd;exact⟨c,q++r,rfl,.inr hd.1⟩
theorem U8 (n:Int):∃c q,itoa n=c::q/\(c=45\/Bc c=true):=by
 have:=bU (D2 n.natAbs) (K9 _) [] (decide (n<0))
 rw[List.append_nil] at this
 have e:itoa n=if decide (n<0)=true then 45::decDigits n.natAbs else decDigits n.natAbs:=by
  unfold itoa;by_cases h:n<0
  ·simp [h]
  simp only[h,decide_false,if_false,Bool.false_eq_true];congr 1;omega
 rw[e];exact this
theorem T3 (n:Int):∃c q,Lu n=c::q/\(c=45\/Bc c=true):=by
 have hd:=Tf (D2 n.natAbs);have hl5:=Pi (decDigits n.natAbs);unfold Lu;generalize Lo (decDigits n.natAbs)=p at hd hl5 ⊢;have hw:(p.take (p.length - 4)).all Bc=true:=List.all_eq_true.2 fun c hc=>List.all_eq_true.1 hd c (List.mem_of_mem_take hc)
 have hwne:p.take (p.length - 4)≠[]:=by
  intro e
  have:=Ar List.length e
  rw[List.length_take] at this;simp at this;omega
 have:=bU hw hwne (46::Hy (p.drop (p.length - 4))) (decide (n<0))
 obtain⟨c,q,e,h⟩:=this;refine⟨c,q,?_,h⟩;rw[←e];by_cases h:n<0
 ·simp [h]
 simp [h]
theorem gH {c:UInt8}(h:c=45\/Bc c=true):c≠34/\c≠35/\c≠116/\c≠102/\c≠110:=by
 rcases h with rfl|h
 ·decide
 refine⟨?_,?_,?_,?_,?_⟩<;>(rintro rfl;revert h;decide)
theorem cR {c:UInt8}(h:Bc c=true):El c=true:=by
 simp only[Bc,El,Bool.and_eq_true,decide_eq_true_eq] at*
 omega
theorem nB {c:UInt8}(h:Dx c=true):El c=true:=by
 simp only[Dx,El,Bool.and_eq_true,decide_eq_true_eq] at*
 omega
theorem Rq {l:List UInt8}(h:l.all Bc=true):l.all El=true:=List.all_eq_true.2 fun c hc=>cR (List.all_eq_true.1 h c hc)
theorem R5:∀(s:List UInt8),s.all El=true->(Ks s).length<=2*s.length/\(Ks s).all El=true
 |[],_=>⟨by decide,rfl⟩
 |c::s,h=>by
  rw[List.all_cons,Bool.and_eq_true] at h;obtain⟨i1,i2⟩:=R5 s h.2;rw[Mz,Ab,List.all_append,i2,Aa];by_cases h1:c=92
  ·rw[Ap h1];exact⟨by simp;omega,rfl⟩
  rw[Ao h1];by_cases h2:c=34
  ·rw[Ap h2];exact⟨by simp;omega,rfl⟩
  rw[Ao h2];exact⟨by simp;omega,by rw[List.all_cons,h.1];rfl⟩
theorem Em {s:List UInt8}(h:Ir s=true):1<=s.length/\s.length<=12/\s.all (fun b=>Dx b||Bc b)=true/\∃c r,s=c::r/\Dx c=true:=by
 cases s with
 |nil=>cases h
 |cons c r=>
  unfold Ir at h;simp only[Bool.and_eq_true,decide_eq_true_eq] at h;refine⟨by simp,by simp;omega,?_,c,r,rfl,h.1.2⟩;rw[List.all_cons,h.1.2,h.2];rfl
theorem gD {k n:Int}{s:List UInt8}(h:Fz k n s=true)(h0: -9223372036854775808<=n)(h1:n<=9223372036854775807):1<=(Nc k n s).length/\(Nc k n s).length<=402/\(Nc k n s).all El=true:=by
 rcases Lg h with ⟨rfl,rfl,rfl⟩|⟨rfl,rfl⟩|⟨rfl,rfl⟩|⟨rfl,rfl,hl,hp⟩|⟨rfl,rfl,hn⟩|⟨rfl,rfl,hn⟩
 ·decide
 ·show 1<=(itoa n).length/\(itoa n).length<=402/\(itoa n).all El=true;have hl:=itoa_length_le n h0 h1;obtain⟨c,q,e,_⟩:=U8 n;refine⟨by rw[e];simp,by omega,?_⟩;unfold itoa
  split
  ·rw[List.all_cons,Rq (D2 _)];rfl
  exact Rq (D2 _)
 ·show 1<=(Lu n).length/\(Lu n).length<=402/\(Lu n).all El=true;obtain⟨c,q,e,_⟩:=T3 n;have hd:=Tf (D2 n.natAbs);have hl5:=Pi (decDigits n.natAbs)
  have hl20:(decDigits n.natAbs).length<=20:=by
   rw[decDigits_length];exact nDigits_le20 _ qO
  have hpl:(Lo (decDigits n.natAbs)).length<=25:=by
   unfold Lo;rw[Ab,List.length_replicate];omega
  refine⟨by rw[e];simp,?_,?_⟩
  ·unfold Lu;generalize Lo (decDigits n.natAbs)=p at hd hl5 hpl ⊢;have hf:=(cZ (r:=p.drop (p.length - 4)) rN).2;simp only[Ab,Aa,List.length_take]
   have:(if n<0 then[(45:UInt8)] else[]).length<=1:=by split<;>simp
   omega
  unfold Lu;generalize Lo (decDigits n.natAbs)=p at hd hl5 hpl ⊢;have hw:(p.take (p.length - 4)).all Bc=true:=List.all_eq_true.2 fun c hc=>List.all_eq_true.1 hd c (List.mem_of_mem_take hc)
  have hf:(p.drop (p.length - 4)).all Bc=true:=List.all_eq_true.2 fun c hc=>List.all_eq_true.1 hd c (List.mem_of_mem_drop hc)
  rw[List.all_append,List.all_append,List.all_cons,Rq hw,Rq (fL hf)]
  have:(if n<0 then[(45:UInt8)] else[]).all El=true:=by split<;>rfl
  rw[this];rfl
 ·show 1<=(bK s).length/\(bK s).length<=402/\(bK s).all El=true;obtain⟨i1,i2⟩:=R5 s hp;unfold bK;rw[List.all_cons,List.all_append,i2];exact⟨by simp,by simp;omega,rfl⟩
 ·rcases hn with rfl|rfl
  ·decide
  decide
 show 1<=(35::s).length/\(35::s).length<=402/\(35::s).all El=true;obtain⟨i1,i2,i3,_⟩:=Em hn;refine⟨by simp,by simp;omega,?_⟩;rw[List.all_cons]
 have:s.all El=true:=List.all_eq_true.2 fun c hc=>by
  have:=List.all_eq_true.1 i3 c hc
  rw[Bool.or_eq_true] at this;rcases this with q|q
  ·exact nB q
  exact cR q
 rw[this];rfl
def C5 (k n:Int)(s:List UInt8):List UInt8:=if Fz k n s=true then Nc k n s else[]
def D0 (l:List UInt8):Except Int (Int×Int×List UInt8):=
 if 402<l.length then .error 3 else if l=[] then .error 4 else
  match Ej l with
  | .error e=> .error e
  | .ok v=>if C5 v.1 v.2.1 v.2.2=l then .ok v else .error 4
theorem Wf {l:List UInt8}{k n:Int}{s:List UInt8}(h:D0 l= .ok (k,n,s)):Fz k n s=true/\Nc k n s=l/\l≠[]/\l.length<=402:=by
 unfold D0 at h;by_cases h4:402<l.length
 ·rw[Ap h4] at h;cases h
 rw[Ao h4] at h;by_cases hl:l=[]
 ·rw[Ap hl] at h;cases h
 rw[Ao hl] at h;cases hr:Ej l with
 |error e=>rw[hr] at h;cases h
 |ok v=>
  rw[hr] at h;simp only at h;by_cases ht:C5 v.1 v.2.1 v.2.2=l
  ·rw[Ap ht] at h;injection h with h;subst h;unfold C5 at ht;by_cases hm:Fz k n s=true
   ·simp only[Ap hm] at ht;exact⟨hm,ht,hl,by omega⟩
   simp only[Ao hm] at ht;exact absurd ht.symm hl
  rw[Ao ht] at h;cases h
open Go Go.Lib
theorem Tz {l:List UInt8}{q:Int}(h:Oj l= .error q):q=4\/q=9:=by
 unfold Oj at h;simp only at h;generalize cut (if l.head? =some 45 then l.tail else l) [46]=c at h;by_cases hc:((!Gf c.1||(decide (1<c.1.length) && c.1.head? ==some 48))||(c.2.2 && (!Gf c.2.1||decide (4<c.2.1.length))))=true
 ·rw[Ap hc] at h;injection h with h;exact .inl h.symm
 rw[Ao hc] at h;generalize parseIntB 64 _=z at h;cases z
 case ok n=>cases h
 all_goals (injection h with h;exact .inr h.symm)
theorem Pf {l:List UInt8}{e:Int}(h:D0 l= .error e):e=3\/e=4\/e=9:=by
 unfold D0 at h;by_cases h4:402<l.length
 ·rw[Ap h4] at h;injection h with h;exact .inl h.symm
 rw[Ao h4] at h;by_cases hl:l=[]
 ·rw[Ap hl] at h;injection h with h;exact .inr (.inl h.symm)
 rw[Ao hl] at h;cases hr:Ej l with
 |ok v=>
  rw[hr] at h;simp only at h
  split at h
  ·cases h
  injection h with h;exact .inr (.inl h.symm)
 |error q=>
  rw[hr] at h;injection h with h;subst h;have hnum:∀x,Oj x= .error q->q=4\/q=9:=fun x hx=>Tz hx
  unfold Ej at hr
  split at hr
  ·cases hr
  ·cases hr
  ·exact zwt
  ·exact zwt
  ·exact zwt
  cases hq:Oj l with
  |ok p=>rw[hq] at hr;cases hr
  |error z=>
   rw[hq] at hr;injection hr with hr;subst hr;exact .inr (hnum l hq)
def Xz (l:List UInt8):Int:=
 if l.head? =some 34 then 3 else if l.head? =some 35 then 5 else if l=[110,117,108,108] then 0 else if l=[116,114,117,101]\/l=[102,97,108,115,101] then 4 else if contains l [46]=true then 2 else 1
theorem Wj (n:Int):contains (itoa n) [46]=false:=by
 have:(46:UInt8)∉itoa n:=by
  unfold itoa
  split
  ·rw[List.mem_cons];rintro (q|q)
   ·revert q;decide
   exact Rv (D2 _) rfl q
  exact Rv (D2 _) rfl
 unfold contains;rw[Gv this];rfl
theorem Zl (n:Int):contains (Lu n) [46]=true:=by
 have hd:=Tf (D2 n.natAbs);unfold Lu;generalize Lo (decDigits n.natAbs)=p at hd ⊢;have hw:(p.take (p.length - 4)).all Bc=true:=List.all_eq_true.2 fun c hc=>List.all_eq_true.1 hd c (List.mem_of_mem_take hc)
 have hn:(46:UInt8)∉(if n<0 then[(45:UInt8)] else[])++p.take (p.length - 4):=by
  rw[List.mem_append];rintro (q|q)
  ·split at q
   ·simp at q
   simp at q
  exact Rv hw rfl q
 rw[←List.append_assoc];unfold contains;rw[Gk _ _ hn,decide_eq_true_eq];omega
theorem So {c:UInt8}{l q:List UInt8}(e:l=c::q)(hc:c=45\/Bc c=true):Xz l=if contains l [46]=true then 2 else 1:=by
 obtain⟨h1,h2,h3,h4,h5⟩:=gH hc;subst e;unfold Xz;rw[Ao sD,Ao tJ,Ao (by simp [h5]),Ao (by simp [h3,h4])]
theorem Uj {k n:Int}{s:List UInt8}(h:Fz k n s=true):Xz (Nc k n s)=k:=by
 rcases Lg h with ⟨rfl,rfl,rfl⟩|⟨rfl,rfl⟩|⟨rfl,rfl⟩|⟨rfl,rfl,hl,hp⟩|⟨rfl,rfl,hn⟩|⟨rfl,rfl,hn⟩
 ·rfl
 ·show Xz (itoa n)=1;obtain⟨c,q,e,hc⟩:=U8 n;rw[So e hc,Wj];rfl
 ·show Xz (Lu n)=2;obtain⟨c,q,e,hc⟩:=T3 n;rw[So e hc,Zl];rfl
 ·rfl
 ·rcases hn with rfl|rfl
  ·rfl
  rfl
 rfl
open Go Go.RowKit Go.Lib
abbrev dl (s:ByteArray):List UInt8:=s.data.toList
theorem Db (l:List UInt8):dl ⟨l.toArray⟩=l:=rfl
theorem Ck {s t:ByteArray}(h:dl s=dl t):s=t:=by
 obtain⟨⟨a⟩⟩:=s;obtain⟨⟨b⟩⟩:=t;simp only[dl] at h;rw[h]
theorem A5 (s:ByteArray):(dl s).length=s.size:=by simp [dl]
theorem D7 (s t:ByteArray):dl (s++t)=dl s++dl t:=by
 show(s++t).data.toList=s.data.toList++t.data.toList
 simp
theorem E6 (s:ByteArray)(a b:Nat):dl (s.extract a b)=((dl s).drop a).take (b - a):=extract_data s a b
theorem F5 (s:ByteArray)(a:Nat):dl (s.extract a s.size)=(dl s).drop a:=extract_to_end s a
theorem Kw (s:ByteArray):(⟨(dl s).toArray⟩:ByteArray)=s:=by
 obtain⟨⟨l⟩⟩:=s;rfl
theorem A0 (s:ByteArray):s.toList=dl s:=ByteArray.toList_eq s
theorem Gq {s:ByteArray}{i:Nat}(h:i<s.size):(dl s)[i]? =some s[i]:=by
 have h':i<(dl s).length:=by rw[A5];exact h
 rw[Ag h'];rfl
theorem Kz {s:ByteArray}(h:0<s.size):(dl s).head? =some s[0]:=by
 rw[List.head?_eq_getElem?];exact Gq h
theorem Eh {s t:ByteArray}(h:dl s=dl t):Ending.returned (.string s)= .returned (.string t):=by rw[Ck h]
def qI:Value->ByteArray
 | .string s=>s
 |_=>ByteArray.empty
open Go Go.RowKit Go.Lib Go.Sort Go.Shelf
theorem fS {w w':World}{P:Program}{n:String}{cs:Array Value}(h:w.var? P n=some cs)(hb:Below w.heap.size w w'):w'.var? P n=some cs:=by
 unfold World.var? at*
 cases hg:P.globalNamed n with
 |none=>rw[hg] at h;cases h
 |some g=>
  rw[hg] at h;simp only[Option.bind_some] at h ⊢;cases ho:w.heap[g]? with
  |none=>rw[ho] at h;cases h
  |some o=>
   rw[(hb.block g (lt_of_block ho)).trans ho];rw[ho] at h;exact h
structure Rd (w:World):Prop where
 ml:∃m,w.cell? ⟨0,0,none⟩=some (.int .i64 m)
 tab:Lib.TabIs Tryz.prog w "internal/strconv.uint64pow10" .u64 Lib.pow10Tab
 rng:∃ev,w.cell? ⟨3,0,none⟩=some ev/\(ev= .nilIface\/∃te pe,ev= .iface te pe)
 syn:∃ev,w.cell? ⟨2,0,none⟩=some ev/\(ev= .nilIface\/∃te pe,ev= .iface te pe)
theorem Rd.below {w w':World}(h:Rd w)(hb:Below w.heap.size w w'):Rd w':=
 ⟨h.ml.imp fun _ hm=>A6 hb hm,fS h.tab hb,h.rng.imp fun _ hm=>⟨A6 hb hm.1,hm.2⟩,h.syn.imp fun _ hm=>⟨A6 hb hm.1,hm.2⟩⟩
theorem Sn (w:World)(k:Nat)(os:Array Obj):Below w.heap.size w (grow (w.drewN k) os):=
 ⟨rfl,rfl,rfl,by simp [grow,World.drewN],fun i hi=>by
  have:i<(w.drewN k).heap.size:=hi
  rw[heap_grow_old _ _ this]
  rfl⟩
end Go.Proofs.YtgfakdobajgnfaaGreatDoor
