import Derived.Test.YtgfakdobajgnfaaGreatDoorQe31
set_option maxRecDepth 100000
set_option maxHeartbeats 16000000
namespace Go.Proofs.YtgfakdobajgnfaaGreatDoor
open Go Go.Lib
inductive Ex.Sub:Ex->Ex->Prop where
 |self (e:Ex):Ex.Sub e e
 |kid {s e:Ex} {h:Hd} {ks:List Ex} (he:e∈ks) (hs:Ex.Sub s e):Ex.Sub s (.mk h ks)
theorem pW:∀(k:Nat),(∀(e:Ex) (b j:Nat),e.size<=k->j<e.size->∃s pre post,Ex.Sub s e/\e.flat b=pre++(s.flat (b+pre.length)++post)/\pre.length+s.size=j+1/\(j+1=e.size->s=e))/\
 (∀(l:List Ex) (b j:Nat),A6 l<=k->j<A6 l->∃s e pre post,e∈l/\Ex.Sub s e/\Bl l b=pre++(s.flat (b+pre.length)++post)/\pre.length+s.size=j+1):=by
 intro k
 induction k with
 |zero=>
  refine⟨fun e b j h=>?_,fun l b j h hj=>?_⟩
  ·have:=e.size_pos;omega
  ·omega
 |succ k ih=>
  have one:∀(e:Ex) (b j:Nat),e.size<=k+1->j<e.size->∃s pre post,Ex.Sub s e/\e.flat b=pre++(s.flat (b+pre.length)++post)/\pre.length+s.size=j+1/\(j+1=e.size->s=e):=fun e b j h hj=>by
   cases e with
   |mk hd ks=>
    rw[Ex.size] at h hj
    by_cases hlt:j<A6 ks
    ·obtain⟨s,e,pre,post,h1,h2,h3,h4⟩:=ih.2 ks b j rA hlt
     refine⟨s,pre,post++[⟨hd,Ck ks b⟩],.kid h1 h2,?_,h4,fun q=>?_⟩
     ·rw[Ex.flat,h3,List.append_assoc,List.append_assoc]
     ·rw[Ex.size] at q;omega
    ·refine⟨.mk hd ks,[],[],.self _,by simp,?_,fun _=>rfl⟩
     rw[Ex.size,List.length_nil]
     omega
  refine⟨one,fun l=>?_⟩
  induction l with
  |nil=>intro b j _ hj;exact absurd hj (Nat.not_lt_zero _)
  |cons e l il=>
   intro b j h hj
   rw[A6] at h hj
   by_cases hlt:j<e.size
   ·obtain⟨s,pre,post,h1,h2,h3,_⟩:=one e b j rA hlt
    exact⟨s,e,pre,post++Bl l (b+e.size),Ai,h1,by rw[Bl,h2,List.append_assoc,List.append_assoc],h3⟩
   ·obtain⟨s,e',pre,post,h1,h2,h3,h4⟩:=il (b+e.size) (j - e.size) (by have:=e.size_pos;omega) rA
    refine⟨s,e',e.flat b++pre,post,Aj _ h1,h2,?_,?_⟩
    ·rw[Bl,h3,List.append_assoc,Ab,Ex.flat_len,Nat.add_assoc]
    ·rw[Ab,Ex.flat_len];omega
theorem Tr:∀(l:List Ex) (b:Nat),∀x∈Ck l b,b<=x/\x<b+A6 l
 |[],_,x,h=>by cases h
 |e::l,b,x,h=>by
  have hp:=e.size_pos
  rw[A6]
  rw[Ck] at h
  rcases List.mem_cons.1 h with rfl|h
  ·omega
  ·have:=Tr l (b+e.size) x h
   omega
theorem U3:∀(k:Nat),(∀(e:Ex) (b j:Nat) (n:Nd),e.size<=k->(e.flat b)[j]? =some n->∀x∈n.kids,b<=x/\x<b+j)/\
 (∀(l:List Ex) (b j:Nat) (n:Nd),A6 l<=k->(Bl l b)[j]? =some n->∀x∈n.kids,b<=x/\x<b+j):=by
 intro k
 induction k with
 |zero=>
  refine⟨fun e b j n h=>?_,fun l b j n h hj=>?_⟩
  ·have:=e.size_pos;omega
  ·have:=(List.getElem?_eq_some_iff.1 hj).1
   rw[B5] at this
   omega
 |succ k ih=>
  have one:∀(e:Ex) (b j:Nat) (n:Nd),e.size<=k+1->(e.flat b)[j]? =some n->∀x∈n.kids,b<=x/\x<b+j:=fun e b j n h hj x hx=>by
   cases e with
   |mk hd ks=>
    rw[Ex.size] at h
    rw[Ex.flat] at hj
    by_cases hlt:j<A6 ks
    ·rw[List.getElem?_append_left (by rw[B5];exact hlt)] at hj
     exact ih.2 ks b j n rA hj x hx
    ·rw[List.getElem?_append_right (by rw[B5];omega),B5] at hj
     obtain⟨m,hm⟩:∃m,j - A6 ks=m:=⟨_,rfl⟩
     rw[hm] at hj
     cases m with
     |zero=>
      injection hj with hj
      subst hj
      have:=Tr ks b x hx
      omega
     |succ m=>cases hj
  refine⟨one,fun l=>?_⟩
  induction l with
  |nil=>intro b j n _ hj;cases hj
  |cons e l il=>
   intro b j n h hj x hx
   rw[A6] at h
   rw[Bl] at hj
   by_cases hlt:j<e.size
   ·rw[List.getElem?_append_left (by rw[Ex.flat_len];exact hlt)] at hj
    exact one e b j n rA hj x hx
   ·rw[List.getElem?_append_right sO,Ex.flat_len] at hj
    have:=il (b+e.size) (j - e.size) n (by have:=e.size_pos;omega) hj x hx
    omega
theorem bG (e:Ex)(b x:Nat)(h1:b<=x)(h2:x+1<b+e.size):∃j n,(e.flat b)[j]? =some n/\x∈n.kids/\x<b+j:=by
 have hc:=(Ro e.size).1 e b x (Ak _)
 rw[if_pos ⟨h1,h2⟩] at hc
 have hm:x∈Fu (e.flat b):=List.count_pos_iff.1 rA
 obtain⟨n,hn,hx⟩:=List.mem_flatMap.1 hm
 obtain⟨j,hj,he⟩:=List.mem_iff_getElem.1 hn
 have hj':(e.flat b)[j]? =some n:=by rw[Ag hj,he]
 exact⟨j,n,hj',hx,((U3 e.size).1 e b j n (Ak _) hj' x hx).2⟩
theorem Ex.Sub.all {P:Hd->Nat->Prop}{s e:Ex}(h:Ex.Sub s e)(ha:e.All P):s.All P:=by
 induction h with
 |self=>exact ha
 |kid he _ ih=>exact ih (I4 ha.2 _ he)
theorem Ex.Sub.size {s e:Ex}(h:Ex.Sub s e):s.size<=e.size:=by
 induction h with
 |self=>exact Ak _
 |kid he _ ih=>
  rw[Ex.size]
  have:=Ju he
  omega
theorem jE {h:Hd}{ks:List Ex}(hg:(Ex.mk h ks).All F4){e:Ex}(he:e∈ks):e.need<=(Ex.mk h ks).need:=by
 rw[Ex.All] at hg
 cases Gn hg.1 with
 |leaf h1 h3 ok=>cases he
 |pre n hn ho=>
  rw[(Jd hn ho _).2.2,List.mem_singleton.1 he,D8]
  omega
 |mid hi=>
  rw[(Jb hi _ _).2.2]
  rcases List.mem_cons.1 he with rfl|he
  ·have:=D8 (E9 (Az h.op)) e
   omega
  ·rw[List.mem_singleton.1 he]
   have:=D8 (Az h.op+1)
   simp only[this]
   omega
 |call hc q1 q2=>
  rw[(G7 hc _).2.2]
  have:=cU (List.mem_map_of_mem (f:=Ex.need) he)
  omega
theorem Ex.Sub.need {s e:Ex}(h:Ex.Sub s e)(ha:e.All F4):s.need<=e.need:=by
 induction h with
 |self=>exact Ak _
 |kid he _ ih=>exact Al (ih (I4 ha.2 _ he)) (jE ha he)
def InT (t u:List UInt8):Prop:=∃A B,u=A++(t++B)
theorem InT.refl (t:List UInt8):InT t t:=⟨[],[],by simp⟩
theorem InT.left {t u:List UInt8}(h:InT t u)(r:List UInt8):InT t (u++r):=by
 obtain⟨A,B,rfl⟩:=h
 exact⟨A,B++r,by simp⟩
theorem InT.right {t u:List UInt8}(h:InT t u)(r:List UInt8):InT t (r++u):=by
 obtain⟨A,B,rfl⟩:=h
 exact⟨r++A,B,by simp⟩
theorem InT.cons {t u:List UInt8}(h:InT t u)(c:UInt8):InT t (c::u):=h.right [c]
theorem InT.par {t u:List UInt8}(h:InT t u):InT t (Ms u):=(h.left [41]).cons 40
theorem InT.at {t:List UInt8}{e:Ex}(h:InT t e.text)(n:Nat):InT t (Ev n e):=by
 unfold Ev
 split
 ·exact h.par
 ·exact h
theorem InT.args {t:List UInt8}{e:Ex}(h:InT t e.text):∀{l:List Ex},e∈l->InT t (Gc [44,32] (l.map Ex.text))
 |[],he=>by cases he
 |[x],he=>by rw[List.mem_singleton.1 he] at h;exact h
 |x::y::l,he=>by
  show InT t (x.text++([44,32]++Gc [44,32] ((y::l).map Ex.text)))
  rcases List.mem_cons.1 he with rfl|he
  ·exact h.left _
  ·exact((InT.args h he).right _).right _
theorem jI {h:Hd}{ks:List Ex}(hg:(Ex.mk h ks).All F4){e:Ex}(he:e∈ks){t:List UInt8}(ht:InT t e.text):InT t (Ex.mk h ks).text:=by
 rw[Ex.All] at hg
 cases Gn hg.1 with
 |leaf h1 h3 ok=>cases he
 |pre n hn ho=>
  rw[(Jd hn ho _).1]
  rw[List.mem_singleton.1 he] at ht
  exact(ht.at n).right _
 |mid hi=>
  rw[(Jb hi _ _).1]
  rcases List.mem_cons.1 he with rfl|he
  ·exact(ht.at _).left _
  ·rw[List.mem_singleton.1 he] at ht
   exact((((ht.at _).cons 32).right _).cons 32).right _
 |call hc q1 q2=>
  rw[(G7 hc _).1]
  exact((ht.args he).par).right _
theorem Ex.Sub.text {s e:Ex}(h:Ex.Sub s e)(ha:e.All F4):InT s.text e.text:=by
 induction h with
 |self=>exact .refl _
 |kid he _ ih=>exact jI ha he (ih (I4 ha.2 _ he))
theorem U7 {a:Ex}(hg:a.All F4)(h12:a.need<=12)(h60:a.size<=60):∃a',Bn a.text= .ok a'/\a'.bare=a.bare:=by
 exact zym
theorem aM {a:Ex}(hg:a.All F4)(h12:a.need<=12)(h60:a.size<=60):Ll ((a.flat 0).map Nd.z)=some a.text:=by
 obtain⟨a',h1,h2⟩:=U7 hg h12 h60
 unfold Ll
 rw[if_neg (by rw[List.length_map,Ex.flat_len];omega),Ph hg h60,h1]
 simp only
 rw[if_pos (Nn h2.symm)]
theorem hH {l:List UInt8}{a s:Ex}(h:Bn l= .ok a)(hs:Ex.Sub s a):Ll ((s.flat 0).map Nd.z)=some s.text/\InT s.text a.text/\s.text≠[]:=by
 have hg:=Ei h
 obtain⟨_,_,_,h60⟩:=Dx h
 have hgs:=hs.all hg
 have h12:=hs.need hg
 have hsz:=hs.size
 have hn:=(O2 h).1
 refine⟨aM hgs rA rA,hs.text hg,fun e=>?_⟩
 obtain⟨a',h1,_⟩:=U7 hgs rA rA
 rw[e] at h1
 cases h1
end Go.Proofs.YtgfakdobajgnfaaGreatDoor
