import Derived.BigQuiet
import Derived.OrdersIn
import Derived.Test.YtmpfilddeglgbaaGreatDoorQj6
set_option maxRecDepth 100000
set_option maxHeartbeats 16000000
namespace Go.Proofs.YtmpfilddeglgbaaGreatDoor
open Go Go.Lib
def Br (l:List UInt8):Nat:=
 match l.drop (A5 Bb l) with
 |46::c::r=>if Bb c then A5 Bb l+(1+A5 Bb (c::r)) else A5 Bb l
 |_=>A5 Bb l
def Jk (l:List UInt8):Except Int (Wd×Nat):=
 match D2 (l.take (Br l)) with
 | .ok v=> .ok (⟨4,l.take (Br l),v⟩,Br l)
 | .error e=> .error (if e=9 then 9 else 4)
def A7:Bool->List UInt8->Nat
 |_,[]=>0
 |esc,c::r=>if(c==34 && !esc)||!G7 c then 0 else 1+A7 (c==92 && !esc) r
def Pr (l:List UInt8):Except Int (Wd×Nat):=
 if(l.drop (1+A7 false l.tail)).head? =some 34 then
  match D2 (l.take (A7 false l.tail+2)) with
  | .ok v=> .ok (⟨5,l.tail.take (A7 false l.tail),v⟩,A7 false l.tail+2)
  | .error _=> .error 4
 else .error 4
def Ez:List (List UInt8):=[[60,61],[62,61],[60,62],[46,46]]
def Ng:List UInt8:=[40,41,91,93,44,58,61,60,62,43,45,42,47]
def Es (l:List UInt8):Except Int (Wd×Nat):=
 if l.take 2∈Ez then .ok (⟨7,l.take 2,v0⟩,2) else if l.take 1∈Ng.map fun c=>[c] then .ok (⟨7,l.take 1,v0⟩,1) else .error 4
def Cx (w:Wd)(n:Nat):Except Int (Wd×Nat):=if 12<w.t.length then .error 4 else .ok (w,n)
def Dt (l:List UInt8):Bool:=match l with
 |_::c::_=>Dm c
 |_=>false
def Bh (l:List UInt8):Except Int (Wd×Nat):=
 match l with
 |[]=> .error 4
 |c::r=>
  if Dm c then Cx ⟨1,l.take (A5 Cg l),v0⟩ (A5 Cg l)
  else if Bb c then Jk l
  else if c=34 then Pr l
  else if c=63 then(if Dt l then Cx ⟨2,r.take (A5 Cg r),v0⟩ (1+A5 Cg r) else .ok (⟨3,[],v0⟩,1))
  else if c=35/\Dt l=true then Cx ⟨6,r.take (A5 Cg r),(5,0,r.take (A5 Cg r))⟩ (1+A5 Cg r)
  else Es l
def Kh:Nat->List UInt8->Int->Int->Except (Int×Int×Int) (List Tkn)
 |0,_,_,_=> .ok []
 |f+1,l,line,col=>
  match l with
  |[]=> .ok []
  |c::r=>
   if c=10 then Kh f r (line+1) 1
   else if c=59 then Kh f (l.drop (A5 (fun c=>c !=10) l)) line (col+A5 (fun c=>c !=10) l)
   else if c=32 then Kh f r line (col+1)
   else match Bh l with
    | .error e=> .error (line,col,e)
    | .ok (w,n)=>match Kh f (l.drop n) line (col+n) with
      | .error e=> .error e
      | .ok ts=> .ok (⟨w,line,col⟩::ts)
def Ev (l:List UInt8):Except (Int×Int×Int) (List Tkn):=Kh l.length l 1 1
theorem Dg {q:UInt8->Bool}{c:UInt8}{r:List UInt8}(h:q c=true):A5 q (c::r)=1+A5 q r:=by
 unfold A5;rw[List.takeWhile_cons,Ap h,Aa];omega
theorem Lq:∀(b:Bool) (l:List UInt8),A7 b l<=l.length
 |_,[]=>Ak _
 |b,c::r=>by
  unfold A7
  split
  ·omega
  have:=Lq (c==92 && !b) r
  rw[Aa];omega
theorem Lz {c:UInt8}{r:List UInt8}(h:Bb c=true):1<=Br (c::r)/\Br (c::r)<=(c::r).length:=by
 have h1:=Dg (q:=Bb) (r:=r) h;have h2:=Cm Bb (c::r);unfold Br
 split
 ·rename_i d q e
  have h3:=Ar List.length e;rw[List.length_drop] at h3;simp only[Aa] at h3 h2 ⊢;have h4:=Cm Bb (d::q);simp only[Aa] at h4
  split<;>omega
 omega
theorem Eg {l:List UInt8}{w:Wd}{n:Nat}(h:Bh l= .ok (w,n)):1<=n/\n<=l.length:=by
 unfold Bh at h;cases l with
 |nil=>cases h
 |cons c r=>
  simp only at h
  have hsh:∀{w':Wd} {m:Nat},Cx w' m= .ok (w,n)->m=n:=fun{w' m} hh=>by
   unfold Cx at hh
   split at hh
   ·cases hh
   injection hh with hh;exact Ar Prod.snd hh
  by_cases h1:Dm c=true
  ·rw[Ap h1] at h
   have:=hsh h
   have h2:=Dg (q:=Cg) (r:=r) (show Cg c=true by unfold Cg;rw[h1];rfl);have h3:=Cm Cg (c::r);omega
  rw[Ao h1] at h;by_cases h2:Bb c=true
  ·rw[Ap h2] at h;unfold Jk at h
   split at h
   ·injection h with h
    have:=Ar Prod.snd h
    have h3:=Lz (r:=r) h2;simp only at this;omega
   cases h
  rw[Ao h2] at h;by_cases h3:c=34
  ·rw[Ap h3] at h;unfold Pr at h
   split at h
   ·rename_i hq
    split at h
    ·injection h with h
     have:=Ar Prod.snd h
     simp only[List.tail_cons] at this hq
     have h5:(1+A7 false r)<(c::r).length:=by
      rw[List.head?_drop] at hq;exact(List.getElem?_eq_some_iff.1 hq).1
     omega
    cases h
   cases h
  rw[Ao h3] at h;have hr:=Cm Cg r;by_cases h4:c=63
  ·rw[Ap h4] at h
   split at h
   ·have:=hsh h
    rw[Aa];omega
   injection h with h
   have:=Ar Prod.snd h
   simp only at this;rw[Aa];omega
  rw[Ao h4] at h;by_cases h5:c=35/\Dt (c::r)=true
  ·rw[Ap h5] at h
   have:=hsh h
   rw[Aa];omega
  rw[Ao h5] at h;unfold Es at h
  split at h
  ·rename_i hm
   injection h with h
   have:=Ar Prod.snd h
   simp only at this
   have h6:((c::r).take 2).length=2:=by
    have:∀x∈Ez,x.length=2:=by decide
    exact this _ hm
   rw[List.length_take] at h6;omega
  split at h
  ·injection h with h
   have:=Ar Prod.snd h
   simp only at this;rw[Aa];omega
  cases h
open Go Go.Lib
theorem Ld {q:UInt8->Bool}:∀(a r:List UInt8),(∀c∈a,q c=true)->(∀c,r.head? =some c->q c=false)->A5 q (a++r)=a.length
 |[],r,_,hr=>by
  cases r with
  |nil=>rfl
  |cons c r=>
   have:=hr c rfl
   unfold A5;rw[List.nil_append,List.takeWhile_cons,Ao (by simp [this])]
 |c::a,r,ha,hr=>by
  rw[List.cons_append,Dg (ha c Ai),Ld a r (fun d hd=>ha d (Aj _ hd)) hr,Aa];omega
theorem Fd {q:UInt8->Bool}:∀(l:List UInt8),∀c∈l.take (A5 q l),q c=true
 |[],c,h=>by simp at h
 |d::l,c,h=>by
  by_cases hd:q d=true
  ·rw[Dg hd,Nat.add_comm,List.take_succ_cons,List.mem_cons] at h;rcases h with rfl|h
   ·exact hd
   exact Fd l c h
  have:A5 q (d::l)=0:=by
   unfold A5;rw[List.takeWhile_cons,Ao hd];rfl
  rw[this] at h;simp at h
theorem Ly {q:UInt8->Bool}(l r:List UInt8)(hr:∀c,r.head? =some c->q c=false):A5 q (l.take (A5 q l)++r)=A5 q l:=by
 rw[Ld _ _ (Fd l) hr,List.length_take]
 have:=Cm q l
 omega
theorem O4 {q:UInt8->Bool}:∀(l:List UInt8) (m:Nat),A5 q l<=m->A5 q (l.take m)=A5 q l
 |[],m,_=>by simp
 |d::l,m,h=>by
  by_cases hd:q d=true
  ·rw[Dg hd] at h ⊢;cases m with
   |zero=>omega
   |succ m=>
    rw[List.take_succ_cons,Dg hd,O4 l m tE]
  have e:∀r,A5 q (d::r)=0:=fun r=>by
   unfold A5;rw[List.takeWhile_cons,Ao hd];rfl
  rw[e];cases m with
  |zero=>rfl
  |succ m=>rw[List.take_succ_cons,e]
theorem En {q:UInt8->Bool}:∀(l r:List UInt8),(∀c,r.head? =some c->q c=false)->A5 q (l++r)=A5 q l
 |[],r,hr=>Ld [] r tH hr
 |d::l,r,hr=>by
  by_cases hd:q d=true
  ·rw[List.cons_append,Dg hd,Dg hd,En l r hr]
  have e:∀r,A5 q (d::r)=0:=fun r=>by
   unfold A5;rw[List.takeWhile_cons,Ao hd];rfl
  rw[List.cons_append,e,e]
theorem Ik {l r:List UInt8}{n:Nat}(h:n<=l.length):(l++r).take n=l.take n:=List.take_append_of_le_length h
theorem Mp:∀(b:Bool) (l r:List UInt8),A7 b (l++10::r)=A7 b l
 |b,[],r=>by
  rw[List.nil_append];unfold A7;rw[Ap (by simp [G7])]
 |b,c::l,r=>by
  rw[List.cons_append];unfold A7
  split
  ·rfl
  rw[Mp]
theorem Ul (l r:List UInt8):Br (l++10::r)=Br l:=by
 have h1:=En (q:=Bb) l (10::r) (by simp [Bb]);have h2:=Cm Bb l;unfold Br;rw[h1,List.drop_append_of_le_length h2];cases hd:l.drop (A5 Bb l) with
 |nil=>rfl
 |cons a l1=>
  cases l1 with
  |nil=>
   rw[List.cons_append,List.nil_append];by_cases ha:a=46
   ·subst ha;simp [Bb]
   split
   ·exact zwy
   split
   ·exact zwy
   rfl
  |cons b l2=>
   rw[List.cons_append,List.cons_append];by_cases ha:a=46
   ·subst ha
    have:=En (q:=Bb) (b::l2) (10::r) (by simp [Bb])
    rw[List.cons_append] at this;simp only[this]
   split
   ·exact zwy
   split
   ·exact zwy
   rfl
theorem aH (l r:List UInt8)(hl:Br l<=l.length):Jk (l++10::r)=Jk l:=by
 unfold Jk;rw[Ul,Ik hl]
theorem Yf (c:UInt8)(l r:List UInt8):Pr ((c::l)++10::r)=Pr (c::l):=by
 have h1:=Mp false l r;have h2:=Lq false l;unfold Pr;rw[List.cons_append,List.tail_cons,List.tail_cons,h1]
 have e1:((c::(l++10::r)).drop (1+A7 false l)).head? =some 34↔((c::l).drop (1+A7 false l)).head? =some 34:=by
  rw[Nat.add_comm,List.drop_succ_cons,List.drop_succ_cons,List.drop_append_of_le_length h2];cases hd:l.drop (A7 false l) with
  |nil=>simp
  |cons d q=>simp
 by_cases hq:((c::l).drop (1+A7 false l)).head? =some 34
 ·rw[Ap (e1.2 hq),Ap hq]
  have h3:A7 false l+2<=(c::l).length:=by
   rw[List.head?_drop] at hq
   have:=(List.getElem?_eq_some_iff.1 hq).1
   omega
  have e2:(c::(l++10::r)).take (A7 false l+2)=(c::l).take (A7 false l+2):=by
   have:=Ik (l:=c::l) (r:=10::r) h3
   rwa [List.cons_append] at this
  rw[e2,Ik h2]
 rw[Ao (fun h=>hq (e1.1 h)),Ao hq]
theorem Xf (c:UInt8)(l r:List UInt8):Es ((c::l)++10::r)=Es (c::l):=by
 unfold Es;have e1:((c::l)++10::r).take 1=(c::l).take 1:=rfl;rw[e1];cases l with
 |cons d l=>rfl
 |nil=>
  have h1:¬([c]++10::r).take 2∈Ez:=by
   show ¬[c,10]∈Ez;unfold Ez;simp
  have h2:¬[c].take 2∈Ez:=by
   show ¬[c]∈Ez;unfold Ez;simp
  rw[Ao h1,Ao h2]
theorem Xj (c:UInt8)(l r:List UInt8):Dt ((c::l)++10::r)=Dt (c::l):=by
 cases l with
 |nil=>simp [Dt,Dm]
 |cons d l=>rfl
theorem P4 (l r:List UInt8)(hl:l≠[]):Bh (l++10::r)=Bh l:=by
 obtain⟨c,q,rfl⟩:=List.exists_cons_of_ne_nil hl;have h1:=En (q:=Cg) (c::q) (10::r) (by simp [Cg,Dm,Bb]);have h2:=En (q:=Cg) q (10::r) (by simp [Cg,Dm,Bb]);have h3:=Ik (l:=c::q) (r:=10::r) (Cm Cg (c::q));have h4:=Ik (l:=q) (r:=10::r) (Cm Cg q);have h5:=Yf c q r;have h6:=Xf c q r;have h7:=Xj c q r;rw[List.cons_append] at h1 h3 h5 h6 h7;have h8:Bb c=true->Jk (c::(q++10::r))=Jk (c::q):=fun h=>aH (c::q) r (Lz h).2
 rw[List.cons_append];unfold Bh;simp only[h1,h2,h3,h4,h5,h6,h7];by_cases hc:Dm c=true
 ·rw[Ap hc,Ap hc]
 rw[Ao hc,Ao hc];by_cases hd:Bb c=true
 ·rw[Ap hd,Ap hd,h8 hd]
 rw[Ao hd,Ao hd]
open Go Go.Lib
def Xe (r:List UInt8):Prop:=∀c,r.head? =some c->c=10\/c=32
theorem Xe.dig {r:List UInt8}(h:Xe r):∀c,r.head? =some c->Bb c=false:=fun c hc=>by
 rcases h c hc with rfl|rfl<;>rfl
theorem Xe.nam {r:List UInt8}(h:Xe r):∀c,r.head? =some c->Cg c=false:=fun c hc=>by
 rcases h c hc with rfl|rfl<;>rfl
theorem B6 (b:Bool)(c:UInt8)(q:List UInt8):A7 b (c::q)=if((c==34 && !b)||!G7 c)=true then 0 else 1+A7 (c==92 && !b) q:=by
 conv=>lhs;unfold A7
theorem Kt:∀(b:Bool) (l r:List UInt8),A7 b l<l.length->A7 b (l.take (A7 b l+1)++r)=A7 b l
 |b,[],r,h=>by simp [A7] at h
 |b,c::q,r,h=>by
  have e:=B6 b c q;by_cases hc:((c==34 && !b)||!G7 c)=true
  ·rw[Ap hc] at e;rw[e,List.take_succ_cons,List.cons_append,B6,Ap hc]
  rw[Ao hc] at e;rw[e] at h ⊢
  rw[show 1+A7 (c==92 && !b) q+1=(A7 (c==92 && !b) q+1)+1 by omega,List.take_succ_cons,List.cons_append,B6,Ao hc,
   Kt _ q r (by rw[Aa] at h;omega)]
theorem mA (A B:List UInt8)(k:Nat):(A++B).take (A.length+k)=A++B.take k:=by
 rw[List.take_append,List.take_of_length_le tE,show A.length+k - A.length=k by omega]
theorem Xz (l r:List UInt8)(hs:Xe r):Br (l.take (Br l)++r)=Br l:=by
 have hle:=Cm Bb l;have hmem:=Fd (q:=Bb) l
 have hplain:Br l=A5 Bb l->Br (l.take (Br l)++r)=Br l:=fun e=>by
  rw[e];have h1:=Ly (q:=Bb) l r hs.dig
  have h2:(l.take (A5 Bb l)++r).drop (A5 Bb l)=r:=by
   rw[List.drop_append_of_le_length uJ,List.drop_of_length_le uJ,List.nil_append]
  unfold Br;rw[h1,h2]
  split
  ·rename_i c q
   have:=hs 46 rfl
   simp at this
  rfl
 cases hd:l.drop (A5 Bb l) with
 |nil=>exact hplain (by unfold Br;rw[hd])
 |cons a l1=>
  cases l1 with
  |nil=>exact hplain (by unfold Br;rw[hd];split<;>first|rfl|simp_all)
  |cons c q=>
   by_cases ha:a=46/\Bb c=true
   ·obtain⟨rfl,hc⟩:=ha
    have hn:Br l=A5 Bb l+(1+A5 Bb (c::q)):=by
     unfold Br;rw[hd];simp [hc]
    have hk:=Dg (q:=Bb) (r:=q) hc;have hkl:=Cm Bb (c::q);have hl:l=l.take (A5 Bb l)++46::c::q:=by rw[←hd,List.take_append_drop]
    have hla:(l.take (A5 Bb l)).length=A5 Bb l:=by rw[List.length_take];omega
    have ht:l.take (Br l)=l.take (A5 Bb l)++46::(c::q).take (A5 Bb (c::q)):=by
     have h0:=mA (l.take (A5 Bb l)) (46::c::q) (1+A5 Bb (c::q));rw[←hl,hla,←hn] at h0;rw[h0,Nat.add_comm 1,List.take_succ_cons]
    have h1:A5 Bb (l.take (Br l)++r)=A5 Bb l:=by
     rw[ht,List.append_assoc,Ld _ _ hmem (by intro d hd;simp at hd;subst hd;rfl),List.length_take];omega
    have h2:(l.take (Br l)++r).drop (A5 Bb l)=46::((c::q).take (A5 Bb (c::q))++r):=by
     rw[ht,List.append_assoc,List.drop_append_of_le_length uJ,List.drop_of_length_le uJ];rfl
    have h3:(c::q).take (A5 Bb (c::q))++r=c::(q.take (A5 Bb q)++r):=by
     rw[hk,Nat.add_comm,List.take_succ_cons];rfl
    have h4:=Ly (q:=Bb) (c::q) r hs.dig;rw[h3] at h2 h4;rw[hn]
    conv=>lhs;unfold Br
    rw[←hn,h1,h2];simp only[hc,if_true,h4];omega
   refine hplain ?_;unfold Br;rw[hd];exact zwt
theorem Gk (c:UInt8)(q:List UInt8):Pr (c::q)=if((c::q).drop (1+A7 false q)).head? =some 34 then
 match D2 ((c::q).take (A7 false q+2)) with
 | .ok v=> .ok (⟨5,q.take (A7 false q),v⟩,A7 false q+2)
 | .error _=> .error 4
 else .error 4:=rfl
theorem Sz {l r:List UInt8}{n:Nat}(h:n<=l.length):(l.take n++r).take n=l.take n:=by
 rw[List.take_append_of_le_length uJ,List.take_take,Nat.min_self]
theorem Jb {w w':Wd}{m n:Nat}(h:Cx w' m= .ok (w,n)):m=n/\w'=w/\Cx w' m= .ok (w',m):=by
 unfold Cx at h ⊢
 split at h
 ·cases h
 rename_i hn
 injection h with h;simp only[Prod.mk.injEq] at h;exact⟨h.2,h.1,by rw[Ao hn]⟩
theorem Rm {l:List UInt8}{w:Wd}{n:Nat}(h:Bh l= .ok (w,n)){r:List UInt8}(hs:Xe r):Bh (l.take n++r)= .ok (w,n):=by
 obtain⟨hn1,hnl⟩:=Eg h;cases l with
 |nil=>cases h
 |cons c q=>
  obtain⟨m,rfl⟩:∃m,n=m+1:=⟨n - 1,by omega⟩;have hql:m<=q.length:=by rw[Aa] at hnl;omega
  have hL:(c::q).take (m+1)++r=c::(q.take m++r):=by rw[List.take_succ_cons];rfl
  have htk:=Sz (l:=c::q) (r:=r) (n:=m+1) hnl;have htq:=Sz (l:=q) (r:=r) (n:=m) hql;rw[hL] at htk ⊢;unfold Bh at h ⊢;simp only at h ⊢;by_cases h1:Dm c=true
  ·rw[Ap h1] at h ⊢;obtain⟨e1,e2,e3⟩:=Jb h;have hsp:=Ly (q:=Cg) (c::q) r hs.nam;rw[e1,hL] at hsp;rw[e1] at e2 e3;rw[hsp,htk,e3,e2]
  rw[Ao h1] at h ⊢;by_cases h2:Bb c=true
  ·rw[Ap h2] at h ⊢;unfold Jk at h ⊢;have hnl2:=Xz (c::q) r hs;cases hp:D2 ((c::q).take (Br (c::q))) with
   |error e=>rw[hp] at h;cases h
   |ok v=>
    rw[hp] at h;injection h with h;simp only[Prod.mk.injEq] at h;obtain⟨e1,e2⟩:=h;rw[e2] at hp e1 hnl2;rw[hL] at hnl2;rw[hnl2,htk,hp];simp only[e1]
  rw[Ao h2] at h ⊢;by_cases h3:c=34
  ·rw[Ap h3] at h ⊢;rw[Gk] at h ⊢;by_cases hq:((c::q).drop (1+A7 false q)).head? =some 34
   ·rw[Ap hq] at h;cases hp:D2 ((c::q).take (A7 false q+2)) with
    |error e=>rw[hp] at h;cases h
    |ok v=>
     rw[hp] at h;injection h with h;simp only[Prod.mk.injEq] at h;obtain⟨e1,e2⟩:=h;have hm:m=A7 false q+1:=by omega
     have hlt:A7 false q<q.length:=by omega
     have hag:=Kt false q r hlt;rw[←hm] at hag
     have hdr:((c::(q.take m++r)).drop (1+A7 false q)).head? =some 34:=by
      rw[Nat.add_comm,List.drop_succ_cons] at hq ⊢;rw[List.head?_drop] at hq ⊢;rw[List.getElem?_append_left uJ,List.getElem?_take_of_lt tE];exact hq
     have htt:(q.take m++r).take (A7 false q)=q.take (A7 false q):=by
      rw[List.take_append_of_le_length uJ,List.take_take,Nat.min_eq_left tE]
     rw[hag,Ap hdr,show A7 false q+2=m+1 by omega,htk,show m+1=A7 false q+2 by omega,hp];simp only[htt,e1]
   rw[Ao hq] at h;cases h
  rw[Ao h3] at h ⊢
  have hmk:Dt (c::q)=true->∀m',m'=A5 Cg q->Dt (c::(q.take m'++r))=true:=fun hm m' e=>by
   cases q with
   |nil=>cases hm
   |cons d q=>
    have hd:Cg d=true:=by unfold Cg;rw[show Dm d=true from hm];rfl
    rw[e,Dg hd,Nat.add_comm,List.take_succ_cons];exact hm
  have hmn:Dt (c::r)=false:=by
   cases r with
   |nil=>rfl
   |cons d r=>
    rcases hs d rfl with rfl|rfl<;>rfl
  have hspq:=Ly (q:=Cg) q r hs.nam;by_cases h4:c=63
  ·rw[Ap h4] at h ⊢;by_cases hb:Dt (c::q)=true
   ·rw[Ap hb] at h;obtain⟨e1,e2,e3⟩:=Jb h;have hm:A5 Cg q=m:=by omega
    rw[Ap (hmk hb m hm.symm)];rw[hm] at hspq e2 e3;rw[hspq,htq,e3,e2,Nat.add_comm]
   rw[Ao hb] at h;injection h with h;simp only[Prod.mk.injEq] at h;obtain⟨e1,e2⟩:=h;have hm:m=0:=by omega
   subst hm;rw[List.take_zero,List.nil_append,Ao (by rw[hmn];simp),e1]
  rw[Ao h4] at h ⊢;by_cases h5:c=35/\Dt (c::q)=true
  ·rw[Ap h5] at h;obtain⟨e1,e2,e3⟩:=Jb h;have hm:A5 Cg q=m:=by omega
   rw[Ap ⟨h5.1,hmk h5.2 m hm.symm⟩];rw[hm] at hspq e2 e3;rw[hspq,htq,e3,e2,Nat.add_comm]
  rw[Ao h5] at h;unfold Es at h;by_cases h6:(c::q).take 2∈Ez
  ·rw[Ap h6] at h;injection h with h;simp only[Prod.mk.injEq] at h;obtain⟨e1,e2⟩:=h;have hm:m=1:=by omega
   subst hm
   have hc:c≠35:=by
    rintro rfl;cases q with
    |nil=>revert h6;decide
    |cons d q=>
     have:[(35:UInt8),d]∈Ez:=h6
     unfold Ez at this;simp at this
   rw[Ao (fun hh=>hc hh.1)];unfold Es;rw[htk,Ap h6,e1]
  rw[Ao h6] at h
  split at h
  ·rename_i h7
   injection h with h;simp only[Prod.mk.injEq] at h;obtain⟨e1,e2⟩:=h;have hm:m=0:=by omega
   subst hm
   have h8:¬(c::(q.take 0++r)).take 2∈Ez:=by
    rw[List.take_zero,List.nil_append];cases r with
    |nil=>show ¬[c]∈Ez;unfold Ez;simp
    |cons d r=>
     show ¬[c,d]∈Ez;unfold Ez;rcases hs d rfl with rfl|rfl<;>simp
   rw[Ao (fun hh=>by rw[List.take_zero,List.nil_append,hmn] at hh;cases hh.2)];unfold Es;rw[Ao h8];have h9:(c::(q.take 0++r)).take 1=(c::q).take 1:=rfl;rw[h9,Ap h7,e1]
  cases h
open Go Go.Lib
theorem Pb:∀(b:Bool) (l:List UInt8) (m:Nat),A7 b l<m->A7 b (l.take m)=A7 b l
 |b,[],m,_=>by simp
 |b,c::q,m,h=>by
  obtain⟨m,rfl⟩:∃k,m=k+1:=⟨m - 1,by omega⟩;rw[List.take_succ_cons,B6,B6];rw[B6] at h;by_cases hc:((c==34 && !b)||!G7 c)=true
  ·rw[Ap hc,Ap hc]
  rw[Ao hc] at h;rw[Ao hc,Ao hc,Pb _ q m tE]
def Cj (n:Nat)(x:List UInt8):Nat:=match x with
 |46::c::r=>if Bb c then n+(1+A5 Bb (c::r)) else n
 |_=>n
theorem Fz (l:List UInt8):Br l=Cj (A5 Bb l) (l.drop (A5 Bb l)):=rfl
theorem bM (n:Nat)(x:List UInt8):n<=Cj n x:=by
 unfold Cj
 split
 ·split<;>omega
 omega
theorem Xs (n m:Nat)(x:List UInt8)(h:Cj n x<=n+m):Cj n (x.take m)=Cj n x:=by
 match x with
 |[]=>simp
 |[a]=>
  have e:Cj n [a]=n:=by unfold Cj;split<;>simp_all
  cases m with
  |zero=>rw[e];rfl
  |succ m=>simp
 |a::c::q=>
  by_cases ha:a=46/\Bb c=true
  ·obtain⟨rfl,hc⟩:=ha;have e:∀y,Cj n (46::c::y)=n+(1+A5 Bb (c::y)):=fun y=>by unfold Cj;simp [hc]
   rw[e] at h;have hk:=Dg (q:=Bb) (r:=q) hc;obtain⟨k,rfl⟩:∃k,m=k+2:=⟨m - 2,by omega⟩;have h3:=O4 (q:=Bb) (c::q) (k+1) tE;rw[List.take_succ_cons] at h3;rw[List.take_succ_cons,List.take_succ_cons,e,e,h3]
  have e1:∀y,Cj n (a::c::y)=n:=fun y=>by
   unfold Cj;exact zwt
  rw[e1]
  match m with
  |0=>rfl
  |1=>
   show Cj n [a]=n;unfold Cj
   split<;>simp_all
  |m+2=>rw[List.take_succ_cons,List.take_succ_cons,e1]
theorem Zy (l:List UInt8)(m:Nat)(h:Br l<=m):Br (l.take m)=Br l:=by
 have hsp:=bM (A5 Bb l) (l.drop (A5 Bb l));rw[←Fz] at hsp;rw[Fz,O4 (q:=Bb) l m tE,List.drop_take,Xs _ _ _ (by rw[←Fz];omega),←Fz]
open Go Go.Lib
theorem Fv {q:UInt8->Bool}{c:UInt8}{r:List UInt8}(h:q c=true):1<=A5 q (c::r):=by
 rw[Dg h];omega
theorem Hk:∀(f g:Nat) (l:List UInt8) (a b:Int),l.length<=f->l.length<=g->Kh f l a b=Kh g l a b
 |0,g,l,a,b,hf,_=>by
  obtain rfl:l=[]:=List.eq_nil_of_length_eq_zero tE;cases g with
  |zero=>rfl
  |succ g=>rfl
 |f+1,g,l,a,b,hf,hg=>by
  cases l with
  |nil=>cases g<;>rfl
  |cons c r=>
   obtain⟨g,rfl⟩:∃k,g=k+1:=⟨g - 1,by rw[Aa] at hg;omega⟩;rw[Aa] at hf hg;unfold Kh;simp only;rw[Hk f g r (a+1) 1 tE tE,Hk f g r a (b+1) tE tE];by_cases h1:c=10
   ·rw[Ap h1,Ap h1]
   rw[Ao h1,Ao h1];by_cases h2:c=59
   ·rw[Ap h2,Ap h2]
    have:=Fv (q:=fun c=>c !=10) (c:=c) (r:=r) vY
    exact Hk f g _ _ _ uQ uQ
   rw[Ao h2,Ao h2];by_cases h3:c=32
   ·rw[Ap h3,Ap h3]
   rw[Ao h3,Ao h3];cases hw:Bh (c::r) with
   |error e=>rfl
   |ok p=>
    obtain⟨w,n⟩:=p;obtain⟨h4,_⟩:=Eg hw;simp only;rw[Hk f g ((c::r).drop n) a (b+n) uQ uQ]
open Go Go.Lib
theorem Mw:∀(b:Bool) (l:List UInt8),∀c∈l.take (A7 b l),G7 c=true
 |b,[],c,h=>by simp at h
 |b,d::q,c,h=>by
  rw[B6] at h;by_cases hc:((d==34 && !b)||!G7 d)=true
  ·rw[Ap hc] at h;simp at h
  rw[Ao hc,Nat.add_comm,List.take_succ_cons,List.mem_cons] at h;rcases h with rfl|h
  ·simp only[Bool.or_eq_true,not_or,Bool.not_eq_true,Bool.not_eq_false'] at hc;exact hc.2
  exact Mw _ q c h
theorem Zp (n:Nat)(x:List UInt8):∃k,Cj n x=n+k/\∀c∈x.take k,Bb c=true\/c=46:=by
 unfold Cj
 split
 ·rename_i c r
  split
  ·refine⟨1+A5 Bb (c::r),rfl,fun d hd=>?_⟩;rw[Nat.add_comm,List.take_succ_cons,List.mem_cons] at hd;rcases hd with rfl|hd
   ·exact .inr rfl
   exact .inl (Fd _ d hd)
  exact⟨0,rfl,by simp⟩
 exact⟨0,rfl,by simp⟩
theorem cP (l:List UInt8):∀c∈l.take (Br l),Bb c=true\/c=46:=by
 intro c hc;obtain⟨k,h1,h2⟩:=Zp (A5 Bb l) (l.drop (A5 Bb l));rw[Fz,h1,List.take_add,List.mem_append] at hc;rcases hc with hc|hc
 ·exact .inl (Fd _ c hc)
 exact h2 c hc
theorem Tz {c:UInt8}(h:Cg c=true):c≠10:=by rintro rfl;cases h
theorem nK {c:UInt8}(h:G7 c=true):c≠10:=by rintro rfl;cases h
theorem mO {c:UInt8}(h:Bb c=true\/c=46):c≠10:=by
 rintro rfl;rcases h with h|h
 ·cases h
 cases h
def F3 (w:Wd):List UInt8:=
 if w.k=2\/w.k=3 then 63::w.t else if w.k=5 then 34::(w.t++[34]) else if w.k=6 then 35::w.t else w.t
theorem Rj {q:List UInt8}{k:Nat}(h:(q.drop k).head? =some 34):q.take (k+1)=q.take k++[34]:=by
 rw[List.head?_drop] at h;rw[List.take_add_one,h];rfl
theorem Rw {l:List UInt8}{w:Wd}{n:Nat}(h:Bh l= .ok (w,n)):F3 w=l.take n/\∀c∈l.take n,c≠10:=by
 unfold Bh at h;cases l with
 |nil=>cases h
 |cons c r=>
  simp only at h;by_cases h1:Dm c=true
  ·rw[Ap h1] at h;obtain⟨e1,e2,_⟩:=Jb h;subst e1 e2;exact⟨rfl,fun d hd=>Tz (Fd _ d hd)⟩
  rw[Ao h1] at h;by_cases h2:Bb c=true
  ·rw[Ap h2] at h;unfold Jk at h;cases hp:D2 ((c::r).take (Br (c::r))) with
   |error e=>rw[hp] at h;cases h
   |ok v=>
    rw[hp] at h;injection h with h;simp only[Prod.mk.injEq] at h;obtain⟨e1,e2⟩:=h;subst e1 e2;exact⟨rfl,fun d hd=>mO (cP _ d hd)⟩
  rw[Ao h2] at h;by_cases h3:c=34
  ·rw[Ap h3,Gk] at h;by_cases hq:((c::r).drop (1+A7 false r)).head? =some 34
   ·rw[Ap hq] at h;cases hp:D2 ((c::r).take (A7 false r+2)) with
    |error e=>rw[hp] at h;cases h
    |ok v=>
     rw[hp] at h;injection h with h;simp only[Prod.mk.injEq] at h;obtain⟨e1,e2⟩:=h;subst e1 e2 h3;rw[Nat.add_comm,List.drop_succ_cons] at hq;have ht:=Rj hq;rw[List.take_succ_cons,ht];refine⟨rfl,fun d hd=>?_⟩;rw[List.mem_cons,List.mem_append] at hd;rcases hd with rfl|hd|hd
     ·decide
     ·exact nK (Mw _ _ d hd)
     rw[List.mem_singleton] at hd;subst hd;decide
   rw[Ao hq] at h;cases h
  rw[Ao h3] at h;by_cases h4:c=63
  ·rw[Ap h4] at h;by_cases hm:Dt (c::r)=true
   ·rw[Ap hm] at h;obtain⟨e1,e2,_⟩:=Jb h;subst e1 e2 h4;exact zw0
   rw[Ao hm] at h;injection h with h;simp only[Prod.mk.injEq] at h;obtain⟨e1,e2⟩:=h;subst e1 e2 h4;refine⟨rfl,fun d hd=>?_⟩;simp only[List.take_succ_cons,List.take_zero,List.mem_singleton] at hd;subst hd;decide
  rw[Ao h4] at h;by_cases h5:c=35/\Dt (c::r)=true
  ·rw[Ap h5] at h;obtain⟨e1,e2,_⟩:=Jb h;subst e1 e2;obtain⟨rfl,_⟩:=h5;exact zw0
  rw[Ao h5] at h;unfold Es at h;by_cases h6:(c::r).take 2∈Ez
  ·rw[Ap h6] at h;injection h with h;simp only[Prod.mk.injEq] at h;obtain⟨e1,e2⟩:=h;subst e1 e2;exact⟨rfl,(show ∀x∈Ez,∀d∈x,d≠10 by decide) _ h6⟩
  rw[Ao h6] at h;by_cases h7:(c::r).take 1∈Ng.map fun c=>[c]
  ·rw[Ap h7] at h;injection h with h;simp only[Prod.mk.injEq] at h;obtain⟨e1,e2⟩:=h;subst e1 e2;exact⟨rfl,(show ∀x∈Ng.map (fun c=>[c]),∀d∈x,d≠10 by decide) _ h7⟩
  rw[Ao h7] at h;cases h
theorem Qt {l:List UInt8}{e:Int}(h:Bh l= .error e):e=4\/e=9:=by
 have hsh:∀{w':Wd} {m:Nat},Cx w' m= .error e->e=4:=fun{w' m} hh=>by
  unfold Cx at hh
  split at hh
  ·injection hh with hh;exact hh.symm
  cases hh
 unfold Bh at h;cases l with
 |nil=>injection h with h;exact .inl h.symm
 |cons c r=>
  simp only at h
  split at h
  ·exact .inl (hsh h)
  split at h
  ·unfold Jk at h
   split at h
   ·cases h
   injection h with h;rw[←h]
   split
   ·exact .inr rfl
   exact .inl rfl
  split at h
  ·unfold Pr at h
   split at h
   ·split at h
    ·cases h
    injection h with h;exact .inl h.symm
   injection h with h;exact .inl h.symm
  split at h
  ·split at h
   ·exact .inl (hsh h)
   cases h
  split at h
  ·exact .inl (hsh h)
  unfold Es at h
  split at h
  ·cases h
  split at h
  ·cases h
  injection h with h;exact .inl h.symm
open Go Go.Lib
def LX (l:List UInt8)(a b:Int):Except (Int×Int×Int) (List Tkn):=Kh l.length l a b
theorem Ns (l:List UInt8):Ev l=LX l 1 1:=rfl
def G5 (t:Tkn):Except (Int×Int×Int) (List Tkn)->Except (Int×Int×Int) (List Tkn)
 | .error e=> .error e
 | .ok ts=> .ok (t::ts)
theorem Iy (a b:Int):LX [] a b= .ok []:=rfl
theorem Kl (r:List UInt8)(a b:Int):LX (10::r) a b=LX r (a+1) 1:=rfl
theorem E8 (r:List UInt8)(a b:Int):LX (32::r) a b=LX r a (b+1):=rfl
def Eo (c:UInt8):Bool:=c !=10
theorem L6 (r:List UInt8)(a b:Int):LX (59::r) a b=LX ((59::r).drop (A5 Eo (59::r))) a (b+A5 Eo (59::r)):=by
 have hp:=Fv (q:=Eo) (c:=59) (r:=r) tG;have e:LX (59::r) a b=Kh r.length ((59::r).drop (A5 Eo (59::r))) a (b+A5 Eo (59::r)):=rfl;rw[e];exact Hk _ _ _ _ _ uQ (Ak _)
def Ja (c:UInt8):Prop:=c≠10/\c≠59/\c≠32
theorem L7 {c:UInt8}{r:List UInt8}(hc:Ja c){e:Int}(h:Bh (c::r)= .error e)(a b:Int):LX (c::r) a b= .error (a,b,e):=by
 unfold LX;rw[Aa];unfold Kh;simp only;rw[Ao hc.1,Ao hc.2.1,Ao hc.2.2,h]
theorem Dl {c:UInt8}{r:List UInt8}(hc:Ja c){w:Wd}{n:Nat}(h:Bh (c::r)= .ok (w,n))(a b:Int):LX (c::r) a b=G5 ⟨w,a,b⟩ (LX ((c::r).drop n) a (b+n)):=by
 obtain⟨hn,_⟩:=Eg h;have e:LX ((c::r).drop n) a (b+n)=Kh r.length ((c::r).drop n) a (b+n):=Hk _ _ _ _ _ (Ak _) uQ;rw[e];unfold LX;rw[Aa]
 conv=>lhs;unfold Kh
 simp only;rw[Ao hc.1,Ao hc.2.1,Ao hc.2.2,h];simp only;cases Kh r.length ((c::r).drop n) a (b+n)<;>rfl
theorem Jh {P:List UInt8->Prop}(l:List UInt8)(h0:l=[]->P l)(h1:∀r,l=10::r->P l)(h2:∀r,l=32::r->P l)(h3:∀r,l=59::r->P l)
 (h4:∀c r e,l=c::r->Ja c->Bh l= .error e->P l) (h5:∀c r w n,l=c::r->Ja c->Bh l= .ok (w,n)->P l):P l:=by
 cases l with
 |nil=>exact h0 rfl
 |cons c r=>
  by_cases e1:c=10
  ·subst e1;exact h1 r rfl
  by_cases e2:c=32
  ·subst e2;exact h2 r rfl
  by_cases e3:c=59
  ·subst e3;exact h3 r rfl
  cases hw:Bh (c::r) with
  |error e=>exact h4 c r e rfl ⟨e1,e3,e2⟩ hw
  |ok p=>obtain⟨w,n⟩:=p;exact h5 c r w n rfl ⟨e1,e3,e2⟩ hw
def Tkn.down (d:Int)(t:Tkn):Tkn:=⟨t.w,t.line+d,t.col⟩
def F0 (x:Except (Int×Int×Int) (List Tkn))(y:Except (Int×Int×Int) (List Tkn)):Except (Int×Int×Int) (List Tkn):=
 match x with
 | .error e=> .error e
 | .ok ts=>match y with
   | .error e=> .error e
   | .ok us=> .ok (ts++us)
theorem bD (t:Tkn)(x y:Except (Int×Int×Int) (List Tkn)):F0 (G5 t x) y=G5 t (F0 x y):=by cases x<;>cases y<;>rfl
theorem Sw {l:List UInt8}{n:Nat}(h:∀c∈l.take n,c≠10):(l.drop n).count 10=l.count 10:=by
 conv=>rhs;rw[←List.take_append_drop n l,List.count_append]
 rw[List.count_eq_zero.2 fun hm=>h 10 hm rfl,Nat.zero_add]
theorem mH {l:List UInt8}:∀c∈l.take (A5 Eo l),c≠10:=fun c hc=>by
 have:=Fd (q:=Eo) l c hc
 unfold Eo at this;simpa using this
theorem P6 (r:List UInt8):∀(k:Nat) (l:List UInt8) (a b:Int),l.length<=k->LX (l++10::r) a b=F0 (LX l a b) (LX r (a+(l.count 10:Nat)+1) 1)
 |k,l,a,b,hk=>by
  refine Jh (P:=fun l=>l.length<=k->LX (l++10::r) a b=F0 (LX l a b) (LX r (a+(l.count 10:Nat)+1) 1)) l ?_ ?_ ?_ ?_ ?_ ?_ hk
  ·rintro rfl _;rw[List.nil_append,Kl,Iy,List.count_nil,show a+((0:Nat):Int)+1=a+1 by omega];cases LX r (a+1) 1<;>rfl
  ·rintro q rfl hk;obtain⟨k,rfl⟩:∃j,k=j+1:=⟨k - 1,by rw[Aa] at hk;omega⟩;rw[List.cons_append,Kl,Kl,P6 r k q (a+1) 1 uE,List.count_cons_self];rw[show a+1+((q.count 10:Nat):Int)+1=a+((q.count 10+1:Nat):Int)+1 by omega]
  ·rintro q rfl hk;obtain⟨k,rfl⟩:∃j,k=j+1:=⟨k - 1,by rw[Aa] at hk;omega⟩;rw[List.cons_append,E8,E8,P6 r k q a (b+1) uE,List.count_cons_of_ne tG]
  ·rintro q rfl hk;obtain⟨k,rfl⟩:∃j,k=j+1:=⟨k - 1,by rw[Aa] at hk;omega⟩;have hp:=Fv (q:=Eo) (c:=59) (r:=q) tG;have hle:=Cm Eo (59::q);have hb:=En (q:=Eo) (59::q) (10::r) (by simp [Eo]);rw[List.cons_append] at hb ⊢;rw[L6,hb,L6,←List.cons_append,List.drop_append_of_le_length hle,P6 r k _ a _ tX,Sw mH]
  ·rintro c q e rfl hc hw hk;have hb:=P4 (c::q) r tH;rw[hw] at hb;rw[L7 hc hw];rw[List.cons_append] at hb ⊢;rw[L7 hc hb];rfl
  rintro c q w n rfl hc hw hk;obtain⟨k,rfl⟩:∃j,k=j+1:=⟨k - 1,by rw[Aa] at hk;omega⟩;obtain⟨hn,hnl⟩:=Eg hw;obtain⟨_,h10⟩:=Rw hw;have hb:=P4 (c::q) r tH;rw[hw] at hb;rw[Dl hc hw,bD,←Sw h10,←P6 r k _ a _ tX,←List.drop_append_of_le_length hnl];rw[List.cons_append] at hb ⊢;rw[Dl hc hb]
theorem Y4 {t:Tkn}{x:Except (Int×Int×Int) (List Tkn)}{ts:List Tkn}(h:G5 t x= .ok ts):∃us,x= .ok us/\ts=t::us:=by
 cases x with
 |error e=>cases h
 |ok us=>injection h with h;exact⟨us,rfl,h.symm⟩
def sP (a b c d:Int):Prop:=a<c\/a=c/\b<d
def sJ (a b c d:Int):Prop:=a<c\/a=c/\b<=d
theorem Lx:∀(k:Nat) (l:List UInt8) (a b:Int),l.length<=k->1<=b->
 (∀x y e,LX l a b= .error (x,y,e)->a<=x/\1<=y/\(e=4\/e=9))/\
 (∀ts,LX l a b= .ok ts->(∀t∈ts,sJ a b t.line t.col)/\ts.Pairwise (fun s t=>sP s.line s.col t.line t.col))
 |k,l,a,b,hk,hb=>by
  refine Jh (P:=fun l=>l.length<=k->(∀x y e,LX l a b= .error (x,y,e)->a<=x/\1<=y/\(e=4\/e=9))/\(∀ts,LX l a b= .ok ts->(∀t∈ts,sJ a b t.line t.col)/\ts.Pairwise (fun s t=>sP s.line s.col t.line t.col))) l ?_ ?_ ?_ ?_ ?_ ?_ hk
  ·rintro rfl _;refine⟨fun x y e h=>?_,fun ts h=>?_⟩
   ·rw[Iy] at h;cases h
   rw[Iy] at h;injection h with h;subst h;exact⟨by simp,List.Pairwise.nil⟩
  ·rintro r rfl hk;obtain⟨k,rfl⟩:∃j,k=j+1:=⟨k - 1,by rw[Aa] at hk;omega⟩;obtain⟨h1,h2⟩:=Lx k r (a+1) 1 uE tE;rw[Kl];refine⟨fun x y e h=>?_,fun ts h=>?_⟩
   ·obtain⟨h3,h4,h5⟩:=h1 x y e h;exact⟨by omega,h4,h5⟩
   obtain⟨h3,h4⟩:=h2 ts h;refine⟨fun t ht=>?_,h4⟩;rcases h3 t ht with h5|⟨h5,h6⟩
   ·exact .inl tE
   exact .inl tE
  ·rintro r rfl hk;obtain⟨k,rfl⟩:∃j,k=j+1:=⟨k - 1,by rw[Aa] at hk;omega⟩;obtain⟨h1,h2⟩:=Lx k r a (b+1) uE tE;rw[E8];exact zw9
  ·rintro r rfl hk;obtain⟨k,rfl⟩:∃j,k=j+1:=⟨k - 1,by rw[Aa] at hk;omega⟩;have hp:=Fv (q:=Eo) (c:=59) (r:=r) tG;rw[L6];obtain⟨h1,h2⟩:=Lx k ((59::r).drop (A5 Eo (59::r))) a (b+A5 Eo (59::r)) tX tE;exact zw9
  ·rintro c r e rfl hc hw hk;rw[L7 hc hw];refine⟨fun x y e' h=>?_,fun ts h=>by cases h⟩;injection h with h;simp only[Prod.mk.injEq] at h;obtain⟨rfl,rfl,rfl⟩:=h;exact⟨Int.le_refl _,hb,Qt hw⟩
  rintro c r w n rfl hc hw hk;obtain⟨k,rfl⟩:∃j,k=j+1:=⟨k - 1,by rw[Aa] at hk;omega⟩;obtain⟨hn,_⟩:=Eg hw;rw[Dl hc hw];obtain⟨h1,h2⟩:=Lx k ((c::r).drop n) a (b+n) tX tE;cases hx:LX ((c::r).drop n) a (b+n) with
  |error q=>
   obtain⟨x',y',e'⟩:=q;refine⟨fun x y e h=>?_,fun ts h=>by cases h⟩;injection h with h;simp only[Prod.mk.injEq] at h;obtain⟨rfl,rfl,rfl⟩:=h;exact h1 _ _ _ hx
  |ok us=>
   refine⟨fun x y e h=>(by cases h),fun ts h=>?_⟩;injection h with h;subst h;obtain⟨h3,h4⟩:=h2 us hx;refine⟨fun t ht=>?_,List.Pairwise.cons (fun t ht=>?_) h4⟩
   ·rw[List.mem_cons] at ht;rcases ht with rfl|ht
    ·exact .inr ⟨rfl,Int.le_refl _⟩
    rcases h3 t ht with h5|⟨h5,h6⟩
    ·exact .inl h5
    exact .inr ⟨h5,by omega⟩
   rcases h3 t ht with h5|⟨h5,h6⟩
   ·exact .inl h5
   exact .inr ⟨h5,by show b<t.col;omega⟩
def dY (w:Wd):Prop:=∃c r n,Ja c/\Bh (c::r)= .ok (w,n)
theorem Ua:∀(k:Nat) (l:List UInt8) (a b:Int) (ts:List Tkn),l.length<=k->LX l a b= .ok ts->∀t∈ts,dY t.w
 |k,l,a,b,ts,hk,h=>by
  refine Jh (P:=fun l=>l.length<=k->LX l a b= .ok ts->∀t∈ts,dY t.w) l ?_ ?_ ?_ ?_ ?_ ?_ hk h
  ·rintro rfl _ h;rw[Iy] at h;injection h with h;subst h;simp
  ·rintro q rfl hk h;obtain⟨k,rfl⟩:∃j,k=j+1:=⟨k - 1,by rw[Aa] at hk;omega⟩;exact Ua k q (a+1) 1 ts uE h
  ·rintro q rfl hk h;obtain⟨k,rfl⟩:∃j,k=j+1:=⟨k - 1,by rw[Aa] at hk;omega⟩;exact Ua k q a (b+1) ts uE h
  ·rintro q rfl hk h;obtain⟨k,rfl⟩:∃j,k=j+1:=⟨k - 1,by rw[Aa] at hk;omega⟩;have hp:=Fv (q:=Eo) (c:=59) (r:=q) tG;rw[L6] at h;exact Ua k _ a _ ts tX h
  ·rintro c q e rfl hc hw hk h;rw[L7 hc hw] at h;cases h
  rintro c q w n rfl hc hw hk h;obtain⟨k,rfl⟩:∃j,k=j+1:=⟨k - 1,by rw[Aa] at hk;omega⟩;obtain⟨hn,_⟩:=Eg hw;rw[Dl hc hw] at h;obtain⟨us,hu,rfl⟩:=Y4 h;intro t ht;rw[List.mem_cons] at ht;rcases ht with rfl|ht
  ·exact⟨c,q,n,hc,hw⟩
  exact Ua k _ a _ us tX hu t ht
def Gl (sep:List UInt8):List (List UInt8)->List UInt8
 |[]=>[]
 |[x]=>x
 |x::y::r=>x++(sep++Gl sep (y::r))
theorem J0:∀(k:Nat) (l:List UInt8) (a b:Int) (ts:List Tkn),l.length<=k->LX l a b= .ok ts->ts.length+(ts.map fun t=>(F3 t.w).length).sum<=2*l.length/\ts.length<=l.length
 |k,l,a,b,ts,hk,h=>by
  refine Jh (P:=fun l=>l.length<=k->LX l a b= .ok ts->ts.length+(ts.map fun t=>(F3 t.w).length).sum<=2*l.length/\ts.length<=l.length) l ?_ ?_ ?_ ?_ ?_ ?_ hk h
  ·rintro rfl _ h;rw[Iy] at h;injection h with h;subst h;simp
  ·rintro q rfl hk h;obtain⟨k,rfl⟩:∃j,k=j+1:=⟨k - 1,by rw[Aa] at hk;omega⟩
   have:=J0 k q (a+1) 1 ts uE h
   rw[Aa];omega
  ·rintro q rfl hk h;obtain⟨k,rfl⟩:∃j,k=j+1:=⟨k - 1,by rw[Aa] at hk;omega⟩
   have:=J0 k q a (b+1) ts uE h
   rw[Aa];omega
  ·rintro q rfl hk h;obtain⟨k,rfl⟩:∃j,k=j+1:=⟨k - 1,by rw[Aa] at hk;omega⟩;have hp:=Fv (q:=Eo) (c:=59) (r:=q) tG;rw[L6] at h
   have:=J0 k _ a _ ts tX h
   rw[List.length_drop] at this;omega
  ·rintro c q e rfl hc hw hk h;rw[L7 hc hw] at h;cases h
  rintro c q w n rfl hc hw hk h;obtain⟨k,rfl⟩:∃j,k=j+1:=⟨k - 1,by rw[Aa] at hk;omega⟩;obtain⟨hn,hnl⟩:=Eg hw;obtain⟨hs,_⟩:=Rw hw;rw[Dl hc hw] at h;obtain⟨us,hu,rfl⟩:=Y4 h
  have:=J0 k _ a _ us tX hu
  rw[List.length_drop] at this;rw[Aa,List.map_cons,List.sum_cons,hs,List.length_take];omega
open Go Go.Lib
inductive Qp (w:Wd):Prop where
 |name (h:w.k=1) (t:I1 w.t=true) (v:w.v=v0)
 |var (h:w.k=2) (t:I1 w.t=true) (v:w.v=v0)
 |self (h:w.k=3) (t:w.t=[]) (v:w.v=v0)
 |num (h:w.k=4) (t:D2 w.t= .ok w.v) (m:∃c r,w.t=c::r/\Bb c=true/\Br w.t=w.t.length)
 |str (h:w.k=5) (t:D2 (34::w.t++[34])= .ok w.v) (m:∀c∈w.t,G7 c=true) (s:A7 false (w.t++[34])=w.t.length)
 |sym (h:w.k=6) (t:I1 w.t=true) (v:w.v=(5,0,w.t))
 |sign (h:w.k=7) (t:w.t∈Ez\/w.t∈Ng.map fun c=>[c]) (v:w.v=v0)
theorem Oi {c:UInt8}{r:List UInt8}(hc:Dm c=true)(h:((c::r).take (A5 Cg (c::r))).length<=12):I1 ((c::r).take (A5 Cg (c::r)))=true:=by
 have hn:Cg c=true:=by unfold Cg;rw[hc];rfl
 rw[Dg hn,Nat.add_comm,List.take_succ_cons] at h ⊢
 show(decide ((r.take (A5 Cg r)).length<12) && Dm c && (r.take (A5 Cg r)).all fun b=>Dm b||Bb b)=true
 rw[hc,Bool.and_true,Bool.and_eq_true,decide_eq_true_eq];exact⟨by rw[Aa] at h;omega,List.all_eq_true.2 (Fd r)⟩
theorem gL {l:List UInt8}{w:Wd}{n:Nat}(h:Bh l= .ok (w,n)):Qp w:=by
 have hsh:∀{w':Wd} {m:Nat},Cx w' m= .ok (w,n)->w'=w/\w'.t.length<=12:=fun{w' m} hh=>by
  unfold Cx at hh
  split at hh
  ·cases hh
  rename_i hl
  injection hh with hh;exact⟨Ar Prod.fst hh,by omega⟩
 unfold Bh at h;cases l with
 |nil=>cases h
 |cons c r=>
  simp only at h;by_cases h1:Dm c=true
  ·rw[Ap h1] at h;obtain⟨rfl,hl⟩:=hsh h;exact .name rfl (Oi h1 hl) rfl
  rw[Ao h1] at h;by_cases h2:Bb c=true
  ·rw[Ap h2] at h;unfold Jk at h;have hp:=Lz (r:=r) h2;cases hv:D2 ((c::r).take (Br (c::r))) with
   |error e=>rw[hv] at h;cases h
   |ok v=>
    rw[hv] at h;injection h with h;injection h with h _;subst h;refine .num rfl hv ⟨c,r.take (Br (c::r) - 1),?_,h2,?_⟩
    ·show(c::r).take _=_
     obtain⟨m,hm⟩:∃m,Br (c::r)=m+1:=⟨Br (c::r) - 1,by omega⟩;rw[hm];rfl
    show Br ((c::r).take _)=((c::r).take _).length;rw[Zy _ _ (Ak _),List.length_take,Nat.min_eq_left hp.2]
  rw[Ao h2] at h;by_cases h3:c=34
  ·rw[Ap h3,Gk] at h;by_cases hq:((c::r).drop (1+A7 false r)).head? =some 34
   ·rw[Ap hq] at h;cases hv:D2 ((c::r).take (A7 false r+2)) with
    |error e=>rw[hv] at h;cases h
    |ok v=>
     rw[hv] at h;injection h with h;injection h with h _;subst h h3;rw[Nat.add_comm,List.drop_succ_cons] at hq;have ht:=Rj hq;rw[List.take_succ_cons,ht] at hv;refine .str rfl hv (Mw false r) ?_;show A7 false (r.take (A7 false r)++[34])=(r.take (A7 false r)).length;rw[←ht,Pb false r _ (Nat.lt_succ_self _),List.length_take,Nat.min_eq_left (Lq false r)]
   rw[Ao hq] at h;cases h
  rw[Ao h3] at h;by_cases h4:c=63
  ·subst h4;rw[Ap rfl] at h;by_cases hm:Dt (63::r)=true
   ·rw[Ap hm] at h;obtain⟨rfl,hl⟩:=hsh h;cases r with
    |nil=>cases hm
    |cons d r=>exact .var rfl (Oi hm hl) rfl
   rw[Ao hm] at h;injection h with h;injection h with h _;subst h;exact .self rfl rfl rfl
  rw[Ao h4] at h;by_cases h5:c=35/\Dt (c::r)=true
  ·rw[Ap h5] at h;obtain⟨rfl,hl⟩:=hsh h;cases r with
   |nil=>cases h5.2
   |cons d r=>exact .sym rfl (Oi h5.2 hl) rfl
  rw[Ao h5] at h;unfold Es at h
  split at h
  ·rename_i h6
   injection h with h;injection h with h _;subst h;exact .sign rfl (.inl h6) rfl
  split at h
  ·rename_i h6
   injection h with h;injection h with h _;subst h;exact .sign rfl (.inr h6) rfl
  cases h
theorem Qg {l:List UInt8}{ts:List Tkn}(h:Ev l= .ok ts):∀t∈ts,Qp t.w:=fun t ht=>by
 obtain⟨c,r,n,_,hw⟩:=Ua _ l 1 1 ts (Ak _) h t ht;exact gL hw
theorem Yg:I1 [40]=false:=by decide
theorem Vx {l:List UInt8}{ts:List Tkn}(h:Ev l= .ok ts):∀t∈ts,t.w.k=1->t.w.t≠[40]:=fun t ht hk e=>by
 cases Qg h t ht with
 |name _ ht' _=>rw[e,Yg] at ht';cases ht'
 |var h _ _=>omega
 |self h _ _=>omega
 |num h _ _=>omega
 |str h _ _ _=>omega
 |sym h _ _=>omega
 |sign h _ _=>omega
theorem Pi:∀(k:Nat) (l:List UInt8) (a b:Int) (ts:List Tkn),l.length<=k->1<=a->1<=b->LX l a b= .ok ts->∀t∈ts,1<=t.line/\t.line<=a+(l.length:Nat)/\1<=t.col/\t.col<=b+(l.length:Nat)
 |k,l,a,b,ts,hk,ha,hb,h=>by
  refine Jh (P:=fun l=>l.length<=k->LX l a b= .ok ts->∀t∈ts,1<=t.line/\t.line<=a+(l.length:Nat)/\1<=t.col/\t.col<=b+(l.length:Nat)) l ?_ ?_ ?_ ?_ ?_ ?_ hk h
  ·rintro rfl _ h;rw[Iy] at h;injection h with h;subst h;intro t ht;cases ht
  ·rintro r rfl hk h t ht;obtain⟨k,rfl⟩:∃j,k=j+1:=⟨k - 1,by rw[Aa] at hk;omega⟩;rw[Kl] at h
   have:=Pi k r (a+1) 1 ts uE tE tG h t ht
   rw[Aa];omega
  ·rintro r rfl hk h t ht;obtain⟨k,rfl⟩:∃j,k=j+1:=⟨k - 1,by rw[Aa] at hk;omega⟩;rw[E8] at h
   have:=Pi k r a (b+1) ts uE ha tE h t ht
   rw[Aa];omega
  ·rintro r rfl hk h t ht;obtain⟨k,rfl⟩:∃j,k=j+1:=⟨k - 1,by rw[Aa] at hk;omega⟩;have hp:=Fv (q:=Eo) (c:=59) (r:=r) tG;have hle:=Cm Eo (59::r);rw[L6] at h
   have:=Pi k _ a _ ts tX ha tE h t ht
   rw[List.length_drop] at this;omega
  ·rintro c r e rfl hc hw hk h;rw[L7 hc hw] at h;cases h
  rintro c r w n rfl hc hw hk h t ht;obtain⟨k,rfl⟩:∃j,k=j+1:=⟨k - 1,by rw[Aa] at hk;omega⟩;obtain⟨hn,hnl⟩:=Eg hw;rw[Dl hc hw] at h;cases hx:LX ((c::r).drop n) a (b+n) with
  |error e=>rw[hx] at h;cases h
  |ok us=>
   rw[hx] at h;injection h with h;subst h;rw[List.mem_cons] at ht;rcases ht with rfl|ht
   ·simp only;omega
   have:=Pi k _ a _ us tX ha tE hx t ht
   rw[List.length_drop] at this;omega
theorem Ln {l:List UInt8}{ts:List Tkn}(h:Ev l= .ok ts):∀t∈ts,1<=t.line/\t.line<=1+(l.length:Nat)/\1<=t.col/\t.col<=1+(l.length:Nat):=
 Pi _ l 1 1 ts (Ak _) tG tG h
theorem eC:∀{l:List Nat} {x:Nat},x∈l->x<=l.sum
 |y::l,x,h=>by
  rw[List.sum_cons];rcases List.mem_cons.1 h with rfl|h
  ·omega
  have:=eC h
  omega
theorem U0 {l:List UInt8}{ts:List Tkn}(h:Ev l= .ok ts):∀t∈ts,t.w.t.length<=2*l.length:=fun t ht=>by
 have h1:=(J0 _ l 1 1 ts (Ak _) h).1;have h2:(F3 t.w).length<=(ts.map fun t=>(F3 t.w).length).sum:=eC (List.mem_map.2 ⟨t,ht,rfl⟩)
 have h3:t.w.t.length<=(F3 t.w).length:=by
  unfold F3
  repeat' split
  all_goals (simp;try omega)
 omega
theorem Nf {x:ExR}{g:Ex->List Tkn->ExR}{p:Int×List Tkn}(h:x.next g= .error p):x= .error p\/∃a q,x= .ok (a,q)/\g a q= .error p:=by
 cases x with
 |error e=>exact .inl h
 |ok y=>exact .inr ⟨y.1,y.2,rfl,h⟩
theorem Zm {a:Ex}{q:List Tkn}{p:Int×List Tkn}(h:Cy a q= .error p):p.1=4:=by
 unfold Cy at h
 split at h
 ·cases h
 injection h with h;rw[←h]
theorem Zr {d:Nat}{r:List Tkn}{g:List Tkn->ExR}{p:Int×List Tkn}(h:B4 d r g= .error p):p.1=4\/p.1=12\/(isH [40] r=true/\d≠12/\g r.tail= .error p):=by
 unfold B4 at h
 split at h
 ·rename_i hp
  split at h
  ·injection h with h;rw[←h];exact .inr (.inl rfl)
  rename_i hd
  exact .inr (.inr ⟨hp,hd,h⟩)
 injection h with h;rw[←h];exact .inl rfl
theorem Zj:∀td d r,td.ok->∀p,exE td d r= .error p->p.1=4\/p.1=12\/p.1=14:=by
 refine Ph (P:=fun td d r=>∀p,exE td d r= .error p->p.1=4\/p.1=12\/p.1=14) ?_ ?_ ?_ ?_ ?_
 ·intro n d r hn h1 h2 p h;rw[show exE (.lvl n) d r=_ from Ec hn] at h;by_cases hp:isH (Ea n) r=true
  ·rw[Ap hp] at h;obtain⟨t,q0,rfl⟩:=Cf hp;by_cases hd:d=12
   ·rw[Ap hd] at h;injection h with h;rw[←h];exact .inr (.inl rfl)
   rw[Ao hd] at h;rcases Nf h with h3|⟨a,q,_,h3⟩
   ·exact h1 t q0 rfl hp hd p h3
   cases h3
  rw[Ao hp] at h;exact h2 wK p h
 ·intro d r h1 h2 p h;rw[show exE (.lvl 7) d r=_ from Bs d r] at h;cases r with
  |nil=>
   injection h with h;rw[←h];exact .inl rfl
  |cons t r=>
   simp only at h;cases hl:B8 t with
   |some x=>rw[hl] at h;cases h
   |none=>
    cases hc:Cu t with
    |some c=>
     rw[hl,hc] at h;rcases Zr h with h3|h3|⟨h3,h4,h5⟩
     ·exact .inl h3
     ·exact .inr (.inl h3)
     obtain⟨t',q',rfl⟩:=Cf h3;exact h1 t t' q' c rfl hl hc h3 h4 p h5
    |none=>
     rw[hl,hc] at h;rcases Zr h with h3|h3|⟨h3,h4,h5⟩
     ·exact .inl h3
     ·exact .inr (.inl h3)
     rcases Nf h5 with h6|⟨a,q,_,h6⟩
     ·exact h2 t r rfl hl hc h3 h4 p h6
     exact .inl (Zm h6)
 ·intro n d r h5 hn2 h1 h2 p h;rw[show exE (.lvl n) d r=_ from D1 h5 hn2] at h;rcases Nf h with h3|⟨a,q,h3,h4⟩
  ·exact h1 p h3
  exact h2 a q h3 p h4
 ·intro n b d r h1 p h;rw[show exE (.row n b) d r=_ from Dp n b d r] at h;by_cases hz:Be r (Bp n)=0
  ·rw[Ap hz] at h;cases h
  rw[Ao hz] at h;obtain⟨t,r',rfl⟩:=Fe hz;obtain⟨h5,hn2⟩:=Li hz;obtain⟨k1,k2⟩:=h1 t r' rfl hz h5 hn2;rcases Nf h with h3|⟨a,q,h3,h4⟩
  ·exact k1 p h3
  by_cases h3n:n=3
  ·rw[Ap h3n] at h4;cases h4
  rw[Ao h3n] at h4;exact k2 a q h3 p h4
 intro c ks d r h1 h2 p h;rw[show exE (.args c ks) d r=_ from Eb c ks d r] at h;rcases Nf h with h3|⟨a,q,h3,h4⟩
 ·exact h1 p h3
 by_cases hm:(isH [44] q && decide (ks.length+1=c.most)||isH [41] q && decide (ks.length+1<c.least))=true
 ·rw[Ap hm] at h4;injection h4 with h4;rw[←h4];exact .inr (.inr rfl)
 rw[Ao hm] at h4;by_cases hcm:isH [44] q=true
 ·rw[Ap hcm] at h4;obtain⟨t',q',rfl⟩:=Cf hcm;exact h2 a t' q' h3 hcm p h4
 rw[Ao hcm] at h4;exact .inl (Zm h4)
def Fi (ts:List Tkn):Int×Int:=match ts.getLast? with
 |none=>(1,1)
 |some t=>(t.line,t.col+t.w.t.length+if t.w.k=2\/t.w.k=3\/t.w.k=6 then 1 else if t.w.k=5 then 2 else 0)
def Mz (ts q:List Tkn):Int×Int:=match q with
 |t::_=>(t.line,t.col)
 |[]=>Fi ts
def Bj (l:List UInt8):Except ((Int×Int)×Int) Ex:=match Ev l with
 | .error (a,b,e)=> .error ((a,b),e)
 | .ok ts=>match A9 0 0 ts with
   | .error (e,q)=> .error (Mz ts q,e)
   | .ok (a,q)=>if 60<a.size then .error (Mz ts ts,7) else if q=[] then .ok a else .error (Mz ts q,4)
open Go Go.RowKit
theorem QH {P:Program}{ops:Array Oper}{md:Region.Mode}{Q:Exit->Act->World->Prop}{S:World->Prop}{v:Value}{fuel:Nat}{listed:Array Bool}{a:Act}{w:World}(i:Nat)(oi:Oper)(hi:ops[i]? =some oi:=by rfl)
 (hs:Region.noSelect ops=true:=by kernel_rfl) (hf:Region.free md ops listed i=true:=by kernel_rfl) (hr:(Region.ready md ops listed).contains i=true:=by kernel_rfl)
 (hQ:∀c a w,Q (.panic c) (a.put oi.dst v) w->Q (.panic c) a w:=by exact fun _ _ _ h=>h) (hw:Region.wanted oi (yielded ops a.tmps)=true:=by rfl)
 (hy:∀w,S w->(execOp a.eval oi).run P w= .ok (.value v) w:=by(intro w hSw;(try dsimp only at hSw);(first|(go_simp;done)|(go_simp;with_reducible rfl)))) (hS:S w:=by assumption)
 (h:wpAnyH P md ops Q S fuel (listed.setIfInBounds i true) (a.put oi.dst v) w):wpAnyH P md ops Q S (fuel+1) listed a w:=
 wpAnyH_take hi hs hf hr hQ (Or.inl ⟨hw,hy⟩) hS h
theorem QS {P:Program}{ops:Array Oper}{md:Region.Mode}{Q:Exit->Act->World->Prop}{S:World->Prop}{fuel:Nat}{listed:Array Bool}{a:Act}{w:World}(i:Nat)(oi:Oper)(hi:ops[i]? =some oi:=by rfl)
 (hs:Region.noSelect ops=true:=by kernel_rfl) (hf:Region.free md ops listed i=true:=by kernel_rfl) (hr:(Region.ready md ops listed).contains i=true:=by kernel_rfl)
 (hQ:∀c a w,Q (.panic c) (a.put oi.dst undef) w->Q (.panic c) a w:=by exact fun _ _ _ h=>h) (hw:Region.wanted oi (yielded ops a.tmps)=false:=by rfl) (hS:S w:=by assumption)
 (h:wpAnyH P md ops Q S fuel (listed.setIfInBounds i true) (a.put oi.dst undef) w):wpAnyH P md ops Q S (fuel+1) listed a w:=
 wpAnyH_take hi hs hf hr hQ (Or.inr ⟨hw,rfl⟩) hS h
theorem QI {F:Fence}{n:Nat}{P:Program}{ops:Array Oper}{md:Region.Mode}{Q:Exit->Act->World->Prop}{oi:Oper}{v:Value}{fuel:Nat}{listed:Array Bool}{a:Act}{w:World}(i:Nat)(hro:F.round=none:=by rfl)(hi:ops[i]? =some oi:=by rfl)
 (hs:Region.noSelect ops=true:=by kernel_rfl) (hf:Region.free md ops listed i=true:=by kernel_rfl) (hr:(Region.ready md ops listed).contains i=true:=by kernel_rfl)
 (hQ:∀c a w,Q (.panic c) (a.put oi.dst v) w->Q (.panic c) a w:=by exact fun _ _ _ h=>h) (hw:Region.wanted oi (yielded ops a.tmps)=true:=by rfl)
 (hy:∀w,(execOp a.eval oi).run P w= .ok (.value v) w:=by(focus ((intro w;go_simp);try (with_reducible rfl)))) (hb:∀w,oi.about P w a.eval=none:=by exact fun _=>rfl)
 (h:wpAnyIn F n P md ops Q fuel (listed.setIfInBounds i true) (a.put oi.dst v) w):wpAnyIn F n P md ops Q (fuel+1) listed a w:=
 Aw hro hi hs hf hr hQ ⟨Or.inl ⟨hw,hy⟩,hb⟩ h
end Go.Proofs.YtmpfilddeglgbaaGreatDoor
