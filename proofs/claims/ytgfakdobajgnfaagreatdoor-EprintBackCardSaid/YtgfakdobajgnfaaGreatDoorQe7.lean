import Derived.Test.YtgfakdobajgnfaaGreatDoorQe6
set_option maxRecDepth 100000
set_option maxHeartbeats 16000000
namespace Go.Proofs.YtgfakdobajgnfaaGreatDoor
open Go Go.Lib
def Bg (l:List UInt8):Nat:=
 match l.drop (Ay A3 l) with
 |46::c::r=>if A3 c then Ay A3 l+(1+Ay A3 (c::r)) else Ay A3 l
 |_=>Ay A3 l
def Ke (l:List UInt8):Except Int (Wd×Nat):=
 match Dy (l.take (Bg l)) with
 | .ok v=> .ok (⟨4,l.take (Bg l),v⟩,Bg l)
 | .error e=> .error (if e=9 then 9 else 4)
def A1:Bool->List UInt8->Nat
 |_,[]=>0
 |esc,c::r=>if(c==34 && !esc)||!Hy c then 0 else 1+A1 (c==92 && !esc) r
def Pr (l:List UInt8):Except Int (Wd×Nat):=
 if(l.drop (1+A1 false l.tail)).head? =some 34 then
  match Dy (l.take (A1 false l.tail+2)) with
  | .ok v=> .ok (⟨5,l.tail.take (A1 false l.tail),v⟩,A1 false l.tail+2)
  | .error _=> .error 4
 else .error 4
def E4:List (List UInt8):=[[60,61],[62,61],[60,62],[46,46]]
def Mc:List UInt8:=[40,41,91,93,44,58,61,60,62,43,45,42,47]
def E8 (l:List UInt8):Except Int (Wd×Nat):=
 if l.take 2∈E4 then .ok (⟨7,l.take 2,v0⟩,2) else if l.take 1∈Mc.map fun c=>[c] then .ok (⟨7,l.take 1,v0⟩,1) else .error 4
def Cq (w:Wd)(n:Nat):Except Int (Wd×Nat):=if 12<w.t.length then .error 4 else .ok (w,n)
def Dp (l:List UInt8):Bool:=match l with
 |_::c::_=>Dk c
 |_=>false
def Bf (l:List UInt8):Except Int (Wd×Nat):=
 match l with
 |[]=> .error 4
 |c::r=>
  if Dk c then Cq ⟨1,l.take (Ay B7 l),v0⟩ (Ay B7 l)
  else if A3 c then Ke l
  else if c=34 then Pr l
  else if c=63 then(if Dp l then Cq ⟨2,r.take (Ay B7 r),v0⟩ (1+Ay B7 r) else .ok (⟨3,[],v0⟩,1))
  else if c=35/\Dp l=true then Cq ⟨6,r.take (Ay B7 r),(5,0,r.take (Ay B7 r))⟩ (1+Ay B7 r)
  else E8 l
def Ku:Nat->List UInt8->Int->Int->Except (Int×Int×Int) (List Tkn)
 |0,_,_,_=> .ok []
 |f+1,l,line,col=>
  match l with
  |[]=> .ok []
  |c::r=>
   if c=10 then Ku f r (line+1) 1
   else if c=59 then Ku f (l.drop (Ay (fun c=>c !=10) l)) line (col+Ay (fun c=>c !=10) l)
   else if c=32 then Ku f r line (col+1)
   else match Bf l with
    | .error e=> .error (line,col,e)
    | .ok (w,n)=>match Ku f (l.drop n) line (col+n) with
      | .error e=> .error e
      | .ok ts=> .ok (⟨w,line,col⟩::ts)
def Fp (l:List UInt8):Except (Int×Int×Int) (List Tkn):=Ku l.length l 1 1
theorem Dh {q:UInt8->Bool}{c:UInt8}{r:List UInt8}(h:q c=true):Ay q (c::r)=1+Ay q r:=by
 unfold Ay
 rw[List.takeWhile_cons,if_pos h,Aa]
 omega
theorem Mm:∀(b:Bool) (l:List UInt8),A1 b l<=l.length
 |_,[]=>Ak _
 |b,c::r=>by
  unfold A1
  split
  ·omega
  ·have:=Mm (c==92 && !b) r
   rw[Aa]
   omega
theorem Mg {c:UInt8}{r:List UInt8}(h:A3 c=true):1<=Bg (c::r)/\Bg (c::r)<=(c::r).length:=by
 have h1:=Dh (q:=A3) (r:=r) h
 have h2:=Cd A3 (c::r)
 unfold Bg
 split
 ·rename_i d q e
  have h3:=congrArg List.length e
  rw[List.length_drop] at h3
  simp only[Aa] at h3 h2 ⊢
  have h4:=Cd A3 (d::q)
  simp only[Aa] at h4
  split<;>omega
 ·omega
theorem Ea {l:List UInt8}{w:Wd}{n:Nat}(h:Bf l= .ok (w,n)):1<=n/\n<=l.length:=by
 unfold Bf at h
 cases l with
 |nil=>cases h
 |cons c r=>
  simp only at h
  have hsh:∀{w':Wd} {m:Nat},Cq w' m= .ok (w,n)->m=n:=fun{w' m} hh=>by
   unfold Cq at hh
   split at hh
   ·cases hh
   ·injection hh with hh
    exact congrArg Prod.snd hh
  by_cases h1:Dk c=true
  ·rw[if_pos h1] at h
   have:=hsh h
   have h2:=Dh (q:=B7) (r:=r) (show B7 c=true by unfold B7;rw[h1];rfl)
   have h3:=Cd B7 (c::r)
   omega
  rw[if_neg h1] at h
  by_cases h2:A3 c=true
  ·rw[if_pos h2] at h
   unfold Ke at h
   split at h
   ·injection h with h
    have:=congrArg Prod.snd h
    have h3:=Mg (r:=r) h2
    simp only at this
    omega
   ·cases h
  rw[if_neg h2] at h
  by_cases h3:c=34
  ·rw[if_pos h3] at h
   unfold Pr at h
   split at h
   ·rename_i hq
    split at h
    ·injection h with h
     have:=congrArg Prod.snd h
     simp only[List.tail_cons] at this hq
     have h5:(1+A1 false r)<(c::r).length:=by
      rw[List.head?_drop] at hq
      exact(List.getElem?_eq_some_iff.1 hq).1
     omega
    ·cases h
   ·cases h
  rw[if_neg h3] at h
  have hr:=Cd B7 r
  by_cases h4:c=63
  ·rw[if_pos h4] at h
   split at h
   ·have:=hsh h
    rw[Aa]
    omega
   ·injection h with h
    have:=congrArg Prod.snd h
    simp only at this
    rw[Aa]
    omega
  rw[if_neg h4] at h
  by_cases h5:c=35/\Dp (c::r)=true
  ·rw[if_pos h5] at h
   have:=hsh h
   rw[Aa]
   omega
  rw[if_neg h5] at h
  unfold E8 at h
  split at h
  ·rename_i hm
   injection h with h
   have:=congrArg Prod.snd h
   simp only at this
   have h6:((c::r).take 2).length=2:=by
    have:∀x∈E4,x.length=2:=by decide
    exact this _ hm
   rw[List.length_take] at h6
   omega
  ·split at h
   ·injection h with h
    have:=congrArg Prod.snd h
    simp only at this
    rw[Aa]
    omega
   ·cases h
open Go Go.Lib
theorem Lq {q:UInt8->Bool}:∀(a r:List UInt8),(∀c∈a,q c=true)->(∀c,r.head? =some c->q c=false)->Ay q (a++r)=a.length
 |[],r,_,hr=>by
  cases r with
  |nil=>rfl
  |cons c r=>
   have:=hr c rfl
   unfold Ay
   rw[List.nil_append,List.takeWhile_cons,if_neg (by simp [this])]
 |c::a,r,ha,hr=>by
  rw[List.cons_append,Dh (ha c Ai),Lq a r (fun d hd=>ha d (Aj _ hd)) hr,Aa]
  omega
theorem Fk {q:UInt8->Bool}:∀(l:List UInt8),∀c∈l.take (Ay q l),q c=true
 |[],c,h=>by simp at h
 |d::l,c,h=>by
  by_cases hd:q d=true
  ·rw[Dh hd,Nat.add_comm,List.take_succ_cons,List.mem_cons] at h
   rcases h with rfl|h
   ·exact hd
   ·exact Fk l c h
  ·have:Ay q (d::l)=0:=by
    unfold Ay
    rw[List.takeWhile_cons,if_neg hd]
    rfl
   rw[this] at h
   simp at h
theorem Me {q:UInt8->Bool}(l r:List UInt8)(hr:∀c,r.head? =some c->q c=false):Ay q (l.take (Ay q l)++r)=Ay q l:=by
 rw[Lq _ _ (Fk l) hr,List.length_take]
 have:=Cd q l
 omega
theorem Ot {q:UInt8->Bool}:∀(l:List UInt8) (m:Nat),Ay q l<=m->Ay q (l.take m)=Ay q l
 |[],m,_=>by simp
 |d::l,m,h=>by
  by_cases hd:q d=true
  ·rw[Dh hd] at h ⊢
   cases m with
   |zero=>omega
   |succ m=>
    rw[List.take_succ_cons,Dh hd,Ot l m rA]
  ·have e:∀r,Ay q (d::r)=0:=fun r=>by
    unfold Ay
    rw[List.takeWhile_cons,if_neg hd]
    rfl
   rw[e]
   cases m with
   |zero=>rfl
   |succ m=>rw[List.take_succ_cons,e]
theorem Ej {q:UInt8->Bool}:∀(l r:List UInt8),(∀c,r.head? =some c->q c=false)->Ay q (l++r)=Ay q l
 |[],r,hr=>Lq [] r rC hr
 |d::l,r,hr=>by
  by_cases hd:q d=true
  ·rw[List.cons_append,Dh hd,Dh hd,Ej l r hr]
  ·have e:∀r,Ay q (d::r)=0:=fun r=>by
    unfold Ay
    rw[List.takeWhile_cons,if_neg hd]
    rfl
   rw[List.cons_append,e,e]
theorem I7 {l r:List UInt8}{n:Nat}(h:n<=l.length):(l++r).take n=l.take n:=List.take_append_of_le_length h
theorem Na:∀(b:Bool) (l r:List UInt8),A1 b (l++10::r)=A1 b l
 |b,[],r=>by
  rw[List.nil_append]
  unfold A1
  rw[if_pos (by simp [Hy])]
 |b,c::l,r=>by
  rw[List.cons_append]
  unfold A1
  split
  ·rfl
  ·rw[Na]
theorem Uk (l r:List UInt8):Bg (l++10::r)=Bg l:=by
 have h1:=Ej (q:=A3) l (10::r) (by simp [A3])
 have h2:=Cd A3 l
 unfold Bg
 rw[h1,List.drop_append_of_le_length h2]
 cases hd:l.drop (Ay A3 l) with
 |nil=>rfl
 |cons a l1=>
  cases l1 with
  |nil=>
   rw[List.cons_append,List.nil_append]
   by_cases ha:a=46
   ·subst ha
    simp [A3]
   ·split
    ·exact zw0
    ·split
     ·exact zw0
     ·rfl
  |cons b l2=>
   rw[List.cons_append,List.cons_append]
   by_cases ha:a=46
   ·subst ha
    have:=Ej (q:=A3) (b::l2) (10::r) (by simp [A3])
    rw[List.cons_append] at this
    simp only[this]
   ·split
    ·exact zw0
    ·split
     ·exact zw0
     ·rfl
theorem X7 (l r:List UInt8)(hl:Bg l<=l.length):Ke (l++10::r)=Ke l:=by
 unfold Ke
 rw[Uk,I7 hl]
theorem Yj (c:UInt8)(l r:List UInt8):Pr ((c::l)++10::r)=Pr (c::l):=by
 have h1:=Na false l r
 have h2:=Mm false l
 unfold Pr
 rw[List.cons_append,List.tail_cons,List.tail_cons,h1]
 have e1:((c::(l++10::r)).drop (1+A1 false l)).head? =some 34↔((c::l).drop (1+A1 false l)).head? =some 34:=by
  rw[Nat.add_comm,List.drop_succ_cons,List.drop_succ_cons,List.drop_append_of_le_length h2]
  cases hd:l.drop (A1 false l) with
  |nil=>simp
  |cons d q=>simp
 by_cases hq:((c::l).drop (1+A1 false l)).head? =some 34
 ·rw[if_pos (e1.2 hq),if_pos hq]
  have h3:A1 false l+2<=(c::l).length:=by
   rw[List.head?_drop] at hq
   have:=(List.getElem?_eq_some_iff.1 hq).1
   omega
  have e2:(c::(l++10::r)).take (A1 false l+2)=(c::l).take (A1 false l+2):=by
   have:=I7 (l:=c::l) (r:=10::r) h3
   rwa [List.cons_append] at this
  rw[e2,I7 h2]
 ·rw[if_neg (fun h=>hq (e1.1 h)),if_neg hq]
theorem Wm (c:UInt8)(l r:List UInt8):E8 ((c::l)++10::r)=E8 (c::l):=by
 unfold E8
 have e1:((c::l)++10::r).take 1=(c::l).take 1:=rfl
 rw[e1]
 cases l with
 |cons d l=>rfl
 |nil=>
  have h1:¬([c]++10::r).take 2∈E4:=by
   show ¬[c,10]∈E4
   unfold E4
   simp
  have h2:¬[c].take 2∈E4:=by
   show ¬[c]∈E4
   unfold E4
   simp
  rw[if_neg h1,if_neg h2]
theorem Xl (c:UInt8)(l r:List UInt8):Dp ((c::l)++10::r)=Dp (c::l):=by
 cases l with
 |nil=>simp [Dp,Dk]
 |cons d l=>rfl
theorem Pj (l r:List UInt8)(hl:l≠[]):Bf (l++10::r)=Bf l:=by
 obtain⟨c,q,rfl⟩:=List.exists_cons_of_ne_nil hl
 have h1:=Ej (q:=B7) (c::q) (10::r) (by simp [B7,Dk,A3])
 have h2:=Ej (q:=B7) q (10::r) (by simp [B7,Dk,A3])
 have h3:=I7 (l:=c::q) (r:=10::r) (Cd B7 (c::q))
 have h4:=I7 (l:=q) (r:=10::r) (Cd B7 q)
 have h5:=Yj c q r
 have h6:=Wm c q r
 have h7:=Xl c q r
 rw[List.cons_append] at h1 h3 h5 h6 h7
 have h8:A3 c=true->Ke (c::(q++10::r))=Ke (c::q):=fun h=>X7 (c::q) r (Mg h).2
 rw[List.cons_append]
 unfold Bf
 simp only[h1,h2,h3,h4,h5,h6,h7]
 by_cases hc:Dk c=true
 ·rw[if_pos hc,if_pos hc]
 ·rw[if_neg hc,if_neg hc]
  by_cases hd:A3 c=true
  ·rw[if_pos hd,if_pos hd,h8 hd]
  ·rw[if_neg hd,if_neg hd]
open Go Go.Lib
def Xp (r:List UInt8):Prop:=∀c,r.head? =some c->c=10\/c=32
theorem Xp.dig {r:List UInt8}(h:Xp r):∀c,r.head? =some c->A3 c=false:=fun c hc=>by
 rcases h c hc with rfl|rfl<;>rfl
theorem Xp.nam {r:List UInt8}(h:Xp r):∀c,r.head? =some c->B7 c=false:=fun c hc=>by
 rcases h c hc with rfl|rfl<;>rfl
theorem Br (b:Bool)(c:UInt8)(q:List UInt8):A1 b (c::q)=if((c==34 && !b)||!Hy c)=true then 0 else 1+A1 (c==92 && !b) q:=by
 conv=>lhs;unfold A1
theorem Lc:∀(b:Bool) (l r:List UInt8),A1 b l<l.length->A1 b (l.take (A1 b l+1)++r)=A1 b l
 |b,[],r,h=>by simp [A1] at h
 |b,c::q,r,h=>by
  have e:=Br b c q
  by_cases hc:((c==34 && !b)||!Hy c)=true
  ·rw[if_pos hc] at e
   rw[e,List.take_succ_cons,List.cons_append,Br,if_pos hc]
  ·rw[if_neg hc] at e
   rw[e] at h ⊢
   rw[show 1+A1 (c==92 && !b) q+1=(A1 (c==92 && !b) q+1)+1 by omega,List.take_succ_cons,List.cons_append,Br,if_neg hc,
    Lc _ q r (by rw[Aa] at h;omega)]
theorem kG (A B:List UInt8)(k:Nat):(A++B).take (A.length+k)=A++B.take k:=by
 rw[List.take_append,List.take_of_length_le rA,show A.length+k - A.length=k by omega]
theorem Wy (l r:List UInt8)(hs:Xp r):Bg (l.take (Bg l)++r)=Bg l:=by
 have hle:=Cd A3 l
 have hmem:=Fk (q:=A3) l
 have hplain:Bg l=Ay A3 l->Bg (l.take (Bg l)++r)=Bg l:=fun e=>by
  rw[e]
  have h1:=Me (q:=A3) l r hs.dig
  have h2:(l.take (Ay A3 l)++r).drop (Ay A3 l)=r:=by
   rw[List.drop_append_of_le_length sF,List.drop_of_length_le sF,List.nil_append]
  unfold Bg
  rw[h1,h2]
  split
  ·rename_i c q
   have:=hs 46 rfl
   simp at this
  ·rfl
 cases hd:l.drop (Ay A3 l) with
 |nil=>exact hplain (by unfold Bg;rw[hd])
 |cons a l1=>
  cases l1 with
  |nil=>exact hplain (by unfold Bg;rw[hd];split<;>first|rfl|simp_all)
  |cons c q=>
   by_cases ha:a=46/\A3 c=true
   ·obtain⟨rfl,hc⟩:=ha
    have hn:Bg l=Ay A3 l+(1+Ay A3 (c::q)):=by
     unfold Bg
     rw[hd]
     simp [hc]
    have hk:=Dh (q:=A3) (r:=q) hc
    have hkl:=Cd A3 (c::q)
    have hl:l=l.take (Ay A3 l)++46::c::q:=by rw[←hd,List.take_append_drop]
    have hla:(l.take (Ay A3 l)).length=Ay A3 l:=by rw[List.length_take];omega
    have ht:l.take (Bg l)=l.take (Ay A3 l)++46::(c::q).take (Ay A3 (c::q)):=by
     have h0:=kG (l.take (Ay A3 l)) (46::c::q) (1+Ay A3 (c::q))
     rw[←hl,hla,←hn] at h0
     rw[h0,Nat.add_comm 1,List.take_succ_cons]
    have h1:Ay A3 (l.take (Bg l)++r)=Ay A3 l:=by
     rw[ht,List.append_assoc,Lq _ _ hmem (by intro d hd;simp at hd;subst hd;rfl),List.length_take]
     omega
    have h2:(l.take (Bg l)++r).drop (Ay A3 l)=46::((c::q).take (Ay A3 (c::q))++r):=by
     rw[ht,List.append_assoc,List.drop_append_of_le_length sF,List.drop_of_length_le sF]
     rfl
    have h3:(c::q).take (Ay A3 (c::q))++r=c::(q.take (Ay A3 q)++r):=by
     rw[hk,Nat.add_comm,List.take_succ_cons]
     rfl
    have h4:=Me (q:=A3) (c::q) r hs.dig
    rw[h3] at h2 h4
    rw[hn]
    conv=>lhs;unfold Bg
    rw[←hn,h1,h2]
    simp only[hc,if_true,h4]
    omega
   ·refine hplain ?_
    unfold Bg
    rw[hd]
    exact zwt
theorem Gy (c:UInt8)(q:List UInt8):Pr (c::q)=if((c::q).drop (1+A1 false q)).head? =some 34 then
 match Dy ((c::q).take (A1 false q+2)) with
 | .ok v=> .ok (⟨5,q.take (A1 false q),v⟩,A1 false q+2)
 | .error _=> .error 4
 else .error 4:=rfl
theorem Ss {l r:List UInt8}{n:Nat}(h:n<=l.length):(l.take n++r).take n=l.take n:=by
 rw[List.take_append_of_le_length sF,List.take_take,Nat.min_self]
theorem Js {w w':Wd}{m n:Nat}(h:Cq w' m= .ok (w,n)):m=n/\w'=w/\Cq w' m= .ok (w',m):=by
 unfold Cq at h ⊢
 split at h
 ·cases h
 ·rename_i hn
  injection h with h
  simp only[Prod.mk.injEq] at h
  exact⟨h.2,h.1,by rw[if_neg hn]⟩
theorem Rt {l:List UInt8}{w:Wd}{n:Nat}(h:Bf l= .ok (w,n)){r:List UInt8}(hs:Xp r):Bf (l.take n++r)= .ok (w,n):=by
 obtain⟨hn1,hnl⟩:=Ea h
 cases l with
 |nil=>cases h
 |cons c q=>
  obtain⟨m,rfl⟩:∃m,n=m+1:=⟨n - 1,by omega⟩
  have hql:m<=q.length:=by rw[Aa] at hnl;omega
  have hL:(c::q).take (m+1)++r=c::(q.take m++r):=by rw[List.take_succ_cons];rfl
  have htk:=Ss (l:=c::q) (r:=r) (n:=m+1) hnl
  have htq:=Ss (l:=q) (r:=r) (n:=m) hql
  rw[hL] at htk ⊢
  unfold Bf at h ⊢
  simp only at h ⊢
  by_cases h1:Dk c=true
  ·rw[if_pos h1] at h ⊢
   obtain⟨e1,e2,e3⟩:=Js h
   have hsp:=Me (q:=B7) (c::q) r hs.nam
   rw[e1,hL] at hsp
   rw[e1] at e2 e3
   rw[hsp,htk,e3,e2]
  rw[if_neg h1] at h ⊢
  by_cases h2:A3 c=true
  ·rw[if_pos h2] at h ⊢
   unfold Ke at h ⊢
   have hnl2:=Wy (c::q) r hs
   cases hp:Dy ((c::q).take (Bg (c::q))) with
   |error e=>rw[hp] at h;cases h
   |ok v=>
    rw[hp] at h
    injection h with h
    simp only[Prod.mk.injEq] at h
    obtain⟨e1,e2⟩:=h
    rw[e2] at hp e1 hnl2
    rw[hL] at hnl2
    rw[hnl2,htk,hp]
    simp only[e1]
  rw[if_neg h2] at h ⊢
  by_cases h3:c=34
  ·rw[if_pos h3] at h ⊢
   rw[Gy] at h ⊢
   by_cases hq:((c::q).drop (1+A1 false q)).head? =some 34
   ·rw[if_pos hq] at h
    cases hp:Dy ((c::q).take (A1 false q+2)) with
    |error e=>rw[hp] at h;cases h
    |ok v=>
     rw[hp] at h
     injection h with h
     simp only[Prod.mk.injEq] at h
     obtain⟨e1,e2⟩:=h
     have hm:m=A1 false q+1:=by omega
     have hlt:A1 false q<q.length:=by omega
     have hag:=Lc false q r hlt
     rw[←hm] at hag
     have hdr:((c::(q.take m++r)).drop (1+A1 false q)).head? =some 34:=by
      rw[Nat.add_comm,List.drop_succ_cons] at hq ⊢
      rw[List.head?_drop] at hq ⊢
      rw[List.getElem?_append_left sF,List.getElem?_take_of_lt rA]
      exact hq
     have htt:(q.take m++r).take (A1 false q)=q.take (A1 false q):=by
      rw[List.take_append_of_le_length sF,List.take_take,Nat.min_eq_left rA]
     rw[hag,if_pos hdr,show A1 false q+2=m+1 by omega,htk,show m+1=A1 false q+2 by omega,hp]
     simp only[htt,e1]
   ·rw[if_neg hq] at h
    cases h
  rw[if_neg h3] at h ⊢
  have hmk:Dp (c::q)=true->∀m',m'=Ay B7 q->Dp (c::(q.take m'++r))=true:=fun hm m' e=>by
   cases q with
   |nil=>cases hm
   |cons d q=>
    have hd:B7 d=true:=by unfold B7;rw[show Dk d=true from hm];rfl
    rw[e,Dh hd,Nat.add_comm,List.take_succ_cons]
    exact hm
  have hmn:Dp (c::r)=false:=by
   cases r with
   |nil=>rfl
   |cons d r=>
    rcases hs d rfl with rfl|rfl<;>rfl
  have hspq:=Me (q:=B7) q r hs.nam
  by_cases h4:c=63
  ·rw[if_pos h4] at h ⊢
   by_cases hb:Dp (c::q)=true
   ·rw[if_pos hb] at h
    obtain⟨e1,e2,e3⟩:=Js h
    have hm:Ay B7 q=m:=by omega
    rw[if_pos (hmk hb m hm.symm)]
    rw[hm] at hspq e2 e3
    rw[hspq,htq,e3,e2,Nat.add_comm]
   ·rw[if_neg hb] at h
    injection h with h
    simp only[Prod.mk.injEq] at h
    obtain⟨e1,e2⟩:=h
    have hm:m=0:=by omega
    subst hm
    rw[List.take_zero,List.nil_append,if_neg (by rw[hmn];simp),e1]
  rw[if_neg h4] at h ⊢
  by_cases h5:c=35/\Dp (c::q)=true
  ·rw[if_pos h5] at h
   obtain⟨e1,e2,e3⟩:=Js h
   have hm:Ay B7 q=m:=by omega
   rw[if_pos ⟨h5.1,hmk h5.2 m hm.symm⟩]
   rw[hm] at hspq e2 e3
   rw[hspq,htq,e3,e2,Nat.add_comm]
  rw[if_neg h5] at h
  unfold E8 at h
  by_cases h6:(c::q).take 2∈E4
  ·rw[if_pos h6] at h
   injection h with h
   simp only[Prod.mk.injEq] at h
   obtain⟨e1,e2⟩:=h
   have hm:m=1:=by omega
   subst hm
   have hc:c≠35:=by
    rintro rfl
    cases q with
    |nil=>revert h6;decide
    |cons d q=>
     have:[(35:UInt8),d]∈E4:=h6
     unfold E4 at this
     simp at this
   rw[if_neg (fun hh=>hc hh.1)]
   unfold E8
   rw[htk,if_pos h6,e1]
  ·rw[if_neg h6] at h
   split at h
   ·rename_i h7
    injection h with h
    simp only[Prod.mk.injEq] at h
    obtain⟨e1,e2⟩:=h
    have hm:m=0:=by omega
    subst hm
    have h8:¬(c::(q.take 0++r)).take 2∈E4:=by
     rw[List.take_zero,List.nil_append]
     cases r with
     |nil=>show ¬[c]∈E4;unfold E4;simp
     |cons d r=>
      show ¬[c,d]∈E4
      unfold E4
      rcases hs d rfl with rfl|rfl<;>simp
    rw[if_neg (fun hh=>by rw[List.take_zero,List.nil_append,hmn] at hh;cases hh.2)]
    unfold E8
    rw[if_neg h8]
    have h9:(c::(q.take 0++r)).take 1=(c::q).take 1:=rfl
    rw[h9,if_pos h7,e1]
   ·cases h
open Go Go.Lib
theorem Py:∀(b:Bool) (l:List UInt8) (m:Nat),A1 b l<m->A1 b (l.take m)=A1 b l
 |b,[],m,_=>by simp
 |b,c::q,m,h=>by
  obtain⟨m,rfl⟩:∃k,m=k+1:=⟨m - 1,by omega⟩
  rw[List.take_succ_cons,Br,Br]
  rw[Br] at h
  by_cases hc:((c==34 && !b)||!Hy c)=true
  ·rw[if_pos hc,if_pos hc]
  ·rw[if_neg hc] at h
   rw[if_neg hc,if_neg hc,Py _ q m rA]
def Cc (n:Nat)(x:List UInt8):Nat:=match x with
 |46::c::r=>if A3 c then n+(1+Ay A3 (c::r)) else n
 |_=>n
theorem F8 (l:List UInt8):Bg l=Cc (Ay A3 l) (l.drop (Ay A3 l)):=rfl
theorem aJ (n:Nat)(x:List UInt8):n<=Cc n x:=by
 unfold Cc
 split
 ·split<;>omega
 ·omega
theorem Wv (n m:Nat)(x:List UInt8)(h:Cc n x<=n+m):Cc n (x.take m)=Cc n x:=by
 match x with
 |[]=>simp
 |[a]=>
  have e:Cc n [a]=n:=by unfold Cc;split<;>simp_all
  cases m with
  |zero=>rw[e];rfl
  |succ m=>simp
 |a::c::q=>
  by_cases ha:a=46/\A3 c=true
  ·obtain⟨rfl,hc⟩:=ha
   have e:∀y,Cc n (46::c::y)=n+(1+Ay A3 (c::y)):=fun y=>by unfold Cc;simp [hc]
   rw[e] at h
   have hk:=Dh (q:=A3) (r:=q) hc
   obtain⟨k,rfl⟩:∃k,m=k+2:=⟨m - 2,by omega⟩
   have h3:=Ot (q:=A3) (c::q) (k+1) rA
   rw[List.take_succ_cons] at h3
   rw[List.take_succ_cons,List.take_succ_cons,e,e,h3]
  ·have e1:∀y,Cc n (a::c::y)=n:=fun y=>by
    unfold Cc
    exact zwt
   rw[e1]
   match m with
   |0=>rfl
   |1=>
    show Cc n [a]=n
    unfold Cc
    split<;>simp_all
   |m+2=>rw[List.take_succ_cons,List.take_succ_cons,e1]
theorem Zg (l:List UInt8)(m:Nat)(h:Bg l<=m):Bg (l.take m)=Bg l:=by
 have hsp:=aJ (Ay A3 l) (l.drop (Ay A3 l))
 rw[←F8] at hsp
 rw[F8,Ot (q:=A3) l m rA,List.drop_take,Wv _ _ _ (by rw[←F8];omega),←F8]
open Go Go.Lib
theorem F7 {q:UInt8->Bool}{c:UInt8}{r:List UInt8}(h:q c=true):1<=Ay q (c::r):=by
 rw[Dh h];omega
theorem Ip:∀(f g:Nat) (l:List UInt8) (a b:Int),l.length<=f->l.length<=g->Ku f l a b=Ku g l a b
 |0,g,l,a,b,hf,_=>by
  obtain rfl:l=[]:=List.eq_nil_of_length_eq_zero rA
  cases g with
  |zero=>rfl
  |succ g=>rfl
 |f+1,g,l,a,b,hf,hg=>by
  cases l with
  |nil=>cases g<;>rfl
  |cons c r=>
   obtain⟨g,rfl⟩:∃k,g=k+1:=⟨g - 1,by rw[Aa] at hg;omega⟩
   rw[Aa] at hf hg
   unfold Ku
   simp only
   rw[Ip f g r (a+1) 1 rA rA,Ip f g r a (b+1) rA rA]
   by_cases h1:c=10
   ·rw[if_pos h1,if_pos h1]
   rw[if_neg h1,if_neg h1]
   by_cases h2:c=59
   ·rw[if_pos h2,if_pos h2]
    have:=F7 (q:=fun c=>c !=10) (c:=c) (r:=r) tF
    exact Ip f g _ _ _ sM sM
   rw[if_neg h2,if_neg h2]
   by_cases h3:c=32
   ·rw[if_pos h3,if_pos h3]
   rw[if_neg h3,if_neg h3]
   cases hw:Bf (c::r) with
   |error e=>rfl
   |ok p=>
    obtain⟨w,n⟩:=p
    obtain⟨h4,_⟩:=Ea hw
    simp only
    rw[Ip f g ((c::r).drop n) a (b+n) sM sM]
open Go Go.Lib
theorem Nf:∀(b:Bool) (l:List UInt8),∀c∈l.take (A1 b l),Hy c=true
 |b,[],c,h=>by simp at h
 |b,d::q,c,h=>by
  rw[Br] at h
  by_cases hc:((d==34 && !b)||!Hy d)=true
  ·rw[if_pos hc] at h
   simp at h
  ·rw[if_neg hc,Nat.add_comm,List.take_succ_cons,List.mem_cons] at h
   rcases h with rfl|h
   ·simp only[Bool.or_eq_true,not_or,Bool.not_eq_true,Bool.not_eq_false'] at hc
    exact hc.2
   ·exact Nf _ q c h
theorem Xs (n:Nat)(x:List UInt8):∃k,Cc n x=n+k/\∀c∈x.take k,A3 c=true\/c=46:=by
 unfold Cc
 split
 ·rename_i c r
  split
  ·refine⟨1+Ay A3 (c::r),rfl,fun d hd=>?_⟩
   rw[Nat.add_comm,List.take_succ_cons,List.mem_cons] at hd
   rcases hd with rfl|hd
   ·exact .inr rfl
   ·exact .inl (Fk _ d hd)
  ·exact⟨0,rfl,by simp⟩
 ·exact⟨0,rfl,by simp⟩
theorem T1 (l:List UInt8):∀c∈l.take (Bg l),A3 c=true\/c=46:=by
 intro c hc
 obtain⟨k,h1,h2⟩:=Xs (Ay A3 l) (l.drop (Ay A3 l))
 rw[F8,h1,List.take_add,List.mem_append] at hc
 rcases hc with hc|hc
 ·exact .inl (Fk _ c hc)
 ·exact h2 c hc
theorem Tm {c:UInt8}(h:B7 c=true):c≠10:=by rintro rfl;cases h
theorem iL {c:UInt8}(h:Hy c=true):c≠10:=by rintro rfl;cases h
theorem kB {c:UInt8}(h:A3 c=true\/c=46):c≠10:=by
 rintro rfl
 rcases h with h|h
 ·cases h
 ·cases h
def Dz (w:Wd):List UInt8:=
 if w.k=2\/w.k=3 then 63::w.t else if w.k=5 then 34::(w.t++[34]) else if w.k=6 then 35::w.t else w.t
theorem R8 {q:List UInt8}{k:Nat}(h:(q.drop k).head? =some 34):q.take (k+1)=q.take k++[34]:=by
 rw[List.head?_drop] at h
 rw[List.take_add_one,h]
 rfl
theorem Ni {l:List UInt8}{w:Wd}{n:Nat}(h:Bf l= .ok (w,n)):Dz w=l.take n/\∀c∈l.take n,c≠10:=by
 unfold Bf at h
 cases l with
 |nil=>cases h
 |cons c r=>
  simp only at h
  by_cases h1:Dk c=true
  ·rw[if_pos h1] at h
   obtain⟨e1,e2,_⟩:=Js h
   subst e1 e2
   exact⟨rfl,fun d hd=>Tm (Fk _ d hd)⟩
  rw[if_neg h1] at h
  by_cases h2:A3 c=true
  ·rw[if_pos h2] at h
   unfold Ke at h
   cases hp:Dy ((c::r).take (Bg (c::r))) with
   |error e=>rw[hp] at h;cases h
   |ok v=>
    rw[hp] at h
    injection h with h
    simp only[Prod.mk.injEq] at h
    obtain⟨e1,e2⟩:=h
    subst e1 e2
    exact⟨rfl,fun d hd=>kB (T1 _ d hd)⟩
  rw[if_neg h2] at h
  by_cases h3:c=34
  ·rw[if_pos h3,Gy] at h
   by_cases hq:((c::r).drop (1+A1 false r)).head? =some 34
   ·rw[if_pos hq] at h
    cases hp:Dy ((c::r).take (A1 false r+2)) with
    |error e=>rw[hp] at h;cases h
    |ok v=>
     rw[hp] at h
     injection h with h
     simp only[Prod.mk.injEq] at h
     obtain⟨e1,e2⟩:=h
     subst e1 e2 h3
     rw[Nat.add_comm,List.drop_succ_cons] at hq
     have ht:=R8 hq
     rw[List.take_succ_cons,ht]
     refine⟨rfl,fun d hd=>?_⟩
     rw[List.mem_cons,List.mem_append] at hd
     rcases hd with rfl|hd|hd
     ·decide
     ·exact iL (Nf _ _ d hd)
     ·rw[List.mem_singleton] at hd
      subst hd
      decide
   ·rw[if_neg hq] at h;cases h
  rw[if_neg h3] at h
  by_cases h4:c=63
  ·rw[if_pos h4] at h
   by_cases hm:Dp (c::r)=true
   ·rw[if_pos hm] at h
    obtain⟨e1,e2,_⟩:=Js h
    subst e1 e2 h4
    exact zw2
   ·rw[if_neg hm] at h
    injection h with h
    simp only[Prod.mk.injEq] at h
    obtain⟨e1,e2⟩:=h
    subst e1 e2 h4
    refine⟨rfl,fun d hd=>?_⟩
    simp only[List.take_succ_cons,List.take_zero,List.mem_singleton] at hd
    subst hd
    decide
  rw[if_neg h4] at h
  by_cases h5:c=35/\Dp (c::r)=true
  ·rw[if_pos h5] at h
   obtain⟨e1,e2,_⟩:=Js h
   subst e1 e2
   obtain⟨rfl,_⟩:=h5
   exact zw2
  rw[if_neg h5] at h
  unfold E8 at h
  by_cases h6:(c::r).take 2∈E4
  ·rw[if_pos h6] at h
   injection h with h
   simp only[Prod.mk.injEq] at h
   obtain⟨e1,e2⟩:=h
   subst e1 e2
   exact⟨rfl,(show ∀x∈E4,∀d∈x,d≠10 by decide) _ h6⟩
  ·rw[if_neg h6] at h
   by_cases h7:(c::r).take 1∈Mc.map fun c=>[c]
   ·rw[if_pos h7] at h
    injection h with h
    simp only[Prod.mk.injEq] at h
    obtain⟨e1,e2⟩:=h
    subst e1 e2
    exact⟨rfl,(show ∀x∈Mc.map (fun c=>[c]),∀d∈x,d≠10 by decide) _ h7⟩
   ·rw[if_neg h7] at h;cases h
theorem Qw {l:List UInt8}{e:Int}(h:Bf l= .error e):e=4\/e=9:=by
 have hsh:∀{w':Wd} {m:Nat},Cq w' m= .error e->e=4:=fun{w' m} hh=>by
  unfold Cq at hh
  split at hh
  ·injection hh with hh;exact hh.symm
  ·cases hh
 unfold Bf at h
 cases l with
 |nil=>injection h with h;exact .inl h.symm
 |cons c r=>
  simp only at h
  split at h
  ·exact .inl (hsh h)
  split at h
  ·unfold Ke at h
   split at h
   ·cases h
   ·injection h with h
    rw[←h]
    split
    ·exact .inr rfl
    ·exact .inl rfl
  split at h
  ·unfold Pr at h
   split at h
   ·split at h
    ·cases h
    ·injection h with h;exact .inl h.symm
   ·injection h with h;exact .inl h.symm
  split at h
  ·split at h
   ·exact .inl (hsh h)
   ·cases h
  split at h
  ·exact .inl (hsh h)
  unfold E8 at h
  split at h
  ·cases h
  ·split at h
   ·cases h
   ·injection h with h;exact .inl h.symm
open Go Go.Lib
def LX (l:List UInt8)(a b:Int):Except (Int×Int×Int) (List Tkn):=Ku l.length l a b
theorem Sl (l:List UInt8):Fp l=LX l 1 1:=rfl
def Mq (t:Tkn):Except (Int×Int×Int) (List Tkn)->Except (Int×Int×Int) (List Tkn)
 | .error e=> .error e
 | .ok ts=> .ok (t::ts)
theorem Je (a b:Int):LX [] a b= .ok []:=rfl
theorem Jl (r:List UInt8)(a b:Int):LX (10::r) a b=LX r (a+1) 1:=rfl
theorem Fz (r:List UInt8)(a b:Int):LX (32::r) a b=LX r a (b+1):=rfl
def Eu (c:UInt8):Bool:=c !=10
theorem Lv (r:List UInt8)(a b:Int):LX (59::r) a b=LX ((59::r).drop (Ay Eu (59::r))) a (b+Ay Eu (59::r)):=by
 have hp:=F7 (q:=Eu) (c:=59) (r:=r) rB
 have e:LX (59::r) a b=Ku r.length ((59::r).drop (Ay Eu (59::r))) a (b+Ay Eu (59::r)):=rfl
 rw[e]
 exact Ip _ _ _ _ _ sM (Ak _)
def Jh (c:UInt8):Prop:=c≠10/\c≠59/\c≠32
theorem La {c:UInt8}{r:List UInt8}(hc:Jh c){e:Int}(h:Bf (c::r)= .error e)(a b:Int):LX (c::r) a b= .error (a,b,e):=by
 unfold LX
 rw[Aa]
 unfold Ku
 simp only
 rw[if_neg hc.1,if_neg hc.2.1,if_neg hc.2.2,h]
theorem Ez {c:UInt8}{r:List UInt8}(hc:Jh c){w:Wd}{n:Nat}(h:Bf (c::r)= .ok (w,n))(a b:Int):LX (c::r) a b=Mq ⟨w,a,b⟩ (LX ((c::r).drop n) a (b+n)):=by
 obtain⟨hn,_⟩:=Ea h
 have e:LX ((c::r).drop n) a (b+n)=Ku r.length ((c::r).drop n) a (b+n):=Ip _ _ _ _ _ (Ak _) sM
 rw[e]
 unfold LX
 rw[Aa]
 conv=>lhs;unfold Ku
 simp only
 rw[if_neg hc.1,if_neg hc.2.1,if_neg hc.2.2,h]
 simp only
 cases Ku r.length ((c::r).drop n) a (b+n)<;>rfl
theorem Ib {P:List UInt8->Prop}(l:List UInt8)(h0:l=[]->P l)(h1:∀r,l=10::r->P l)(h2:∀r,l=32::r->P l)(h3:∀r,l=59::r->P l)
 (h4:∀c r e,l=c::r->Jh c->Bf l= .error e->P l) (h5:∀c r w n,l=c::r->Jh c->Bf l= .ok (w,n)->P l):P l:=by
 cases l with
 |nil=>exact h0 rfl
 |cons c r=>
  by_cases e1:c=10
  ·subst e1;exact h1 r rfl
  by_cases e2:c=32
  ·subst e2;exact h2 r rfl
  by_cases e3:c=59
  ·subst e3;exact h3 r rfl
  cases hw:Bf (c::r) with
  |error e=>exact h4 c r e rfl ⟨e1,e3,e2⟩ hw
  |ok p=>obtain⟨w,n⟩:=p;exact h5 c r w n rfl ⟨e1,e3,e2⟩ hw
def Tkn.down (d:Int)(t:Tkn):Tkn:=⟨t.w,t.line+d,t.col⟩
def Gb (x:Except (Int×Int×Int) (List Tkn))(y:Except (Int×Int×Int) (List Tkn)):Except (Int×Int×Int) (List Tkn):=
 match x with
 | .error e=> .error e
 | .ok ts=>match y with
   | .error e=> .error e
   | .ok us=> .ok (ts++us)
theorem aW (t:Tkn)(x y:Except (Int×Int×Int) (List Tkn)):Gb (Mq t x) y=Mq t (Gb x y):=by cases x<;>cases y<;>rfl
theorem S3 {l:List UInt8}{n:Nat}(h:∀c∈l.take n,c≠10):(l.drop n).count 10=l.count 10:=by
 conv=>rhs;rw[←List.take_append_drop n l,List.count_append]
 rw[List.count_eq_zero.2 fun hm=>h 10 hm rfl,Nat.zero_add]
theorem mI {l:List UInt8}:∀c∈l.take (Ay Eu l),c≠10:=fun c hc=>by
 have:=Fk (q:=Eu) l c hc
 unfold Eu at this
 simpa using this
theorem P5 (r:List UInt8):∀(k:Nat) (l:List UInt8) (a b:Int),l.length<=k->LX (l++10::r) a b=Gb (LX l a b) (LX r (a+(l.count 10:Nat)+1) 1)
 |k,l,a,b,hk=>by
  refine Ib (P:=fun l=>l.length<=k->LX (l++10::r) a b=Gb (LX l a b) (LX r (a+(l.count 10:Nat)+1) 1)) l ?_ ?_ ?_ ?_ ?_ ?_ hk
  ·rintro rfl _
   rw[List.nil_append,Jl,Je,List.count_nil,show a+((0:Nat):Int)+1=a+1 by omega]
   cases LX r (a+1) 1<;>rfl
  ·rintro q rfl hk
   obtain⟨k,rfl⟩:∃j,k=j+1:=⟨k - 1,by rw[Aa] at hk;omega⟩
   rw[List.cons_append,Jl,Jl,P5 r k q (a+1) 1 rX,List.count_cons_self]
   rw[show a+1+((q.count 10:Nat):Int)+1=a+((q.count 10+1:Nat):Int)+1 by omega]
  ·rintro q rfl hk
   obtain⟨k,rfl⟩:∃j,k=j+1:=⟨k - 1,by rw[Aa] at hk;omega⟩
   rw[List.cons_append,Fz,Fz,P5 r k q a (b+1) rX,List.count_cons_of_ne rB]
  ·rintro q rfl hk
   obtain⟨k,rfl⟩:∃j,k=j+1:=⟨k - 1,by rw[Aa] at hk;omega⟩
   have hp:=F7 (q:=Eu) (c:=59) (r:=q) rB
   have hle:=Cd Eu (59::q)
   have hb:=Ej (q:=Eu) (59::q) (10::r) (by simp [Eu])
   rw[List.cons_append] at hb ⊢
   rw[Lv,hb,Lv,←List.cons_append,List.drop_append_of_le_length hle,P5 r k _ a _ rT,S3 mI]
  ·rintro c q e rfl hc hw hk
   have hb:=Pj (c::q) r rC
   rw[hw] at hb
   rw[La hc hw]
   rw[List.cons_append] at hb ⊢
   rw[La hc hb]
   rfl
  ·rintro c q w n rfl hc hw hk
   obtain⟨k,rfl⟩:∃j,k=j+1:=⟨k - 1,by rw[Aa] at hk;omega⟩
   obtain⟨hn,hnl⟩:=Ea hw
   obtain⟨_,h10⟩:=Ni hw
   have hb:=Pj (c::q) r rC
   rw[hw] at hb
   rw[Ez hc hw,aW,←S3 h10,←P5 r k _ a _ rT,←List.drop_append_of_le_length hnl]
   rw[List.cons_append] at hb ⊢
   rw[Ez hc hb]
theorem Sz {t:Tkn}{x:Except (Int×Int×Int) (List Tkn)}{ts:List Tkn}(h:Mq t x= .ok ts):∃us,x= .ok us/\ts=t::us:=by
 cases x with
 |error e=>cases h
 |ok us=>injection h with h;exact⟨us,rfl,h.symm⟩
def qL (a b c d:Int):Prop:=a<c\/a=c/\b<d
def qN (a b c d:Int):Prop:=a<c\/a=c/\b<=d
theorem Mb:∀(k:Nat) (l:List UInt8) (a b:Int),l.length<=k->1<=b->
 (∀x y e,LX l a b= .error (x,y,e)->a<=x/\1<=y/\(e=4\/e=9))/\
 (∀ts,LX l a b= .ok ts->(∀t∈ts,qN a b t.line t.col)/\ts.Pairwise (fun s t=>qL s.line s.col t.line t.col))
 |k,l,a,b,hk,hb=>by
  refine Ib (P:=fun l=>l.length<=k->(∀x y e,LX l a b= .error (x,y,e)->a<=x/\1<=y/\(e=4\/e=9))/\(∀ts,LX l a b= .ok ts->(∀t∈ts,qN a b t.line t.col)/\ts.Pairwise (fun s t=>qL s.line s.col t.line t.col))) l ?_ ?_ ?_ ?_ ?_ ?_ hk
  ·rintro rfl _
   refine⟨fun x y e h=>?_,fun ts h=>?_⟩
   ·rw[Je] at h;cases h
   ·rw[Je] at h
    injection h with h
    subst h
    exact⟨by simp,List.Pairwise.nil⟩
  ·rintro r rfl hk
   obtain⟨k,rfl⟩:∃j,k=j+1:=⟨k - 1,by rw[Aa] at hk;omega⟩
   obtain⟨h1,h2⟩:=Mb k r (a+1) 1 rX rA
   rw[Jl]
   refine⟨fun x y e h=>?_,fun ts h=>?_⟩
   ·obtain⟨h3,h4,h5⟩:=h1 x y e h
    exact⟨by omega,h4,h5⟩
   ·obtain⟨h3,h4⟩:=h2 ts h
    refine⟨fun t ht=>?_,h4⟩
    rcases h3 t ht with h5|⟨h5,h6⟩
    ·exact .inl rA
    ·exact .inl rA
  ·rintro r rfl hk
   obtain⟨k,rfl⟩:∃j,k=j+1:=⟨k - 1,by rw[Aa] at hk;omega⟩
   obtain⟨h1,h2⟩:=Mb k r a (b+1) rX rA
   rw[Fz]
   exact zxc
  ·rintro r rfl hk
   obtain⟨k,rfl⟩:∃j,k=j+1:=⟨k - 1,by rw[Aa] at hk;omega⟩
   have hp:=F7 (q:=Eu) (c:=59) (r:=r) rB
   rw[Lv]
   obtain⟨h1,h2⟩:=Mb k ((59::r).drop (Ay Eu (59::r))) a (b+Ay Eu (59::r)) rT rA
   exact zxc
  ·rintro c r e rfl hc hw hk
   rw[La hc hw]
   refine⟨fun x y e' h=>?_,fun ts h=>by cases h⟩
   injection h with h
   simp only[Prod.mk.injEq] at h
   obtain⟨rfl,rfl,rfl⟩:=h
   exact⟨Int.le_refl _,hb,Qw hw⟩
  ·rintro c r w n rfl hc hw hk
   obtain⟨k,rfl⟩:∃j,k=j+1:=⟨k - 1,by rw[Aa] at hk;omega⟩
   obtain⟨hn,_⟩:=Ea hw
   rw[Ez hc hw]
   obtain⟨h1,h2⟩:=Mb k ((c::r).drop n) a (b+n) rT rA
   cases hx:LX ((c::r).drop n) a (b+n) with
   |error q=>
    obtain⟨x',y',e'⟩:=q
    refine⟨fun x y e h=>?_,fun ts h=>by cases h⟩
    injection h with h
    simp only[Prod.mk.injEq] at h
    obtain⟨rfl,rfl,rfl⟩:=h
    exact h1 _ _ _ hx
   |ok us=>
    refine⟨fun x y e h=>(by cases h),fun ts h=>?_⟩
    injection h with h
    subst h
    obtain⟨h3,h4⟩:=h2 us hx
    refine⟨fun t ht=>?_,List.Pairwise.cons (fun t ht=>?_) h4⟩
    ·rw[List.mem_cons] at ht
     rcases ht with rfl|ht
     ·exact .inr ⟨rfl,Int.le_refl _⟩
     ·rcases h3 t ht with h5|⟨h5,h6⟩
      ·exact .inl h5
      ·exact .inr ⟨h5,by omega⟩
    ·rcases h3 t ht with h5|⟨h5,h6⟩
     ·exact .inl h5
     ·exact .inr ⟨h5,by show b<t.col;omega⟩
def dA (w:Wd):Prop:=∃c r n,Jh c/\Bf (c::r)= .ok (w,n)
theorem Ty:∀(k:Nat) (l:List UInt8) (a b:Int) (ts:List Tkn),l.length<=k->LX l a b= .ok ts->∀t∈ts,dA t.w
 |k,l,a,b,ts,hk,h=>by
  refine Ib (P:=fun l=>l.length<=k->LX l a b= .ok ts->∀t∈ts,dA t.w) l ?_ ?_ ?_ ?_ ?_ ?_ hk h
  ·rintro rfl _ h
   rw[Je] at h
   injection h with h
   subst h
   simp
  ·rintro q rfl hk h
   obtain⟨k,rfl⟩:∃j,k=j+1:=⟨k - 1,by rw[Aa] at hk;omega⟩
   exact Ty k q (a+1) 1 ts rX h
  ·rintro q rfl hk h
   obtain⟨k,rfl⟩:∃j,k=j+1:=⟨k - 1,by rw[Aa] at hk;omega⟩
   exact Ty k q a (b+1) ts rX h
  ·rintro q rfl hk h
   obtain⟨k,rfl⟩:∃j,k=j+1:=⟨k - 1,by rw[Aa] at hk;omega⟩
   have hp:=F7 (q:=Eu) (c:=59) (r:=q) rB
   rw[Lv] at h
   exact Ty k _ a _ ts rT h
  ·rintro c q e rfl hc hw hk h
   rw[La hc hw] at h
   cases h
  ·rintro c q w n rfl hc hw hk h
   obtain⟨k,rfl⟩:∃j,k=j+1:=⟨k - 1,by rw[Aa] at hk;omega⟩
   obtain⟨hn,_⟩:=Ea hw
   rw[Ez hc hw] at h
   obtain⟨us,hu,rfl⟩:=Sz h
   intro t ht
   rw[List.mem_cons] at ht
   rcases ht with rfl|ht
   ·exact⟨c,q,n,hc,hw⟩
   ·exact Ty k _ a _ us rT hu t ht
def Gc (sep:List UInt8):List (List UInt8)->List UInt8
 |[]=>[]
 |[x]=>x
 |x::y::r=>x++(sep++Gc sep (y::r))
theorem J9:∀(k:Nat) (l:List UInt8) (a b:Int) (ts:List Tkn),l.length<=k->LX l a b= .ok ts->ts.length+(ts.map fun t=>(Dz t.w).length).sum<=2*l.length/\ts.length<=l.length
 |k,l,a,b,ts,hk,h=>by
  refine Ib (P:=fun l=>l.length<=k->LX l a b= .ok ts->ts.length+(ts.map fun t=>(Dz t.w).length).sum<=2*l.length/\ts.length<=l.length) l ?_ ?_ ?_ ?_ ?_ ?_ hk h
  ·rintro rfl _ h
   rw[Je] at h
   injection h with h
   subst h
   simp
  ·rintro q rfl hk h
   obtain⟨k,rfl⟩:∃j,k=j+1:=⟨k - 1,by rw[Aa] at hk;omega⟩
   have:=J9 k q (a+1) 1 ts rX h
   rw[Aa]
   omega
  ·rintro q rfl hk h
   obtain⟨k,rfl⟩:∃j,k=j+1:=⟨k - 1,by rw[Aa] at hk;omega⟩
   have:=J9 k q a (b+1) ts rX h
   rw[Aa]
   omega
  ·rintro q rfl hk h
   obtain⟨k,rfl⟩:∃j,k=j+1:=⟨k - 1,by rw[Aa] at hk;omega⟩
   have hp:=F7 (q:=Eu) (c:=59) (r:=q) rB
   rw[Lv] at h
   have:=J9 k _ a _ ts rT h
   rw[List.length_drop] at this
   omega
  ·rintro c q e rfl hc hw hk h
   rw[La hc hw] at h
   cases h
  ·rintro c q w n rfl hc hw hk h
   obtain⟨k,rfl⟩:∃j,k=j+1:=⟨k - 1,by rw[Aa] at hk;omega⟩
   obtain⟨hn,hnl⟩:=Ea hw
   obtain⟨hs,_⟩:=Ni hw
   rw[Ez hc hw] at h
   obtain⟨us,hu,rfl⟩:=Sz h
   have:=J9 k _ a _ us rT hu
   rw[List.length_drop] at this
   rw[Aa,List.map_cons,List.sum_cons,hs,List.length_take]
   omega
open Go Go.Lib
inductive Qg (w:Wd):Prop where
 |name (h:w.k=1) (t:I8 w.t=true) (v:w.v=v0)
 |var (h:w.k=2) (t:I8 w.t=true) (v:w.v=v0)
 |self (h:w.k=3) (t:w.t=[]) (v:w.v=v0)
 |num (h:w.k=4) (t:Dy w.t= .ok w.v) (m:∃c r,w.t=c::r/\A3 c=true/\Bg w.t=w.t.length)
 |str (h:w.k=5) (t:Dy (34::w.t++[34])= .ok w.v) (m:∀c∈w.t,Hy c=true) (s:A1 false (w.t++[34])=w.t.length)
 |sym (h:w.k=6) (t:I8 w.t=true) (v:w.v=(5,0,w.t))
 |sign (h:w.k=7) (t:w.t∈E4\/w.t∈Mc.map fun c=>[c]) (v:w.v=v0)
theorem Pb {c:UInt8}{r:List UInt8}(hc:Dk c=true)(h:((c::r).take (Ay B7 (c::r))).length<=12):I8 ((c::r).take (Ay B7 (c::r)))=true:=by
 have hn:B7 c=true:=by unfold B7;rw[hc];rfl
 rw[Dh hn,Nat.add_comm,List.take_succ_cons] at h ⊢
 show(decide ((r.take (Ay B7 r)).length<12) && Dk c && (r.take (Ay B7 r)).all fun b=>Dk b||A3 b)=true
 rw[hc,Bool.and_true,Bool.and_eq_true,decide_eq_true_eq]
 exact⟨by rw[Aa] at h;omega,List.all_eq_true.2 (Fk r)⟩
theorem Up {l:List UInt8}{w:Wd}{n:Nat}(h:Bf l= .ok (w,n)):Qg w:=by
 have hsh:∀{w':Wd} {m:Nat},Cq w' m= .ok (w,n)->w'=w/\w'.t.length<=12:=fun{w' m} hh=>by
  unfold Cq at hh
  split at hh
  ·cases hh
  ·rename_i hl
   injection hh with hh
   exact⟨congrArg Prod.fst hh,by omega⟩
 unfold Bf at h
 cases l with
 |nil=>cases h
 |cons c r=>
  simp only at h
  by_cases h1:Dk c=true
  ·rw[if_pos h1] at h
   obtain⟨rfl,hl⟩:=hsh h
   exact .name rfl (Pb h1 hl) rfl
  rw[if_neg h1] at h
  by_cases h2:A3 c=true
  ·rw[if_pos h2] at h
   unfold Ke at h
   have hp:=Mg (r:=r) h2
   cases hv:Dy ((c::r).take (Bg (c::r))) with
   |error e=>rw[hv] at h;cases h
   |ok v=>
    rw[hv] at h
    injection h with h
    injection h with h _
    subst h
    refine .num rfl hv ⟨c,r.take (Bg (c::r) - 1),?_,h2,?_⟩
    ·show(c::r).take _=_
     obtain⟨m,hm⟩:∃m,Bg (c::r)=m+1:=⟨Bg (c::r) - 1,by omega⟩
     rw[hm]
     rfl
    ·show Bg ((c::r).take _)=((c::r).take _).length
     rw[Zg _ _ (Ak _),List.length_take,Nat.min_eq_left hp.2]
  rw[if_neg h2] at h
  by_cases h3:c=34
  ·rw[if_pos h3,Gy] at h
   by_cases hq:((c::r).drop (1+A1 false r)).head? =some 34
   ·rw[if_pos hq] at h
    cases hv:Dy ((c::r).take (A1 false r+2)) with
    |error e=>rw[hv] at h;cases h
    |ok v=>
     rw[hv] at h
     injection h with h
     injection h with h _
     subst h h3
     rw[Nat.add_comm,List.drop_succ_cons] at hq
     have ht:=R8 hq
     rw[List.take_succ_cons,ht] at hv
     refine .str rfl hv (Nf false r) ?_
     show A1 false (r.take (A1 false r)++[34])=(r.take (A1 false r)).length
     rw[←ht,Py false r _ (Nat.lt_succ_self _),List.length_take,Nat.min_eq_left (Mm false r)]
   ·rw[if_neg hq] at h
    cases h
  rw[if_neg h3] at h
  by_cases h4:c=63
  ·subst h4
   rw[if_pos rfl] at h
   by_cases hm:Dp (63::r)=true
   ·rw[if_pos hm] at h
    obtain⟨rfl,hl⟩:=hsh h
    cases r with
    |nil=>cases hm
    |cons d r=>exact .var rfl (Pb hm hl) rfl
   ·rw[if_neg hm] at h
    injection h with h
    injection h with h _
    subst h
    exact .self rfl rfl rfl
  rw[if_neg h4] at h
  by_cases h5:c=35/\Dp (c::r)=true
  ·rw[if_pos h5] at h
   obtain⟨rfl,hl⟩:=hsh h
   cases r with
   |nil=>cases h5.2
   |cons d r=>exact .sym rfl (Pb h5.2 hl) rfl
  rw[if_neg h5] at h
  unfold E8 at h
  split at h
  ·rename_i h6
   injection h with h
   injection h with h _
   subst h
   exact .sign rfl (.inl h6) rfl
  ·split at h
   ·rename_i h6
    injection h with h
    injection h with h _
    subst h
    exact .sign rfl (.inr h6) rfl
   ·cases h
theorem Pl {l:List UInt8}{ts:List Tkn}(h:Fp l= .ok ts):∀t∈ts,Qg t.w:=fun t ht=>by
 obtain⟨c,r,n,_,hw⟩:=Ty _ l 1 1 ts (Ak _) h t ht
 exact Up hw
theorem Rv:I8 [40]=false:=by decide
theorem Ur {l:List UInt8}{ts:List Tkn}(h:Fp l= .ok ts):∀t∈ts,t.w.k=1->t.w.t≠[40]:=fun t ht hk e=>by
 cases Pl h t ht with
 |name _ ht' _=>rw[e,Rv] at ht';cases ht'
 |var h _ _=>omega
 |self h _ _=>omega
 |num h _ _=>omega
 |str h _ _ _=>omega
 |sym h _ _=>omega
 |sign h _ _=>omega
theorem P2:∀(k:Nat) (l:List UInt8) (a b:Int) (ts:List Tkn),l.length<=k->1<=a->1<=b->LX l a b= .ok ts->∀t∈ts,1<=t.line/\t.line<=a+(l.length:Nat)/\1<=t.col/\t.col<=b+(l.length:Nat)
 |k,l,a,b,ts,hk,ha,hb,h=>by
  refine Ib (P:=fun l=>l.length<=k->LX l a b= .ok ts->∀t∈ts,1<=t.line/\t.line<=a+(l.length:Nat)/\1<=t.col/\t.col<=b+(l.length:Nat)) l ?_ ?_ ?_ ?_ ?_ ?_ hk h
  ·rintro rfl _ h
   rw[Je] at h
   injection h with h
   subst h
   intro t ht
   cases ht
  ·rintro r rfl hk h t ht
   obtain⟨k,rfl⟩:∃j,k=j+1:=⟨k - 1,by rw[Aa] at hk;omega⟩
   rw[Jl] at h
   have:=P2 k r (a+1) 1 ts rX rA rB h t ht
   rw[Aa]
   omega
  ·rintro r rfl hk h t ht
   obtain⟨k,rfl⟩:∃j,k=j+1:=⟨k - 1,by rw[Aa] at hk;omega⟩
   rw[Fz] at h
   have:=P2 k r a (b+1) ts rX ha rA h t ht
   rw[Aa]
   omega
  ·rintro r rfl hk h t ht
   obtain⟨k,rfl⟩:∃j,k=j+1:=⟨k - 1,by rw[Aa] at hk;omega⟩
   have hp:=F7 (q:=Eu) (c:=59) (r:=r) rB
   have hle:=Cd Eu (59::r)
   rw[Lv] at h
   have:=P2 k _ a _ ts rT ha rA h t ht
   rw[List.length_drop] at this
   omega
  ·rintro c r e rfl hc hw hk h
   rw[La hc hw] at h
   cases h
  ·rintro c r w n rfl hc hw hk h t ht
   obtain⟨k,rfl⟩:∃j,k=j+1:=⟨k - 1,by rw[Aa] at hk;omega⟩
   obtain⟨hn,hnl⟩:=Ea hw
   rw[Ez hc hw] at h
   cases hx:LX ((c::r).drop n) a (b+n) with
   |error e=>rw[hx] at h;cases h
   |ok us=>
    rw[hx] at h
    injection h with h
    subst h
    rw[List.mem_cons] at ht
    rcases ht with rfl|ht
    ·simp only
     omega
    ·have:=P2 k _ a _ us rT ha rA hx t ht
     rw[List.length_drop] at this
     omega
theorem L7 {l:List UInt8}{ts:List Tkn}(h:Fp l= .ok ts):∀t∈ts,1<=t.line/\t.line<=1+(l.length:Nat)/\1<=t.col/\t.col<=1+(l.length:Nat):=
 P2 _ l 1 1 ts (Ak _) rB rB h
theorem cY:∀{l:List Nat} {x:Nat},x∈l->x<=l.sum
 |y::l,x,h=>by
  rw[List.sum_cons]
  rcases List.mem_cons.1 h with rfl|h
  ·omega
  ·have:=cY h
   omega
theorem Vo {l:List UInt8}{ts:List Tkn}(h:Fp l= .ok ts):∀t∈ts,t.w.t.length<=2*l.length:=fun t ht=>by
 have h1:=(J9 _ l 1 1 ts (Ak _) h).1
 have h2:(Dz t.w).length<=(ts.map fun t=>(Dz t.w).length).sum:=cY (List.mem_map.2 ⟨t,ht,rfl⟩)
 have h3:t.w.t.length<=(Dz t.w).length:=by
  unfold Dz
  repeat' split
  all_goals (simp;try omega)
 omega
theorem Np {x:ExR}{g:Ex->List Tkn->ExR}{p:Int×List Tkn}(h:x.next g= .error p):x= .error p\/∃a q,x= .ok (a,q)/\g a q= .error p:=by
 cases x with
 |error e=>exact .inl h
 |ok y=>exact .inr ⟨y.1,y.2,rfl,h⟩
theorem Yx {a:Ex}{q:List Tkn}{p:Int×List Tkn}(h:Cs a q= .error p):p.1=4:=by
 unfold Cs at h
 split at h
 ·cases h
 ·injection h with h
  rw[←h]
theorem Zu {d:Nat}{r:List Tkn}{g:List Tkn->ExR}{p:Int×List Tkn}(h:Bv d r g= .error p):p.1=4\/p.1=12\/(isH [40] r=true/\d≠12/\g r.tail= .error p):=by
 unfold Bv at h
 split at h
 ·rename_i hp
  split at h
  ·injection h with h
   rw[←h]
   exact .inr (.inl rfl)
  ·rename_i hd
   exact .inr (.inr ⟨hp,hd,h⟩)
 ·injection h with h
  rw[←h]
  exact .inl rfl
theorem Yd:∀td d r,td.ok->∀p,exE td d r= .error p->p.1=4\/p.1=12\/p.1=14:=by
 refine P6 (P:=fun td d r=>∀p,exE td d r= .error p->p.1=4\/p.1=12\/p.1=14) ?_ ?_ ?_ ?_ ?_
 ·intro n d r hn h1 h2 p h
  rw[show exE (.lvl n) d r=_ from Ec hn] at h
  by_cases hp:isH (Er n) r=true
  ·rw[if_pos hp] at h
   obtain⟨t,q0,rfl⟩:=B9 hp
   by_cases hd:d=12
   ·rw[if_pos hd] at h
    injection h with h
    rw[←h]
    exact .inr (.inl rfl)
   ·rw[if_neg hd] at h
    rcases Np h with h3|⟨a,q,_,h3⟩
    ·exact h1 t q0 rfl hp hd p h3
    ·cases h3
  ·rw[if_neg hp] at h
   exact h2 uG p h
 ·intro d r h1 h2 p h
  rw[show exE (.lvl 7) d r=_ from Bj d r] at h
  cases r with
  |nil=>
   injection h with h
   rw[←h]
   exact .inl rfl
  |cons t r=>
   simp only at h
   cases hl:Ce t with
   |some x=>rw[hl] at h;cases h
   |none=>
    cases hc:Cx t with
    |some c=>
     rw[hl,hc] at h
     rcases Zu h with h3|h3|⟨h3,h4,h5⟩
     ·exact .inl h3
     ·exact .inr (.inl h3)
     ·obtain⟨t',q',rfl⟩:=B9 h3
      exact h1 t t' q' c rfl hl hc h3 h4 p h5
    |none=>
     rw[hl,hc] at h
     rcases Zu h with h3|h3|⟨h3,h4,h5⟩
     ·exact .inl h3
     ·exact .inr (.inl h3)
     ·rcases Np h5 with h6|⟨a,q,_,h6⟩
      ·exact h2 t r rfl hl hc h3 h4 p h6
      ·exact .inl (Yx h6)
 ·intro n d r h5 hn2 h1 h2 p h
  rw[show exE (.lvl n) d r=_ from Dv h5 hn2] at h
  rcases Np h with h3|⟨a,q,h3,h4⟩
  ·exact h1 p h3
  ·exact h2 a q h3 p h4
 ·intro n b d r h1 p h
  rw[show exE (.row n b) d r=_ from Dl n b d r] at h
  by_cases hz:A9 r (Bh n)=0
  ·rw[if_pos hz] at h
   cases h
  ·rw[if_neg hz] at h
   obtain⟨t,r',rfl⟩:=Fj hz
   obtain⟨h5,hn2⟩:=Lo hz
   obtain⟨k1,k2⟩:=h1 t r' rfl hz h5 hn2
   rcases Np h with h3|⟨a,q,h3,h4⟩
   ·exact k1 p h3
   ·by_cases h3n:n=3
    ·rw[if_pos h3n] at h4
     cases h4
    ·rw[if_neg h3n] at h4
     exact k2 a q h3 p h4
 ·intro c ks d r h1 h2 p h
  rw[show exE (.args c ks) d r=_ from Fg c ks d r] at h
  rcases Np h with h3|⟨a,q,h3,h4⟩
  ·exact h1 p h3
  ·by_cases hm:(isH [44] q && decide (ks.length+1=c.most)||isH [41] q && decide (ks.length+1<c.least))=true
   ·rw[if_pos hm] at h4
    injection h4 with h4
    rw[←h4]
    exact .inr (.inr rfl)
   ·rw[if_neg hm] at h4
    by_cases hcm:isH [44] q=true
    ·rw[if_pos hcm] at h4
     obtain⟨t',q',rfl⟩:=B9 hcm
     exact h2 a t' q' h3 hcm p h4
    ·rw[if_neg hcm] at h4
     exact .inl (Yx h4)
def Ft (ts:List Tkn):Int×Int:=match ts.getLast? with
 |none=>(1,1)
 |some t=>(t.line,t.col+t.w.t.length+if t.w.k=2\/t.w.k=3\/t.w.k=6 then 1 else if t.w.k=5 then 2 else 0)
def Nk (ts q:List Tkn):Int×Int:=match q with
 |t::_=>(t.line,t.col)
 |[]=>Ft ts
def Bn (l:List UInt8):Except ((Int×Int)×Int) Ex:=match Fp l with
 | .error (a,b,e)=> .error ((a,b),e)
 | .ok ts=>match A2 0 0 ts with
   | .error (e,q)=> .error (Nk ts q,e)
   | .ok (a,q)=>if 60<a.size then .error (Nk ts ts,7) else if q=[] then .ok a else .error (Nk ts q,4)
end Go.Proofs.YtgfakdobajgnfaaGreatDoor
