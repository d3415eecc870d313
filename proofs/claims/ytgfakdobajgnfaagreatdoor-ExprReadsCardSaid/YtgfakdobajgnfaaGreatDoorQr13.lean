import Derived.Test.YtgfakdobajgnfaaGreatDoorQr12
import Derived.Test.YtgfakdobajgnfaaGreatDoorQr0
namespace Go.Proofs.YtgfakdobajgnfaaGreatDoor
open Go Go.Lib
def numLen (l:List UInt8):Nat:=
 match l.drop (spanL digC l) with
 |46::c::r=>if digC c then spanL digC l+(1+spanL digC (c::r)) else spanL digC l
 |_=>spanL digC l
def numW (l:List UInt8):Except Int (Wd×Nat):=
 match prsL (l.take (numLen l)) with
 | .ok v=> .ok (⟨4,l.take (numLen l),v⟩,numLen l)
 | .error e=> .error (if e=9 then 9 else 4)
def txtSpan:Bool→List UInt8→Nat
 |_,[]=>0
 |esc,c::r=>if(c==34 && !esc)||!priC c then 0 else 1+txtSpan (c==92 && !esc) r
def txtW (l:List UInt8):Except Int (Wd×Nat):=
 if(l.drop (1+txtSpan false l.tail)).head? =some 34 then
  match prsL (l.take (txtSpan false l.tail+2)) with
  | .ok v=> .ok (⟨5,l.tail.take (txtSpan false l.tail),v⟩,txtSpan false l.tail+2)
  | .error _=> .error 4
 else .error 4
def twos:List (List UInt8):=[[60,61],[62,61],[60,62],[46,46]]
def ones:List UInt8:=[40,41,91,93,44,58,61,60,62,43,45,42,47]
def signW (l:List UInt8):Except Int (Wd×Nat):=
 if l.take 2∈twos then .ok (⟨7,l.take 2,v0⟩,2) else if l.take 1∈ones.map fun c=>[c] then .ok (⟨7,l.take 1,v0⟩,1) else .error 4
def shortW (w:Wd)(n:Nat):Except Int (Wd×Nat):=if 12<w.t.length then .error 4 else .ok (w,n)
def markB (l:List UInt8):Bool:=match l with
 |_::c::_=>lowC c
 |_=>false
def wordL (l:List UInt8):Except Int (Wd×Nat):=
 match l with
 |[]=> .error 4
 |c::r=>
  if lowC c then shortW ⟨1,l.take (spanL namC l),v0⟩ (spanL namC l)
  else if digC c then numW l
  else if c=34 then txtW l
  else if c=63 then(if markB l then shortW ⟨2,r.take (spanL namC r),v0⟩ (1+spanL namC r) else .ok (⟨3,[],v0⟩,1))
  else if c=35∧markB l=true then shortW ⟨6,r.take (spanL namC r),(5,0,r.take (spanL namC r))⟩ (1+spanL namC r)
  else signW l
def lexGo:Nat→List UInt8→Int→Int→Except (Int×Int×Int) (List Tkn)
 |0,_,_,_=> .ok []
 |f+1,l,line,col=>
  match l with
  |[]=> .ok []
  |c::r=>
   if c=10 then lexGo f r (line+1) 1
   else if c=59 then lexGo f (l.drop (spanL (fun c=>c !=10) l)) line (col+spanL (fun c=>c !=10) l)
   else if c=32 then lexGo f r line (col+1)
   else match wordL l with
    | .error e=> .error (line,col,e)
    | .ok (w,n)=>match lexGo f (l.drop n) line (col+n) with
      | .error e=> .error e
      | .ok ts=> .ok (⟨w,line,col⟩::ts)
def lexL (l:List UInt8):Except (Int×Int×Int) (List Tkn):=lexGo l.length l 1 1
theorem spanL_cons {q:UInt8→Bool}{c:UInt8}{r:List UInt8}(h:q c=true):spanL q (c::r)=1+spanL q r:=by
 unfold spanL
 rw[List.takeWhile_cons,if_pos h,List.length_cons]
 omega
theorem txtSpan_le:∀(b:Bool) (l:List UInt8),txtSpan b l≤l.length
 |_,[]=>Nat.le_refl _
 |b,c::r=>by
  unfold txtSpan
  split
  ·omega
  ·have:=txtSpan_le (c==92 && !b) r
   rw[List.length_cons]
   omega
theorem numLen_pos {c:UInt8}{r:List UInt8}(h:digC c=true):1≤numLen (c::r)∧numLen (c::r)≤(c::r).length:=by
 have h1:=spanL_cons (q:=digC) (r:=r) h
 have h2:=spanL_le digC (c::r)
 unfold numLen
 split
 ·rename_i d q e
  have h3:=congrArg List.length e
  rw[List.length_drop] at h3
  simp only[List.length_cons] at h3 h2 ⊢
  have h4:=spanL_le digC (d::q)
  simp only[List.length_cons] at h4
  split<;>omega
 ·omega
theorem wordL_len {l:List UInt8}{w:Wd}{n:Nat}(h:wordL l= .ok (w,n)):1≤n∧n≤l.length:=by
 unfold wordL at h
 cases l with
 |nil=>cases h
 |cons c r=>
  simp only at h
  have hsh:∀{w':Wd} {m:Nat},shortW w' m= .ok (w,n)→m=n:=fun{w' m} hh=>by
   unfold shortW at hh
   split at hh
   ·cases hh
   ·injection hh with hh
    exact congrArg Prod.snd hh
  by_cases h1:lowC c=true
  ·rw[if_pos h1] at h
   have:=hsh h
   have h2:=spanL_cons (q:=namC) (r:=r) (show namC c=true by unfold namC;rw[h1];rfl)
   have h3:=spanL_le namC (c::r)
   omega
  rw[if_neg h1] at h
  by_cases h2:digC c=true
  ·rw[if_pos h2] at h
   unfold numW at h
   split at h
   ·injection h with h
    have:=congrArg Prod.snd h
    have h3:=numLen_pos (r:=r) h2
    simp only at this
    omega
   ·cases h
  rw[if_neg h2] at h
  by_cases h3:c=34
  ·rw[if_pos h3] at h
   unfold txtW at h
   split at h
   ·rename_i hq
    split at h
    ·injection h with h
     have:=congrArg Prod.snd h
     simp only[List.tail_cons] at this hq
     have h5:(1+txtSpan false r)<(c::r).length:=by
      rw[List.head?_drop] at hq
      exact(List.getElem?_eq_some_iff.1 hq).1
     omega
    ·cases h
   ·cases h
  rw[if_neg h3] at h
  have hr:=spanL_le namC r
  by_cases h4:c=63
  ·rw[if_pos h4] at h
   split at h
   ·have:=hsh h
    rw[List.length_cons]
    omega
   ·injection h with h
    have:=congrArg Prod.snd h
    simp only at this
    rw[List.length_cons]
    omega
  rw[if_neg h4] at h
  by_cases h5:c=35∧markB (c::r)=true
  ·rw[if_pos h5] at h
   have:=hsh h
   rw[List.length_cons]
   omega
  rw[if_neg h5] at h
  unfold signW at h
  split at h
  ·rename_i hm
   injection h with h
   have:=congrArg Prod.snd h
   simp only at this
   have h6:((c::r).take 2).length=2:=by
    have:∀x∈twos,x.length=2:=by decide
    exact this _ hm
   rw[List.length_take] at h6
   omega
  ·split at h
   ·injection h with h
    have:=congrArg Prod.snd h
    simp only at this
    rw[List.length_cons]
    omega
   ·cases h
open Go Go.Lib
theorem spanL_mem {q:UInt8→Bool}:∀(l:List UInt8),∀c∈l.take (spanL q l),q c=true
 |[],c,h=>by simp at h
 |d::l,c,h=>by
  by_cases hd:q d=true
  ·rw[spanL_cons hd,Nat.add_comm,List.take_succ_cons,List.mem_cons] at h
   rcases h with rfl|h
   ·exact hd
   ·exact spanL_mem l c h
  ·have:spanL q (d::l)=0:=by
    unfold spanL
    rw[List.takeWhile_cons,if_neg hd]
    rfl
   rw[this] at h
   simp at h
theorem spanL_take {q:UInt8→Bool}:∀(l:List UInt8) (m:Nat),spanL q l≤m→spanL q (l.take m)=spanL q l
 |[],m,_=>by simp
 |d::l,m,h=>by
  by_cases hd:q d=true
  ·rw[spanL_cons hd] at h ⊢
   cases m with
   |zero=>omega
   |succ m=>
    rw[List.take_succ_cons,spanL_cons hd,spanL_take l m (by omega)]
  ·have e:∀r,spanL q (d::r)=0:=fun r=>by
    unfold spanL
    rw[List.takeWhile_cons,if_neg hd]
    rfl
   rw[e]
   cases m with
   |zero=>rfl
   |succ m=>rw[List.take_succ_cons,e]
open Go Go.Lib
def Stop (r:List UInt8):Prop:=∀c,r.head? =some c→c=10∨c=32
theorem Stop.nam {r:List UInt8}(h:Stop r):∀c,r.head? =some c→namC c=false:=fun c hc=>by
 rcases h c hc with rfl|rfl<;>rfl
theorem txtSpan_cons (b:Bool)(c:UInt8)(q:List UInt8):txtSpan b (c::q)=if((c==34 && !b)||!priC c)=true then 0 else 1+txtSpan (c==92 && !b) q:=by
 conv=>lhs;unfold txtSpan
theorem txtW_cons (c:UInt8)(q:List UInt8):txtW (c::q)=if((c::q).drop (1+txtSpan false q)).head? =some 34 then
 match prsL ((c::q).take (txtSpan false q+2)) with
 | .ok v=> .ok (⟨5,q.take (txtSpan false q),v⟩,txtSpan false q+2)
 | .error _=> .error 4
 else .error 4:=rfl
theorem shortW_ok {w w':Wd}{m n:Nat}(h:shortW w' m= .ok (w,n)):m=n∧w'=w∧shortW w' m= .ok (w',m):=by
 unfold shortW at h ⊢
 split at h
 ·cases h
 ·rename_i hn
  injection h with h
  simp only[Prod.mk.injEq] at h
  exact⟨h.2,h.1,by rw[if_neg hn]⟩
open Go Go.Lib
theorem txtSpan_take:∀(b:Bool) (l:List UInt8) (m:Nat),txtSpan b l<m→txtSpan b (l.take m)=txtSpan b l
 |b,[],m,_=>by simp
 |b,c::q,m,h=>by
  obtain⟨m,rfl⟩:∃k,m=k+1:=⟨m - 1,by omega⟩
  rw[List.take_succ_cons,txtSpan_cons,txtSpan_cons]
  rw[txtSpan_cons] at h
  by_cases hc:((c==34 && !b)||!priC c)=true
  ·rw[if_pos hc,if_pos hc]
  ·rw[if_neg hc] at h
   rw[if_neg hc,if_neg hc,txtSpan_take _ q m (by omega)]
def numTail (n:Nat)(x:List UInt8):Nat:=match x with
 |46::c::r=>if digC c then n+(1+spanL digC (c::r)) else n
 |_=>n
theorem numLen_eq (l:List UInt8):numLen l=numTail (spanL digC l) (l.drop (spanL digC l)):=rfl
theorem numTail_ge (n:Nat)(x:List UInt8):n≤numTail n x:=by
 unfold numTail
 split
 ·split<;>omega
 ·omega
theorem numTail_take (n m:Nat)(x:List UInt8)(h:numTail n x≤n+m):numTail n (x.take m)=numTail n x:=by
 match x with
 |[]=>simp
 |[a]=>
  have e:numTail n [a]=n:=by unfold numTail;split<;>simp_all
  cases m with
  |zero=>rw[e];rfl
  |succ m=>simp
 |a::c::q=>
  by_cases ha:a=46∧digC c=true
  ·obtain⟨rfl,hc⟩:=ha
   have e:∀y,numTail n (46::c::y)=n+(1+spanL digC (c::y)):=fun y=>by unfold numTail;simp [hc]
   rw[e] at h
   have hk:=spanL_cons (q:=digC) (r:=q) hc
   obtain⟨k,rfl⟩:∃k,m=k+2:=⟨m - 2,by omega⟩
   have h3:=spanL_take (q:=digC) (c::q) (k+1) (by omega)
   rw[List.take_succ_cons] at h3
   rw[List.take_succ_cons,List.take_succ_cons,e,e,h3]
  ·have e1:∀y,numTail n (a::c::y)=n:=fun y=>by
    unfold numTail
    split
    ·rename_i e
     simp only[List.cons.injEq] at e
     obtain⟨e1,e2,_⟩:=e
     subst e1 e2
     rw[if_neg (fun h=>ha ⟨rfl,h⟩)]
    ·rfl
   rw[e1]
   match m with
   |0=>rfl
   |1=>
    show numTail n [a]=n
    unfold numTail
    split<;>simp_all
   |m+2=>rw[List.take_succ_cons,List.take_succ_cons,e1]
theorem numLen_take (l:List UInt8)(m:Nat)(h:numLen l≤m):numLen (l.take m)=numLen l:=by
 have hsp:=numTail_ge (spanL digC l) (l.drop (spanL digC l))
 rw[←numLen_eq] at hsp
 rw[numLen_eq,spanL_take (q:=digC) l m (by omega),List.drop_take,numTail_take _ _ _ (by rw[←numLen_eq];omega),←numLen_eq]
open Go Go.Lib
theorem spanL_pos {q:UInt8→Bool}{c:UInt8}{r:List UInt8}(h:q c=true):1≤spanL q (c::r):=by
 rw[spanL_cons h];omega
theorem lexGo_fuel:∀(f g:Nat) (l:List UInt8) (a b:Int),l.length≤f→l.length≤g→lexGo f l a b=lexGo g l a b
 |0,g,l,a,b,hf,_=>by
  obtain rfl:l=[]:=List.eq_nil_of_length_eq_zero (by omega)
  cases g with
  |zero=>rfl
  |succ g=>rfl
 |f+1,g,l,a,b,hf,hg=>by
  cases l with
  |nil=>cases g<;>rfl
  |cons c r=>
   obtain⟨g,rfl⟩:∃k,g=k+1:=⟨g - 1,by rw[List.length_cons] at hg;omega⟩
   rw[List.length_cons] at hf hg
   unfold lexGo
   simp only
   rw[lexGo_fuel f g r (a+1) 1 (by omega) (by omega),lexGo_fuel f g r a (b+1) (by omega) (by omega)]
   by_cases h1:c=10
   ·rw[if_pos h1,if_pos h1]
   rw[if_neg h1,if_neg h1]
   by_cases h2:c=59
   ·rw[if_pos h2,if_pos h2]
    have:=spanL_pos (q:=fun c=>c !=10) (c:=c) (r:=r) (by simpa using h1)
    exact lexGo_fuel f g _ _ _ (by rw[List.length_drop,List.length_cons];omega) (by rw[List.length_drop,List.length_cons];omega)
   rw[if_neg h2,if_neg h2]
   by_cases h3:c=32
   ·rw[if_pos h3,if_pos h3]
   rw[if_neg h3,if_neg h3]
   cases hw:wordL (c::r) with
   |error e=>rfl
   |ok p=>
    obtain⟨w,n⟩:=p
    obtain⟨h4,_⟩:=wordL_len hw
    simp only
    rw[lexGo_fuel f g ((c::r).drop n) a (b+n) (by rw[List.length_drop,List.length_cons];omega) (by rw[List.length_drop,List.length_cons];omega)]
open Go Go.Lib
theorem txtSpan_mem:∀(b:Bool) (l:List UInt8),∀c∈l.take (txtSpan b l),priC c=true
 |b,[],c,h=>by simp at h
 |b,d::q,c,h=>by
  rw[txtSpan_cons] at h
  by_cases hc:((d==34 && !b)||!priC d)=true
  ·rw[if_pos hc] at h
   simp at h
  ·rw[if_neg hc,Nat.add_comm,List.take_succ_cons,List.mem_cons] at h
   rcases h with rfl|h
   ·simp only[Bool.or_eq_true,not_or,Bool.not_eq_true,Bool.not_eq_false'] at hc
    exact hc.2
   ·exact txtSpan_mem _ q c h
theorem numTail_mem (n:Nat)(x:List UInt8):∃k,numTail n x=n+k∧∀c∈x.take k,digC c=true∨c=46:=by
 unfold numTail
 split
 ·rename_i c r
  split
  ·refine⟨1+spanL digC (c::r),rfl,fun d hd=>?_⟩
   rw[Nat.add_comm,List.take_succ_cons,List.mem_cons] at hd
   rcases hd with rfl|hd
   ·exact .inr rfl
   ·exact .inl (spanL_mem _ d hd)
  ·exact⟨0,rfl,by simp⟩
 ·exact⟨0,rfl,by simp⟩
theorem numLen_mem (l:List UInt8):∀c∈l.take (numLen l),digC c=true∨c=46:=by
 intro c hc
 obtain⟨k,h1,h2⟩:=numTail_mem (spanL digC l) (l.drop (spanL digC l))
 rw[numLen_eq,h1,List.take_add,List.mem_append] at hc
 rcases hc with hc|hc
 ·exact .inl (spanL_mem _ c hc)
 ·exact h2 c hc
theorem ne10_nam {c:UInt8}(h:namC c=true):c≠10:=by rintro rfl;cases h
theorem ne10_pri {c:UInt8}(h:priC c=true):c≠10:=by rintro rfl;cases h
theorem ne10_num {c:UInt8}(h:digC c=true∨c=46):c≠10:=by
 rintro rfl
 rcases h with h|h
 ·cases h
 ·cases h
def spellW (w:Wd):List UInt8:=
 if w.k=2∨w.k=3 then 63::w.t else if w.k=5 then 34::(w.t++[34]) else if w.k=6 then 35::w.t else w.t
theorem take_head34 {q:List UInt8}{k:Nat}(h:(q.drop k).head? =some 34):q.take (k+1)=q.take k++[34]:=by
 rw[List.head?_drop] at h
 rw[List.take_add_one,h]
 rfl
theorem wordL_spell {l:List UInt8}{w:Wd}{n:Nat}(h:wordL l= .ok (w,n)):spellW w=l.take n∧∀c∈l.take n,c≠10:=by
 unfold wordL at h
 cases l with
 |nil=>cases h
 |cons c r=>
  simp only at h
  by_cases h1:lowC c=true
  ·rw[if_pos h1] at h
   obtain⟨e1,e2,_⟩:=shortW_ok h
   subst e1 e2
   exact⟨rfl,fun d hd=>ne10_nam (spanL_mem _ d hd)⟩
  rw[if_neg h1] at h
  by_cases h2:digC c=true
  ·rw[if_pos h2] at h
   unfold numW at h
   cases hp:prsL ((c::r).take (numLen (c::r))) with
   |error e=>rw[hp] at h;cases h
   |ok v=>
    rw[hp] at h
    injection h with h
    simp only[Prod.mk.injEq] at h
    obtain⟨e1,e2⟩:=h
    subst e1 e2
    exact⟨rfl,fun d hd=>ne10_num (numLen_mem _ d hd)⟩
  rw[if_neg h2] at h
  by_cases h3:c=34
  ·rw[if_pos h3,txtW_cons] at h
   by_cases hq:((c::r).drop (1+txtSpan false r)).head? =some 34
   ·rw[if_pos hq] at h
    cases hp:prsL ((c::r).take (txtSpan false r+2)) with
    |error e=>rw[hp] at h;cases h
    |ok v=>
     rw[hp] at h
     injection h with h
     simp only[Prod.mk.injEq] at h
     obtain⟨e1,e2⟩:=h
     subst e1 e2 h3
     rw[Nat.add_comm,List.drop_succ_cons] at hq
     have ht:=take_head34 hq
     rw[List.take_succ_cons,ht]
     refine⟨rfl,fun d hd=>?_⟩
     rw[List.mem_cons,List.mem_append] at hd
     rcases hd with rfl|hd|hd
     ·decide
     ·exact ne10_pri (txtSpan_mem _ _ d hd)
     ·rw[List.mem_singleton] at hd
      subst hd
      decide
   ·rw[if_neg hq] at h;cases h
  rw[if_neg h3] at h
  by_cases h4:c=63
  ·rw[if_pos h4] at h
   by_cases hm:markB (c::r)=true
   ·rw[if_pos hm] at h
    obtain⟨e1,e2,_⟩:=shortW_ok h
    subst e1 e2 h4
    rw[Nat.add_comm,List.take_succ_cons]
    refine⟨rfl,fun d hd=>?_⟩
    rw[List.mem_cons] at hd
    rcases hd with rfl|hd
    ·decide
    ·exact ne10_nam (spanL_mem _ d hd)
   ·rw[if_neg hm] at h
    injection h with h
    simp only[Prod.mk.injEq] at h
    obtain⟨e1,e2⟩:=h
    subst e1 e2 h4
    refine⟨rfl,fun d hd=>?_⟩
    simp only[List.take_succ_cons,List.take_zero,List.mem_singleton] at hd
    subst hd
    decide
  rw[if_neg h4] at h
  by_cases h5:c=35∧markB (c::r)=true
  ·rw[if_pos h5] at h
   obtain⟨e1,e2,_⟩:=shortW_ok h
   subst e1 e2
   obtain⟨rfl,_⟩:=h5
   rw[Nat.add_comm,List.take_succ_cons]
   refine⟨rfl,fun d hd=>?_⟩
   rw[List.mem_cons] at hd
   rcases hd with rfl|hd
   ·decide
   ·exact ne10_nam (spanL_mem _ d hd)
  rw[if_neg h5] at h
  unfold signW at h
  by_cases h6:(c::r).take 2∈twos
  ·rw[if_pos h6] at h
   injection h with h
   simp only[Prod.mk.injEq] at h
   obtain⟨e1,e2⟩:=h
   subst e1 e2
   exact⟨rfl,(show ∀x∈twos,∀d∈x,d≠10 by decide) _ h6⟩
  ·rw[if_neg h6] at h
   by_cases h7:(c::r).take 1∈ones.map fun c=>[c]
   ·rw[if_pos h7] at h
    injection h with h
    simp only[Prod.mk.injEq] at h
    obtain⟨e1,e2⟩:=h
    subst e1 e2
    exact⟨rfl,(show ∀x∈ones.map (fun c=>[c]),∀d∈x,d≠10 by decide) _ h7⟩
   ·rw[if_neg h7] at h;cases h
theorem wordL_err {l:List UInt8}{e:Int}(h:wordL l= .error e):e=4∨e=9:=by
 have hsh:∀{w':Wd} {m:Nat},shortW w' m= .error e→e=4:=fun{w' m} hh=>by
  unfold shortW at hh
  split at hh
  ·injection hh with hh;exact hh.symm
  ·cases hh
 unfold wordL at h
 cases l with
 |nil=>injection h with h;exact .inl h.symm
 |cons c r=>
  simp only at h
  split at h
  ·exact .inl (hsh h)
  split at h
  ·unfold numW at h
   split at h
   ·cases h
   ·injection h with h
    rw[←h]
    split
    ·exact .inr rfl
    ·exact .inl rfl
  split at h
  ·unfold txtW at h
   split at h
   ·split at h
    ·cases h
    ·injection h with h;exact .inl h.symm
   ·injection h with h;exact .inl h.symm
  split at h
  ·split at h
   ·exact .inl (hsh h)
   ·cases h
  split at h
  ·exact .inl (hsh h)
  unfold signW at h
  split at h
  ·cases h
  ·split at h
   ·cases h
   ·injection h with h;exact .inl h.symm
open Go Go.Lib
def LX (l:List UInt8)(a b:Int):Except (Int×Int×Int) (List Tkn):=lexGo l.length l a b
theorem lexL_LX (l:List UInt8):lexL l=LX l 1 1:=rfl
def consW (t:Tkn):Except (Int×Int×Int) (List Tkn)→Except (Int×Int×Int) (List Tkn)
 | .error e=> .error e
 | .ok ts=> .ok (t::ts)
theorem LX_nil (a b:Int):LX [] a b= .ok []:=rfl
theorem LX_line (r:List UInt8)(a b:Int):LX (10::r) a b=LX r (a+1) 1:=rfl
theorem LX_blank (r:List UInt8)(a b:Int):LX (32::r) a b=LX r a (b+1):=rfl
def no10 (c:UInt8):Bool:=c !=10
theorem LX_rem (r:List UInt8)(a b:Int):LX (59::r) a b=LX ((59::r).drop (spanL no10 (59::r))) a (b+spanL no10 (59::r)):=by
 have hp:=spanL_pos (q:=no10) (c:=59) (r:=r) (by decide)
 have e:LX (59::r) a b=lexGo r.length ((59::r).drop (spanL no10 (59::r))) a (b+spanL no10 (59::r)):=rfl
 rw[e]
 exact lexGo_fuel _ _ _ _ _ (by rw[List.length_drop,List.length_cons];omega) (Nat.le_refl _)
def begC (c:UInt8):Prop:=c≠10∧c≠59∧c≠32
theorem LX_err {c:UInt8}{r:List UInt8}(hc:begC c){e:Int}(h:wordL (c::r)= .error e)(a b:Int):LX (c::r) a b= .error (a,b,e):=by
 unfold LX
 rw[List.length_cons]
 unfold lexGo
 simp only
 rw[if_neg hc.1,if_neg hc.2.1,if_neg hc.2.2,h]
theorem LX_word {c:UInt8}{r:List UInt8}(hc:begC c){w:Wd}{n:Nat}(h:wordL (c::r)= .ok (w,n))(a b:Int):LX (c::r) a b=consW ⟨w,a,b⟩ (LX ((c::r).drop n) a (b+n)):=by
 obtain⟨hn,_⟩:=wordL_len h
 have e:LX ((c::r).drop n) a (b+n)=lexGo r.length ((c::r).drop n) a (b+n):=lexGo_fuel _ _ _ _ _ (Nat.le_refl _) (by rw[List.length_drop,List.length_cons];omega)
 rw[e]
 unfold LX
 rw[List.length_cons]
 conv=>lhs;unfold lexGo
 simp only
 rw[if_neg hc.1,if_neg hc.2.1,if_neg hc.2.2,h]
 simp only
 cases lexGo r.length ((c::r).drop n) a (b+n)<;>rfl
theorem lex_cases {P:List UInt8→Prop}(l:List UInt8)(h0:l=[]→P l)(h1:∀r,l=10::r→P l)(h2:∀r,l=32::r→P l)(h3:∀r,l=59::r→P l)
 (h4:∀c r e,l=c::r→begC c→wordL l= .error e→P l) (h5:∀c r w n,l=c::r→begC c→wordL l= .ok (w,n)→P l):P l:=by
 cases l with
 |nil=>exact h0 rfl
 |cons c r=>
  by_cases e1:c=10
  ·subst e1;exact h1 r rfl
  by_cases e2:c=32
  ·subst e2;exact h2 r rfl
  by_cases e3:c=59
  ·subst e3;exact h3 r rfl
  cases hw:wordL (c::r) with
  |error e=>exact h4 c r e rfl ⟨e1,e3,e2⟩ hw
  |ok p=>obtain⟨w,n⟩:=p;exact h5 c r w n rfl ⟨e1,e3,e2⟩ hw
def Tkn.down (d:Int)(t:Tkn):Tkn:=⟨t.w,t.line+d,t.col⟩
def joinE (x:Except (Int×Int×Int) (List Tkn))(y:Except (Int×Int×Int) (List Tkn)):Except (Int×Int×Int) (List Tkn):=
 match x with
 | .error e=> .error e
 | .ok ts=>match y with
   | .error e=> .error e
   | .ok us=> .ok (ts++us)
theorem consW_ok {t:Tkn}{x:Except (Int×Int×Int) (List Tkn)}{ts:List Tkn}(h:consW t x= .ok ts):∃us,x= .ok us∧ts=t::us:=by
 cases x with
 |error e=>cases h
 |ok us=>injection h with h;exact⟨us,rfl,h.symm⟩
def plLt (a b c d:Int):Prop:=a<c∨a=c∧b<d
def plLe (a b c d:Int):Prop:=a<c∨a=c∧b≤d
theorem LX_rise:∀(k:Nat) (l:List UInt8) (a b:Int),l.length≤k→1≤b→
 (∀x y e,LX l a b= .error (x,y,e)→a≤x∧1≤y∧(e=4∨e=9))∧
 (∀ts,LX l a b= .ok ts→(∀t∈ts,plLe a b t.line t.col)∧ts.Pairwise (fun s t=>plLt s.line s.col t.line t.col))
 |k,l,a,b,hk,hb=>by
  refine lex_cases (P:=fun l=>l.length≤k→(∀x y e,LX l a b= .error (x,y,e)→a≤x∧1≤y∧(e=4∨e=9))∧(∀ts,LX l a b= .ok ts→(∀t∈ts,plLe a b t.line t.col)∧ts.Pairwise (fun s t=>plLt s.line s.col t.line t.col))) l ?_ ?_ ?_ ?_ ?_ ?_ hk
  ·rintro rfl _
   refine⟨fun x y e h=>?_,fun ts h=>?_⟩
   ·rw[LX_nil] at h;cases h
   ·rw[LX_nil] at h
    injection h with h
    subst h
    exact⟨by simp,List.Pairwise.nil⟩
  ·rintro r rfl hk
   obtain⟨k,rfl⟩:∃j,k=j+1:=⟨k - 1,by rw[List.length_cons] at hk;omega⟩
   obtain⟨h1,h2⟩:=LX_rise k r (a+1) 1 (by rw[List.length_cons] at hk;omega) (by omega)
   rw[LX_line]
   refine⟨fun x y e h=>?_,fun ts h=>?_⟩
   ·obtain⟨h3,h4,h5⟩:=h1 x y e h
    exact⟨by omega,h4,h5⟩
   ·obtain⟨h3,h4⟩:=h2 ts h
    refine⟨fun t ht=>?_,h4⟩
    rcases h3 t ht with h5|⟨h5,h6⟩
    ·exact .inl (by omega)
    ·exact .inl (by omega)
  ·rintro r rfl hk
   obtain⟨k,rfl⟩:∃j,k=j+1:=⟨k - 1,by rw[List.length_cons] at hk;omega⟩
   obtain⟨h1,h2⟩:=LX_rise k r a (b+1) (by rw[List.length_cons] at hk;omega) (by omega)
   rw[LX_blank]
   refine⟨h1,fun ts h=>?_⟩
   obtain⟨h3,h4⟩:=h2 ts h
   refine⟨fun t ht=>?_,h4⟩
   rcases h3 t ht with h5|⟨h5,h6⟩
   ·exact .inl h5
   ·exact .inr ⟨h5,by omega⟩
  ·rintro r rfl hk
   obtain⟨k,rfl⟩:∃j,k=j+1:=⟨k - 1,by rw[List.length_cons] at hk;omega⟩
   have hp:=spanL_pos (q:=no10) (c:=59) (r:=r) (by decide)
   rw[LX_rem]
   obtain⟨h1,h2⟩:=LX_rise k ((59::r).drop (spanL no10 (59::r))) a (b+spanL no10 (59::r)) (by rw[List.length_drop];omega) (by omega)
   refine⟨h1,fun ts h=>?_⟩
   obtain⟨h3,h4⟩:=h2 ts h
   refine⟨fun t ht=>?_,h4⟩
   rcases h3 t ht with h5|⟨h5,h6⟩
   ·exact .inl h5
   ·exact .inr ⟨h5,by omega⟩
  ·rintro c r e rfl hc hw hk
   rw[LX_err hc hw]
   refine⟨fun x y e' h=>?_,fun ts h=>by cases h⟩
   injection h with h
   simp only[Prod.mk.injEq] at h
   obtain⟨rfl,rfl,rfl⟩:=h
   exact⟨Int.le_refl _,hb,wordL_err hw⟩
  ·rintro c r w n rfl hc hw hk
   obtain⟨k,rfl⟩:∃j,k=j+1:=⟨k - 1,by rw[List.length_cons] at hk;omega⟩
   obtain⟨hn,_⟩:=wordL_len hw
   rw[LX_word hc hw]
   obtain⟨h1,h2⟩:=LX_rise k ((c::r).drop n) a (b+n) (by rw[List.length_drop];omega) (by omega)
   cases hx:LX ((c::r).drop n) a (b+n) with
   |error q=>
    obtain⟨x',y',e'⟩:=q
    refine⟨fun x y e h=>?_,fun ts h=>by cases h⟩
    injection h with h
    simp only[Prod.mk.injEq] at h
    obtain⟨rfl,rfl,rfl⟩:=h
    exact h1 _ _ _ hx
   |ok us=>
    refine⟨fun x y e h=>(by cases h),fun ts h=>?_⟩
    injection h with h
    subst h
    obtain⟨h3,h4⟩:=h2 us hx
    refine⟨fun t ht=>?_,List.Pairwise.cons (fun t ht=>?_) h4⟩
    ·rw[List.mem_cons] at ht
     rcases ht with rfl|ht
     ·exact .inr ⟨rfl,Int.le_refl _⟩
     ·rcases h3 t ht with h5|⟨h5,h6⟩
      ·exact .inl h5
      ·exact .inr ⟨h5,by omega⟩
    ·rcases h3 t ht with h5|⟨h5,h6⟩
     ·exact .inl h5
     ·exact .inr ⟨h5,by show b<t.col;omega⟩
def WasRead (w:Wd):Prop:=∃c r n,begC c∧wordL (c::r)= .ok (w,n)
theorem LX_was:∀(k:Nat) (l:List UInt8) (a b:Int) (ts:List Tkn),l.length≤k→LX l a b= .ok ts→∀t∈ts,WasRead t.w
 |k,l,a,b,ts,hk,h=>by
  refine lex_cases (P:=fun l=>l.length≤k→LX l a b= .ok ts→∀t∈ts,WasRead t.w) l ?_ ?_ ?_ ?_ ?_ ?_ hk h
  ·rintro rfl _ h
   rw[LX_nil] at h
   injection h with h
   subst h
   simp
  ·rintro q rfl hk h
   obtain⟨k,rfl⟩:∃j,k=j+1:=⟨k - 1,by rw[List.length_cons] at hk;omega⟩
   exact LX_was k q (a+1) 1 ts (by rw[List.length_cons] at hk;omega) h
  ·rintro q rfl hk h
   obtain⟨k,rfl⟩:∃j,k=j+1:=⟨k - 1,by rw[List.length_cons] at hk;omega⟩
   exact LX_was k q a (b+1) ts (by rw[List.length_cons] at hk;omega) h
  ·rintro q rfl hk h
   obtain⟨k,rfl⟩:∃j,k=j+1:=⟨k - 1,by rw[List.length_cons] at hk;omega⟩
   have hp:=spanL_pos (q:=no10) (c:=59) (r:=q) (by decide)
   rw[LX_rem] at h
   exact LX_was k _ a _ ts (by rw[List.length_drop];omega) h
  ·rintro c q e rfl hc hw hk h
   rw[LX_err hc hw] at h
   cases h
  ·rintro c q w n rfl hc hw hk h
   obtain⟨k,rfl⟩:∃j,k=j+1:=⟨k - 1,by rw[List.length_cons] at hk;omega⟩
   obtain⟨hn,_⟩:=wordL_len hw
   rw[LX_word hc hw] at h
   obtain⟨us,hu,rfl⟩:=consW_ok h
   intro t ht
   rw[List.mem_cons] at ht
   rcases ht with rfl|ht
   ·exact⟨c,q,n,hc,hw⟩
   ·exact LX_was k _ a _ us (by rw[List.length_drop];omega) hu t ht
theorem LX_bytes:∀(k:Nat) (l:List UInt8) (a b:Int) (ts:List Tkn),l.length≤k→LX l a b= .ok ts→ts.length+(ts.map fun t=>(spellW t.w).length).sum≤2*l.length∧ts.length≤l.length
 |k,l,a,b,ts,hk,h=>by
  refine lex_cases (P:=fun l=>l.length≤k→LX l a b= .ok ts→ts.length+(ts.map fun t=>(spellW t.w).length).sum≤2*l.length∧ts.length≤l.length) l ?_ ?_ ?_ ?_ ?_ ?_ hk h
  ·rintro rfl _ h
   rw[LX_nil] at h
   injection h with h
   subst h
   simp
  ·rintro q rfl hk h
   obtain⟨k,rfl⟩:∃j,k=j+1:=⟨k - 1,by rw[List.length_cons] at hk;omega⟩
   have:=LX_bytes k q (a+1) 1 ts (by rw[List.length_cons] at hk;omega) h
   rw[List.length_cons]
   omega
  ·rintro q rfl hk h
   obtain⟨k,rfl⟩:∃j,k=j+1:=⟨k - 1,by rw[List.length_cons] at hk;omega⟩
   have:=LX_bytes k q a (b+1) ts (by rw[List.length_cons] at hk;omega) h
   rw[List.length_cons]
   omega
  ·rintro q rfl hk h
   obtain⟨k,rfl⟩:∃j,k=j+1:=⟨k - 1,by rw[List.length_cons] at hk;omega⟩
   have hp:=spanL_pos (q:=no10) (c:=59) (r:=q) (by decide)
   rw[LX_rem] at h
   have:=LX_bytes k _ a _ ts (by rw[List.length_drop];omega) h
   rw[List.length_drop] at this
   omega
  ·rintro c q e rfl hc hw hk h
   rw[LX_err hc hw] at h
   cases h
  ·rintro c q w n rfl hc hw hk h
   obtain⟨k,rfl⟩:∃j,k=j+1:=⟨k - 1,by rw[List.length_cons] at hk;omega⟩
   obtain⟨hn,hnl⟩:=wordL_len hw
   obtain⟨hs,_⟩:=wordL_spell hw
   rw[LX_word hc hw] at h
   obtain⟨us,hu,rfl⟩:=consW_ok h
   have:=LX_bytes k _ a _ us (by rw[List.length_drop];omega) hu
   rw[List.length_drop] at this
   rw[List.length_cons,List.map_cons,List.sum_cons,hs,List.length_take]
   omega
end Go.Proofs.YtgfakdobajgnfaaGreatDoor
