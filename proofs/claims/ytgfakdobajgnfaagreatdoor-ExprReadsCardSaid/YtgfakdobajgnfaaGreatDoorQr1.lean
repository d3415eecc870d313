import Derived.Test.YtgfakdobajgnfaaGreatDoorQr0
namespace Go.Proofs.YtgfakdobajgnfaaGreatDoor
open Go Go.Lib
structure Hd where
 op:Int
 v:Int×Int×List UInt8
 name:List UInt8
 line:Int
 col:Int
structure Nd where
 h:Hd
 kids:List Nat
inductive Ex where
 |mk (h:Hd) (kids:List Ex)
def Ex.hd:Ex→Hd| .mk h _=>h
def Ex.kids:Ex→List Ex| .mk _ ks=>ks
mutual
def Ex.size:Ex→Nat| .mk _ ks=>sizes ks+1
def sizes:List Ex→Nat|[]=>0|e::es=>e.size+sizes es
end
def ends:List Ex→Nat→List Nat|[],_=>[]|e::es,b=>(b+e.size - 1)::ends es (b+e.size)
mutual
def Ex.flat:Ex→Nat→List Nd| .mk h ks,b=>flats ks b++[⟨h,ends ks b⟩]
def flats:List Ex→Nat→List Nd|[],_=>[]|e::es,b=>e.flat b++flats es (b+e.size)
end
theorem Ex.size_pos (e:Ex):1≤e.size:=by
 cases e
 simp [Ex.size]
mutual
theorem Ex.flat_len:∀(e:Ex) (b:Nat),(e.flat b).length=e.size
 | .mk h ks,b=>by simp [Ex.flat,Ex.size,flats_len ks b]
theorem flats_len:∀(l:List Ex) (b:Nat),(flats l b).length=sizes l
 |[],b=>rfl
 |e::es,b=>by simp [flats,sizes,Ex.flat_len e b,flats_len es (b+e.size)]
end
theorem ends_len:∀(l:List Ex) (b:Nat),(ends l b).length=l.length
 |[],_=>rfl
 |e::es,b=>by simp [ends,ends_len es]
theorem sizes_app:∀(l m:List Ex),sizes (l++m)=sizes l+sizes m
 |[],m=>by simp [sizes]
 |e::l,m=>by simp [sizes,sizes_app l m,Nat.add_assoc]
theorem flats_app:∀(l m:List Ex) (b:Nat),flats (l++m) b=flats l b++flats m (b+sizes l)
 |[],m,b=>by simp [flats,sizes]
 |e::l,m,b=>by simp [flats,sizes,flats_app l m,Nat.add_assoc]
theorem ends_app:∀(l m:List Ex) (b:Nat),ends (l++m) b=ends l b++ends m (b+sizes l)
 |[],m,b=>by simp [ends,sizes]
 |e::l,m,b=>by simp [ends,sizes,ends_app l m,Nat.add_assoc]
def isH (s:List UInt8):List Tkn→Bool
 |t::_=>decide (t.w.t=s) && (decide (t.w.k=1)||decide (t.w.k=7))
 |[]=>false
def plH:List Tkn→Int×Int
 |t::_=>(t.line,t.col)
 |[]=>(0,0)
def opsL (lvl:Nat):List (List UInt8×Int):=
 if lvl=0 then[([111,114],4)] else if lvl=1 then[([97,110,100],5)]
 else if lvl=3 then[([61],7),([60,62],8),([60],9),([60,61],10),([62],11),([62,61],12)]
 else if lvl=4 then[([43],13),([45],14)] else if lvl=5 then[([42],15),([47],16)] else[]
def infixH (r:List Tkn):List (List UInt8×Int)→Int
 |[]=>0
 |(s,o)::l=>if isH s r then o else infixH r l
def callL (s:List UInt8):Option (Int×Nat×Nat):=
 if s=[97,98,115] then some (18,1,1) else if s=[109,105,110] then some (19,1,8) else if s=[109,97,120] then some (20,1,8)
 else if s=[109,111,100] then some (21,2,2) else if s=[108,101,110,103,116,104] then some (22,1,1) else if s=[117,112,112,101,114] then some (23,1,1)
 else if s=[99,111,110,116,97,105,110,115] then some (24,2,2) else if s=[115,116,97,114,116,115] then some (25,2,2) else if s=[105,102] then some (26,3,3) else none
def litL (s:List UInt8):Option (Int×Int×List UInt8):=
 if s=[116,114,117,101] then some (4,1,[]) else if s=[102,97,108,115,101] then some (4,0,[]) else if s=[110,117,108,108] then some v0 else none
def preW (n:Nat):List UInt8:=if n=2 then[110,111,116] else[45]
def preO (n:Nat):Int:=if n=2 then 6 else 17
structure Cl where
 op:Int
 least:Nat
 most:Nat
 line:Int
 col:Int
inductive Todo where
 |lvl (n:Nat)
 |row (n:Nat) (a:Ex)
 |args (c:Cl) (kids:List Ex)
abbrev ExR:=Except (Int×List Tkn) (Ex×List Tkn)
def leafH (t:Tkn):Option Hd:=
 if t.w.k=4∨t.w.k=5∨t.w.k=6 then some ⟨1,t.w.v,[],t.line,t.col⟩
 else if t.w.k=2 then some ⟨2,v0,t.w.t,t.line,t.col⟩
 else if t.w.k=3 then some ⟨3,v0,[],t.line,t.col⟩
 else if t.w.k=1 then(match callL t.w.t with|some _=>none|none=>(litL t.w.t).map fun v=>⟨1,v,[],t.line,t.col⟩)
 else none
def callH (t:Tkn):Option Cl:=if t.w.k=1 then(callL t.w.t).map fun c=>⟨c.1,c.2.1,c.2.2,t.line,t.col⟩ else none
def ExR.next (x:ExR)(g:Ex→List Tkn→ExR):ExR:=
 match x with
 | .error e=> .error e
 | .ok (a,q)=>g a q
def openE (d:Nat)(r:List Tkn)(g:List Tkn→ExR):ExR:=if isH [40] r then(if d=12 then .error (12,r) else g r.tail) else .error (4,r)
def shutE (a:Ex)(q:List Tkn):ExR:=if isH [41] q then .ok (a,q.tail) else .error (4,q)
def exGo:Nat→Todo→Nat→List Tkn→ExR
 |0,_,_,r=> .error (0,r)
 |f+1,.lvl n,d,r=>
  if n=2∨n=6 then
   if isH (preW n) r then
    if d=12 then .error (12,r) else
     (exGo f (.lvl n) (d+1) r.tail).next fun a q=> .ok (.mk ⟨preO n,v0,[],(plH r).1,(plH r).2⟩ [a],q)
   else exGo f (.lvl (n+1)) d r
  else if n=7 then
   match r with
   |[]=> .error (4,[])
   |t::q=>
    match leafH t,callH t with
    |some h,_=> .ok (.mk h [],q)
    |none,some c=>openE d q fun q'=>exGo f (.args c []) (d+1) q'
    |none,none=>openE d (t::q) fun q'=>(exGo f (.lvl 0) (d+1) q').next shutE
  else(exGo f (.lvl (n+1)) d r).next fun a q=>exGo f (.row n a) d q
 |f+1,.row n a,d,r=>
  if infixH r (opsL n)=0 then .ok (a,r) else
   (exGo f (.lvl (n+1)) d r.tail).next fun b q=>
    if n=3 then .ok (.mk ⟨infixH r (opsL n),v0,[],(plH r).1,(plH r).2⟩ [a,b],q)
    else exGo f (.row n (.mk ⟨infixH r (opsL n),v0,[],(plH r).1,(plH r).2⟩ [a,b])) d q
 |f+1,.args c kids,d,r=>
  (exGo f (.lvl 0) d r).next fun a q=>
   if isH [44] q && decide (kids.length+1=c.most)||isH [41] q && decide (kids.length+1<c.least) then .error (14,q)
   else if isH [44] q then exGo f (.args c (kids++[a])) d q.tail
   else shutE (.mk ⟨c.op,v0,[],c.line,c.col⟩ (kids++[a])) q
def rank:Todo→List Tkn→Nat
 | .lvl n,r=>r.length*10+(8 - n)
 | .row _ _,r=>r.length*10+9
 | .args _ _,r=>r.length*10+9
def Suf (q r:List Tkn):Prop:=∃k,q=r.drop k
theorem Suf.refl (r:List Tkn):Suf r r:=⟨0,rfl⟩
theorem Suf.trans {a b c:List Tkn}(h:Suf a b)(k:Suf b c):Suf a c:=by
 obtain⟨i,rfl⟩:=h
 obtain⟨j,rfl⟩:=k
 exact⟨j+i,by rw[List.drop_drop]⟩
theorem Suf.tail {a b:List Tkn}(h:Suf a b.tail):Suf a b:=h.trans ⟨1,by simp⟩
theorem Suf.len {q r:List Tkn}(h:Suf q r):q.length≤r.length:=by
 obtain⟨k,rfl⟩:=h
 simp
theorem Suf.cons {t:Tkn}{a b:List Tkn}(h:Suf a b):Suf a (t::b):=h.trans ⟨1,rfl⟩
theorem isH_ne {s:List UInt8}{r:List Tkn}(h:isH s r=true):∃t q,r=t::q:=by
 cases r with
 |nil=>cases h
 |cons t q=>exact⟨t,q,rfl⟩
theorem infixH_ne {r:List Tkn}:∀{l:List (List UInt8×Int)},infixH r l≠0→∃t q,r=t::q
 |[],h=>absurd rfl h
 |(s,o)::l,h=>by
  unfold infixH at h
  by_cases e:isH s r=true
  ·exact isH_ne e
  ·rw[if_neg e] at h
   exact infixH_ne h
def Prog:Todo→List Tkn→ExR→Prop
 |_,r,.error (_,q)=>Suf q r
 | .row _ _,r,.ok (_,q)=>Suf q r
 |_,r,.ok (_,q)=>Suf q r∧q.length<r.length
theorem Prog.suf {td:Todo}{r:List Tkn}{a:Ex}{q:List Tkn}(h:Prog td r (.ok (a,q))):Suf q r:=by
 cases td with
 |lvl n=>exact h.1
 |row n a=>exact h
 |args c k=>exact h.1
theorem exGo_rank:∀(f:Nat) (td:Todo) (d:Nat) (r:List Tkn),(∀n,td= .lvl n→n≤7)→rank td r<f→Prog td r (exGo f td d r)∧∀g,rank td r<g→exGo g td d r=exGo f td d r:=by
 intro f
 induction f with
 |zero=>intro td d r _ h;exact absurd h (Nat.not_lt_zero _)
 |succ f ih=>
  intro td d r hn h
  have lv:∀{n:Nat} {d:Nat} {r':List Tkn},n≤7→rank (.lvl n) r'<f→(match exGo f (.lvl n) d r' with| .error e=>Suf e.2 r'| .ok p=>Suf p.2 r'∧p.2.length<r'.length)∧∀g,rank (.lvl n) r'<g→exGo g (.lvl n) d r'=exGo f (.lvl n) d r':=fun{n d r'} h7 hr=>by
   have:=ih (.lvl n) d r' (fun m e=>by injection e with e;omega) hr
   refine⟨?_,this.2⟩
   have h1:=this.1
   revert h1
   cases exGo f (.lvl n) d r' with
   |error e=>exact id
   |ok p=>exact id
  have rw':∀{n:Nat} {a:Ex} {d:Nat} {r':List Tkn},rank (.row n a) r'<f→(match exGo f (.row n a) d r' with| .error e=>Suf e.2 r'| .ok p=>Suf p.2 r')∧∀g,rank (.row n a) r'<g→exGo g (.row n a) d r'=exGo f (.row n a) d r':=fun{n a d r'} hr=>by
   have:=ih (.row n a) d r' (fun m e=>by cases e) hr
   refine⟨?_,this.2⟩
   have h1:=this.1
   revert h1
   cases exGo f (.row n a) d r' with
   |error e=>exact id
   |ok p=>exact id
  have ar:∀{c:Cl} {ks:List Ex} {d:Nat} {r':List Tkn},rank (.args c ks) r'<f→(match exGo f (.args c ks) d r' with| .error e=>Suf e.2 r'| .ok p=>Suf p.2 r'∧p.2.length<r'.length)∧∀g,rank (.args c ks) r'<g→exGo g (.args c ks) d r'=exGo f (.args c ks) d r':=fun{c ks d r'} hr=>by
   have:=ih (.args c ks) d r' (fun m e=>by cases e) hr
   refine⟨?_,this.2⟩
   have h1:=this.1
   revert h1
   cases exGo f (.args c ks) d r' with
   |error e=>exact id
   |ok p=>exact id
  have sh:∀(a:Ex) (q:List Tkn),(match shutE a q with| .error e=>Suf e.2 q| .ok p=>Suf p.2 q∧p.2.length<q.length):=fun a q=>by
   unfold shutE
   by_cases e:isH [41] q=true
   ·rw[if_pos e]
    obtain⟨t,q',rfl⟩:=isH_ne e
    exact⟨⟨1,rfl⟩,by simp⟩
   ·rw[if_neg e]
    exact Suf.refl _
  clear ih
  cases td with
  |lvl n=>
   have hn7:=hn n rfl
   simp only[rank] at h lv
   by_cases h26:n=2∨n=6
   ·by_cases hp:isH (preW n) r=true
    ·obtain⟨t,q,rfl⟩:=isH_ne hp
     by_cases hd:d=12
     ·refine⟨?_,fun g hg=>?_⟩
      ·simp only[exGo,if_pos h26,if_pos hp,if_pos hd]
       exact Suf.refl _
      ·obtain⟨g,rfl⟩:∃g',g=g'+1:=⟨g - 1,by omega⟩
       simp only[exGo,if_pos h26,if_pos hp,if_pos hd]
     ·simp only[List.length_cons] at h
      obtain⟨h1,h2⟩:=lv (n:=n) (d:=d+1) (r':=q) hn7 (by omega)
      refine⟨?_,fun g hg=>?_⟩
      ·simp only[exGo,if_pos h26,if_pos hp,if_neg hd,List.tail_cons]
       revert h1
       cases exGo f (.lvl n) (d+1) q with
       |error e=>exact fun h1=>Suf.cons h1
       |ok p=>exact fun h1=>⟨Suf.cons h1.1,by have:=h1.2;simp only[List.length_cons];omega⟩
      ·obtain⟨g,rfl⟩:∃g',g=g'+1:=⟨g - 1,by omega⟩
       simp only[rank,List.length_cons] at hg
       simp only[exGo,if_pos h26,if_pos hp,if_neg hd,List.tail_cons]
       rw[h2 g (by omega)]
    ·obtain⟨h1,h2⟩:=lv (n:=n+1) (d:=d) (r':=r) (by omega) (by omega)
     refine⟨?_,fun g hg=>?_⟩
     ·simp only[exGo,if_pos h26,if_neg hp]
      revert h1
      cases exGo f (.lvl (n+1)) d r with
      |error e=>exact id
      |ok p=>exact id
     ·obtain⟨g,rfl⟩:∃g',g=g'+1:=⟨g - 1,by omega⟩
      simp only[rank] at hg
      simp only[exGo,if_pos h26,if_neg hp]
      exact h2 g (by omega)
   ·by_cases h7:n=7
    ·cases r with
     |nil=>
      refine⟨?_,fun g hg=>?_⟩
      ·simp only[exGo,if_neg h26,if_pos h7]
       exact Suf.refl _
      ·obtain⟨g,rfl⟩:∃g',g=g'+1:=⟨g - 1,by omega⟩
       simp only[exGo,if_neg h26,if_pos h7]
     |cons t q=>
      simp only[List.length_cons] at h
      have hgo:∀g,exGo (g+1) (.lvl n) d (t::q)=(match leafH t,callH t with
       |some h,_=> .ok (.mk h [],q)
       |none,some c=>openE d q fun q'=>exGo g (.args c []) (d+1) q'
       |none,none=>openE d (t::q) fun q'=>(exGo g (.lvl 0) (d+1) q').next shutE):=fun g=>by
       simp only[exGo,if_neg h26,if_pos h7]
      rw[hgo f]
      cases hl:leafH t with
      |some x=>
       refine⟨⟨⟨1,rfl⟩,by simp⟩,fun g hg=>?_⟩
       obtain⟨g,rfl⟩:∃g',g=g'+1:=⟨g - 1,by omega⟩
       rw[hgo g,hl]
      |none=>
       cases hc:callH t with
       |some c=>
        simp only
        by_cases ho:isH [40] q=true
        ·obtain⟨t',q',rfl⟩:=isH_ne ho
         by_cases hd:d=12
         ·refine⟨?_,fun g hg=>?_⟩
          ·simp only[openE,if_pos ho,if_pos hd]
           exact⟨1,rfl⟩
          ·obtain⟨g,rfl⟩:∃g',g=g'+1:=⟨g - 1,by omega⟩
           rw[hgo g,hl,hc]
           simp only[openE,if_pos ho,if_pos hd]
         ·simp only[List.length_cons] at h
          obtain⟨h1,h2⟩:=ar (c:=c) (ks:=[]) (d:=d+1) (r':=q') (by simp only[rank];omega)
          refine⟨?_,fun g hg=>?_⟩
          ·simp only[openE,if_pos ho,if_neg hd,List.tail_cons]
           revert h1
           cases exGo f (.args c []) (d+1) q' with
           |error e=>exact fun h1=>Suf.cons (Suf.cons h1)
           |ok p=>exact fun h1=>⟨Suf.cons (Suf.cons h1.1),by have:=h1.2;simp only[List.length_cons];omega⟩
          ·obtain⟨g,rfl⟩:∃g',g=g'+1:=⟨g - 1,by omega⟩
           simp only[rank,List.length_cons] at hg
           rw[hgo g,hl,hc]
           simp only[openE,if_pos ho,if_neg hd,List.tail_cons]
           exact h2 g (by simp only[rank];omega)
        ·refine⟨?_,fun g hg=>?_⟩
         ·simp only[openE,if_neg ho]
          exact⟨1,rfl⟩
         ·obtain⟨g,rfl⟩:∃g',g=g'+1:=⟨g - 1,by omega⟩
          rw[hgo g,hl,hc]
          simp only[openE,if_neg ho]
       |none=>
        simp only
        by_cases ho:isH [40] (t::q)=true
        ·by_cases hd:d=12
         ·refine⟨?_,fun g hg=>?_⟩
          ·simp only[openE,if_pos ho,if_pos hd]
           exact Suf.refl _
          ·obtain⟨g,rfl⟩:∃g',g=g'+1:=⟨g - 1,by omega⟩
           rw[hgo g,hl,hc]
           simp only[openE,if_pos ho,if_pos hd]
         ·obtain⟨h1,h2⟩:=lv (n:=0) (d:=d+1) (r':=q) (by omega) (by omega)
          refine⟨?_,fun g hg=>?_⟩
          ·simp only[openE,if_pos ho,if_neg hd,List.tail_cons]
           revert h1
           cases exGo f (.lvl 0) (d+1) q with
           |error e=>exact fun h1=>Suf.cons h1
           |ok p=>
            intro h1
            obtain⟨h3,h4⟩:=h1
            have hs:=sh p.1 p.2
            simp only[ExR.next]
            revert hs
            cases shutE p.1 p.2 with
            |error e=>exact fun hs=>Suf.cons (Suf.trans hs h3)
            |ok p'=>exact fun hs=>⟨Suf.cons (hs.1.trans h3),by have:=hs.2;simp only[List.length_cons];omega⟩
          ·obtain⟨g,rfl⟩:∃g',g=g'+1:=⟨g - 1,by omega⟩
           simp only[rank,List.length_cons] at hg
           rw[hgo g,hl,hc]
           simp only[openE,if_pos ho,if_neg hd,List.tail_cons]
           rw[h2 g (by omega)]
        ·refine⟨?_,fun g hg=>?_⟩
         ·simp only[openE,if_neg ho]
          exact Suf.refl _
         ·obtain⟨g,rfl⟩:∃g',g=g'+1:=⟨g - 1,by omega⟩
          rw[hgo g,hl,hc]
          simp only[openE,if_neg ho]
    ·obtain⟨h1,h2⟩:=lv (n:=n+1) (d:=d) (r':=r) (by omega) (by omega)
     refine⟨?_,fun g hg=>?_⟩
     ·simp only[exGo,if_neg h26,if_neg h7]
      revert h1
      cases exGo f (.lvl (n+1)) d r with
      |error e=>exact id
      |ok p=>
       intro h1
       obtain⟨h3,h4⟩:=h1
       obtain⟨h5,_⟩:=rw' (n:=n) (a:=p.1) (d:=d) (r':=p.2) (by simp only[rank];omega)
       simp only[ExR.next]
       revert h5
       cases exGo f (.row n p.1) d p.2 with
       |error e=>exact fun h5=>Suf.trans h5 h3
       |ok p'=>exact fun h5=>⟨Suf.trans h5 h3,by have:=Suf.len h5;omega⟩
     ·obtain⟨g,rfl⟩:∃g',g=g'+1:=⟨g - 1,by omega⟩
      simp only[rank] at hg
      simp only[exGo,if_neg h26,if_neg h7]
      rw[h2 g (by omega)]
      revert h1
      cases exGo f (.lvl (n+1)) d r with
      |error e=>exact fun _=>rfl
      |ok p=>
       intro h1
       obtain⟨h3,h4⟩:=h1
       obtain⟨_,h6⟩:=rw' (n:=n) (a:=p.1) (d:=d) (r':=p.2) (by simp only[rank];omega)
       exact h6 g (by simp only[rank];omega)
  |row n a=>
   by_cases hz:infixH r (opsL n)=0
   ·refine⟨?_,fun g hg=>?_⟩
    ·simp only[exGo,if_pos hz]
     exact Suf.refl _
    ·obtain⟨g,rfl⟩:∃g',g=g'+1:=⟨g - 1,by omega⟩
     simp only[exGo,if_pos hz]
   ·have hn5:n≤5:=by
     refine Nat.le_of_not_lt fun hh=>hz ?_
     rw[show opsL n=[] by unfold opsL;rw[if_neg (by omega),if_neg (by omega),if_neg (by omega),if_neg (by omega),if_neg (by omega)]]
     rfl
    obtain⟨t,q,rfl⟩:=infixH_ne hz
    simp only[rank,List.length_cons] at h
    obtain⟨h1,h2⟩:=lv (n:=n+1) (d:=d) (r':=q) (by omega) (by simp only[rank];omega)
    refine⟨?_,fun g hg=>?_⟩
    ·simp only[exGo,if_neg hz,List.tail_cons]
     revert h1
     cases exGo f (.lvl (n+1)) d q with
     |error e=>exact fun h1=>Suf.cons h1
     |ok p=>
      intro h1
      obtain⟨h3,h4⟩:=h1
      simp only[ExR.next]
      by_cases h3n:n=3
      ·rw[if_pos h3n]
       exact Suf.cons h3
      ·rw[if_neg h3n]
       obtain⟨h5,_⟩:=rw' (n:=n) (a:= .mk ⟨infixH (t::q) (opsL n),v0,[],(plH (t::q)).1,(plH (t::q)).2⟩ [a,p.1]) (d:=d) (r':=p.2) (by simp only[rank];omega)
       revert h5
       cases exGo f (.row n (.mk ⟨infixH (t::q) (opsL n),v0,[],(plH (t::q)).1,(plH (t::q)).2⟩ [a,p.1])) d p.2 with
       |error e=>exact fun h5=>Suf.cons (Suf.trans h5 h3)
       |ok p'=>exact fun h5=>Suf.cons (Suf.trans h5 h3)
    ·obtain⟨g,rfl⟩:∃g',g=g'+1:=⟨g - 1,by omega⟩
     simp only[rank,List.length_cons] at hg
     simp only[exGo,if_neg hz,List.tail_cons]
     rw[h2 g (by simp only[rank];omega)]
     revert h1
     cases exGo f (.lvl (n+1)) d q with
     |error e=>exact fun _=>rfl
     |ok p=>
      intro h1
      obtain⟨h3,h4⟩:=h1
      simp only[ExR.next]
      by_cases h3n:n=3
      ·rw[if_pos h3n,if_pos h3n]
      ·rw[if_neg h3n,if_neg h3n]
       obtain⟨_,h6⟩:=rw' (n:=n) (a:= .mk ⟨infixH (t::q) (opsL n),v0,[],(plH (t::q)).1,(plH (t::q)).2⟩ [a,p.1]) (d:=d) (r':=p.2) (by simp only[rank];omega)
       exact h6 g (by simp only[rank];omega)
  |args c kids=>
   simp only[rank] at h
   obtain⟨h1,h2⟩:=lv (n:=0) (d:=d) (r':=r) (by omega) (by simp only[rank];omega)
   refine⟨?_,fun g hg=>?_⟩
   ·simp only[exGo]
    revert h1
    cases exGo f (.lvl 0) d r with
    |error e=>exact id
    |ok p=>
     intro h1
     obtain⟨h3,h4⟩:=h1
     simp only[ExR.next]
     by_cases hm:(isH [44] p.2 && decide (kids.length+1=c.most)||isH [41] p.2 && decide (kids.length+1<c.least))=true
     ·rw[if_pos hm]
      exact h3
     ·rw[if_neg hm]
      by_cases hc:isH [44] p.2=true
      ·rw[if_pos hc]
       obtain⟨t,q,e⟩:=isH_ne hc
       have e':=congrArg List.length e
       simp only[List.length_cons] at e'
       have ht:p.2.tail.length<p.2.length:=by rw[e];simp
       obtain⟨h5,_⟩:=ar (c:=c) (ks:=kids++[p.1]) (d:=d) (r':=p.2.tail) (by simp only[rank];omega)
       revert h5
       cases exGo f (.args c (kids++[p.1])) d p.2.tail with
       |error e=>exact fun h5=>Suf.trans (Suf.tail h5) h3
       |ok p'=>exact fun h5=>⟨(Suf.tail h5.1).trans h3,by have:=h5.2;omega⟩
      ·rw[if_neg hc]
       have hs:=sh (.mk ⟨c.op,v0,[],c.line,c.col⟩ (kids++[p.1])) p.2
       revert hs
       cases shutE (.mk ⟨c.op,v0,[],c.line,c.col⟩ (kids++[p.1])) p.2 with
       |error e=>exact fun hs=>Suf.trans hs h3
       |ok p'=>exact fun hs=>⟨hs.1.trans h3,by have:=hs.2;omega⟩
   ·obtain⟨g,rfl⟩:∃g',g=g'+1:=⟨g - 1,by omega⟩
    simp only[rank] at hg
    simp only[exGo]
    rw[h2 g (by simp only[rank];omega)]
    revert h1
    cases exGo f (.lvl 0) d r with
    |error e=>exact fun _=>rfl
    |ok p=>
     intro h1
     obtain⟨h3,h4⟩:=h1
     simp only[ExR.next]
     by_cases hm:(isH [44] p.2 && decide (kids.length+1=c.most)||isH [41] p.2 && decide (kids.length+1<c.least))=true
     ·rw[if_pos hm,if_pos hm]
     ·rw[if_neg hm,if_neg hm]
      by_cases hc:isH [44] p.2=true
      ·rw[if_pos hc,if_pos hc]
       obtain⟨t,q,e⟩:=isH_ne hc
       have ht:p.2.tail.length<p.2.length:=by rw[e];simp
       obtain⟨_,h6⟩:=ar (c:=c) (ks:=kids++[p.1]) (d:=d) (r':=p.2.tail) (by simp only[rank];omega)
       exact h6 g (by simp only[rank];omega)
      ·rw[if_neg hc,if_neg hc]
open Go Go.Lib
def exE (td:Todo)(d:Nat)(r:List Tkn):ExR:=exGo (rank td r+1) td d r
abbrev lvlE (n d:Nat)(r:List Tkn):ExR:=exE (.lvl n) d r
abbrev rowE (n:Nat)(a:Ex)(d:Nat)(r:List Tkn):ExR:=exE (.row n a) d r
abbrev argsE (c:Cl)(ks:List Ex)(d:Nat)(r:List Tkn):ExR:=exE (.args c ks) d r
def Todo.ok:Todo→Prop| .lvl n=>n≤7|_=>True
theorem Todo.ok_lvl {td:Todo}(h:td.ok):∀n,td= .lvl n→n≤7:=fun n e=>by subst e;exact h
theorem exGo_eq {f:Nat}{td:Todo}{d:Nat}{r:List Tkn}(ht:td.ok)(h:rank td r<f):exGo f td d r=exE td d r:=
 (exGo_rank f td d r (Todo.ok_lvl ht) h).2 _ (Nat.lt_succ_self _)▸rfl
theorem exE_prog {td:Todo}(ht:td.ok)(d:Nat)(r:List Tkn):Prog td r (exE td d r):=(exGo_rank _ td d r (Todo.ok_lvl ht) (Nat.lt_succ_self _)).1
theorem ExR.next_congr {x:ExR}{g g':Ex→List Tkn→ExR}(h:∀a q,x= .ok (a,q)→g a q=g' a q):x.next g=x.next g':=by
 cases x with
 |error e=>rfl
 |ok p=>exact h p.1 p.2 rfl
theorem lvlE_suf {n d:Nat}{r:List Tkn}{a:Ex}{q:List Tkn}(h7:n≤7)(h:lvlE n d r= .ok (a,q)):Suf q r∧q.length<r.length:=by
 have:=exE_prog (td:= .lvl n) h7 d r
 rw[show exE (.lvl n) d r= .ok (a,q) from h] at this
 exact this
theorem exE_err {td:Todo}(ht:td.ok){d:Nat}{r q:List Tkn}{e:Int}(h:exE td d r= .error (e,q)):Suf q r:=by
 have:=exE_prog ht d r
 rw[h] at this
 cases td<;>exact this
theorem exGo_lvl (f n d:Nat)(r:List Tkn):exGo (f+1) (.lvl n) d r=if n=2∨n=6 then
 if isH (preW n) r then
  if d=12 then .error (12,r) else
   (exGo f (.lvl n) (d+1) r.tail).next fun a q=> .ok (.mk ⟨preO n,v0,[],(plH r).1,(plH r).2⟩ [a],q)
 else exGo f (.lvl (n+1)) d r
 else if n=7 then
  match r with
  |[]=> .error (4,[])
  |t::q=>
   match leafH t,callH t with
   |some h,_=> .ok (.mk h [],q)
   |none,some c=>openE d q fun q'=>exGo f (.args c []) (d+1) q'
   |none,none=>openE d (t::q) fun q'=>(exGo f (.lvl 0) (d+1) q').next shutE
 else(exGo f (.lvl (n+1)) d r).next fun a q=>exGo f (.row n a) d q:=rfl
theorem exGo_row (f n d:Nat)(a:Ex)(r:List Tkn):exGo (f+1) (.row n a) d r=if infixH r (opsL n)=0 then .ok (a,r) else
 (exGo f (.lvl (n+1)) d r.tail).next fun b q=>
  if n=3 then .ok (.mk ⟨infixH r (opsL n),v0,[],(plH r).1,(plH r).2⟩ [a,b],q)
  else exGo f (.row n (.mk ⟨infixH r (opsL n),v0,[],(plH r).1,(plH r).2⟩ [a,b])) d q:=rfl
theorem exGo_args (f d:Nat)(c:Cl)(kids:List Ex)(r:List Tkn):exGo (f+1) (.args c kids) d r=
 (exGo f (.lvl 0) d r).next fun a q=>
  if isH [44] q && decide (kids.length+1=c.most)||isH [41] q && decide (kids.length+1<c.least) then .error (14,q)
  else if isH [44] q then exGo f (.args c (kids++[a])) d q.tail
  else shutE (.mk ⟨c.op,v0,[],c.line,c.col⟩ (kids++[a])) q:=rfl
theorem lvlE_pre {n d:Nat}{r:List Tkn}(h:n=2∨n=6):lvlE n d r=
 if isH (preW n) r then(if d=12 then .error (12,r) else(lvlE n (d+1) r.tail).next fun a q=> .ok (.mk ⟨preO n,v0,[],(plH r).1,(plH r).2⟩ [a],q)) else lvlE (n+1) d r:=by
 have h7:n≤7:=by omega
 show exGo (rank (.lvl n) r+1) (.lvl n) d r=_
 rw[exGo_lvl,if_pos h]
 by_cases hp:isH (preW n) r=true
 ·rw[if_pos hp,if_pos hp]
  by_cases hd:d=12
  ·rw[if_pos hd,if_pos hd]
  ·rw[if_neg hd,if_neg hd]
   obtain⟨t,q,rfl⟩:=isH_ne hp
   rw[List.tail_cons,exGo_eq (td:= .lvl n) h7 (by simp only[rank,List.length_cons];omega)]
 ·rw[if_neg hp,if_neg hp,exGo_eq (td:= .lvl (n+1)) (by simp only[Todo.ok];omega) (by simp only[rank];omega)]
theorem lvlE_atom (d:Nat)(r:List Tkn):lvlE 7 d r=match r with
 |[]=> .error (4,[])
 |t::q=>match leafH t,callH t with
  |some h,_=> .ok (.mk h [],q)
  |none,some c=>openE d q fun q'=>argsE c [] (d+1) q'
  |none,none=>openE d (t::q) fun q'=>(lvlE 0 (d+1) q').next shutE:=by
 show exGo (rank (.lvl 7) r+1) (.lvl 7) d r=_
 rw[exGo_lvl,if_neg (by omega),if_pos rfl]
 cases r with
 |nil=>rfl
 |cons t q=>
  simp only
  cases leafH t with
  |some x=>rfl
  |none=>
   cases callH t with
   |some c=>
    simp only[openE]
    by_cases ho:isH [40] q=true
    ·obtain⟨t',q',rfl⟩:=isH_ne ho
     rw[List.tail_cons,exGo_eq (td:= .args c []) trivial (by simp only[rank,List.length_cons];omega)]
    ·rw[if_neg ho,if_neg ho]
   |none=>
    simp only[openE,List.tail_cons]
    rw[exGo_eq (td:= .lvl 0) (by simp only[Todo.ok];omega) (by simp only[rank,List.length_cons];omega)]
theorem lvlE_row {n d:Nat}{r:List Tkn}(h:n≤5)(h2:n≠2):lvlE n d r=(lvlE (n+1) d r).next fun a q=>rowE n a d q:=by
 show exGo (rank (.lvl n) r+1) (.lvl n) d r=_
 rw[exGo_lvl,if_neg (by omega),if_neg (by omega),exGo_eq (td:= .lvl (n+1)) (by simp only[Todo.ok];omega) (by simp only[rank];omega)]
 refine ExR.next_congr fun a q e=>?_
 have hs:=lvlE_suf (n:=n+1) (by omega) e
 exact exGo_eq (td:= .row n a) trivial (by simp only[rank];omega)
theorem opsL_none {n:Nat}(h:5<n):opsL n=[]:=by
 unfold opsL
 rw[if_neg (by omega),if_neg (by omega),if_neg (by omega),if_neg (by omega),if_neg (by omega)]
theorem rowE_eq (n:Nat)(a:Ex)(d:Nat)(r:List Tkn):rowE n a d r=
 if infixH r (opsL n)=0 then .ok (a,r) else
  (lvlE (n+1) d r.tail).next fun b q=>
   if n=3 then .ok (.mk ⟨infixH r (opsL n),v0,[],(plH r).1,(plH r).2⟩ [a,b],q)
   else rowE n (.mk ⟨infixH r (opsL n),v0,[],(plH r).1,(plH r).2⟩ [a,b]) d q:=by
 show exGo (rank (.row n a) r+1) (.row n a) d r=_
 rw[exGo_row]
 by_cases hz:infixH r (opsL n)=0
 ·rw[if_pos hz,if_pos hz]
 ·rw[if_neg hz,if_neg hz]
  have hn:n≤5:=Nat.le_of_not_lt fun hh=>hz (by rw[opsL_none hh];rfl)
  obtain⟨t,q,rfl⟩:=infixH_ne hz
  rw[List.tail_cons,exGo_eq (td:= .lvl (n+1)) (by simp only[Todo.ok];omega) (by simp only[rank,List.length_cons];omega)]
  refine ExR.next_congr fun b q' e=>?_
  have hs:=lvlE_suf (n:=n+1) (by omega) e
  rw[exGo_eq (td:= .row n _) trivial (by simp only[rank,List.length_cons];omega)]
theorem argsE_eq (c:Cl)(ks:List Ex)(d:Nat)(r:List Tkn):argsE c ks d r=
 (lvlE 0 d r).next fun a q=>
  if isH [44] q && decide (ks.length+1=c.most)||isH [41] q && decide (ks.length+1<c.least) then .error (14,q)
  else if isH [44] q then argsE c (ks++[a]) d q.tail
  else shutE (.mk ⟨c.op,v0,[],c.line,c.col⟩ (ks++[a])) q:=by
 show exGo (rank (.args c ks) r+1) (.args c ks) d r=_
 rw[exGo_args,exGo_eq (td:= .lvl 0) (by simp only[Todo.ok];omega) (by simp only[rank];omega)]
 refine ExR.next_congr fun a q e=>?_
 have hs:=lvlE_suf (n:=0) (by omega) e
 by_cases hm:(isH [44] q && decide (ks.length+1=c.most)||isH [41] q && decide (ks.length+1<c.least))=true
 ·rw[if_pos hm,if_pos hm]
 ·rw[if_neg hm,if_neg hm]
  by_cases hc:isH [44] q=true
  ·rw[if_pos hc,if_pos hc]
   exact exGo_eq (td:= .args c (ks++[a])) trivial (by simp only[rank,List.length_tail];omega)
  ·rw[if_neg hc,if_neg hc]
theorem opsL_two:opsL 2=[]:=rfl
theorem exE_ind {P:Todo→Nat→List Tkn→Prop}
 (hpre:∀n d r,(n=2∨n=6)→(∀t q,r=t::q→isH (preW n) r=true→d≠12→P (.lvl n) (d+1) q)→(isH (preW n) r=false→P (.lvl (n+1)) d r)→P (.lvl n) d r)
 (hatom:∀d r,(∀t t' q c,r=t::t'::q→leafH t=none→callH t=some c→isH [40] (t'::q)=true→d≠12→P (.args c []) (d+1) q)→(∀t q,r=t::q→leafH t=none→callH t=none→isH [40] r=true→d≠12→P (.lvl 0) (d+1) q)→P (.lvl 7) d r)
 (hlrow:∀n d r,n≤5→n≠2→P (.lvl (n+1)) d r→(∀a q,lvlE (n+1) d r= .ok (a,q)→P (.row n a) d q)→P (.lvl n) d r)
 (hrow:∀n a d r,(∀t q,r=t::q→infixH r (opsL n)≠0→n≤5→n≠2→P (.lvl (n+1)) d q∧∀b q',lvlE (n+1) d q= .ok (b,q')→P (.row n (.mk ⟨infixH r (opsL n),v0,[],(plH r).1,(plH r).2⟩ [a,b])) d q')→P (.row n a) d r)
 (hargs:∀c ks d r,P (.lvl 0) d r→(∀a t q,lvlE 0 d r= .ok (a,t::q)→isH [44] (t::q)=true→P (.args c (ks++[a])) d q)→P (.args c ks) d r):
 ∀td d r,td.ok→P td d r:=by
 have key:∀(k:Nat) (td:Todo) (d:Nat) (r:List Tkn),td.ok→rank td r<k→P td d r:=by
  intro k
  induction k with
  |zero=>intro td d r _ h;exact absurd h (Nat.not_lt_zero _)
  |succ k ih=>
   intro td d r hok h
   cases td with
   |lvl n=>
    have h7:n≤7:=hok
    simp only[rank] at h
    by_cases h26:n=2∨n=6
    ·refine hpre n d r h26 (fun t q e hp hd=>?_) fun hp=>ih (.lvl (n+1)) d r (by simp only[Todo.ok];omega) (by simp only[rank];omega)
     subst e
     simp only[List.length_cons] at h
     exact ih (.lvl n) (d+1) q h7 (by simp only[rank];omega)
    ·by_cases h77:n=7
     ·subst h77
      refine hatom d r (fun t t' q c e _ _ _ _=>?_) fun t q e _ _ _ _=>?_
      ·subst e
       simp only[List.length_cons] at h
       exact ih (.args c []) (d+1) q trivial (by simp only[rank];omega)
      ·subst e
       simp only[List.length_cons] at h
       exact ih (.lvl 0) (d+1) q (by simp only[Todo.ok];omega) (by simp only[rank];omega)
     ·refine hlrow n d r (by omega) (by omega) (ih (.lvl (n+1)) d r (by simp only[Todo.ok];omega) (by simp only[rank];omega)) fun a q e=>?_
      have hs:=lvlE_suf (n:=n+1) (by omega) e
      exact ih (.row n a) d q trivial (by simp only[rank];omega)
   |row n a=>
    simp only[rank] at h
    refine hrow n a d r fun t q e hz h5 h2=>?_
    subst e
    simp only[List.length_cons] at h
    refine⟨ih (.lvl (n+1)) d q (by simp only[Todo.ok];omega) (by simp only[rank];omega),fun b q' e=>?_⟩
    have hs:=lvlE_suf (n:=n+1) (by omega) e
    exact ih (.row n _) d q' trivial (by simp only[rank];omega)
   |args c ks=>
    simp only[rank] at h
    refine hargs c ks d r (ih (.lvl 0) d r (by simp only[Todo.ok];omega) (by simp only[rank];omega)) fun a t q e _=>?_
    have hs:=lvlE_suf (n:=0) (by omega) e
    simp only[List.length_cons] at hs
    exact ih (.args c (ks++[a])) d q trivial (by simp only[rank];omega)
 exact fun td d r hok=>key _ td d r hok (Nat.lt_succ_self _)
theorem infix_le {r:List Tkn}{n:Nat}(h:infixH r (opsL n)≠0):n≤5∧n≠2:=
 ⟨Nat.le_of_not_lt fun hh=>h (by rw[opsL_none hh];rfl),fun e=>h (by rw[e,opsL_two];rfl)⟩
open Go Go.Lib
mutual
def Ex.All (P:Hd→Nat→Prop):Ex→Prop| .mk h ks=>P h ks.length∧AllL P ks
def AllL (P:Hd→Nat→Prop):List Ex→Prop|[]=>True|e::es=>e.All P∧AllL P es
end
theorem AllL_app {P:Hd→Nat→Prop}:∀{l m:List Ex},AllL P l→AllL P m→AllL P (l++m)
 |[],_,_,k=>k
 |_::_,_,h,k=>⟨h.1,AllL_app h.2 k⟩
mutual
theorem Ex.All.mono {P Q:Hd→Nat→Prop}(hpq:∀h k,P h k→Q h k):∀{e:Ex},e.All P→e.All Q
 | .mk _ _,h=>⟨hpq _ _ h.1,AllL.mono hpq h.2⟩
theorem AllL.mono {P Q:Hd→Nat→Prop}(hpq:∀h k,P h k→Q h k):∀{l:List Ex},AllL P l→AllL Q l
 |[],_=>trivial
 |_::_,h=>⟨Ex.All.mono hpq h.1,AllL.mono hpq h.2⟩
end
theorem flat_all {P:Hd→Nat→Prop}:(∀(e:Ex) (b:Nat),e.All P→∀n∈e.flat b,P n.h n.kids.length):=by
 have key:∀(k:Nat),(∀(e:Ex) (b:Nat),e.size≤k→e.All P→∀n∈e.flat b,P n.h n.kids.length)∧(∀(l:List Ex) (b:Nat),sizes l≤k→AllL P l→∀n∈flats l b,P n.h n.kids.length):=by
  intro k
  induction k with
  |zero=>
   refine⟨fun e b h=>?_,fun l b h=>?_⟩
   ·have:=e.size_pos
    omega
   ·cases l with
    |nil=>intro _ n hn;cases hn
    |cons e l=>
     have:=e.size_pos
     simp only[sizes] at h
     omega
  |succ k ih=>
   have h1:∀(e:Ex) (b:Nat),e.size≤k+1→e.All P→∀n∈e.flat b,P n.h n.kids.length:=fun e b h ha n hn=>by
    cases e with
    |mk hd ks=>
     simp only[Ex.size] at h
     simp only[Ex.flat,List.mem_append,List.mem_singleton] at hn
     rcases hn with hn|rfl
     ·exact ih.2 ks b (by omega) ha.2 n hn
     ·simp only[ends_len]
      exact ha.1
   refine⟨h1,fun l=>?_⟩
   induction l with
   |nil=>intro b _ _ n hn;cases hn
   |cons e l il=>
    intro b h ha n hn
    simp only[sizes] at h
    simp only[flats,List.mem_append] at hn
    rcases hn with hn|hn
    ·exact h1 e b (by omega) ha.1 n hn
    ·exact il (b+e.size) (by omega) ha.2 n hn
 exact fun e b=>(key e.size).1 e b (Nat.le_refl _)
def TodoAll (P:Hd→Nat→Prop)(W:Tkn→Prop):Todo→Prop
 | .lvl _=>True
 | .row _ a=>a.All P
 | .args c ks=>AllL P ks∧ks.length<c.most∧∃t,W t∧callH t=some c
theorem callL_le {s:List UInt8}{c:Int×Nat×Nat}(h:callL s=some c):1≤c.2.1∧c.2.1≤c.2.2∧c.2.2≤8∧18≤c.1∧c.1≤26:=by
 unfold callL at h
 repeat' split at h
 all_goals first|(injection h with h;subst h;decide)|cases h
theorem callH_le {t:Tkn}{c:Cl}(h:callH t=some c):t.w.k=1∧callL t.w.t=some (c.op,c.least,c.most)∧c.line=t.line∧c.col=t.col∧1≤c.least∧c.least≤c.most∧c.most≤8:=by
 unfold callH at h
 split at h
 ·rename_i hk
  cases hc:callL t.w.t with
  |none=>rw[hc] at h;cases h
  |some x=>
   rw[hc] at h
   injection h with h
   subst h
   have:=callL_le hc
   exact⟨hk,rfl,rfl,rfl,this.1,this.2.1,this.2.2.1⟩
 ·cases h
theorem next_ok {x:ExR}{g:Ex→List Tkn→ExR}{p:Ex×List Tkn}(h:x.next g= .ok p):∃a q,x= .ok (a,q)∧g a q= .ok p:=by
 cases x with
 |error e=>cases h
 |ok y=>exact⟨y.1,y.2,rfl,h⟩
theorem shut_ok {a b:Ex}{q q':List Tkn}(h:shutE a q= .ok (b,q')):b=a∧isH [41] q=true∧q'=q.tail:=by
 unfold shutE at h
 split at h
 ·rename_i hp
  injection h with h
  injection h with h1 h2
  exact⟨h1.symm,hp,h2.symm⟩
 ·cases h
theorem open_ok {d:Nat}{r:List Tkn}{g:List Tkn→ExR}{p:Ex×List Tkn}(h:openE d r g= .ok p):isH [40] r=true∧d≠12∧g r.tail= .ok p:=by
 unfold openE at h
 split at h
 ·rename_i hp
  split at h
  ·cases h
  ·rename_i hd
   exact⟨hp,hd,h⟩
 ·cases h
theorem exE_all {P:Hd→Nat→Prop}{W:Tkn→Prop}(hleaf:∀t h,W t→leafH t=some h→P h 0)(hpre:∀n t,(n=2∨n=6)→W t→P ⟨preO n,v0,[],t.line,t.col⟩ 1)
 (hin:∀n t q,W t→infixH (t::q) (opsL n)≠0→P ⟨infixH (t::q) (opsL n),v0,[],t.line,t.col⟩ 2)
 (hcall:∀t c k,W t→callH t=some c→c.least≤k→k≤c.most→P ⟨c.op,v0,[],c.line,c.col⟩ k):
 ∀td d r,td.ok→TodoAll P W td→(∀t∈r,W t)→∀a q,exE td d r= .ok (a,q)→a.All P:=by
 have suf:∀{q r:List Tkn},Suf q r→(∀t∈r,W t)→∀t∈q,W t:=fun{q r} hs hw t ht=>by
  obtain⟨k,rfl⟩:=hs
  exact hw t (List.mem_of_mem_drop ht)
 refine exE_ind (P:=fun td d r=>TodoAll P W td→(∀t∈r,W t)→∀a q,exE td d r= .ok (a,q)→a.All P) ?_ ?_ ?_ ?_ ?_
 ·intro n d r hn h1 h2 _ hw a q h
  rw[show exE (.lvl n) d r=_ from lvlE_pre hn] at h
  by_cases hp:isH (preW n) r=true
  ·rw[if_pos hp] at h
   obtain⟨t,q0,rfl⟩:=isH_ne hp
   by_cases hd:d=12
   ·rw[if_pos hd] at h
    cases h
   ·rw[if_neg hd] at h
    obtain⟨a',q',h3,h4⟩:=next_ok h
    injection h4 with h4
    injection h4 with h4 _
    subst h4
    have ht:=hw t List.mem_cons_self
    exact⟨hpre n t hn ht,h1 t q0 rfl hp hd trivial (fun x hx=>hw x (List.mem_cons_of_mem _ hx)) _ _ h3,trivial⟩
  ·rw[if_neg hp] at h
   exact h2 (by simpa using hp) trivial hw a q h
 ·intro d r h1 h2 _ hw a q h
  rw[show exE (.lvl 7) d r=_ from lvlE_atom d r] at h
  cases r with
  |nil=>cases h
  |cons t r=>
   simp only at h
   have ht:=hw t List.mem_cons_self
   have hr:∀x∈r,W x:=fun x hx=>hw x (List.mem_cons_of_mem _ hx)
   cases hl:leafH t with
   |some x=>
    rw[hl] at h
    injection h with h
    injection h with h _
    subst h
    exact⟨hleaf t x ht hl,trivial⟩
   |none=>
    cases hc:callH t with
    |some c=>
     rw[hl,hc] at h
     obtain⟨h3,h4,h5⟩:=open_ok h
     obtain⟨t',q',rfl⟩:=isH_ne h3
     have hcl:=callH_le hc
     exact h1 t t' q' c rfl hl hc h3 h4 ⟨trivial,by show 0<c.most;omega,t,ht,hc⟩ (fun x hx=>hr x (List.mem_cons_of_mem _ hx)) a q h5
    |none=>
     rw[hl,hc] at h
     obtain⟨h3,h4,h5⟩:=open_ok h
     obtain⟨a',q',h6,h7⟩:=next_ok h5
     obtain⟨rfl,h8,rfl⟩:=shut_ok h7
     exact h2 t r rfl hl hc h3 h4 trivial hr _ _ h6
 ·intro n d r h5 hn2 h1 h2 _ hw a q h
  rw[show exE (.lvl n) d r=_ from lvlE_row h5 hn2] at h
  obtain⟨a',q',h3,h4⟩:=next_ok h
  exact h2 a' q' h3 (h1 trivial hw a' q' h3) (suf (lvlE_suf (by omega) h3).1 hw) a q h4
 ·intro n b d r h1 hb hw a q h
  rw[show exE (.row n b) d r=_ from rowE_eq n b d r] at h
  by_cases hz:infixH r (opsL n)=0
  ·rw[if_pos hz] at h
   injection h with h
   injection h with h _
   subst h
   exact hb
  ·rw[if_neg hz] at h
   obtain⟨t,r',rfl⟩:=infixH_ne hz
   obtain⟨h5,hn2⟩:=infix_le hz
   obtain⟨k1,k2⟩:=h1 t r' rfl hz h5 hn2
   obtain⟨a',q',h3,h4⟩:=next_ok h
   have ht:=hw t List.mem_cons_self
   have hr:∀x∈r',W x:=fun x hx=>hw x (List.mem_cons_of_mem _ hx)
   have hnew:(Ex.mk ⟨infixH (t::r') (opsL n),v0,[],(plH (t::r')).1,(plH (t::r')).2⟩ [b,a']).All P:=
    ⟨hin n t r' ht hz,hb,k1 trivial hr a' q' h3,trivial⟩
   by_cases h3n:n=3
   ·rw[if_pos h3n] at h4
    injection h4 with h4
    injection h4 with h4 _
    subst h4
    exact hnew
   ·rw[if_neg h3n] at h4
    exact k2 a' q' h3 hnew (suf (lvlE_suf (by omega) h3).1 hr) a q h4
 ·intro c ks d r h1 h2 hks hw a q h
  rw[show exE (.args c ks) d r=_ from argsE_eq c ks d r] at h
  obtain⟨a',q',h3,h4⟩:=next_ok h
  have ha:=h1 trivial hw a' q' h3
  have hq:=suf (lvlE_suf (by omega) h3).1 hw
  obtain⟨hk1,hk2,t,ht,hc⟩:=hks
  have hcl:=callH_le hc
  have hall:AllL P (ks++[a']):=AllL_app hk1 ⟨ha,trivial⟩
  by_cases hm:(isH [44] q' && decide (ks.length+1=c.most)||isH [41] q' && decide (ks.length+1<c.least))=true
  ·rw[if_pos hm] at h4
   cases h4
  ·rw[if_neg hm] at h4
   simp only[Bool.or_eq_true,Bool.and_eq_true,decide_eq_true_eq,not_or,not_and] at hm
   by_cases hcm:isH [44] q'=true
   ·rw[if_pos hcm] at h4
    have hne:=hm.1 hcm
    obtain⟨t',q'',rfl⟩:=isH_ne hcm
    exact h2 a' t' q'' h3 hcm ⟨hall,by simp;omega,t,ht,hc⟩ (fun x hx=>hq x (List.mem_cons_of_mem _ hx)) a q h4
   ·rw[if_neg hcm] at h4
    obtain⟨rfl,h8,rfl⟩:=shut_ok h4
    have hls:=hm.2 h8
    exact⟨hcall t c _ ht hc (by simp;omega) (by simp;omega),hall⟩
theorem exE_size:∀td d r,td.ok→∀a q,exE td d r= .ok (a,q)→match td with
 | .lvl _=>a.size+q.length≤r.length
 | .row _ b=>a.size+q.length≤b.size+r.length
 | .args _ ks=>a.size+q.length≤sizes ks+1+r.length:=by
 have sht:∀{a b:Ex} {q q':List Tkn},shutE a q= .ok (b,q')→b.size+q'.length<a.size+q.length:=fun{a b q q'} h=>by
  obtain⟨rfl,h1,rfl⟩:=shut_ok h
  obtain⟨t,q0,rfl⟩:=isH_ne h1
  simp
 refine exE_ind (P:=fun td d r=>∀a q,exE td d r= .ok (a,q)→match td with
  | .lvl _=>a.size+q.length≤r.length
  | .row _ b=>a.size+q.length≤b.size+r.length
  | .args _ ks=>a.size+q.length≤sizes ks+1+r.length) ?_ ?_ ?_ ?_ ?_
 ·intro n d r hn h1 h2 a q h
  rw[show exE (.lvl n) d r=_ from lvlE_pre hn] at h
  by_cases hp:isH (preW n) r=true
  ·rw[if_pos hp] at h
   obtain⟨t,q0,rfl⟩:=isH_ne hp
   by_cases hd:d=12
   ·rw[if_pos hd] at h
    cases h
   ·rw[if_neg hd] at h
    obtain⟨a',q',h3,h4⟩:=next_ok h
    injection h4 with h4
    injection h4 with h4 h5
    subst h4
    subst h5
    have:=h1 t q0 rfl hp hd a' q' h3
    simp only[Ex.size,sizes,List.length_cons] at this ⊢
    omega
  ·rw[if_neg hp] at h
   exact h2 (by simpa using hp) a q h
 ·intro d r h1 h2 a q h
  rw[show exE (.lvl 7) d r=_ from lvlE_atom d r] at h
  cases r with
  |nil=>cases h
  |cons t r=>
   simp only at h
   cases hl:leafH t with
   |some x=>
    rw[hl] at h
    injection h with h
    injection h with h h5
    subst h
    subst h5
    simp only[Ex.size,sizes,List.length_cons]
    omega
   |none=>
    cases hc:callH t with
    |some c=>
     rw[hl,hc] at h
     obtain⟨h3,h4,h5⟩:=open_ok h
     obtain⟨t',q',rfl⟩:=isH_ne h3
     have:=h1 t t' q' c rfl hl hc h3 h4 a q h5
     simp only[sizes,List.length_cons] at this ⊢
     omega
    |none=>
     rw[hl,hc] at h
     obtain⟨h3,h4,h5⟩:=open_ok h
     obtain⟨a',q',h6,h7⟩:=next_ok h5
     have e1:=h2 t r rfl hl hc h3 h4 a' q' h6
     have e2:=sht h7
     simp only[List.length_cons] at e1 e2 ⊢
     omega
 ·intro n d r h5 hn2 h1 h2 a q h
  rw[show exE (.lvl n) d r=_ from lvlE_row h5 hn2] at h
  obtain⟨a',q',h3,h4⟩:=next_ok h
  have e1:=h1 a' q' h3
  have e2:=h2 a' q' h3 a q h4
  simp only at e1 e2 ⊢
  omega
 ·intro n b d r h1 a q h
  rw[show exE (.row n b) d r=_ from rowE_eq n b d r] at h
  by_cases hz:infixH r (opsL n)=0
  ·rw[if_pos hz] at h
   injection h with h
   injection h with h h5
   subst h
   subst h5
   exact Nat.le_refl _
  ·rw[if_neg hz] at h
   obtain⟨t,r',rfl⟩:=infixH_ne hz
   obtain⟨h5,hn2⟩:=infix_le hz
   obtain⟨k1,k2⟩:=h1 t r' rfl hz h5 hn2
   obtain⟨a',q',h3,h4⟩:=next_ok h
   have e1:=k1 a' q' h3
   by_cases h3n:n=3
   ·rw[if_pos h3n] at h4
    injection h4 with h4
    injection h4 with h4 h6
    subst h4
    subst h6
    simp only[Ex.size,sizes,List.length_cons] at e1 ⊢
    omega
   ·rw[if_neg h3n] at h4
    have e2:=k2 a' q' h3 a q h4
    simp only[Ex.size,sizes,List.length_cons] at e1 e2 ⊢
    omega
 ·intro c ks d r h1 h2 a q h
  rw[show exE (.args c ks) d r=_ from argsE_eq c ks d r] at h
  obtain⟨a',q',h3,h4⟩:=next_ok h
  have e1:=h1 a' q' h3
  by_cases hm:(isH [44] q' && decide (ks.length+1=c.most)||isH [41] q' && decide (ks.length+1<c.least))=true
  ·rw[if_pos hm] at h4
   cases h4
  ·rw[if_neg hm] at h4
   by_cases hcm:isH [44] q'=true
   ·rw[if_pos hcm] at h4
    obtain⟨t',q'',rfl⟩:=isH_ne hcm
    have e2:=h2 a' t' q'' h3 hcm a q h4
    simp only[sizes,sizes_app,List.length_cons] at e1 e2 ⊢
    omega
   ·rw[if_neg hcm] at h4
    have e2:=sht h4
    simp only[Ex.size,sizes,sizes_app] at e1 e2 ⊢
    omega
open Go Go.Lib
def Hd.bare (h:Hd):Hd:=⟨h.op,h.v,h.name,0,0⟩
mutual
def Ex.bare:Ex→Ex| .mk h ks=> .mk h.bare (bares ks)
def bares:List Ex→List Ex|[]=>[]|e::es=>e.bare::bares es
end
def Nd.bare (n:Nd):Nd:=⟨n.h.bare,n.kids⟩
def Ctx (k:Nat)(post:List Tkn)(x:ExR)(a:Ex)(q:List Tkn):Prop:=
 (k≠0∧∃q1,x= .error (12,q1))∨∃a' q',x= .ok (a',q'++post)∧a'.bare=a.bare∧q'.map Tkn.w=q.map Tkn.w
theorem Ctx.next {k:Nat}{post:List Tkn}{x:ExR}{a:Ex}{q:List Tkn}(h:Ctx k post x a q){g:Ex→List Tkn→ExR}{b:Ex}{p:List Tkn}
 (hg:∀a' q',a'.bare=a.bare→q'.map Tkn.w=q.map Tkn.w→Ctx k post (g a' (q'++post)) b p):Ctx k post (x.next g) b p:=by
 rcases h with ⟨hk,q1,rfl⟩|⟨a',q',rfl,h1,h2⟩
 ·exact .inl ⟨hk,q1,rfl⟩
 ·exact hg a' q' h1 h2
open Go Go.Lib
structure Cuts (st:Nat→Option Nat)(i s:Nat)(kids:List Nat)(cs:List Nat):Prop where
 len:cs.length=kids.length+1
 first:cs[0]? =some s
 last:cs[kids.length]? =some i
 kid:∀k x y,kids[k]? =some x→cs[k+1]? =some y→x+1=y∧st x=cs[k]?
 rise:∀k x y,cs[k]? =some x→cs[k+1]? =some y→x<y
theorem Cuts.mono {st st':Nat→Option Nat}{i s:Nat}{kids cs:List Nat}(h:Cuts st i s kids cs)(hs:∀x y,st x=some y→st' x=some y):Cuts st' i s kids cs:=by
 refine⟨h.len,h.first,h.last,fun k x y hx hy=>?_,h.rise⟩
 obtain⟨h1,h2⟩:=h.kid k x y hx hy
 refine⟨h1,?_⟩
 have hk:k<cs.length:=by
  have:=(List.getElem?_eq_some_iff.1 hy).1
  omega
 rw[List.getElem?_eq_getElem hk] at h2 ⊢
 exact hs _ _ h2
def off (b:Nat)(l:List Nat)(x:Nat):Option Nat:=if b≤x then l[x - b]? else none
theorem Cuts.lt {st:Nat→Option Nat}{i s:Nat}{kids cs:List Nat}(h:Cuts st i s kids cs):∀(k x:Nat),kids[k]? =some x→x<i:=by
 have hle:∀(m k x:Nat),k+m=kids.length→cs[k]? =some x→x≤i:=fun m=>by
  induction m with
  |zero=>
   intro k x e hx
   rw[show k=kids.length by omega,h.last,Option.some.injEq] at hx
   omega
  |succ m ih=>
   intro k x e hx
   have hk:k+1<cs.length:=by rw[h.len];omega
   have h1:=h.rise k x _ hx (List.getElem?_eq_getElem hk)
   have h2:=ih (k+1) _ (by omega) (List.getElem?_eq_getElem hk)
   omega
 intro k x hx
 have hkl:=(List.getElem?_eq_some_iff.1 hx).1
 have hk:k+1<cs.length:=by rw[h.len];omega
 have h1:=(h.kid k x _ hx (List.getElem?_eq_getElem hk)).1
 have h2:=hle (kids.length - (k+1)) (k+1) _ (by omega) (List.getElem?_eq_getElem hk)
 omega
end Go.Proofs.YtgfakdobajgnfaaGreatDoor
