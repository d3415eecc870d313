import Derived.Test.YtmpfilddeglgbaaGreatDoorQj0
set_option maxRecDepth 100000
set_option maxHeartbeats 16000000
namespace Go.Proofs.YtmpfilddeglgbaaGreatDoor
open Go Go.Lib
structure Hd where
 op:Int
 v:Int×Int×List UInt8
 name:List UInt8
 line:Int
 col:Int
structure Nd where
 h:Hd
 kids:List Nat
inductive Ex where
 |mk (h:Hd) (kids:List Ex)
def Ex.hd:Ex->Hd| .mk h _=>h
def Ex.kids:Ex->List Ex| .mk _ ks=>ks
mutual
def Ex.size:Ex->Nat| .mk _ ks=>Bf ks+1
def Bf:List Ex->Nat|[]=>0|e::es=>e.size+Bf es
end
def Ct:List Ex->Nat->List Nat|[],_=>[]|e::es,b=>(b+e.size - 1)::Ct es (b+e.size)
mutual
def Ex.flat:Ex->Nat->List Nd| .mk h ks,b=>Bz ks b++[⟨h,Ct ks b⟩]
def Bz:List Ex->Nat->List Nd|[],_=>[]|e::es,b=>e.flat b++Bz es (b+e.size)
end
theorem Ex.size_pos (e:Ex):1<=e.size:=by
 cases e;simp [Ex.size]
mutual
theorem Ex.flat_len:∀(e:Ex) (b:Nat),(e.flat b).length=e.size
 | .mk h ks,b=>by simp [Ex.flat,Ex.size,Cd ks b]
theorem Cd:∀(l:List Ex) (b:Nat),(Bz l b).length=Bf l
 |[],b=>rfl
 |e::es,b=>by simp [Bz,Bf,Ex.flat_len e b,Cd es (b+e.size)]
end
theorem Il:∀(l:List Ex) (b:Nat),(Ct l b).length=l.length
 |[],_=>rfl
 |e::es,b=>by simp [Ct,Il es]
theorem Qk:∀(l m:List Ex),Bf (l++m)=Bf l+Bf m
 |[],m=>by simp [Bf]
 |e::l,m=>by simp [Bf,Qk l m,Nat.add_assoc]
theorem Qr:∀(l m:List Ex) (b:Nat),Bz (l++m) b=Bz l b++Bz m (b+Bf l)
 |[],m,b=>by simp [Bz,Bf]
 |e::l,m,b=>by simp [Bz,Bf,Qr l m,Nat.add_assoc]
theorem Tm:∀(l m:List Ex) (b:Nat),Ct (l++m) b=Ct l b++Ct m (b+Bf l)
 |[],m,b=>by simp [Ct,Bf]
 |e::l,m,b=>by simp [Ct,Bf,Tm l m,Nat.add_assoc]
def isH (s:List UInt8):List Tkn->Bool
 |t::_=>decide (t.w.t=s) && (decide (t.w.k=1)||decide (t.w.k=7))
 |[]=>false
def plH:List Tkn->Int×Int
 |t::_=>(t.line,t.col)
 |[]=>(0,0)
def Bp (lvl:Nat):List (List UInt8×Int):=
 if lvl=0 then[([111,114],4)] else if lvl=1 then[([97,110,100],5)]
 else if lvl=3 then[([61],7),([60,62],8),([60],9),([60,61],10),([62],11),([62,61],12)]
 else if lvl=4 then[([43],13),([45],14)] else if lvl=5 then[([42],15),([47],16)] else[]
def Be (r:List Tkn):List (List UInt8×Int)->Int
 |[]=>0
 |(s,o)::l=>if isH s r then o else Be r l
def De (s:List UInt8):Option (Int×Nat×Nat):=
 if s=[97,98,115] then some (18,1,1) else if s=[109,105,110] then some (19,1,8) else if s=[109,97,120] then some (20,1,8)
 else if s=[109,111,100] then some (21,2,2) else if s=[108,101,110,103,116,104] then some (22,1,1) else if s=[117,112,112,101,114] then some (23,1,1)
 else if s=[99,111,110,116,97,105,110,115] then some (24,2,2) else if s=[115,116,97,114,116,115] then some (25,2,2) else if s=[105,102] then some (26,3,3) else none
def Lf (s:List UInt8):Option (Int×Int×List UInt8):=
 if s=[116,114,117,101] then some (4,1,[]) else if s=[102,97,108,115,101] then some (4,0,[]) else if s=[110,117,108,108] then some v0 else none
def Ea (n:Nat):List UInt8:=if n=2 then[110,111,116] else[45]
def K4 (n:Nat):Int:=if n=2 then 6 else 17
structure Cl where
 op:Int
 least:Nat
 most:Nat
 line:Int
 col:Int
inductive F7 where
 |lvl (n:Nat)
 |row (n:Nat) (a:Ex)
 |args (c:Cl) (kids:List Ex)
abbrev ExR:=Except (Int×List Tkn) (Ex×List Tkn)
def B8 (t:Tkn):Option Hd:=
 if t.w.k=4\/t.w.k=5\/t.w.k=6 then some ⟨1,t.w.v,[],t.line,t.col⟩
 else if t.w.k=2 then some ⟨2,v0,t.w.t,t.line,t.col⟩
 else if t.w.k=3 then some ⟨3,v0,[],t.line,t.col⟩
 else if t.w.k=1 then(match De t.w.t with|some _=>none|none=>(Lf t.w.t).map fun v=>⟨1,v,[],t.line,t.col⟩)
 else none
def Cu (t:Tkn):Option Cl:=if t.w.k=1 then(De t.w.t).map fun c=>⟨c.1,c.2.1,c.2.2,t.line,t.col⟩ else none
def ExR.next (x:ExR)(g:Ex->List Tkn->ExR):ExR:=
 match x with
 | .error e=> .error e
 | .ok (a,q)=>g a q
def B4 (d:Nat)(r:List Tkn)(g:List Tkn->ExR):ExR:=if isH [40] r then(if d=12 then .error (12,r) else g r.tail) else .error (4,r)
def Cy (a:Ex)(q:List Tkn):ExR:=if isH [41] q then .ok (a,q.tail) else .error (4,q)
def Ch:Nat->F7->Nat->List Tkn->ExR
 |0,_,_,r=> .error (0,r)
 |f+1,.lvl n,d,r=>
  if n=2\/n=6 then
   if isH (Ea n) r then
    if d=12 then .error (12,r) else
     (Ch f (.lvl n) (d+1) r.tail).next fun a q=> .ok (.mk ⟨K4 n,v0,[],(plH r).1,(plH r).2⟩ [a],q)
   else Ch f (.lvl (n+1)) d r
  else if n=7 then
   match r with
   |[]=> .error (4,[])
   |t::q=>
    match B8 t,Cu t with
    |some h,_=> .ok (.mk h [],q)
    |none,some c=>B4 d q fun q'=>Ch f (.args c []) (d+1) q'
    |none,none=>B4 d (t::q) fun q'=>(Ch f (.lvl 0) (d+1) q').next Cy
  else(Ch f (.lvl (n+1)) d r).next fun a q=>Ch f (.row n a) d q
 |f+1,.row n a,d,r=>
  if Be r (Bp n)=0 then .ok (a,r) else
   (Ch f (.lvl (n+1)) d r.tail).next fun b q=>
    if n=3 then .ok (.mk ⟨Be r (Bp n),v0,[],(plH r).1,(plH r).2⟩ [a,b],q)
    else Ch f (.row n (.mk ⟨Be r (Bp n),v0,[],(plH r).1,(plH r).2⟩ [a,b])) d q
 |f+1,.args c kids,d,r=>
  (Ch f (.lvl 0) d r).next fun a q=>
   if isH [44] q && decide (kids.length+1=c.most)||isH [41] q && decide (kids.length+1<c.least) then .error (14,q)
   else if isH [44] q then Ch f (.args c (kids++[a])) d q.tail
   else Cy (.mk ⟨c.op,v0,[],c.line,c.col⟩ (kids++[a])) q
def B2:F7->List Tkn->Nat
 | .lvl n,r=>r.length*10+(8 - n)
 | .row _ _,r=>r.length*10+9
 | .args _ _,r=>r.length*10+9
def Suf (q r:List Tkn):Prop:=∃k,q=r.drop k
theorem Suf.refl (r:List Tkn):Suf r r:=⟨0,rfl⟩
theorem Suf.trans {a b c:List Tkn}(h:Suf a b)(k:Suf b c):Suf a c:=by
 obtain⟨i,rfl⟩:=h;obtain⟨j,rfl⟩:=k;exact⟨j+i,by rw[List.drop_drop]⟩
theorem Suf.tail {a b:List Tkn}(h:Suf a b.tail):Suf a b:=h.trans ⟨1,by simp⟩
theorem Suf.len {q r:List Tkn}(h:Suf q r):q.length<=r.length:=by
 obtain⟨k,rfl⟩:=h;simp
theorem Suf.cons {t:Tkn}{a b:List Tkn}(h:Suf a b):Suf a (t::b):=h.trans ⟨1,rfl⟩
theorem Cf {s:List UInt8}{r:List Tkn}(h:isH s r=true):∃t q,r=t::q:=by
 cases r with
 |nil=>cases h
 |cons t q=>exact⟨t,q,rfl⟩
theorem Fe {r:List Tkn}:∀{l:List (List UInt8×Int)},Be r l≠0->∃t q,r=t::q
 |[],h=>absurd rfl h
 |(s,o)::l,h=>by
  unfold Be at h;by_cases e:isH s r=true
  ·exact Cf e
  rw[Ao e] at h;exact Fe h
def pK:F7->List Tkn->ExR->Prop
 |_,r,.error (_,q)=>Suf q r
 | .row _ _,r,.ok (_,q)=>Suf q r
 |_,r,.ok (_,q)=>Suf q r/\q.length<r.length
theorem pK.suf {td:F7}{r:List Tkn}{a:Ex}{q:List Tkn}(h:pK td r (.ok (a,q))):Suf q r:=by
 cases td with
 |lvl n=>exact h.1
 |row n a=>exact h
 |args c k=>exact h.1
theorem Vn:∀(f:Nat) (td:F7) (d:Nat) (r:List Tkn),(∀n,td= .lvl n->n<=7)->B2 td r<f->pK td r (Ch f td d r)/\∀g,B2 td r<g->Ch g td d r=Ch f td d r:=by
 intro f
 induction f with
 |zero=>intro td d r _ h;exact absurd h (Nat.not_lt_zero _)
 |succ f ih=>
  intro td d r hn h
  have lv:∀{n:Nat} {d:Nat} {r':List Tkn},n<=7->B2 (.lvl n) r'<f->(match Ch f (.lvl n) d r' with| .error e=>Suf e.2 r'| .ok p=>Suf p.2 r'/\p.2.length<r'.length)/\∀g,B2 (.lvl n) r'<g->Ch g (.lvl n) d r'=Ch f (.lvl n) d r':=fun{n d r'} h7 hr=>by
   have:=ih (.lvl n) d r' (fun m e=>by injection e with e;omega) hr
   refine⟨?_,this.2⟩;have h1:=this.1
   revert h1
   cases Ch f (.lvl n) d r' with
   |error e=>exact id
   |ok p=>exact id
  have rw':∀{n:Nat} {a:Ex} {d:Nat} {r':List Tkn},B2 (.row n a) r'<f->(match Ch f (.row n a) d r' with| .error e=>Suf e.2 r'| .ok p=>Suf p.2 r')/\∀g,B2 (.row n a) r'<g->Ch g (.row n a) d r'=Ch f (.row n a) d r':=fun{n a d r'} hr=>by
   have:=ih (.row n a) d r' (fun m e=>by cases e) hr
   refine⟨?_,this.2⟩;have h1:=this.1
   revert h1
   cases Ch f (.row n a) d r' with
   |error e=>exact id
   |ok p=>exact id
  have ar:∀{c:Cl} {ks:List Ex} {d:Nat} {r':List Tkn},B2 (.args c ks) r'<f->(match Ch f (.args c ks) d r' with| .error e=>Suf e.2 r'| .ok p=>Suf p.2 r'/\p.2.length<r'.length)/\∀g,B2 (.args c ks) r'<g->Ch g (.args c ks) d r'=Ch f (.args c ks) d r':=fun{c ks d r'} hr=>by
   have:=ih (.args c ks) d r' (fun m e=>by cases e) hr
   refine⟨?_,this.2⟩;have h1:=this.1
   revert h1
   cases Ch f (.args c ks) d r' with
   |error e=>exact id
   |ok p=>exact id
  have sh:∀(a:Ex) (q:List Tkn),(match Cy a q with| .error e=>Suf e.2 q| .ok p=>Suf p.2 q/\p.2.length<q.length):=fun a q=>by
   unfold Cy;by_cases e:isH [41] q=true
   ·rw[Ap e];obtain⟨t,q',rfl⟩:=Cf e;exact⟨⟨1,rfl⟩,by simp⟩
   rw[Ao e];exact Suf.refl _
  clear ih;cases td with
  |lvl n=>
   have hn7:=hn n rfl;simp only[B2] at h lv;by_cases h26:n=2\/n=6
   ·by_cases hp:isH (Ea n) r=true
    ·obtain⟨t,q,rfl⟩:=Cf hp;by_cases hd:d=12
     ·refine⟨?_,fun g hg=>?_⟩
      ·simp only[Ch,Ap h26,Ap hp,Ap hd];exact Suf.refl _
      obtain⟨g,rfl⟩:∃g',g=g'+1:=⟨g - 1,by omega⟩;simp only[Ch,Ap h26,Ap hp,Ap hd]
     simp only[Aa] at h;obtain⟨h1,h2⟩:=lv (n:=n) (d:=d+1) (r':=q) hn7 tE;refine⟨?_,fun g hg=>?_⟩
     ·simp only[Ch,Ap h26,Ap hp,Ao hd,List.tail_cons]
      revert h1
      cases Ch f (.lvl n) (d+1) q with
      |error e=>exact fun h1=>Suf.cons h1
      |ok p=>exact fun h1=>⟨Suf.cons h1.1,by have:=h1.2;simp only[Aa];omega⟩
     obtain⟨g,rfl⟩:∃g',g=g'+1:=⟨g - 1,by omega⟩;simp only[B2,Aa] at hg;simp only[Ch,Ap h26,Ap hp,Ao hd,List.tail_cons];rw[h2 g tE]
    obtain⟨h1,h2⟩:=lv (n:=n+1) (d:=d) (r':=r) tE tE;refine⟨?_,fun g hg=>?_⟩
    ·simp only[Ch,Ap h26,Ao hp]
     revert h1
     cases Ch f (.lvl (n+1)) d r with
     |error e=>exact id
     |ok p=>exact id
    obtain⟨g,rfl⟩:∃g',g=g'+1:=⟨g - 1,by omega⟩;simp only[B2] at hg;simp only[Ch,Ap h26,Ao hp];exact h2 g tE
   by_cases h7:n=7
   ·cases r with
    |nil=>
     refine⟨?_,fun g hg=>?_⟩
     ·simp only[Ch,Ao h26,Ap h7];exact Suf.refl _
     obtain⟨g,rfl⟩:∃g',g=g'+1:=⟨g - 1,by omega⟩;simp only[Ch,Ao h26,Ap h7]
    |cons t q=>
     simp only[Aa] at h
     have hgo:∀g,Ch (g+1) (.lvl n) d (t::q)=(match B8 t,Cu t with
      |some h,_=> .ok (.mk h [],q)
      |none,some c=>B4 d q fun q'=>Ch g (.args c []) (d+1) q'
      |none,none=>B4 d (t::q) fun q'=>(Ch g (.lvl 0) (d+1) q').next Cy):=fun g=>by
      simp only[Ch,Ao h26,Ap h7]
     rw[hgo f];cases hl:B8 t with
     |some x=>
      refine⟨⟨⟨1,rfl⟩,by simp⟩,fun g hg=>?_⟩;obtain⟨g,rfl⟩:∃g',g=g'+1:=⟨g - 1,by omega⟩;rw[hgo g,hl]
     |none=>
      cases hc:Cu t with
      |some c=>
       simp only;by_cases ho:isH [40] q=true
       ·obtain⟨t',q',rfl⟩:=Cf ho;by_cases hd:d=12
        ·refine⟨?_,fun g hg=>?_⟩
         ·simp only[B4,Ap ho,Ap hd];exact⟨1,rfl⟩
         obtain⟨g,rfl⟩:∃g',g=g'+1:=⟨g - 1,by omega⟩;rw[hgo g,hl,hc];simp only[B4,Ap ho,Ap hd]
        simp only[Aa] at h;obtain⟨h1,h2⟩:=ar (c:=c) (ks:=[]) (d:=d+1) (r':=q') tP;refine⟨?_,fun g hg=>?_⟩
        ·simp only[B4,Ap ho,Ao hd,List.tail_cons]
         revert h1
         cases Ch f (.args c []) (d+1) q' with
         |error e=>exact fun h1=>Suf.cons (Suf.cons h1)
         |ok p=>exact fun h1=>⟨Suf.cons (Suf.cons h1.1),by have:=h1.2;simp only[Aa];omega⟩
        obtain⟨g,rfl⟩:∃g',g=g'+1:=⟨g - 1,by omega⟩;simp only[B2,Aa] at hg;rw[hgo g,hl,hc];simp only[B4,Ap ho,Ao hd,List.tail_cons];exact h2 g tP
       refine⟨?_,fun g hg=>?_⟩
       ·simp only[B4,Ao ho];exact⟨1,rfl⟩
       obtain⟨g,rfl⟩:∃g',g=g'+1:=⟨g - 1,by omega⟩;rw[hgo g,hl,hc];simp only[B4,Ao ho]
      |none=>
       simp only;by_cases ho:isH [40] (t::q)=true
       ·by_cases hd:d=12
        ·refine⟨?_,fun g hg=>?_⟩
         ·simp only[B4,Ap ho,Ap hd];exact Suf.refl _
         obtain⟨g,rfl⟩:∃g',g=g'+1:=⟨g - 1,by omega⟩;rw[hgo g,hl,hc];simp only[B4,Ap ho,Ap hd]
        obtain⟨h1,h2⟩:=lv (n:=0) (d:=d+1) (r':=q) tE tE;refine⟨?_,fun g hg=>?_⟩
        ·simp only[B4,Ap ho,Ao hd,List.tail_cons]
         revert h1
         cases Ch f (.lvl 0) (d+1) q with
         |error e=>exact fun h1=>Suf.cons h1
         |ok p=>
          intro h1;obtain⟨h3,h4⟩:=h1;have hs:=sh p.1 p.2;simp only[ExR.next]
          revert hs
          cases Cy p.1 p.2 with
          |error e=>exact fun hs=>Suf.cons (Suf.trans hs h3)
          |ok p'=>exact fun hs=>⟨Suf.cons (hs.1.trans h3),by have:=hs.2;simp only[Aa];omega⟩
        obtain⟨g,rfl⟩:∃g',g=g'+1:=⟨g - 1,by omega⟩;simp only[B2,Aa] at hg;rw[hgo g,hl,hc];simp only[B4,Ap ho,Ao hd,List.tail_cons];rw[h2 g tE]
       refine⟨?_,fun g hg=>?_⟩
       ·simp only[B4,Ao ho];exact Suf.refl _
       obtain⟨g,rfl⟩:∃g',g=g'+1:=⟨g - 1,by omega⟩;rw[hgo g,hl,hc];simp only[B4,Ao ho]
   obtain⟨h1,h2⟩:=lv (n:=n+1) (d:=d) (r':=r) tE tE;refine⟨?_,fun g hg=>?_⟩
   ·simp only[Ch,Ao h26,Ao h7]
    revert h1
    cases Ch f (.lvl (n+1)) d r with
    |error e=>exact id
    |ok p=>
     intro h1;obtain⟨h3,h4⟩:=h1;obtain⟨h5,_⟩:=rw' (n:=n) (a:=p.1) (d:=d) (r':=p.2) tP;simp only[ExR.next]
     revert h5
     cases Ch f (.row n p.1) d p.2 with
     |error e=>exact fun h5=>Suf.trans h5 h3
     |ok p'=>exact fun h5=>⟨Suf.trans h5 h3,by have:=Suf.len h5;omega⟩
   obtain⟨g,rfl⟩:∃g',g=g'+1:=⟨g - 1,by omega⟩;simp only[B2] at hg;simp only[Ch,Ao h26,Ao h7];rw[h2 g tE]
   revert h1
   cases Ch f (.lvl (n+1)) d r with
   |error e=>exact fun _=>rfl
   |ok p=>
    intro h1;obtain⟨h3,h4⟩:=h1;obtain⟨_,h6⟩:=rw' (n:=n) (a:=p.1) (d:=d) (r':=p.2) tP;exact h6 g tP
  |row n a=>
   by_cases hz:Be r (Bp n)=0
   ·refine⟨?_,fun g hg=>?_⟩
    ·simp only[Ch,Ap hz];exact Suf.refl _
    obtain⟨g,rfl⟩:∃g',g=g'+1:=⟨g - 1,by omega⟩;simp only[Ch,Ap hz]
   have hn5:n<=5:=by
    refine Nat.le_of_not_lt fun hh=>hz ?_
    rw[show Bp n=[] by unfold Bp;rw[Ao tE,Ao tE,Ao tE,Ao tE,Ao tE]];rfl
   obtain⟨t,q,rfl⟩:=Fe hz;simp only[B2,Aa] at h;obtain⟨h1,h2⟩:=lv (n:=n+1) (d:=d) (r':=q) tE tP;refine⟨?_,fun g hg=>?_⟩
   ·simp only[Ch,Ao hz,List.tail_cons]
    revert h1
    cases Ch f (.lvl (n+1)) d q with
    |error e=>exact fun h1=>Suf.cons h1
    |ok p=>
     intro h1;obtain⟨h3,h4⟩:=h1;simp only[ExR.next];by_cases h3n:n=3
     ·rw[Ap h3n];exact Suf.cons h3
     rw[Ao h3n];obtain⟨h5,_⟩:=rw' (n:=n) (a:= .mk ⟨Be (t::q) (Bp n),v0,[],(plH (t::q)).1,(plH (t::q)).2⟩ [a,p.1]) (d:=d) (r':=p.2) tP
     revert h5
     cases Ch f (.row n (.mk ⟨Be (t::q) (Bp n),v0,[],(plH (t::q)).1,(plH (t::q)).2⟩ [a,p.1])) d p.2 with
     |error e=>exact fun h5=>Suf.cons (Suf.trans h5 h3)
     |ok p'=>exact fun h5=>Suf.cons (Suf.trans h5 h3)
   obtain⟨g,rfl⟩:∃g',g=g'+1:=⟨g - 1,by omega⟩;simp only[B2,Aa] at hg;simp only[Ch,Ao hz,List.tail_cons];rw[h2 g tP]
   revert h1
   cases Ch f (.lvl (n+1)) d q with
   |error e=>exact fun _=>rfl
   |ok p=>
    intro h1;obtain⟨h3,h4⟩:=h1;simp only[ExR.next];by_cases h3n:n=3
    ·rw[Ap h3n,Ap h3n]
    rw[Ao h3n,Ao h3n];obtain⟨_,h6⟩:=rw' (n:=n) (a:= .mk ⟨Be (t::q) (Bp n),v0,[],(plH (t::q)).1,(plH (t::q)).2⟩ [a,p.1]) (d:=d) (r':=p.2) tP;exact h6 g tP
  |args c kids=>
   simp only[B2] at h;obtain⟨h1,h2⟩:=lv (n:=0) (d:=d) (r':=r) tE tP;refine⟨?_,fun g hg=>?_⟩
   ·simp only[Ch]
    revert h1
    cases Ch f (.lvl 0) d r with
    |error e=>exact id
    |ok p=>
     intro h1;obtain⟨h3,h4⟩:=h1;simp only[ExR.next];by_cases hm:(isH [44] p.2 && decide (kids.length+1=c.most)||isH [41] p.2 && decide (kids.length+1<c.least))=true
     ·rw[Ap hm];exact h3
     rw[Ao hm];by_cases hc:isH [44] p.2=true
     ·rw[Ap hc];obtain⟨t,q,e⟩:=Cf hc;have e':=Ar List.length e;simp only[Aa] at e';have ht:p.2.tail.length<p.2.length:=by rw[e];simp
      obtain⟨h5,_⟩:=ar (c:=c) (ks:=kids++[p.1]) (d:=d) (r':=p.2.tail) tP
      revert h5
      cases Ch f (.args c (kids++[p.1])) d p.2.tail with
      |error e=>exact fun h5=>Suf.trans (Suf.tail h5) h3
      |ok p'=>exact fun h5=>⟨(Suf.tail h5.1).trans h3,by have:=h5.2;omega⟩
     rw[Ao hc];have hs:=sh (.mk ⟨c.op,v0,[],c.line,c.col⟩ (kids++[p.1])) p.2
     revert hs
     cases Cy (.mk ⟨c.op,v0,[],c.line,c.col⟩ (kids++[p.1])) p.2 with
     |error e=>exact fun hs=>Suf.trans hs h3
     |ok p'=>exact fun hs=>⟨hs.1.trans h3,by have:=hs.2;omega⟩
   obtain⟨g,rfl⟩:∃g',g=g'+1:=⟨g - 1,by omega⟩;simp only[B2] at hg;simp only[Ch];rw[h2 g tP]
   revert h1
   cases Ch f (.lvl 0) d r with
   |error e=>exact fun _=>rfl
   |ok p=>
    intro h1;obtain⟨h3,h4⟩:=h1;simp only[ExR.next];by_cases hm:(isH [44] p.2 && decide (kids.length+1=c.most)||isH [41] p.2 && decide (kids.length+1<c.least))=true
    ·rw[Ap hm,Ap hm]
    rw[Ao hm,Ao hm];by_cases hc:isH [44] p.2=true
    ·rw[Ap hc,Ap hc];obtain⟨t,q,e⟩:=Cf hc;have ht:p.2.tail.length<p.2.length:=by rw[e];simp
     obtain⟨_,h6⟩:=ar (c:=c) (ks:=kids++[p.1]) (d:=d) (r':=p.2.tail) tP;exact h6 g tP
    rw[Ao hc,Ao hc]
open Go Go.Lib
def exE (td:F7)(d:Nat)(r:List Tkn):ExR:=Ch (B2 td r+1) td d r
abbrev A9 (n d:Nat)(r:List Tkn):ExR:=exE (.lvl n) d r
abbrev Ty (n:Nat)(a:Ex)(d:Nat)(r:List Tkn):ExR:=exE (.row n a) d r
abbrev D8 (c:Cl)(ks:List Ex)(d:Nat)(r:List Tkn):ExR:=exE (.args c ks) d r
def F7.ok:F7->Prop| .lvl n=>n<=7|_=>True
theorem F7.ok_lvl {td:F7}(h:td.ok):∀n,td= .lvl n->n<=7:=fun n e=>by subst e;exact h
theorem Ic {f:Nat}{td:F7}{d:Nat}{r:List Tkn}(ht:td.ok)(h:B2 td r<f):Ch f td d r=exE td d r:=
 (Vn f td d r (F7.ok_lvl ht) h).2 _ (Nat.lt_succ_self _)▸rfl
theorem Y0 {td:F7}(ht:td.ok)(d:Nat)(r:List Tkn):pK td r (exE td d r):=(Vn _ td d r (F7.ok_lvl ht) (Nat.lt_succ_self _)).1
theorem ExR.next_congr {x:ExR}{g g':Ex->List Tkn->ExR}(h:∀a q,x= .ok (a,q)->g a q=g' a q):x.next g=x.next g':=by
 cases x with
 |error e=>rfl
 |ok p=>exact h p.1 p.2 rfl
theorem Dz {n d:Nat}{r:List Tkn}{a:Ex}{q:List Tkn}(h7:n<=7)(h:A9 n d r= .ok (a,q)):Suf q r/\q.length<r.length:=by
 have:=Y0 (td:= .lvl n) h7 d r
 rw[show exE (.lvl n) d r= .ok (a,q) from h] at this;exact this
theorem oX {td:F7}(ht:td.ok){d:Nat}{r q:List Tkn}{e:Int}(h:exE td d r= .error (e,q)):Suf q r:=by
 have:=Y0 ht d r
 rw[h] at this;cases td<;>exact this
theorem S0 (f n d:Nat)(r:List Tkn):Ch (f+1) (.lvl n) d r=if n=2\/n=6 then
 if isH (Ea n) r then
  if d=12 then .error (12,r) else
   (Ch f (.lvl n) (d+1) r.tail).next fun a q=> .ok (.mk ⟨K4 n,v0,[],(plH r).1,(plH r).2⟩ [a],q)
 else Ch f (.lvl (n+1)) d r
 else if n=7 then
  match r with
  |[]=> .error (4,[])
  |t::q=>
   match B8 t,Cu t with
   |some h,_=> .ok (.mk h [],q)
   |none,some c=>B4 d q fun q'=>Ch f (.args c []) (d+1) q'
   |none,none=>B4 d (t::q) fun q'=>(Ch f (.lvl 0) (d+1) q').next Cy
 else(Ch f (.lvl (n+1)) d r).next fun a q=>Ch f (.row n a) d q:=rfl
theorem nR (f n d:Nat)(a:Ex)(r:List Tkn):Ch (f+1) (.row n a) d r=if Be r (Bp n)=0 then .ok (a,r) else
 (Ch f (.lvl (n+1)) d r.tail).next fun b q=>
  if n=3 then .ok (.mk ⟨Be r (Bp n),v0,[],(plH r).1,(plH r).2⟩ [a,b],q)
  else Ch f (.row n (.mk ⟨Be r (Bp n),v0,[],(plH r).1,(plH r).2⟩ [a,b])) d q:=rfl
theorem iE (f d:Nat)(c:Cl)(kids:List Ex)(r:List Tkn):Ch (f+1) (.args c kids) d r=
 (Ch f (.lvl 0) d r).next fun a q=>
  if isH [44] q && decide (kids.length+1=c.most)||isH [41] q && decide (kids.length+1<c.least) then .error (14,q)
  else if isH [44] q then Ch f (.args c (kids++[a])) d q.tail
  else Cy (.mk ⟨c.op,v0,[],c.line,c.col⟩ (kids++[a])) q:=rfl
theorem Ec {n d:Nat}{r:List Tkn}(h:n=2\/n=6):A9 n d r=
 if isH (Ea n) r then(if d=12 then .error (12,r) else(A9 n (d+1) r.tail).next fun a q=> .ok (.mk ⟨K4 n,v0,[],(plH r).1,(plH r).2⟩ [a],q)) else A9 (n+1) d r:=by
 have h7:n<=7:=by omega
 show Ch (B2 (.lvl n) r+1) (.lvl n) d r=_;rw[S0,Ap h];by_cases hp:isH (Ea n) r=true
 ·rw[Ap hp,Ap hp];by_cases hd:d=12
  ·rw[Ap hd,Ap hd]
  rw[Ao hd,Ao hd];obtain⟨t,q,rfl⟩:=Cf hp;rw[List.tail_cons,Ic (td:= .lvl n) h7 vJ]
 rw[Ao hp,Ao hp,Ic (td:= .lvl (n+1)) uF tP]
theorem Bs (d:Nat)(r:List Tkn):A9 7 d r=match r with
 |[]=> .error (4,[])
 |t::q=>match B8 t,Cu t with
  |some h,_=> .ok (.mk h [],q)
  |none,some c=>B4 d q fun q'=>D8 c [] (d+1) q'
  |none,none=>B4 d (t::q) fun q'=>(A9 0 (d+1) q').next Cy:=by
 show Ch (B2 (.lvl 7) r+1) (.lvl 7) d r=_;rw[S0,Ao tE,Ap rfl];cases r with
 |nil=>rfl
 |cons t q=>
  simp only;cases B8 t with
  |some x=>rfl
  |none=>
   cases Cu t with
   |some c=>
    simp only[B4];by_cases ho:isH [40] q=true
    ·obtain⟨t',q',rfl⟩:=Cf ho;rw[List.tail_cons,Ic (td:= .args c []) trivial vJ]
    rw[Ao ho,Ao ho]
   |none=>
    simp only[B4,List.tail_cons];rw[Ic (td:= .lvl 0) uF vJ]
theorem D1 {n d:Nat}{r:List Tkn}(h:n<=5)(h2:n≠2):A9 n d r=(A9 (n+1) d r).next fun a q=>Ty n a d q:=by
 show Ch (B2 (.lvl n) r+1) (.lvl n) d r=_;rw[S0,Ao tE,Ao tE,Ic (td:= .lvl (n+1)) uF tP];refine ExR.next_congr fun a q e=>?_
 have hs:=Dz (n:=n+1) tE e;exact Ic (td:= .row n a) trivial tP
theorem Nk {n:Nat}(h:5<n):Bp n=[]:=by
 unfold Bp;rw[Ao tE,Ao tE,Ao tE,Ao tE,Ao tE]
theorem Dp (n:Nat)(a:Ex)(d:Nat)(r:List Tkn):Ty n a d r=
 if Be r (Bp n)=0 then .ok (a,r) else
  (A9 (n+1) d r.tail).next fun b q=>
   if n=3 then .ok (.mk ⟨Be r (Bp n),v0,[],(plH r).1,(plH r).2⟩ [a,b],q)
   else Ty n (.mk ⟨Be r (Bp n),v0,[],(plH r).1,(plH r).2⟩ [a,b]) d q:=by
 show Ch (B2 (.row n a) r+1) (.row n a) d r=_;rw[nR];by_cases hz:Be r (Bp n)=0
 ·rw[Ap hz,Ap hz]
 rw[Ao hz,Ao hz];have hn:n<=5:=Nat.le_of_not_lt fun hh=>hz (by rw[Nk hh];rfl)
 obtain⟨t,q,rfl⟩:=Fe hz;rw[List.tail_cons,Ic (td:= .lvl (n+1)) uF vJ];refine ExR.next_congr fun b q' e=>?_
 have hs:=Dz (n:=n+1) tE e;rw[Ic (td:= .row n _) trivial vJ]
theorem Eb (c:Cl)(ks:List Ex)(d:Nat)(r:List Tkn):D8 c ks d r=
 (A9 0 d r).next fun a q=>
  if isH [44] q && decide (ks.length+1=c.most)||isH [41] q && decide (ks.length+1<c.least) then .error (14,q)
  else if isH [44] q then D8 c (ks++[a]) d q.tail
  else Cy (.mk ⟨c.op,v0,[],c.line,c.col⟩ (ks++[a])) q:=by
 show Ch (B2 (.args c ks) r+1) (.args c ks) d r=_;rw[iE,Ic (td:= .lvl 0) uF tP];refine ExR.next_congr fun a q e=>?_
 have hs:=Dz (n:=0) tE e;by_cases hm:(isH [44] q && decide (ks.length+1=c.most)||isH [41] q && decide (ks.length+1<c.least))=true
 ·rw[Ap hm,Ap hm]
 rw[Ao hm,Ao hm];by_cases hc:isH [44] q=true
 ·rw[Ap hc,Ap hc];exact Ic (td:= .args c (ks++[a])) trivial (by simp only[B2,List.length_tail];omega)
 rw[Ao hc,Ao hc]
theorem lZ:Bp 2=[]:=rfl
theorem Ph {P:F7->Nat->List Tkn->Prop}
 (hpre:∀n d r,(n=2\/n=6)->(∀t q,r=t::q->isH (Ea n) r=true->d≠12->P (.lvl n) (d+1) q)->(isH (Ea n) r=false->P (.lvl (n+1)) d r)->P (.lvl n) d r)
 (hatom:∀d r,(∀t t' q c,r=t::t'::q->B8 t=none->Cu t=some c->isH [40] (t'::q)=true->d≠12->P (.args c []) (d+1) q)->(∀t q,r=t::q->B8 t=none->Cu t=none->isH [40] r=true->d≠12->P (.lvl 0) (d+1) q)->P (.lvl 7) d r)
 (hlrow:∀n d r,n<=5->n≠2->P (.lvl (n+1)) d r->(∀a q,A9 (n+1) d r= .ok (a,q)->P (.row n a) d q)->P (.lvl n) d r)
 (hrow:∀n a d r,(∀t q,r=t::q->Be r (Bp n)≠0->n<=5->n≠2->P (.lvl (n+1)) d q/\∀b q',A9 (n+1) d q= .ok (b,q')->P (.row n (.mk ⟨Be r (Bp n),v0,[],(plH r).1,(plH r).2⟩ [a,b])) d q')->P (.row n a) d r)
 (hargs:∀c ks d r,P (.lvl 0) d r->(∀a t q,A9 0 d r= .ok (a,t::q)->isH [44] (t::q)=true->P (.args c (ks++[a])) d q)->P (.args c ks) d r):
 ∀td d r,td.ok->P td d r:=by
 have key:∀(k:Nat) (td:F7) (d:Nat) (r:List Tkn),td.ok->B2 td r<k->P td d r:=by
  intro k
  induction k with
  |zero=>intro td d r _ h;exact absurd h (Nat.not_lt_zero _)
  |succ k ih=>
   intro td d r hok h;cases td with
   |lvl n=>
    have h7:n<=7:=hok;simp only[B2] at h;by_cases h26:n=2\/n=6
    ·refine hpre n d r h26 (fun t q e hp hd=>?_) fun hp=>ih (.lvl (n+1)) d r uF tP
     subst e;simp only[Aa] at h;exact ih (.lvl n) (d+1) q h7 tP
    by_cases h77:n=7
    ·subst h77;refine hatom d r (fun t t' q c e _ _ _ _=>?_) fun t q e _ _ _ _=>?_
     ·subst e;simp only[Aa] at h;exact ih (.args c []) (d+1) q trivial tP
     subst e;simp only[Aa] at h;exact ih (.lvl 0) (d+1) q uF tP
    refine hlrow n d r tE tE (ih (.lvl (n+1)) d r uF tP) fun a q e=>?_
    have hs:=Dz (n:=n+1) tE e;exact ih (.row n a) d q trivial tP
   |row n a=>
    simp only[B2] at h;refine hrow n a d r fun t q e hz h5 h2=>?_
    subst e;simp only[Aa] at h;refine⟨ih (.lvl (n+1)) d q uF tP,fun b q' e=>?_⟩;have hs:=Dz (n:=n+1) tE e;exact ih (.row n _) d q' trivial tP
   |args c ks=>
    simp only[B2] at h;refine hargs c ks d r (ih (.lvl 0) d r uF tP) fun a t q e _=>?_
    have hs:=Dz (n:=0) tE e;simp only[Aa] at hs;exact ih (.args c (ks++[a])) d q trivial tP
 exact fun td d r hok=>key _ td d r hok (Nat.lt_succ_self _)
theorem Li {r:List Tkn}{n:Nat}(h:Be r (Bp n)≠0):n<=5/\n≠2:=
 ⟨Nat.le_of_not_lt fun hh=>h (by rw[Nk hh];rfl),fun e=>h (by rw[e,lZ];rfl)⟩
open Go Go.Lib
mutual
def Ex.All (P:Hd->Nat->Prop):Ex->Prop| .mk h ks=>P h ks.length/\Kb P ks
def Kb (P:Hd->Nat->Prop):List Ex->Prop|[]=>True|e::es=>e.All P/\Kb P es
end
theorem aG {P:Hd->Nat->Prop}:∀{l m:List Ex},Kb P l->Kb P m->Kb P (l++m)
 |[],_,_,k=>k
 |_::_,_,h,k=>⟨h.1,aG h.2 k⟩
mutual
theorem Ex.All.mono {P Q:Hd->Nat->Prop}(hpq:∀h k,P h k->Q h k):∀{e:Ex},e.All P->e.All Q
 | .mk _ _,h=>⟨hpq _ _ h.1,Kb.mono hpq h.2⟩
theorem Kb.mono {P Q:Hd->Nat->Prop}(hpq:∀h k,P h k->Q h k):∀{l:List Ex},Kb P l->Kb Q l
 |[],_=>trivial
 |_::_,h=>⟨Ex.All.mono hpq h.1,Kb.mono hpq h.2⟩
end
mutual
theorem Ex.All.and {P Q:Hd->Nat->Prop}:∀{e:Ex},e.All P->e.All Q->e.All fun h k=>P h k/\Q h k
 | .mk _ _,h,k=>⟨⟨h.1,k.1⟩,Kb.and h.2 k.2⟩
theorem Kb.and {P Q:Hd->Nat->Prop}:∀{l:List Ex},Kb P l->Kb Q l->Kb (fun h k=>P h k/\Q h k) l
 |[],_,_=>trivial
 |_::_,h,k=>⟨Ex.All.and h.1 k.1,Kb.and h.2 k.2⟩
end
theorem T3 {P:Hd->Nat->Prop}:(∀(e:Ex) (b:Nat),e.All P->∀n∈e.flat b,P n.h n.kids.length):=by
 have key:∀(k:Nat),(∀(e:Ex) (b:Nat),e.size<=k->e.All P->∀n∈e.flat b,P n.h n.kids.length)/\(∀(l:List Ex) (b:Nat),Bf l<=k->Kb P l->∀n∈Bz l b,P n.h n.kids.length):=by
  intro k
  induction k with
  |zero=>
   refine⟨fun e b h=>?_,fun l b h=>?_⟩
   ·have:=e.size_pos
    omega
   cases l with
   |nil=>intro _ n hn;cases hn
   |cons e l=>
    have:=e.size_pos
    simp only[Bf] at h;omega
  |succ k ih=>
   have h1:∀(e:Ex) (b:Nat),e.size<=k+1->e.All P->∀n∈e.flat b,P n.h n.kids.length:=fun e b h ha n hn=>by
    cases e with
    |mk hd ks=>
     simp only[Ex.size] at h;simp only[Ex.flat,List.mem_append,List.mem_singleton] at hn;rcases hn with hn|rfl
     ·exact ih.2 ks b tE ha.2 n hn
     simp only[Il];exact ha.1
   refine⟨h1,fun l=>?_⟩
   induction l with
   |nil=>intro b _ _ n hn;cases hn
   |cons e l il=>
    intro b h ha n hn;simp only[Bf] at h;simp only[Bz,List.mem_append] at hn;rcases hn with hn|hn
    ·exact h1 e b tE ha.1 n hn
    exact il (b+e.size) tE ha.2 n hn
 exact fun e b=>(key e.size).1 e b (Ak _)
def eF (P:Hd->Nat->Prop)(W:Tkn->Prop):F7->Prop
 | .lvl _=>True
 | .row _ a=>a.All P
 | .args c ks=>Kb P ks/\ks.length<c.most/\∃t,W t/\Cu t=some c
theorem Y9 {s:List UInt8}{c:Int×Nat×Nat}(h:De s=some c):1<=c.2.1/\c.2.1<=c.2.2/\c.2.2<=8/\18<=c.1/\c.1<=26:=by
 unfold De at h
 repeat' split at h
 all_goals first|(injection h with h;subst h;decide)|cases h
theorem Pd {t:Tkn}{c:Cl}(h:Cu t=some c):t.w.k=1/\De t.w.t=some (c.op,c.least,c.most)/\c.line=t.line/\c.col=t.col/\1<=c.least/\c.least<=c.most/\c.most<=8:=by
 unfold Cu at h
 split at h
 ·rename_i hk
  cases hc:De t.w.t with
  |none=>rw[hc] at h;cases h
  |some x=>
   rw[hc] at h;injection h with h;subst h
   have:=Y9 hc
   exact⟨hk,rfl,rfl,rfl,this.1,this.2.1,this.2.2.1⟩
 cases h
theorem Ds {x:ExR}{g:Ex->List Tkn->ExR}{p:Ex×List Tkn}(h:x.next g= .ok p):∃a q,x= .ok (a,q)/\g a q= .ok p:=by
 cases x with
 |error e=>cases h
 |ok y=>exact⟨y.1,y.2,rfl,h⟩
theorem L3 {a b:Ex}{q q':List Tkn}(h:Cy a q= .ok (b,q')):b=a/\isH [41] q=true/\q'=q.tail:=by
 unfold Cy at h
 split at h
 ·rename_i hp
  injection h with h;injection h with h1 h2;exact⟨h1.symm,hp,h2.symm⟩
 cases h
theorem Kr {d:Nat}{r:List Tkn}{g:List Tkn->ExR}{p:Ex×List Tkn}(h:B4 d r g= .ok p):isH [40] r=true/\d≠12/\g r.tail= .ok p:=by
 unfold B4 at h
 split at h
 ·rename_i hp
  split at h
  ·cases h
  rename_i hd
  exact⟨hp,hd,h⟩
 cases h
theorem Wv {P:Hd->Nat->Prop}{W:Tkn->Prop}(hleaf:∀t h,W t->B8 t=some h->P h 0)(hpre:∀n t,(n=2\/n=6)->W t->P ⟨K4 n,v0,[],t.line,t.col⟩ 1)
 (hin:∀n t q,W t->Be (t::q) (Bp n)≠0->P ⟨Be (t::q) (Bp n),v0,[],t.line,t.col⟩ 2)
 (hcall:∀t c k,W t->Cu t=some c->c.least<=k->k<=c.most->P ⟨c.op,v0,[],c.line,c.col⟩ k):
 ∀td d r,td.ok->eF P W td->(∀t∈r,W t)->∀a q,exE td d r= .ok (a,q)->a.All P:=by
 have suf:∀{q r:List Tkn},Suf q r->(∀t∈r,W t)->∀t∈q,W t:=fun{q r} hs hw t ht=>by
  obtain⟨k,rfl⟩:=hs;exact hw t (List.mem_of_mem_drop ht)
 refine Ph (P:=fun td d r=>eF P W td->(∀t∈r,W t)->∀a q,exE td d r= .ok (a,q)->a.All P) ?_ ?_ ?_ ?_ ?_
 ·intro n d r hn h1 h2 _ hw a q h;rw[show exE (.lvl n) d r=_ from Ec hn] at h;by_cases hp:isH (Ea n) r=true
  ·rw[Ap hp] at h;obtain⟨t,q0,rfl⟩:=Cf hp;by_cases hd:d=12
   ·rw[Ap hd] at h;cases h
   rw[Ao hd] at h;obtain⟨a',q',h3,h4⟩:=Ds h;injection h4 with h4;injection h4 with h4 _;subst h4;have ht:=hw t Ai;exact⟨hpre n t hn ht,h1 t q0 rfl hp hd trivial (fun x hx=>hw x (Aj _ hx)) _ _ h3,trivial⟩
  rw[Ao hp] at h;exact h2 wK trivial hw a q h
 ·intro d r h1 h2 _ hw a q h;rw[show exE (.lvl 7) d r=_ from Bs d r] at h;cases r with
  |nil=>cases h
  |cons t r=>
   simp only at h;have ht:=hw t Ai;have hr:∀x∈r,W x:=fun x hx=>hw x (Aj _ hx)
   cases hl:B8 t with
   |some x=>
    rw[hl] at h;injection h with h;injection h with h _;subst h;exact⟨hleaf t x ht hl,trivial⟩
   |none=>
    cases hc:Cu t with
    |some c=>
     rw[hl,hc] at h;obtain⟨h3,h4,h5⟩:=Kr h;obtain⟨t',q',rfl⟩:=Cf h3;have hcl:=Pd hc;exact h1 t t' q' c rfl hl hc h3 h4 ⟨trivial,by show 0<c.most;omega,t,ht,hc⟩ (fun x hx=>hr x (Aj _ hx)) a q h5
    |none=>
     rw[hl,hc] at h;obtain⟨h3,h4,h5⟩:=Kr h;obtain⟨a',q',h6,h7⟩:=Ds h5;obtain⟨rfl,h8,rfl⟩:=L3 h7;exact h2 t r rfl hl hc h3 h4 trivial hr _ _ h6
 ·intro n d r h5 hn2 h1 h2 _ hw a q h;rw[show exE (.lvl n) d r=_ from D1 h5 hn2] at h;obtain⟨a',q',h3,h4⟩:=Ds h;exact h2 a' q' h3 (h1 trivial hw a' q' h3) (suf (Dz tE h3).1 hw) a q h4
 ·intro n b d r h1 hb hw a q h;rw[show exE (.row n b) d r=_ from Dp n b d r] at h;by_cases hz:Be r (Bp n)=0
  ·rw[Ap hz] at h;injection h with h;injection h with h _;subst h;exact hb
  rw[Ao hz] at h;obtain⟨t,r',rfl⟩:=Fe hz;obtain⟨h5,hn2⟩:=Li hz;obtain⟨k1,k2⟩:=h1 t r' rfl hz h5 hn2;obtain⟨a',q',h3,h4⟩:=Ds h;have ht:=hw t Ai;have hr:∀x∈r',W x:=fun x hx=>hw x (Aj _ hx)
  have hnew:(Ex.mk ⟨Be (t::r') (Bp n),v0,[],(plH (t::r')).1,(plH (t::r')).2⟩ [b,a']).All P:=
   ⟨hin n t r' ht hz,hb,k1 trivial hr a' q' h3,trivial⟩
  by_cases h3n:n=3
  ·rw[Ap h3n] at h4;injection h4 with h4;injection h4 with h4 _;subst h4;exact hnew
  rw[Ao h3n] at h4;exact k2 a' q' h3 hnew (suf (Dz tE h3).1 hr) a q h4
 intro c ks d r h1 h2 hks hw a q h;rw[show exE (.args c ks) d r=_ from Eb c ks d r] at h;obtain⟨a',q',h3,h4⟩:=Ds h;have ha:=h1 trivial hw a' q' h3;have hq:=suf (Dz tE h3).1 hw;obtain⟨hk1,hk2,t,ht,hc⟩:=hks;have hcl:=Pd hc;have hall:Kb P (ks++[a']):=aG hk1 ⟨ha,trivial⟩;by_cases hm:(isH [44] q' && decide (ks.length+1=c.most)||isH [41] q' && decide (ks.length+1<c.least))=true
 ·rw[Ap hm] at h4;cases h4
 rw[Ao hm] at h4;simp only[Bool.or_eq_true,Bool.and_eq_true,decide_eq_true_eq,not_or,not_and] at hm;by_cases hcm:isH [44] q'=true
 ·rw[Ap hcm] at h4;have hne:=hm.1 hcm;obtain⟨t',q'',rfl⟩:=Cf hcm;exact h2 a' t' q'' h3 hcm ⟨hall,by simp;omega,t,ht,hc⟩ (fun x hx=>hq x (Aj _ hx)) a q h4
 rw[Ao hcm] at h4;obtain⟨rfl,h8,rfl⟩:=L3 h4;have hls:=hm.2 h8;exact⟨hcall t c _ ht hc tL tL,hall⟩
theorem kN:∀td d r,td.ok->∀a q,exE td d r= .ok (a,q)->match td with
 | .lvl _=>a.size+q.length<=r.length
 | .row _ b=>a.size+q.length<=b.size+r.length
 | .args _ ks=>a.size+q.length<=Bf ks+1+r.length:=by
 have sht:∀{a b:Ex} {q q':List Tkn},Cy a q= .ok (b,q')->b.size+q'.length<a.size+q.length:=fun{a b q q'} h=>by
  obtain⟨rfl,h1,rfl⟩:=L3 h;obtain⟨t,q0,rfl⟩:=Cf h1;simp
 refine Ph (P:=fun td d r=>∀a q,exE td d r= .ok (a,q)->match td with
  | .lvl _=>a.size+q.length<=r.length
  | .row _ b=>a.size+q.length<=b.size+r.length
  | .args _ ks=>a.size+q.length<=Bf ks+1+r.length) ?_ ?_ ?_ ?_ ?_
 ·intro n d r hn h1 h2 a q h;rw[show exE (.lvl n) d r=_ from Ec hn] at h;by_cases hp:isH (Ea n) r=true
  ·rw[Ap hp] at h;obtain⟨t,q0,rfl⟩:=Cf hp;by_cases hd:d=12
   ·rw[Ap hd] at h;cases h
   rw[Ao hd] at h;obtain⟨a',q',h3,h4⟩:=Ds h;injection h4 with h4;injection h4 with h4 h5;subst h4;subst h5
   have:=h1 t q0 rfl hp hd a' q' h3
   simp only[Ex.size,Bf,Aa] at this ⊢;omega
  rw[Ao hp] at h;exact h2 wK a q h
 ·intro d r h1 h2 a q h;rw[show exE (.lvl 7) d r=_ from Bs d r] at h;cases r with
  |nil=>cases h
  |cons t r=>
   simp only at h;cases hl:B8 t with
   |some x=>
    rw[hl] at h;injection h with h;injection h with h h5;subst h;subst h5;simp only[Ex.size,Bf,Aa];omega
   |none=>
    cases hc:Cu t with
    |some c=>
     rw[hl,hc] at h;obtain⟨h3,h4,h5⟩:=Kr h;obtain⟨t',q',rfl⟩:=Cf h3
     have:=h1 t t' q' c rfl hl hc h3 h4 a q h5
     simp only[Bf,Aa] at this ⊢;omega
    |none=>
     rw[hl,hc] at h;obtain⟨h3,h4,h5⟩:=Kr h;obtain⟨a',q',h6,h7⟩:=Ds h5;have e1:=h2 t r rfl hl hc h3 h4 a' q' h6;have e2:=sht h7;simp only[Aa] at e1 e2 ⊢;omega
 ·intro n d r h5 hn2 h1 h2 a q h;rw[show exE (.lvl n) d r=_ from D1 h5 hn2] at h;obtain⟨a',q',h3,h4⟩:=Ds h;have e1:=h1 a' q' h3;have e2:=h2 a' q' h3 a q h4;simp only at e1 e2 ⊢;omega
 ·intro n b d r h1 a q h;rw[show exE (.row n b) d r=_ from Dp n b d r] at h;by_cases hz:Be r (Bp n)=0
  ·rw[Ap hz] at h;injection h with h;injection h with h h5;subst h;subst h5;exact Ak _
  rw[Ao hz] at h;obtain⟨t,r',rfl⟩:=Fe hz;obtain⟨h5,hn2⟩:=Li hz;obtain⟨k1,k2⟩:=h1 t r' rfl hz h5 hn2;obtain⟨a',q',h3,h4⟩:=Ds h;have e1:=k1 a' q' h3;by_cases h3n:n=3
  ·rw[Ap h3n] at h4;injection h4 with h4;injection h4 with h4 h6;subst h4;subst h6;simp only[Ex.size,Bf,Aa] at e1 ⊢;omega
  rw[Ao h3n] at h4;have e2:=k2 a' q' h3 a q h4;simp only[Ex.size,Bf,Aa] at e1 e2 ⊢;omega
 intro c ks d r h1 h2 a q h;rw[show exE (.args c ks) d r=_ from Eb c ks d r] at h;obtain⟨a',q',h3,h4⟩:=Ds h;have e1:=h1 a' q' h3;by_cases hm:(isH [44] q' && decide (ks.length+1=c.most)||isH [41] q' && decide (ks.length+1<c.least))=true
 ·rw[Ap hm] at h4;cases h4
 rw[Ao hm] at h4;by_cases hcm:isH [44] q'=true
 ·rw[Ap hcm] at h4;obtain⟨t',q'',rfl⟩:=Cf hcm;have e2:=h2 a' t' q'' h3 hcm a q h4;simp only[Bf,Qk,Aa] at e1 e2 ⊢;omega
 rw[Ao hcm] at h4;have e2:=sht h4;simp only[Ex.size,Bf,Qk] at e1 e2 ⊢;omega
open Go Go.Lib
def Hd.bare (h:Hd):Hd:=⟨h.op,h.v,h.name,0,0⟩
mutual
def Ex.bare:Ex->Ex| .mk h ks=> .mk h.bare (Mb ks)
def Mb:List Ex->List Ex|[]=>[]|e::es=>e.bare::Mb es
end
theorem Qz:∀l:List Ex,Mb l=l.map Ex.bare
 |[]=>rfl
 |e::l=>by rw[Mb,Qz l,List.map_cons]
theorem Kd {h h':Hd}{l l':List Ex}(hh:h.bare=h'.bare)(hl:l.map Ex.bare=l'.map Ex.bare):(Ex.mk h l).bare=(Ex.mk h' l').bare:=by
 rw[Ex.bare,Ex.bare,Qz,Qz,hh,hl]
mutual
theorem Ex.bare_size:∀e:Ex,e.bare.size=e.size
 | .mk h ks=>by rw[Ex.bare,Ex.size,Ex.size,Ro ks]
theorem Ro:∀l:List Ex,Bf (Mb l)=Bf l
 |[]=>rfl
 |e::l=>by rw[Mb,Bf,Bf,Ex.bare_size e,Ro l]
end
def Nd.bare (n:Nd):Nd:=⟨n.h.bare,n.kids⟩
theorem Vc:∀(l:List Ex) (b:Nat),Ct (Mb l) b=Ct l b
 |[],_=>rfl
 |e::l,b=>by rw[Mb,Ct,Ct,Ex.bare_size,Vc l]
mutual
theorem Ex.bare_flat:∀(e:Ex) (b:Nat),e.bare.flat b=(e.flat b).map Nd.bare
 | .mk h ks,b=>by rw[Ex.bare,Ex.flat,Ex.flat,List.map_append,Rh ks b,Vc];rfl
theorem Rh:∀(l:List Ex) (b:Nat),Bz (Mb l) b=(Bz l b).map Nd.bare
 |[],_=>rfl
 |e::l,b=>by rw[Mb,Bz,Bz,List.map_append,Ex.bare_flat e b,Ex.bare_size,Rh l]
end
theorem fX {a b:Ex}(h:a.bare=b.bare)(n:Nat):(a.flat n).map Nd.bare=(b.flat n).map Nd.bare:=by rw[←Ex.bare_flat,←Ex.bare_flat,h]
theorem Qi {a b:Ex}(h:a.bare=b.bare):a.size=b.size:=by rw[←Ex.bare_size,←Ex.bare_size b,h]
theorem Tv {t t':Tkn}(h:t'.w=t.w):(B8 t').map Hd.bare=(B8 t).map Hd.bare:=by
 unfold B8;rw[h]
 repeat' split
 all_goals first|rfl|skip
 cases Lf t.w.t<;>rfl
theorem cY {t t':Tkn}(h:t'.w=t.w):(Cu t').map (fun c=>(c.op,c.least,c.most))=(Cu t).map (fun c=>(c.op,c.least,c.most)):=by
 unfold Cu;rw[h]
 split
 ·cases De t.w.t<;>rfl
 rfl
def Xy (post:List Tkn):Prop:=∀s,s≠[41]->isH s post=false
theorem K8 {s:List UInt8}{t t':Tkn}{r r':List Tkn}(h:t'.w=t.w):isH s (t'::r')=isH s (t::r):=by
 show(decide (t'.w.t=s) && (decide (t'.w.k=1)||decide (t'.w.k=7)))=(decide (t.w.t=s) && (decide (t.w.k=1)||decide (t.w.k=7)))
 rw[h]
theorem X6 {s:List UInt8}{r r' post:List Tkn}(hs:s≠[41])(hp:Xy post)(h:r'.map Tkn.w=r.map Tkn.w):isH s (r'++post)=isH s r:=by
 cases r with
 |nil=>
  have:r'=[]:=by simpa using h
  subst this;exact(hp s hs).trans rfl
 |cons t r=>
  cases r' with
  |nil=>cases h
  |cons t' r'=>
   simp only[List.map_cons,List.cons.injEq] at h;exact K8 h.1
theorem U1 {r r' post:List Tkn}(hp:Xy post)(h:r'.map Tkn.w=r.map Tkn.w):∀(l:List (List UInt8×Int)),(∀x∈l,x.1≠[41])->Be (r'++post) l=Be r l
 |[],_=>rfl
 |(s,o)::l,hl=>by
  unfold Be;rw[X6 (hl (s,o) Ai) hp h,U1 hp h l fun x hx=>hl x (Aj _ hx)]
theorem rC (n:Nat):∀x∈Bp n,x.1≠[41]:=by
 unfold Bp
 repeat' split
 all_goals first|decide|(intro x hx;cases hx)
def F7.sim:F7->F7->Prop
 | .lvl n,.lvl m=>n=m
 | .row n a,.row m b=>n=m/\a.bare=b.bare
 | .args c ks,.args c' ks'=>c.op=c'.op/\c.least=c'.least/\c.most=c'.most/\ks.map Ex.bare=ks'.map Ex.bare
 |_,_=>False
def Ctx (k:Nat)(post:List Tkn)(x:ExR)(a:Ex)(q:List Tkn):Prop:=
 (k≠0/\∃q1,x= .error (12,q1))\/∃a' q',x= .ok (a',q'++post)/\a'.bare=a.bare/\q'.map Tkn.w=q.map Tkn.w
theorem Ctx.next {k:Nat}{post:List Tkn}{x:ExR}{a:Ex}{q:List Tkn}(h:Ctx k post x a q){g:Ex->List Tkn->ExR}{b:Ex}{p:List Tkn}
 (hg:∀a' q',a'.bare=a.bare->q'.map Tkn.w=q.map Tkn.w->Ctx k post (g a' (q'++post)) b p):Ctx k post (x.next g) b p:=by
 rcases h with ⟨hk,q1,rfl⟩|⟨a',q',rfl,h1,h2⟩
 ·exact .inl ⟨hk,q1,rfl⟩
 exact hg a' q' h1 h2
theorem E5 {t:Tkn}{r r':List Tkn}(h:r'.map Tkn.w=(t::r).map Tkn.w):∃t' q',r'=t'::q'/\t'.w=t.w/\q'.map Tkn.w=r.map Tkn.w:=by
 cases r' with
 |nil=>cases h
 |cons t' q'=>
  simp only[List.map_cons,List.cons.injEq] at h;exact⟨t',q',rfl,h.1,h.2⟩
theorem Yu {k:Nat}{post:List Tkn}{a a' b:Ex}{q q' p:List Tkn}(ha:a'.bare=a.bare)(hq:q'.map Tkn.w=q.map Tkn.w)(h:Cy a q= .ok (b,p)):Ctx k post (Cy a' (q'++post)) b p:=by
 obtain⟨rfl,h1,rfl⟩:=L3 h;obtain⟨t,q0,rfl⟩:=Cf h1;obtain⟨t',q0',rfl,h3,h4⟩:=E5 hq;refine .inr ⟨a',q0',?_,ha,h4⟩;unfold Cy;rw[List.cons_append,K8 (s:=[41]) (r:=q0) h3,Ap h1,List.tail_cons]
theorem oR (k:Nat)(post:List Tkn)(hp:Xy post):∀td d r,td.ok->∀td' r',td'.sim td->r'.map Tkn.w=r.map Tkn.w->∀a q,exE td d r= .ok (a,q)->Ctx k post (exE td' (d+k) (r'++post)) a q:=by
 refine Ph (P:=fun td d r=>∀td' r',td'.sim td->r'.map Tkn.w=r.map Tkn.w->∀a q,exE td d r= .ok (a,q)->Ctx k post (exE td' (d+k) (r'++post)) a q) ?_ ?_ ?_ ?_ ?_
 ·intro n d r hn h1 h2 td' r' hs hr a q h;cases td' with
  |row m b=>exact hs.elim
  |args c ks=>exact hs.elim
  |lvl m=>
   obtain rfl:m=n:=hs;have hpw:Ea m≠[41]:=by unfold Ea;split<;>decide
   rw[show exE (.lvl m) d r=_ from Ec hn] at h;rw[show exE (.lvl m) (d+k) (r'++post)=_ from Ec hn,X6 hpw hp hr];by_cases hpp:isH (Ea m) r=true
   ·rw[Ap hpp] at h ⊢;obtain⟨t,q0,rfl⟩:=Cf hpp;obtain⟨t',q0',rfl,h3,h4⟩:=E5 hr;by_cases hd:d=12
    ·rw[Ap hd] at h;cases h
    rw[Ao hd] at h;obtain⟨a',q',h5,h6⟩:=Ds h;injection h6 with h6;injection h6 with h6 h7;subst h6;subst h7;by_cases hdk:d+k=12
    ·rw[Ap hdk];exact .inl ⟨by omega,_,rfl⟩
    rw[Ao hdk,List.cons_append,List.tail_cons];have hx:=h1 t q0 rfl hpp hd (.lvl m) q0' rfl h4 _ _ h5;rw[show d+1+k=d+k+1 by omega] at hx;refine Ctx.next hx fun a2 q2 e1 e2=> .inr ⟨_,q2,rfl,?_,e2⟩
    exact Kd rfl (by simp [e1])
   rw[Ao hpp] at h ⊢;exact h2 (by simpa using hpp) (.lvl (m+1)) r' rfl hr a q h
 ·intro d r h1 h2 td' r' hs hr a q h;cases td' with
  |row m b=>exact hs.elim
  |args c ks=>exact hs.elim
  |lvl m=>
   obtain rfl:m=7:=hs;rw[show exE (.lvl 7) d r=_ from Bs d r] at h;rw[show exE (.lvl 7) (d+k) (r'++post)=_ from Bs (d+k) (r'++post)];cases r with
   |nil=>cases h
   |cons t r=>
    obtain⟨t',q0',rfl,h3,h4⟩:=E5 hr;simp only[List.cons_append] at h ⊢;have hl':=Tv h3;have hc':=cY h3;cases hl:B8 t with
    |some x=>
     rw[hl] at h hl';injection h with h;injection h with h h5;subst h;subst h5;cases hx:B8 t' with
     |none=>rw[hx] at hl';cases hl'
     |some x'=>
      rw[hx] at hl';injection hl' with hl';exact .inr ⟨_,q0',rfl,Kd hl' rfl,h4⟩
    |none=>
     rw[hl] at hl'
     have hl2:B8 t'=none:=by
      cases hx:B8 t' with
      |none=>rfl
      |some x'=>rw[hx] at hl';cases hl'
     cases hc:Cu t with
     |some c=>
      rw[hc] at hc';cases hx:Cu t' with
      |none=>rw[hx] at hc';cases hc'
      |some c'=>
       rw[hx] at hc';injection hc' with hc';simp only[Prod.mk.injEq] at hc';rw[hl,hc] at h;rw[hl2];obtain⟨h5,h6,h7⟩:=Kr h;obtain⟨u,q1,rfl⟩:=Cf h5;obtain⟨u',q1',rfl,h8,h9⟩:=E5 h4;unfold B4;simp only[List.cons_append];rw[K8 (s:=[40]) (r:=q1) h8,Ap h5];by_cases hdk:d+k=12
       ·rw[Ap hdk];exact .inl ⟨by omega,_,rfl⟩
       rw[Ao hdk,List.tail_cons];have hz:=h1 t u q1 c rfl hl hc h5 h6 (.args c' []) q1' ⟨hc'.1,hc'.2.1,hc'.2.2,rfl⟩ h9 a q h7;rw[show d+1+k=d+k+1 by omega] at hz;exact hz
     |none=>
      rw[hc] at hc'
      have hc2:Cu t'=none:=by
       cases hx:Cu t' with
       |none=>rfl
       |some x'=>rw[hx] at hc';cases hc'
      rw[hl,hc] at h;rw[hl2,hc2];obtain⟨h5,h6,h7⟩:=Kr h;obtain⟨a',q',h8,h9⟩:=Ds h7;unfold B4;rw[K8 (s:=[40]) (r:=r) h3,Ap h5];by_cases hdk:d+k=12
      ·rw[Ap hdk];exact .inl ⟨by omega,_,rfl⟩
      rw[Ao hdk,List.tail_cons];have hz:=h2 t r rfl hl hc h5 h6 (.lvl 0) q0' rfl h4 _ _ h8;rw[show d+1+k=d+k+1 by omega] at hz;exact Ctx.next hz fun a2 q2 e1 e2=>Yu e1 e2 h9
 ·intro n d r h5 hn2 h1 h2 td' r' hs hr a q h;cases td' with
  |row m b=>exact hs.elim
  |args c ks=>exact hs.elim
  |lvl m=>
   obtain rfl:m=n:=hs;rw[show exE (.lvl m) d r=_ from D1 h5 hn2] at h;rw[show exE (.lvl m) (d+k) (r'++post)=_ from D1 h5 hn2];obtain⟨a',q',h3,h4⟩:=Ds h;exact Ctx.next (h1 (.lvl (m+1)) r' rfl hr a' q' h3) fun a2 q2 e1 e2=>h2 a' q' h3 (.row m a2) q2 ⟨rfl,e1⟩ e2 a q h4
 ·intro n b d r h1 td' r' hs hr a q h;cases td' with
  |lvl m=>exact hs.elim
  |args c ks=>exact hs.elim
  |row m b'=>
   obtain⟨rfl,hb⟩:m=n/\b'.bare=b.bare:=hs;rw[show exE (.row m b) d r=_ from Dp m b d r] at h;rw[show exE (.row m b') (d+k) (r'++post)=_ from Dp m b' (d+k) (r'++post),U1 hp hr _ (rC m)];by_cases hz:Be r (Bp m)=0
   ·rw[Ap hz] at h ⊢;injection h with h;injection h with h h';subst h;subst h';exact .inr ⟨b',r',rfl,hb,hr⟩
   rw[Ao hz] at h ⊢;obtain⟨t,r0,rfl⟩:=Fe hz;obtain⟨t',r0',rfl,h3,h4⟩:=E5 hr;obtain⟨h5,hn2⟩:=Li hz;obtain⟨k1,k2⟩:=h1 t r0 rfl hz h5 hn2;obtain⟨a',q',h6,h7⟩:=Ds h;rw[List.cons_append,List.tail_cons];refine Ctx.next (k1 (.lvl (m+1)) r0' rfl h4 a' q' h6) fun a2 q2 e1 e2=>?_
   have hnew:(Ex.mk ⟨Be (t::r0) (Bp m),v0,[],(plH (t'::(r0'++post))).1,(plH (t'::(r0'++post))).2⟩ [b',a2]).bare=(Ex.mk ⟨Be (t::r0) (Bp m),v0,[],(plH (t::r0)).1,(plH (t::r0)).2⟩ [b,a']).bare:=
    Kd rfl (by simp [e1,hb])
   by_cases h3n:m=3
   ·rw[Ap h3n] at h7 ⊢;injection h7 with h7;injection h7 with h7 h8;subst h7;subst h8;exact .inr ⟨_,q2,rfl,hnew,e2⟩
   rw[Ao h3n] at h7 ⊢;exact k2 a' q' h6 (.row m _) q2 ⟨rfl,hnew⟩ e2 a q h7
 intro c ks d r h1 h2 td' r' hs hr a q h;cases td' with
 |lvl m=>exact hs.elim
 |row m b=>exact hs.elim
 |args c' ks'=>
  obtain⟨o1,o2,o3,o4⟩:c'.op=c.op/\c'.least=c.least/\c'.most=c.most/\ks'.map Ex.bare=ks.map Ex.bare:=hs;rw[show exE (.args c ks) d r=_ from Eb c ks d r] at h;rw[show exE (.args c' ks') (d+k) (r'++post)=_ from Eb c' ks' (d+k) (r'++post)];obtain⟨a',q',h3,h4⟩:=Ds h;refine Ctx.next (h1 (.lvl 0) r' rfl hr a' q' h3) fun a2 q2 e1 e2=>?_
  have hlen:ks'.length=ks.length:=by have:=Ar List.length o4;simpa using this
  have hkb:(ks'++[a2]).map Ex.bare=(ks++[a']).map Ex.bare:=by simp [o4,e1]
  rw[hlen,o2,o3,X6 (s:=[44]) tG hp e2];by_cases hm:(isH [44] q' && decide (ks.length+1=c.most)||isH [41] q' && decide (ks.length+1<c.least))=true
  ·rw[Ap hm] at h4;cases h4
  rw[Ao hm] at h4;by_cases hcm:isH [44] q'=true
  ·rw[Ap hcm] at h4;obtain⟨t,q0,rfl⟩:=Cf hcm;obtain⟨t',q0',rfl,h5,h6⟩:=E5 e2;rw[List.cons_append,K8 (s:=[41]) (r:=q0) h5,Ao hm,Ap hcm,List.tail_cons];exact h2 a' t q0 h3 hcm (.args c' (ks'++[a2])) q0' ⟨o1,o2,o3,hkb⟩ h6 a q h4
  rw[Ao hcm] at h4;obtain⟨rfl,h5,rfl⟩:=L3 h4;obtain⟨t,q0,rfl⟩:=Cf h5;obtain⟨t',q0',rfl,h6,h7⟩:=E5 e2;have hsh:=Yu (k:=k) (post:=post) (a':= .mk ⟨c'.op,v0,[],c'.line,c'.col⟩ (ks'++[a2])) (Kd (by simp [Hd.bare,o1]) hkb) e2 h4;rw[List.cons_append] at hsh ⊢;rw[K8 (s:=[41]) (r:=q0) h6,Ao hm,Ao hcm];exact hsh
open Go Go.Lib
structure lH (st:Nat->Option Nat)(i s:Nat)(kids:List Nat)(cs:List Nat):Prop where
 len:cs.length=kids.length+1
 first:cs[0]? =some s
 last:cs[kids.length]? =some i
 kid:∀k x y,kids[k]? =some x->cs[k+1]? =some y->x+1=y/\st x=cs[k]?
 rise:∀k x y,cs[k]? =some x->cs[k+1]? =some y->x<y
theorem lH.mono {st st':Nat->Option Nat}{i s:Nat}{kids cs:List Nat}(h:lH st i s kids cs)(hs:∀x y,st x=some y->st' x=some y):lH st' i s kids cs:=by
 refine⟨h.len,h.first,h.last,fun k x y hx hy=>?_,h.rise⟩;obtain⟨h1,h2⟩:=h.kid k x y hx hy;refine⟨h1,?_⟩
 have hk:k<cs.length:=by
  have:=(List.getElem?_eq_some_iff.1 hy).1
  omega
 rw[Ag hk] at h2 ⊢;exact hs _ _ h2
def off (b:Nat)(l:List Nat)(x:Nat):Option Nat:=if b<=x then l[x - b]? else none
theorem lH.lt {st:Nat->Option Nat}{i s:Nat}{kids cs:List Nat}(h:lH st i s kids cs):∀(k x:Nat),kids[k]? =some x->x<i:=by
 have hle:∀(m k x:Nat),k+m=kids.length->cs[k]? =some x->x<=i:=fun m=>by
  induction m with
  |zero=>
   intro k x e hx;rw[show k=kids.length by omega,h.last,Option.some.injEq] at hx;omega
  |succ m ih=>
   intro k x e hx;have hk:k+1<cs.length:=by rw[h.len];omega
   have h1:=h.rise k x _ hx (Ag hk);have h2:=ih (k+1) _ tE (Ag hk);omega
 intro k x hx;have hkl:=(List.getElem?_eq_some_iff.1 hx).1;have hk:k+1<cs.length:=by rw[h.len];omega
 have h1:=(h.kid k x _ hx (Ag hk)).1;have h2:=hle (kids.length - (k+1)) (k+1) _ tE (Ag hk);omega
end Go.Proofs.YtmpfilddeglgbaaGreatDoor
