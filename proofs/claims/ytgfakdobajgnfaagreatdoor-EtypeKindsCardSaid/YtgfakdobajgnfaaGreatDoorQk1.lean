import Derived.Test.YtgfakdobajgnfaaGreatDoorQk0
set_option maxRecDepth 100000
set_option maxHeartbeats 16000000
namespace Go.Proofs.YtgfakdobajgnfaaGreatDoor
open Go Go.Lib
structure Hd where
 op:Int
 v:Int×Int×List UInt8
 name:List UInt8
 line:Int
 col:Int
structure Nd where
 h:Hd
 kids:List Nat
inductive Ex where
 |mk (h:Hd) (kids:List Ex)
def Ex.hd:Ex->Hd| .mk h _=>h
def Ex.kids:Ex->List Ex| .mk _ ks=>ks
mutual
def Ex.size:Ex->Nat| .mk _ ks=>Bs ks+1
def Bs:List Ex->Nat|[]=>0|e::es=>e.size+Bs es
end
def Db:List Ex->Nat->List Nat|[],_=>[]|e::es,b=>(b+e.size - 1)::Db es (b+e.size)
mutual
def Ex.flat:Ex->Nat->List Nd| .mk h ks,b=>Bz ks b++[⟨h,Db ks b⟩]
def Bz:List Ex->Nat->List Nd|[],_=>[]|e::es,b=>e.flat b++Bz es (b+e.size)
end
theorem Ex.size_pos (e:Ex):1<=e.size:=by
 cases e;simp [Ex.size]
mutual
theorem Ex.flat_len:∀(e:Ex) (b:Nat),(e.flat b).length=e.size
 | .mk h ks,b=>by simp [Ex.flat,Ex.size,Cx ks b]
theorem Cx:∀(l:List Ex) (b:Nat),(Bz l b).length=Bs l
 |[],b=>rfl
 |e::es,b=>by simp [Bz,Bs,Ex.flat_len e b,Cx es (b+e.size)]
end
theorem Kb:∀(l:List Ex) (b:Nat),(Db l b).length=l.length
 |[],_=>rfl
 |e::es,b=>by simp [Db,Kb es]
theorem Pp:∀(l m:List Ex),Bs (l++m)=Bs l+Bs m
 |[],m=>by simp [Bs]
 |e::l,m=>by simp [Bs,Pp l m,Nat.add_assoc]
theorem Pz:∀(l m:List Ex) (b:Nat),Bz (l++m) b=Bz l b++Bz m (b+Bs l)
 |[],m,b=>by simp [Bz,Bs]
 |e::l,m,b=>by simp [Bz,Bs,Pz l m,Nat.add_assoc]
theorem Rh:∀(l m:List Ex) (b:Nat),Db (l++m) b=Db l b++Db m (b+Bs l)
 |[],m,b=>by simp [Db,Bs]
 |e::l,m,b=>by simp [Db,Bs,Rh l m,Nat.add_assoc]
def isH (s:List UInt8):List Tkn->Bool
 |t::_=>decide (t.w.t=s) && (decide (t.w.k=1)||decide (t.w.k=7))
 |[]=>false
def plH:List Tkn->Int×Int
 |t::_=>(t.line,t.col)
 |[]=>(0,0)
def Bt (c:Nat):List (List UInt8×Int):=
 if c=0 then[([111,114],4)] else if c=1 then[([97,110,100],5)]
 else if c=3 then[([61],7),([60,62],8),([60],9),([60,61],10),([62],11),([62,61],12)]
 else if c=4 then[([43],13),([45],14)] else if c=5 then[([42],15),([47],16)] else[]
def B6 (r:List Tkn):List (List UInt8×Int)->Int
 |[]=>0
 |(s,o)::l=>if isH s r then o else B6 r l
def Di (s:List UInt8):Option (Int×Nat×Nat):=
 if s=[97,98,115] then some (18,1,1) else if s=[109,105,110] then some (19,1,8) else if s=[109,97,120] then some (20,1,8)
 else if s=[109,111,100] then some (21,2,2) else if s=[108,101,110,103,116,104] then some (22,1,1) else if s=[117,112,112,101,114] then some (23,1,1)
 else if s=[99,111,110,116,97,105,110,115] then some (24,2,2) else if s=[115,116,97,114,116,115] then some (25,2,2) else if s=[105,102] then some (26,3,3) else none
def K7 (s:List UInt8):Option (Int×Int×List UInt8):=
 if s=[116,114,117,101] then some (4,1,[]) else if s=[102,97,108,115,101] then some (4,0,[]) else if s=[110,117,108,108] then some v0 else none
def Kf (n:Nat):List UInt8:=if n=2 then[110,111,116] else[45]
def Li (n:Nat):Int:=if n=2 then 6 else 17
structure Cl where
 op:Int
 least:Nat
 most:Nat
 line:Int
 col:Int
inductive Gh where
 |lvl (n:Nat)
 |row (n:Nat) (a:Ex)
 |args (c:Cl) (kids:List Ex)
abbrev ExR:=Except (Int×List Tkn) (Ex×List Tkn)
def Dk (t:Tkn):Option Hd:=
 if t.w.k=4\/t.w.k=5\/t.w.k=6 then some ⟨1,t.w.v,[],t.line,t.col⟩
 else if t.w.k=2 then some ⟨2,v0,t.w.t,t.line,t.col⟩
 else if t.w.k=3 then some ⟨3,v0,[],t.line,t.col⟩
 else if t.w.k=1 then(match Di t.w.t with|some _=>none|none=>(K7 t.w.t).map fun v=>⟨1,v,[],t.line,t.col⟩)
 else none
def Eh (t:Tkn):Option Cl:=if t.w.k=1 then(Di t.w.t).map fun c=>⟨c.1,c.2.1,c.2.2,t.line,t.col⟩ else none
def ExR.next (x:ExR)(g:Ex->List Tkn->ExR):ExR:=
 match x with
 | .error e=> .error e
 | .ok (a,q)=>g a q
def Cc (d:Nat)(r:List Tkn)(g:List Tkn->ExR):ExR:=if isH [40] r then(if d=12 then .error (12,r) else g r.tail) else .error (4,r)
def D4 (a:Ex)(q:List Tkn):ExR:=if isH [41] q then .ok (a,q.tail) else .error (4,q)
def Cb:Nat->Gh->Nat->List Tkn->ExR
 |0,_,_,r=> .error (0,r)
 |f+1,.lvl n,d,r=>
  if n=2\/n=6 then
   if isH (Kf n) r then
    if d=12 then .error (12,r) else
     (Cb f (.lvl n) (d+1) r.tail).next fun a q=> .ok (.mk ⟨Li n,v0,[],(plH r).1,(plH r).2⟩ [a],q)
   else Cb f (.lvl (n+1)) d r
  else if n=7 then
   match r with
   |[]=> .error (4,[])
   |t::q=>
    match Dk t,Eh t with
    |some h,_=> .ok (.mk h [],q)
    |none,some c=>Cc d q fun e=>Cb f (.args c []) (d+1) e
    |none,none=>Cc d (t::q) fun e=>(Cb f (.lvl 0) (d+1) e).next D4
  else(Cb f (.lvl (n+1)) d r).next fun a q=>Cb f (.row n a) d q
 |f+1,.row n a,d,r=>
  if B6 r (Bt n)=0 then .ok (a,r) else
   (Cb f (.lvl (n+1)) d r.tail).next fun b q=>
    if n=3 then .ok (.mk ⟨B6 r (Bt n),v0,[],(plH r).1,(plH r).2⟩ [a,b],q)
    else Cb f (.row n (.mk ⟨B6 r (Bt n),v0,[],(plH r).1,(plH r).2⟩ [a,b])) d q
 |f+1,.args c kids,d,r=>
  (Cb f (.lvl 0) d r).next fun a q=>
   if isH [44] q && decide (kids.length+1=c.most)||isH [41] q && decide (kids.length+1<c.least) then .error (14,q)
   else if isH [44] q then Cb f (.args c (kids++[a])) d q.tail
   else D4 (.mk ⟨c.op,v0,[],c.line,c.col⟩ (kids++[a])) q
def Bu:Gh->List Tkn->Nat
 | .lvl n,r=>r.length*10+(8 - n)
 | .row _ _,r=>r.length*10+9
 | .args _ _,r=>r.length*10+9
def Suf (q r:List Tkn):Prop:=∃k,q=r.drop k
theorem Suf.refl (r:List Tkn):Suf r r:=⟨0,rfl⟩
theorem Suf.trans {a b c:List Tkn}(h:Suf a b)(k:Suf b c):Suf a c:=by
 obtain⟨i,rfl⟩:=h;obtain⟨j,rfl⟩:=k;exact⟨j+i,by rw[List.drop_drop]⟩
theorem Suf.tail {a b:List Tkn}(h:Suf a b.tail):Suf a b:=h.trans ⟨1,by simp⟩
theorem Suf.len {q r:List Tkn}(h:Suf q r):q.length<=r.length:=by
 obtain⟨k,rfl⟩:=h;simp
theorem Suf.cons {t:Tkn}{a b:List Tkn}(h:Suf a b):Suf a (t::b):=h.trans ⟨1,rfl⟩
theorem C6 {s:List UInt8}{r:List Tkn}(h:isH s r=true):∃t q,r=t::q:=by
 cases r with
 |nil=>cases h
 |cons t q=>exact⟨t,q,rfl⟩
theorem Fz {r:List Tkn}:∀{l:List (List UInt8×Int)},B6 r l≠0->∃t q,r=t::q
 |[],h=>absurd rfl h
 |(s,o)::l,h=>by
  unfold B6 at h;by_cases e:isH s r=true
  ·exact C6 e
  rw[Ao e] at h;exact Fz h
def mS:Gh->List Tkn->ExR->Prop
 |_,r,.error (_,q)=>Suf q r
 | .row _ _,r,.ok (_,q)=>Suf q r
 |_,r,.ok (_,q)=>Suf q r/\q.length<r.length
theorem mS.suf {td:Gh}{r:List Tkn}{a:Ex}{q:List Tkn}(h:mS td r (.ok (a,q))):Suf q r:=by
 cases td with
 |lvl n=>exact h.1
 |row n a=>exact h
 |args c k=>exact h.1
theorem T0:∀(f:Nat) (td:Gh) (d:Nat) (r:List Tkn),(∀n,td= .lvl n->n<=7)->Bu td r<f->mS td r (Cb f td d r)/\∀g,Bu td r<g->Cb g td d r=Cb f td d r:=by
 intro f
 induction f with
 |zero=>intro td d r _ h;exact absurd h (Nat.not_lt_zero _)
 |succ f ih=>
  intro td d r N h
  have D:∀{n:Nat} {d:Nat} {r':List Tkn},n<=7->Bu (.lvl n) r'<f->(match Cb f (.lvl n) d r' with| .error e=>Suf e.2 r'| .ok p=>Suf p.2 r'/\p.2.length<r'.length)/\∀g,Bu (.lvl n) r'<g->Cb g (.lvl n) d r'=Cb f (.lvl n) d r':=fun{n d r'} h7 hr=>by
   have:=ih (.lvl n) d r' (fun m e=>by injection e with e;omega) hr
   refine⟨?_,this.2⟩;have i:=this.1
   revert i
   cases Cb f (.lvl n) d r' with
   |error e=>exact id
   |ok p=>exact id
  have C:∀{n:Nat} {a:Ex} {d:Nat} {r':List Tkn},Bu (.row n a) r'<f->(match Cb f (.row n a) d r' with| .error e=>Suf e.2 r'| .ok p=>Suf p.2 r')/\∀g,Bu (.row n a) r'<g->Cb g (.row n a) d r'=Cb f (.row n a) d r':=fun{n a d r'} hr=>by
   have:=ih (.row n a) d r' (fun m e=>by cases e) hr
   refine⟨?_,this.2⟩;have i:=this.1
   revert i
   cases Cb f (.row n a) d r' with
   |error e=>exact id
   |ok p=>exact id
  have I:∀{c:Cl} {ks:List Ex} {d:Nat} {r':List Tkn},Bu (.args c ks) r'<f->(match Cb f (.args c ks) d r' with| .error e=>Suf e.2 r'| .ok p=>Suf p.2 r'/\p.2.length<r'.length)/\∀g,Bu (.args c ks) r'<g->Cb g (.args c ks) d r'=Cb f (.args c ks) d r':=fun{c ks d r'} hr=>by
   have:=ih (.args c ks) d r' (fun m e=>by cases e) hr
   refine⟨?_,this.2⟩;have i:=this.1
   revert i
   cases Cb f (.args c ks) d r' with
   |error e=>exact id
   |ok p=>exact id
  have M:∀(a:Ex) (q:List Tkn),(match D4 a q with| .error e=>Suf e.2 q| .ok p=>Suf p.2 q/\p.2.length<q.length):=fun a q=>by
   unfold D4;by_cases e:isH [41] q=true
   ·rw[Ap e];obtain⟨t,E,rfl⟩:=C6 e;exact⟨⟨1,rfl⟩,by simp⟩
   rw[Ao e];exact Suf.refl _
  clear ih;cases td with
  |lvl n=>
   have L:=N n rfl;simp only[Bu] at h D;by_cases h26:n=2\/n=6
   ·by_cases hp:isH (Kf n) r=true
    ·obtain⟨t,q,rfl⟩:=C6 hp;by_cases hd:d=12
     ·refine⟨?_,fun g k=>?_⟩
      ·simp only[Cb,Ap h26,Ap hp,Ap hd];exact Suf.refl _
      obtain⟨g,rfl⟩:∃j,g=j+1:=⟨g - 1,by omega⟩;simp only[Cb,Ap h26,Ap hp,Ap hd]
     simp only[Aa] at h;obtain⟨i,y⟩:=D (n:=n) (d:=d+1) (r':=q) L rF;refine⟨?_,fun g k=>?_⟩
     ·simp only[Cb,Ap h26,Ap hp,Ao hd,List.tail_cons]
      revert i
      cases Cb f (.lvl n) (d+1) q with
      |error e=>exact fun i=>Suf.cons i
      |ok p=>exact fun i=>⟨Suf.cons i.1,by have:=i.2;simp only[Aa];omega⟩
     obtain⟨g,rfl⟩:∃j,g=j+1:=⟨g - 1,by omega⟩;simp only[Bu,Aa] at k;simp only[Cb,Ap h26,Ap hp,Ao hd,List.tail_cons];rw[y g rF]
    obtain⟨i,y⟩:=D (n:=n+1) (d:=d) (r':=r) rF rF;refine⟨?_,fun g k=>?_⟩
    ·simp only[Cb,Ap h26,Ao hp]
     revert i
     cases Cb f (.lvl (n+1)) d r with
     |error e=>exact id
     |ok p=>exact id
    obtain⟨g,rfl⟩:∃j,g=j+1:=⟨g - 1,by omega⟩;simp only[Bu] at k;simp only[Cb,Ap h26,Ao hp];exact y g rF
   by_cases h7:n=7
   ·cases r with
    |nil=>
     refine⟨?_,fun g k=>?_⟩
     ·simp only[Cb,Ao h26,Ap h7];exact Suf.refl _
     obtain⟨g,rfl⟩:∃j,g=j+1:=⟨g - 1,by omega⟩;simp only[Cb,Ao h26,Ap h7]
    |cons t q=>
     simp only[Aa] at h
     have v:∀g,Cb (g+1) (.lvl n) d (t::q)=(match Dk t,Eh t with
      |some h,_=> .ok (.mk h [],q)
      |none,some c=>Cc d q fun E=>Cb g (.args c []) (d+1) E
      |none,none=>Cc d (t::q) fun E=>(Cb g (.lvl 0) (d+1) E).next D4):=fun g=>by
      simp only[Cb,Ao h26,Ap h7]
     rw[v f];cases hl:Dk t with
     |some x=>
      refine⟨⟨⟨1,rfl⟩,by simp⟩,fun g k=>?_⟩;obtain⟨g,rfl⟩:∃j,g=j+1:=⟨g - 1,by omega⟩;rw[v g,hl]
     |none=>
      cases hc:Eh t with
      |some c=>
       simp only;by_cases ho:isH [40] q=true
       ·obtain⟨t',E,rfl⟩:=C6 ho;by_cases hd:d=12
        ·refine⟨?_,fun g k=>?_⟩
         ·simp only[Cc,Ap ho,Ap hd];exact⟨1,rfl⟩
         obtain⟨g,rfl⟩:∃j,g=j+1:=⟨g - 1,by omega⟩;rw[v g,hl,hc];simp only[Cc,Ap ho,Ap hd]
        simp only[Aa] at h;obtain⟨i,y⟩:=I (c:=c) (ks:=[]) (d:=d+1) (r':=E) rR;refine⟨?_,fun g k=>?_⟩
        ·simp only[Cc,Ap ho,Ao hd,List.tail_cons]
         revert i
         cases Cb f (.args c []) (d+1) E with
         |error e=>exact fun i=>Suf.cons (Suf.cons i)
         |ok p=>exact fun i=>⟨Suf.cons (Suf.cons i.1),by have:=i.2;simp only[Aa];omega⟩
        obtain⟨g,rfl⟩:∃j,g=j+1:=⟨g - 1,by omega⟩;simp only[Bu,Aa] at k;rw[v g,hl,hc];simp only[Cc,Ap ho,Ao hd,List.tail_cons];exact y g rR
       refine⟨?_,fun g k=>?_⟩
       ·simp only[Cc,Ao ho];exact⟨1,rfl⟩
       obtain⟨g,rfl⟩:∃j,g=j+1:=⟨g - 1,by omega⟩;rw[v g,hl,hc];simp only[Cc,Ao ho]
      |none=>
       simp only;by_cases ho:isH [40] (t::q)=true
       ·by_cases hd:d=12
        ·refine⟨?_,fun g k=>?_⟩
         ·simp only[Cc,Ap ho,Ap hd];exact Suf.refl _
         obtain⟨g,rfl⟩:∃j,g=j+1:=⟨g - 1,by omega⟩;rw[v g,hl,hc];simp only[Cc,Ap ho,Ap hd]
        obtain⟨i,y⟩:=D (n:=0) (d:=d+1) (r':=q) rF rF;refine⟨?_,fun g k=>?_⟩
        ·simp only[Cc,Ap ho,Ao hd,List.tail_cons]
         revert i
         cases Cb f (.lvl 0) (d+1) q with
         |error e=>exact fun i=>Suf.cons i
         |ok p=>
          intro i;obtain⟨u,F⟩:=i;have A:=M p.1 p.2;simp only[ExR.next]
          revert A
          cases D4 p.1 p.2 with
          |error e=>exact fun A=>Suf.cons (Suf.trans A u)
          |ok p'=>exact fun A=>⟨Suf.cons (A.1.trans u),by have:=A.2;simp only[Aa];omega⟩
        obtain⟨g,rfl⟩:∃j,g=j+1:=⟨g - 1,by omega⟩;simp only[Bu,Aa] at k;rw[v g,hl,hc];simp only[Cc,Ap ho,Ao hd,List.tail_cons];rw[y g rF]
       refine⟨?_,fun g k=>?_⟩
       ·simp only[Cc,Ao ho];exact Suf.refl _
       obtain⟨g,rfl⟩:∃j,g=j+1:=⟨g - 1,by omega⟩;rw[v g,hl,hc];simp only[Cc,Ao ho]
   obtain⟨i,y⟩:=D (n:=n+1) (d:=d) (r':=r) rF rF;refine⟨?_,fun g k=>?_⟩
   ·simp only[Cb,Ao h26,Ao h7]
    revert i
    cases Cb f (.lvl (n+1)) d r with
    |error e=>exact id
    |ok p=>
     intro i;obtain⟨u,F⟩:=i;obtain⟨o,_⟩:=C (n:=n) (a:=p.1) (d:=d) (r':=p.2) rR;simp only[ExR.next]
     revert o
     cases Cb f (.row n p.1) d p.2 with
     |error e=>exact fun o=>Suf.trans o u
     |ok p'=>exact fun o=>⟨Suf.trans o u,by have:=Suf.len o;omega⟩
   obtain⟨g,rfl⟩:∃j,g=j+1:=⟨g - 1,by omega⟩;simp only[Bu] at k;simp only[Cb,Ao h26,Ao h7];rw[y g rF]
   revert i
   cases Cb f (.lvl (n+1)) d r with
   |error e=>exact fun _=>rfl
   |ok p=>
    intro i;obtain⟨u,F⟩:=i;obtain⟨_,G⟩:=C (n:=n) (a:=p.1) (d:=d) (r':=p.2) rR;exact G g rR
  |row n a=>
   by_cases hz:B6 r (Bt n)=0
   ·refine⟨?_,fun g k=>?_⟩
    ·simp only[Cb,Ap hz];exact Suf.refl _
    obtain⟨g,rfl⟩:∃j,g=j+1:=⟨g - 1,by omega⟩;simp only[Cb,Ap hz]
   have O:n<=5:=by
    refine Nat.le_of_not_lt fun U=>hz ?_
    rw[show Bt n=[] by unfold Bt;rw[Ao rF,Ao rF,Ao rF,Ao rF,Ao rF]];rfl
   obtain⟨t,q,rfl⟩:=Fz hz;simp only[Bu,Aa] at h;obtain⟨i,y⟩:=D (n:=n+1) (d:=d) (r':=q) rF rR;refine⟨?_,fun g k=>?_⟩
   ·simp only[Cb,Ao hz,List.tail_cons]
    revert i
    cases Cb f (.lvl (n+1)) d q with
    |error e=>exact fun i=>Suf.cons i
    |ok p=>
     intro i;obtain⟨u,F⟩:=i;simp only[ExR.next];by_cases h3n:n=3
     ·rw[Ap h3n];exact Suf.cons u
     rw[Ao h3n];obtain⟨o,_⟩:=C (n:=n) (a:= .mk ⟨B6 (t::q) (Bt n),v0,[],(plH (t::q)).1,(plH (t::q)).2⟩ [a,p.1]) (d:=d) (r':=p.2) rR
     revert o
     cases Cb f (.row n (.mk ⟨B6 (t::q) (Bt n),v0,[],(plH (t::q)).1,(plH (t::q)).2⟩ [a,p.1])) d p.2 with
     |error e=>exact fun o=>Suf.cons (Suf.trans o u)
     |ok p'=>exact fun o=>Suf.cons (Suf.trans o u)
   obtain⟨g,rfl⟩:∃j,g=j+1:=⟨g - 1,by omega⟩;simp only[Bu,Aa] at k;simp only[Cb,Ao hz,List.tail_cons];rw[y g rR]
   revert i
   cases Cb f (.lvl (n+1)) d q with
   |error e=>exact fun _=>rfl
   |ok p=>
    intro i;obtain⟨u,F⟩:=i;simp only[ExR.next];by_cases h3n:n=3
    ·rw[Ap h3n,Ap h3n]
    rw[Ao h3n,Ao h3n];obtain⟨_,G⟩:=C (n:=n) (a:= .mk ⟨B6 (t::q) (Bt n),v0,[],(plH (t::q)).1,(plH (t::q)).2⟩ [a,p.1]) (d:=d) (r':=p.2) rR;exact G g rR
  |args c kids=>
   simp only[Bu] at h;obtain⟨i,y⟩:=D (n:=0) (d:=d) (r':=r) rF rR;refine⟨?_,fun g k=>?_⟩
   ·simp only[Cb]
    revert i
    cases Cb f (.lvl 0) d r with
    |error e=>exact id
    |ok p=>
     intro i;obtain⟨u,F⟩:=i;simp only[ExR.next];by_cases hm:(isH [44] p.2 && decide (kids.length+1=c.most)||isH [41] p.2 && decide (kids.length+1<c.least))=true
     ·rw[Ap hm];exact u
     rw[Ao hm];by_cases hc:isH [44] p.2=true
     ·rw[Ap hc];obtain⟨t,q,e⟩:=C6 hc;have R:=Ar List.length e;simp only[Aa] at R;have T:p.2.tail.length<p.2.length:=by rw[e];simp
      obtain⟨o,_⟩:=I (c:=c) (ks:=kids++[p.1]) (d:=d) (r':=p.2.tail) rR
      revert o
      cases Cb f (.args c (kids++[p.1])) d p.2.tail with
      |error e=>exact fun o=>Suf.trans (Suf.tail o) u
      |ok p'=>exact fun o=>⟨(Suf.tail o.1).trans u,by have:=o.2;omega⟩
     rw[Ao hc];have A:=M (.mk ⟨c.op,v0,[],c.line,c.col⟩ (kids++[p.1])) p.2
     revert A
     cases D4 (.mk ⟨c.op,v0,[],c.line,c.col⟩ (kids++[p.1])) p.2 with
     |error e=>exact fun A=>Suf.trans A u
     |ok p'=>exact fun A=>⟨A.1.trans u,by have:=A.2;omega⟩
   obtain⟨g,rfl⟩:∃j,g=j+1:=⟨g - 1,by omega⟩;simp only[Bu] at k;simp only[Cb];rw[y g rR]
   revert i
   cases Cb f (.lvl 0) d r with
   |error e=>exact fun _=>rfl
   |ok p=>
    intro i;obtain⟨u,F⟩:=i;simp only[ExR.next];by_cases hm:(isH [44] p.2 && decide (kids.length+1=c.most)||isH [41] p.2 && decide (kids.length+1<c.least))=true
    ·rw[Ap hm,Ap hm]
    rw[Ao hm,Ao hm];by_cases hc:isH [44] p.2=true
    ·rw[Ap hc,Ap hc];obtain⟨t,q,e⟩:=C6 hc;have T:p.2.tail.length<p.2.length:=by rw[e];simp
     obtain⟨_,G⟩:=I (c:=c) (ks:=kids++[p.1]) (d:=d) (r':=p.2.tail) rR;exact G g rR
    rw[Ao hc,Ao hc]
open Go Go.Lib
def exE (td:Gh)(d:Nat)(r:List Tkn):ExR:=Cb (Bu td r+1) td d r
abbrev Bc (n d:Nat)(r:List Tkn):ExR:=exE (.lvl n) d r
abbrev Sy (n:Nat)(a:Ex)(d:Nat)(r:List Tkn):ExR:=exE (.row n a) d r
abbrev Gj (c:Cl)(ks:List Ex)(d:Nat)(r:List Tkn):ExR:=exE (.args c ks) d r
def Gh.ok:Gh->Prop| .lvl n=>n<=7|_=>True
theorem Gh.ok_lvl {td:Gh}(h:td.ok):∀n,td= .lvl n->n<=7:=fun n e=>by subst e;exact h
theorem G3 {f:Nat}{td:Gh}{d:Nat}{r:List Tkn}(c:td.ok)(h:Bu td r<f):Cb f td d r=exE td d r:=
 (T0 f td d r (Gh.ok_lvl c) h).2 _ (Nat.lt_succ_self _)▸rfl
theorem Wf {td:Gh}(c:td.ok)(d:Nat)(r:List Tkn):mS td r (exE td d r):=(T0 _ td d r (Gh.ok_lvl c) (Nat.lt_succ_self _)).1
theorem ExR.next_congr {x:ExR}{g c:Ex->List Tkn->ExR}(h:∀a q,x= .ok (a,q)->g a q=c a q):x.next g=x.next c:=by
 cases x with
 |error e=>rfl
 |ok p=>exact h p.1 p.2 rfl
theorem Dt {n d:Nat}{r:List Tkn}{a:Ex}{q:List Tkn}(c:n<=7)(h:Bc n d r= .ok (a,q)):Suf q r/\q.length<r.length:=by
 have:=Wf (td:= .lvl n) c d r
 rw[show exE (.lvl n) d r= .ok (a,q) from h] at this;exact this
theorem mL {td:Gh}(c:td.ok){d:Nat}{r q:List Tkn}{e:Int}(h:exE td d r= .error (e,q)):Suf q r:=by
 have:=Wf c d r
 rw[h] at this;cases td<;>exact this
theorem Rg (f n d:Nat)(r:List Tkn):Cb (f+1) (.lvl n) d r=if n=2\/n=6 then
 if isH (Kf n) r then
  if d=12 then .error (12,r) else
   (Cb f (.lvl n) (d+1) r.tail).next fun a q=> .ok (.mk ⟨Li n,v0,[],(plH r).1,(plH r).2⟩ [a],q)
 else Cb f (.lvl (n+1)) d r
 else if n=7 then
  match r with
  |[]=> .error (4,[])
  |t::q=>
   match Dk t,Eh t with
   |some h,_=> .ok (.mk h [],q)
   |none,some c=>Cc d q fun e=>Cb f (.args c []) (d+1) e
   |none,none=>Cc d (t::q) fun e=>(Cb f (.lvl 0) (d+1) e).next D4
 else(Cb f (.lvl (n+1)) d r).next fun a q=>Cb f (.row n a) d q:=rfl
theorem gS (f n d:Nat)(a:Ex)(r:List Tkn):Cb (f+1) (.row n a) d r=if B6 r (Bt n)=0 then .ok (a,r) else
 (Cb f (.lvl (n+1)) d r.tail).next fun b q=>
  if n=3 then .ok (.mk ⟨B6 r (Bt n),v0,[],(plH r).1,(plH r).2⟩ [a,b],q)
  else Cb f (.row n (.mk ⟨B6 r (Bt n),v0,[],(plH r).1,(plH r).2⟩ [a,b])) d q:=rfl
theorem gE (f d:Nat)(c:Cl)(kids:List Ex)(r:List Tkn):Cb (f+1) (.args c kids) d r=
 (Cb f (.lvl 0) d r).next fun a q=>
  if isH [44] q && decide (kids.length+1=c.most)||isH [41] q && decide (kids.length+1<c.least) then .error (14,q)
  else if isH [44] q then Cb f (.args c (kids++[a])) d q.tail
  else D4 (.mk ⟨c.op,v0,[],c.line,c.col⟩ (kids++[a])) q:=rfl
theorem Kj {n d:Nat}{r:List Tkn}(h:n=2\/n=6):Bc n d r=
 if isH (Kf n) r then(if d=12 then .error (12,r) else(Bc n (d+1) r.tail).next fun a q=> .ok (.mk ⟨Li n,v0,[],(plH r).1,(plH r).2⟩ [a],q)) else Bc (n+1) d r:=by
 have c:n<=7:=by omega
 show Cb (Bu (.lvl n) r+1) (.lvl n) d r=_;rw[Rg,Ap h];by_cases hp:isH (Kf n) r=true
 ·rw[Ap hp,Ap hp];by_cases hd:d=12
  ·rw[Ap hd,Ap hd]
  rw[Ao hd,Ao hd];obtain⟨t,q,rfl⟩:=C6 hp;rw[List.tail_cons,G3 (td:= .lvl n) c tN]
 rw[Ao hp,Ao hp,G3 (td:= .lvl (n+1)) sG rR]
theorem B3 (d:Nat)(r:List Tkn):Bc 7 d r=match r with
 |[]=> .error (4,[])
 |t::q=>match Dk t,Eh t with
  |some h,_=> .ok (.mk h [],q)
  |none,some c=>Cc d q fun e=>Gj c [] (d+1) e
  |none,none=>Cc d (t::q) fun e=>(Bc 0 (d+1) e).next D4:=by
 show Cb (Bu (.lvl 7) r+1) (.lvl 7) d r=_;rw[Rg,Ao rF,Ap rfl];cases r with
 |nil=>rfl
 |cons t q=>
  simp only;cases Dk t with
  |some x=>rfl
  |none=>
   cases Eh t with
   |some c=>
    simp only[Cc];by_cases ho:isH [40] q=true
    ·obtain⟨t',e,rfl⟩:=C6 ho;rw[List.tail_cons,G3 (td:= .args c []) trivial tN]
    rw[Ao ho,Ao ho]
   |none=>
    simp only[Cc,List.tail_cons];rw[G3 (td:= .lvl 0) sG tN]
theorem Lb {n d:Nat}{r:List Tkn}(h:n<=5)(c:n≠2):Bc n d r=(Bc (n+1) d r).next fun a q=>Sy n a d q:=by
 show Cb (Bu (.lvl n) r+1) (.lvl n) d r=_;rw[Rg,Ao rF,Ao rF,G3 (td:= .lvl (n+1)) sG rR];refine ExR.next_congr fun a q e=>?_
 have f:=Dt (n:=n+1) rF e;exact G3 (td:= .row n a) trivial rR
theorem Uj {n:Nat}(h:5<n):Bt n=[]:=by
 unfold Bt;rw[Ao rF,Ao rF,Ao rF,Ao rF,Ao rF]
theorem Il (n:Nat)(a:Ex)(d:Nat)(r:List Tkn):Sy n a d r=
 if B6 r (Bt n)=0 then .ok (a,r) else
  (Bc (n+1) d r.tail).next fun b q=>
   if n=3 then .ok (.mk ⟨B6 r (Bt n),v0,[],(plH r).1,(plH r).2⟩ [a,b],q)
   else Sy n (.mk ⟨B6 r (Bt n),v0,[],(plH r).1,(plH r).2⟩ [a,b]) d q:=by
 show Cb (Bu (.row n a) r+1) (.row n a) d r=_;rw[gS];by_cases hz:B6 r (Bt n)=0
 ·rw[Ap hz,Ap hz]
 rw[Ao hz,Ao hz];have f:n<=5:=Nat.le_of_not_lt fun c=>hz (by rw[Uj c];rfl)
 obtain⟨t,q,rfl⟩:=Fz hz;rw[List.tail_cons,G3 (td:= .lvl (n+1)) sG tN];refine ExR.next_congr fun b g e=>?_
 have h:=Dt (n:=n+1) rF e;rw[G3 (td:= .row n _) trivial tN]
theorem Ji (c:Cl)(ks:List Ex)(d:Nat)(r:List Tkn):Gj c ks d r=
 (Bc 0 d r).next fun a q=>
  if isH [44] q && decide (ks.length+1=c.most)||isH [41] q && decide (ks.length+1<c.least) then .error (14,q)
  else if isH [44] q then Gj c (ks++[a]) d q.tail
  else D4 (.mk ⟨c.op,v0,[],c.line,c.col⟩ (ks++[a])) q:=by
 show Cb (Bu (.args c ks) r+1) (.args c ks) d r=_;rw[gE,G3 (td:= .lvl 0) sG rR];refine ExR.next_congr fun a q e=>?_
 have f:=Dt (n:=0) rF e;by_cases hm:(isH [44] q && decide (ks.length+1=c.most)||isH [41] q && decide (ks.length+1<c.least))=true
 ·rw[Ap hm,Ap hm]
 rw[Ao hm,Ao hm];by_cases hc:isH [44] q=true
 ·rw[Ap hc,Ap hc];exact G3 (td:= .args c (ks++[a])) trivial (by simp only[Bu,List.length_tail];omega)
 rw[Ao hc,Ao hc]
theorem jM:Bt 2=[]:=rfl
theorem U9 {P:Gh->Nat->List Tkn->Prop}
 (m:∀n d r,(n=2\/n=6)->(∀t q,r=t::q->isH (Kf n) r=true->d≠12->P (.lvl n) (d+1) q)->(isH (Kf n) r=false->P (.lvl (n+1)) d r)->P (.lvl n) d r)
 (f:∀d r,(∀t t' q c,r=t::t'::q->Dk t=none->Eh t=some c->isH [40] (t'::q)=true->d≠12->P (.args c []) (d+1) q)->(∀t q,r=t::q->Dk t=none->Eh t=none->isH [40] r=true->d≠12->P (.lvl 0) (d+1) q)->P (.lvl 7) d r)
 (g:∀n d r,n<=5->n≠2->P (.lvl (n+1)) d r->(∀a q,Bc (n+1) d r= .ok (a,q)->P (.row n a) d q)->P (.lvl n) d r)
 (o:∀n a d r,(∀t q,r=t::q->B6 r (Bt n)≠0->n<=5->n≠2->P (.lvl (n+1)) d q/\∀b p,Bc (n+1) d q= .ok (b,p)->P (.row n (.mk ⟨B6 r (Bt n),v0,[],(plH r).1,(plH r).2⟩ [a,b])) d p)->P (.row n a) d r)
 (i:∀c ks d r,P (.lvl 0) d r->(∀a t q,Bc 0 d r= .ok (a,t::q)->isH [44] (t::q)=true->P (.args c (ks++[a])) d q)->P (.args c ks) d r):
 ∀td d r,td.ok->P td d r:=by
 have u:∀(k:Nat) (td:Gh) (d:Nat) (r:List Tkn),td.ok->Bu td r<k->P td d r:=by
  intro k
  induction k with
  |zero=>intro td d r _ h;exact absurd h (Nat.not_lt_zero _)
  |succ k ih=>
   intro td d r j h;cases td with
   |lvl n=>
    have x:n<=7:=j;simp only[Bu] at h;by_cases h26:n=2\/n=6
    ·refine m n d r h26 (fun t q e y hd=>?_) fun y=>ih (.lvl (n+1)) d r sG rR
     subst e;simp only[Aa] at h;exact ih (.lvl n) (d+1) q x rR
    by_cases h77:n=7
    ·subst h77;refine f d r (fun t t' q c e _ _ _ _=>?_) fun t q e _ _ _ _=>?_
     ·subst e;simp only[Aa] at h;exact ih (.args c []) (d+1) q trivial rR
     subst e;simp only[Aa] at h;exact ih (.lvl 0) (d+1) q sG rR
    refine g n d r rF rF (ih (.lvl (n+1)) d r sG rR) fun a q e=>?_
    have v:=Dt (n:=n+1) rF e;exact ih (.row n a) d q trivial rR
   |row n a=>
    simp only[Bu] at h;refine o n a d r fun t q e A C D=>?_
    subst e;simp only[Aa] at h;refine⟨ih (.lvl (n+1)) d q sG rR,fun b p e=>?_⟩;have v:=Dt (n:=n+1) rF e;exact ih (.row n _) d p trivial rR
   |args c ks=>
    simp only[Bu] at h;refine i c ks d r (ih (.lvl 0) d r sG rR) fun a t q e _=>?_
    have v:=Dt (n:=0) rF e;simp only[Aa] at v;exact ih (.args c (ks++[a])) d q trivial rR
 exact fun td d r j=>u _ td d r j (Nat.lt_succ_self _)
theorem Rr {r:List Tkn}{n:Nat}(h:B6 r (Bt n)≠0):n<=5/\n≠2:=
 ⟨Nat.le_of_not_lt fun c=>h (by rw[Uj c];rfl),fun e=>h (by rw[e,jM];rfl)⟩
open Go Go.Lib
mutual
def Ex.All (P:Hd->Nat->Prop):Ex->Prop| .mk h ks=>P h ks.length/\Jw P ks
def Jw (P:Hd->Nat->Prop):List Ex->Prop|[]=>True|e::es=>e.All P/\Jw P es
end
theorem Xa {P:Hd->Nat->Prop}:∀{l m:List Ex},Jw P l->Jw P m->Jw P (l++m)
 |[],_,_,k=>k
 |_::_,_,h,k=>⟨h.1,Xa h.2 k⟩
mutual
theorem Ex.All.mono {P Q:Hd->Nat->Prop}(c:∀h k,P h k->Q h k):∀{e:Ex},e.All P->e.All Q
 | .mk _ _,h=>⟨c _ _ h.1,Jw.mono c h.2⟩
theorem Jw.mono {P Q:Hd->Nat->Prop}(c:∀h k,P h k->Q h k):∀{l:List Ex},Jw P l->Jw Q l
 |[],_=>trivial
 |_::_,h=>⟨Ex.All.mono c h.1,Jw.mono c h.2⟩
end
mutual
theorem Ex.All.and {P Q:Hd->Nat->Prop}:∀{e:Ex},e.All P->e.All Q->e.All fun h k=>P h k/\Q h k
 | .mk _ _,h,k=>⟨⟨h.1,k.1⟩,Jw.and h.2 k.2⟩
theorem Jw.and {P Q:Hd->Nat->Prop}:∀{l:List Ex},Jw P l->Jw Q l->Jw (fun h k=>P h k/\Q h k) l
 |[],_,_=>trivial
 |_::_,h,k=>⟨Ex.All.and h.1 k.1,Jw.and h.2 k.2⟩
end
theorem Sp {P:Hd->Nat->Prop}:(∀(e:Ex) (b:Nat),e.All P->∀n∈e.flat b,P n.h n.kids.length):=by
 have f:∀(k:Nat),(∀(e:Ex) (b:Nat),e.size<=k->e.All P->∀n∈e.flat b,P n.h n.kids.length)/\(∀(l:List Ex) (b:Nat),Bs l<=k->Jw P l->∀n∈Bz l b,P n.h n.kids.length):=by
  intro k
  induction k with
  |zero=>
   refine⟨fun e b h=>?_,fun l b h=>?_⟩
   ·have:=e.size_pos
    omega
   cases l with
   |nil=>intro _ n c;cases c
   |cons e l=>
    have:=e.size_pos
    simp only[Bs] at h;omega
  |succ k ih=>
   have g:∀(e:Ex) (b:Nat),e.size<=k+1->e.All P->∀n∈e.flat b,P n.h n.kids.length:=fun e b h d n c=>by
    cases e with
    |mk hd ks=>
     simp only[Ex.size] at h;simp only[Ex.flat,List.mem_append,List.mem_singleton] at c;rcases c with c|rfl
     ·exact ih.2 ks b rF d.2 n c
     simp only[Kb];exact d.1
   refine⟨g,fun l=>?_⟩
   induction l with
   |nil=>intro b _ _ n c;cases c
   |cons e l il=>
    intro b h d n c;simp only[Bs] at h;simp only[Bz,List.mem_append] at c;rcases c with c|c
    ·exact g e b rF d.1 n c
    exact il (b+e.size) rF d.2 n c
 exact fun e b=>(f e.size).1 e b (Ak _)
def bG (P:Hd->Nat->Prop)(W:Tkn->Prop):Gh->Prop
 | .lvl _=>True
 | .row _ a=>a.All P
 | .args c ks=>Jw P ks/\ks.length<c.most/\∃t,W t/\Eh t=some c
theorem Xk {s:List UInt8}{c:Int×Nat×Nat}(h:Di s=some c):1<=c.2.1/\c.2.1<=c.2.2/\c.2.2<=8/\18<=c.1/\c.1<=26:=by
 unfold Di at h
 repeat' split at h
 all_goals first|(injection h with h;subst h;decide)|cases h
theorem Oj {t:Tkn}{c:Cl}(h:Eh t=some c):t.w.k=1/\Di t.w.t=some (c.op,c.least,c.most)/\c.line=t.line/\c.col=t.col/\1<=c.least/\c.least<=c.most/\c.most<=8:=by
 unfold Eh at h
 split at h
 ·rename_i d
  cases hc:Di t.w.t with
  |none=>rw[hc] at h;cases h
  |some x=>
   rw[hc] at h;injection h with h;subst h
   have:=Xk hc
   exact⟨d,rfl,rfl,rfl,this.1,this.2.1,this.2.2.1⟩
 cases h
theorem Gz {x:ExR}{g:Ex->List Tkn->ExR}{p:Ex×List Tkn}(h:x.next g= .ok p):∃a q,x= .ok (a,q)/\g a q= .ok p:=by
 cases x with
 |error e=>cases h
 |ok y=>exact⟨y.1,y.2,rfl,h⟩
theorem U7 {a b:Ex}{q c:List Tkn}(h:D4 a q= .ok (b,c)):b=a/\isH [41] q=true/\c=q.tail:=by
 unfold D4 at h
 split at h
 ·rename_i d
  injection h with h;injection h with h1 h2;exact⟨h1.symm,d,h2.symm⟩
 cases h
theorem Qx {d:Nat}{r:List Tkn}{g:List Tkn->ExR}{p:Ex×List Tkn}(h:Cc d r g= .ok p):isH [40] r=true/\d≠12/\g r.tail= .ok p:=by
 unfold Cc at h
 split at h
 ·rename_i c
  split at h
  ·cases h
  rename_i hd
  exact⟨c,hd,h⟩
 cases h
theorem Vq {P:Hd->Nat->Prop}{W:Tkn->Prop}(A:∀t h,W t->Dk t=some h->P h 0)(G:∀n t,(n=2\/n=6)->W t->P ⟨Li n,v0,[],t.line,t.col⟩ 1)
 (L:∀n t q,W t->B6 (t::q) (Bt n)≠0->P ⟨B6 (t::q) (Bt n),v0,[],t.line,t.col⟩ 2)
 (C:∀t c k,W t->Eh t=some c->c.least<=k->k<=c.most->P ⟨c.op,v0,[],c.line,c.col⟩ k):
 ∀td d r,td.ok->bG P W td->(∀t∈r,W t)->∀a q,exE td d r= .ok (a,q)->a.All P:=by
 have suf:∀{q r:List Tkn},Suf q r->(∀t∈r,W t)->∀t∈q,W t:=fun{q r} hs g t m=>by
  obtain⟨k,rfl⟩:=hs;exact g t (List.mem_of_mem_drop m)
 refine U9 (P:=fun td d r=>bG P W td->(∀t∈r,W t)->∀a q,exE td d r= .ok (a,q)->a.All P) ?_ ?_ ?_ ?_ ?_
 ·intro n d r T p D _ g a q h;rw[show exE (.lvl n) d r=_ from Kj T] at h;by_cases hp:isH (Kf n) r=true
  ·rw[Ap hp] at h;obtain⟨t,X,rfl⟩:=C6 hp;by_cases hd:d=12
   ·rw[Ap hd] at h;cases h
   rw[Ao hd] at h;obtain⟨j,i,f,e⟩:=Gz h;injection e with e;injection e with e _;subst e;have m:=g t Ai;exact⟨G n t T m,p t X rfl hp hd trivial (fun x u=>g x (Aj _ u)) _ _ f,trivial⟩
  rw[Ao hp] at h;exact D (by simpa using hp) trivial g a q h
 ·intro d r p D _ g a q h;rw[show exE (.lvl 7) d r=_ from B3 d r] at h;cases r with
  |nil=>cases h
  |cons t r=>
   simp only at h;have m:=g t Ai;have I:∀x∈r,W x:=fun x u=>g x (Aj _ u)
   cases hl:Dk t with
   |some x=>
    rw[hl] at h;injection h with h;injection h with h _;subst h;exact⟨A t x m hl,trivial⟩
   |none=>
    cases o:Eh t with
    |some c=>
     rw[hl,o] at h;obtain⟨f,e,E⟩:=Qx h;obtain⟨t',i,rfl⟩:=C6 f;have M:=Oj o;exact p t t' i c rfl hl o f e ⟨trivial,by show 0<c.most;omega,t,m,o⟩ (fun x u=>I x (Aj _ u)) a q E
    |none=>
     rw[hl,o] at h;obtain⟨f,e,E⟩:=Qx h;obtain⟨j,i,Y,Z⟩:=Gz E;obtain⟨rfl,U,rfl⟩:=U7 Z;exact D t r rfl hl o f e trivial I _ _ Y
 ·intro n d r E F p D _ g a q h;rw[show exE (.lvl n) d r=_ from Lb E F] at h;obtain⟨j,i,f,e⟩:=Gz h;exact D j i f (p trivial g j i f) (suf (Dt rF f).1 g) a q e
 ·intro n b d r p V g a q h;rw[show exE (.row n b) d r=_ from Il n b d r] at h;by_cases hz:B6 r (Bt n)=0
  ·rw[Ap hz] at h;injection h with h;injection h with h _;subst h;exact V
  rw[Ao hz] at h;obtain⟨t,r',rfl⟩:=Fz hz;obtain⟨E,F⟩:=Rr hz;obtain⟨k1,k2⟩:=p t r' rfl hz E F;obtain⟨j,i,f,e⟩:=Gz h;have m:=g t Ai;have I:∀x∈r',W x:=fun x u=>g x (Aj _ u)
  have v:(Ex.mk ⟨B6 (t::r') (Bt n),v0,[],(plH (t::r')).1,(plH (t::r')).2⟩ [b,j]).All P:=
   ⟨L n t r' m hz,V,k1 trivial I j i f,trivial⟩
  by_cases h3n:n=3
  ·rw[Ap h3n] at e;injection e with e;injection e with e _;subst e;exact v
  rw[Ao h3n] at e;exact k2 j i f v (suf (Dt rF f).1 I) a q e
 intro c ks d r p D N g a q h;rw[show exE (.args c ks) d r=_ from Ji c ks d r] at h;obtain⟨j,i,f,e⟩:=Gz h;have ha:=p trivial g j i f;have hq:=suf (Dt rF f).1 g;obtain⟨O,a8,t,m,o⟩:=N;have M:=Oj o;have y:Jw P (ks++[j]):=Xa O ⟨ha,trivial⟩;by_cases hm:(isH [44] i && decide (ks.length+1=c.most)||isH [41] i && decide (ks.length+1<c.least))=true
 ·rw[Ap hm] at e;cases e
 rw[Ao hm] at e;simp only[Bool.or_eq_true,Bool.and_eq_true,decide_eq_true_eq,not_or,not_and] at hm;by_cases hcm:isH [44] i=true
 ·rw[Ap hcm] at e;have b7:=hm.1 hcm;obtain⟨t',R,rfl⟩:=C6 hcm;exact D j t' R f hcm ⟨y,by simp;omega,t,m,o⟩ (fun x u=>hq x (Aj _ u)) a q e
 rw[Ao hcm] at e;obtain⟨rfl,U,rfl⟩:=U7 e;have b8:=hm.2 U;exact⟨C t c _ m o rM rM,y⟩
theorem iD:∀td d r,td.ok->∀a q,exE td d r= .ok (a,q)->match td with
 | .lvl _=>a.size+q.length<=r.length
 | .row _ b=>a.size+q.length<=b.size+r.length
 | .args _ ks=>a.size+q.length<=Bs ks+1+r.length:=by
 have v:∀{a b:Ex} {q f:List Tkn},D4 a q= .ok (b,f)->b.size+f.length<a.size+q.length:=fun{a b q f} h=>by
  obtain⟨rfl,k,rfl⟩:=U7 h;obtain⟨t,C,rfl⟩:=C6 k;simp
 refine U9 (P:=fun td d r=>∀a q,exE td d r= .ok (a,q)->match td with
  | .lvl _=>a.size+q.length<=r.length
  | .row _ b=>a.size+q.length<=b.size+r.length
  | .args _ ks=>a.size+q.length<=Bs ks+1+r.length) ?_ ?_ ?_ ?_ ?_
 ·intro n d r D k p a q h;rw[show exE (.lvl n) d r=_ from Kj D] at h;by_cases hp:isH (Kf n) r=true
  ·rw[Ap hp] at h;obtain⟨t,C,rfl⟩:=C6 hp;by_cases hd:d=12
   ·rw[Ap hd] at h;cases h
   rw[Ao hd] at h;obtain⟨j,f,g,e⟩:=Gz h;injection e with e;injection e with e i;subst e;subst i
   have:=k t C rfl hp hd j f g
   simp only[Ex.size,Bs,Aa] at this ⊢;omega
  rw[Ao hp] at h;exact p (by simpa using hp) a q h
 ·intro d r k p a q h;rw[show exE (.lvl 7) d r=_ from B3 d r] at h;cases r with
  |nil=>cases h
  |cons t r=>
   simp only at h;cases hl:Dk t with
   |some x=>
    rw[hl] at h;injection h with h;injection h with h i;subst h;subst i;simp only[Ex.size,Bs,Aa];omega
   |none=>
    cases hc:Eh t with
    |some c=>
     rw[hl,hc] at h;obtain⟨g,e,i⟩:=Qx h;obtain⟨t',f,rfl⟩:=C6 g
     have:=k t t' f c rfl hl hc g e a q i
     simp only[Bs,Aa] at this ⊢;omega
    |none=>
     rw[hl,hc] at h;obtain⟨g,e,i⟩:=Qx h;obtain⟨j,f,y,E⟩:=Gz i;have m:=p t r rfl hl hc g e j f y;have o:=v E;simp only[Aa] at m o ⊢;omega
 ·intro n d r i u k p a q h;rw[show exE (.lvl n) d r=_ from Lb i u] at h;obtain⟨j,f,g,e⟩:=Gz h;have m:=k j f g;have o:=p j f g a q e;simp only at m o ⊢;omega
 ·intro n b d r k a q h;rw[show exE (.row n b) d r=_ from Il n b d r] at h;by_cases hz:B6 r (Bt n)=0
  ·rw[Ap hz] at h;injection h with h;injection h with h i;subst h;subst i;exact Ak _
  rw[Ao hz] at h;obtain⟨t,r',rfl⟩:=Fz hz;obtain⟨i,u⟩:=Rr hz;obtain⟨F,G⟩:=k t r' rfl hz i u;obtain⟨j,f,g,e⟩:=Gz h;have m:=F j f g;by_cases h3n:n=3
  ·rw[Ap h3n] at e;injection e with e;injection e with e y;subst e;subst y;simp only[Ex.size,Bs,Aa] at m ⊢;omega
  rw[Ao h3n] at e;have o:=G j f g a q e;simp only[Ex.size,Bs,Aa] at m o ⊢;omega
 intro c ks d r k p a q h;rw[show exE (.args c ks) d r=_ from Ji c ks d r] at h;obtain⟨j,f,g,e⟩:=Gz h;have m:=k j f g;by_cases hm:(isH [44] f && decide (ks.length+1=c.most)||isH [41] f && decide (ks.length+1<c.least))=true
 ·rw[Ap hm] at e;cases e
 rw[Ao hm] at e;by_cases hcm:isH [44] f=true
 ·rw[Ap hcm] at e;obtain⟨t',A,rfl⟩:=C6 hcm;have o:=p j t' A g hcm a q e;simp only[Bs,Pp,Aa] at m o ⊢;omega
 rw[Ao hcm] at e;have o:=v e;simp only[Ex.size,Bs,Pp] at m o ⊢;omega
open Go Go.Lib
def Hd.bare (h:Hd):Hd:=⟨h.op,h.v,h.name,0,0⟩
mutual
def Ex.bare:Ex->Ex| .mk h ks=> .mk h.bare (pG ks)
def pG:List Ex->List Ex|[]=>[]|e::es=>e.bare::pG es
end
def Nd.bare (n:Nd):Nd:=⟨n.h.bare,n.kids⟩
theorem Yx {t t':Tkn}(h:t'.w=t.w):(Dk t').map Hd.bare=(Dk t).map Hd.bare:=by
 unfold Dk;rw[h]
 repeat' split
 all_goals first|rfl|skip
 cases K7 t.w.t<;>rfl
def Ctx (k:Nat)(c:List Tkn)(x:ExR)(a:Ex)(q:List Tkn):Prop:=
 (k≠0/\∃f,x= .error (12,f))\/∃d e,x= .ok (d,e++c)/\d.bare=a.bare/\e.map Tkn.w=q.map Tkn.w
theorem Ctx.next {k:Nat}{c:List Tkn}{x:ExR}{a:Ex}{q:List Tkn}(h:Ctx k c x a q){g:Ex->List Tkn->ExR}{b:Ex}{p:List Tkn}
 (f:∀d e,d.bare=a.bare->e.map Tkn.w=q.map Tkn.w->Ctx k c (g d (e++c)) b p):Ctx k c (x.next g) b p:=by
 rcases h with ⟨i,j,rfl⟩|⟨d,e,rfl,m,n⟩
 ·exact .inl ⟨i,j,rfl⟩
 exact f d e m n
open Go Go.Lib
structure lM (st:Nat->Option Nat)(i s:Nat)(kids:List Nat)(cs:List Nat):Prop where
 len:cs.length=kids.length+1
 first:cs[0]? =some s
 last:cs[kids.length]? =some i
 kid:∀k x y,kids[k]? =some x->cs[k+1]? =some y->x+1=y/\st x=cs[k]?
 rise:∀k x y,cs[k]? =some x->cs[k+1]? =some y->x<y
theorem lM.mono {d c:Nat->Option Nat}{i s:Nat}{kids cs:List Nat}(h:lM d i s kids cs)(g:∀x y,d x=some y->c x=some y):lM c i s kids cs:=by
 refine⟨h.len,h.first,h.last,fun k x y j e=>?_,h.rise⟩;obtain⟨m,f⟩:=h.kid k x y j e;refine⟨m,?_⟩
 have n:k<cs.length:=by
  have:=(List.getElem?_eq_some_iff.1 e).1
  omega
 rw[Ag n] at f ⊢;exact g _ _ f
def off (b:Nat)(l:List Nat)(x:Nat):Option Nat:=if b<=x then l[x - b]? else none
theorem lM.lt {g:Nat->Option Nat}{i s:Nat}{kids cs:List Nat}(h:lM g i s kids cs):∀(k x:Nat),kids[k]? =some x->x<i:=by
 have f:∀(m k x:Nat),k+m=kids.length->cs[k]? =some x->x<=i:=fun m=>by
  induction m with
  |zero=>
   intro k x e c;rw[show k=kids.length by omega,h.last,Option.some.injEq] at c;omega
  |succ m ih=>
   intro k x e c;have d:k+1<cs.length:=by rw[h.len];omega
   have j:=h.rise k x _ c (Ag d);have n:=ih (k+1) _ rF (Ag d);omega
 intro k x c;have o:=(List.getElem?_eq_some_iff.1 c).1;have d:k+1<cs.length:=by rw[h.len];omega
 have j:=(h.kid k x _ c (Ag d)).1;have n:=f (kids.length - (k+1)) (k+1) _ rF (Ag d);omega
end Go.Proofs.YtgfakdobajgnfaaGreatDoor
