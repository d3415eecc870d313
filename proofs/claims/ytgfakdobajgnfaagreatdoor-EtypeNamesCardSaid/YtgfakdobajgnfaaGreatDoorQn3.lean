import Derived.Test.YtgfakdobajgnfaaGreatDoorQn2
set_option maxRecDepth 100000
set_option maxHeartbeats 16000000
namespace Go.Proofs.YtgfakdobajgnfaaGreatDoor
open Go Go.ChangeShapes Go.WideShapes Go.ChangeAt Go.RowKit Go.Deep Go.Lib
theorem eN {n:Int}(h:(Lit.int .u8 n).wf=true):0<=n/\n<=255:=by
 simp [Lit.wf,IntKind.min,IntKind.max,IntKind.signed,IntKind.bits] at h;omega
theorem mA {n:Int}(h:(Lit.int .i64 n).wf=true): -9223372036854775808<=n/\n<=9223372036854775807:=by
 simp [Lit.wf,IntKind.min,IntKind.max,IntKind.signed,IntKind.bits] at h;omega
section
variable {H:Type} {enc:TypeId×Value->H} {w:World} {base:Nat} {spare:Nat->Bool} {held:Bool}
end
open Go Go.RowKit Go.MapKept
theorem Cf {w:World}{B n sz:Nat}{e:TypeId}{v:Value}{xs:List Value}(h:w.ownsRow B e sz v n xs):∀k,v.ownBlock=some k->B<=k:=by
 intro k hk;rcases h.2 with ⟨rfl,_⟩|⟨g,cap,cur,rfl,hb,_⟩
 ·simp [Value.ownBlock] at hk
 simp only[Value.ownBlock,Option.some.injEq] at hk;omega
theorem Cc {W w2:World}{base:Nat}{e:TypeId}{size:Nat}{v:Value}{n:Nat}{xs:List Value}(h:W.ownsRow base e size v n xs)(hb:Below W.heap.size W w2):w2.ownsRow base e size v n xs:=
 h.kept (row:=none) ⟨hb.os,hb.tape,hb.output,hb.size,fun i hi _=>hb.block i hi⟩ (by cases v.ownBlock<;>simp)
theorem Bh {W w2:World}{base:Nat}{e:TypeId}{size:Nat}{v:Value}{n:Nat}{xs:List Value}{S:List Nat}(h:W.ownsRow base e size v n xs)(hb:A8 S W w2)(hn:∀k,v.ownBlock=some k->k∉S):w2.ownsRow base e size v n xs:=by
 refine⟨h.1,?_⟩;rcases h.2 with q|⟨g,cap,cur,rfl,hb1,hg,r⟩
 ·exact .inl q
 exact .inr ⟨g,cap,cur,rfl,hb1,(hb.block g (Ay hg) (hn g rfl)).trans hg,r⟩
theorem D9 {w:World}{B n sz:Nat}{e:TypeId}{v:Value}{xs:List Value}(h:w.ownsRow B e sz v n xs):∃a c,v= .slice a n c:=by
 rcases h.2 with ⟨rfl,q⟩|⟨g,cap,cur,rfl,_⟩
 ·exact⟨none,0,by rw[q]⟩
 exact⟨_,_,rfl⟩
theorem Ss {w:World}{B B' n sz:Nat}{e:TypeId}{v:Value}{xs:List Value}(h:w.ownsRow B e sz v n xs)(hB:B'<=B):w.ownsRow B' e sz v n xs:=by
 refine⟨h.1,?_⟩;rcases h.2 with q|⟨g,cap,cur,e,hb,r⟩
 ·exact .inl q
 exact .inr ⟨g,cap,cur,e,Al hB hb,r⟩
theorem A0 (w:World)(o:Obj):(w.alloc o).heap[w.heap.size]? =some o:=(MapKept.heap_alloc w o).1
theorem Bf {w:World}{B n s k:Nat}{t t':TypeId}{v:Value}{xs:List Value}{cs:Array Value}(h:w.ownsRow B t s v n xs)(hk:w.heap[k]? =some (.cells cs t' (0,0)))(ht:t≠t'):v.ownBlock≠some k:=by
 intro e;rcases h.2 with ⟨rfl,_⟩|⟨g,cap,cur,rfl,_,hg,_⟩
 ·cases e
 simp only[Value.ownBlock,Option.some.injEq] at e;subst e;rw[hg] at hk;injection hk with q;injection q with q1 q2;exact ht q2
open Go Go.RowKit
structure Wd where
 k:Int
 t:List UInt8
 v:Int×Int×List UInt8
structure Tkn where
 w:Wd
 line:Int
 col:Int
def v0:Int×Int×List UInt8:=(0,0,[])
def Dw:List Tkn->List Value
 |[]=>[]
 |t::l=> .int .u8 t.w.k:: .string ⟨t.w.t.toArray⟩:: .int .u8 t.w.v.1:: .int .i64 t.w.v.2.1:: .string ⟨t.w.v.2.2.toArray⟩:: .int .i64 t.line:: .int .i64 t.col::Dw l
theorem Ng (l m:List Tkn):Dw (l++m)=Dw l++Dw m:=by
 induction l with
 |nil=>rfl
 |cons j l ih=>simp [Dw,ih]
theorem Tb:∀(l:List Tkn) (i:Nat) (h:i<l.length),(Dw l)[i*7]? =some (.int .u8 l[i].w.k)/\(Dw l)[i*7+1]? =some (.string ⟨l[i].w.t.toArray⟩)/\(Dw l)[i*7+2]? =some (.int .u8 l[i].w.v.1)/\
 (Dw l)[i*7+3]? =some (.int .i64 l[i].w.v.2.1)/\(Dw l)[i*7+4]? =some (.string ⟨l[i].w.v.2.2.toArray⟩)/\(Dw l)[i*7+5]? =some (.int .i64 l[i].line)/\(Dw l)[i*7+6]? =some (.int .i64 l[i].col)
 |[],i,h=>by simp at h
 |t::l,0,_=>⟨rfl,rfl,rfl,rfl,rfl,rfl,rfl⟩
 |t::l,i+1,h=>by
  have:=Tb l i oQ
  rw[show(i+1)*7=i*7+1+1+1+1+1+1+1 by omega];exact this
def G4 (w:World)(v:Value)(ts:List Tkn):Prop:=
 (v= .slice none 0 0/\ts=[])\/∃b c,v= .slice (some ⟨b,0,none⟩) ts.length c/\ts.length<=c/\b<w.heap.size/\∀j u,(Dw ts)[j]? =some u->w.cell? ⟨b,j,none⟩=some u
theorem G4.below {w w':World}{v:Value}{ts:List Tkn}(h:G4 w v ts)(hb:Below w.heap.size w w'):G4 w' v ts:=by
 rcases h with h|⟨b,c,h1,h4,h2,h3⟩
 ·exact .inl h
 exact .inr ⟨b,c,h1,h4,Nat.lt_of_lt_of_le h2 hb.size,fun j u hj=>(World.cell?_of_block (w:=w) (w':=w') (a:=⟨b,j,none⟩) (hb.block b h2)).trans (h3 j u hj)⟩
theorem G4.of_row {w:World}{B:Nat}{v:Value}{ts:List Tkn}(h:w.ownsRow B 94 7 v ts.length (Dw ts)):G4 w v ts:=by
 rcases h.2 with ⟨e,h0⟩|⟨g,cap,cur,rfl,_,hg,hc,_⟩
 ·exact .inl ⟨e,List.eq_nil_of_length_eq_zero h0⟩
 refine .inr ⟨g,cap,rfl,hc,Ay hg,fun j u hj=>?_⟩
 have:=h.cells (g:=g) rfl j u hj
 rwa [Addr.add_lit,Nat.zero_add] at this
theorem G4.form {w:World}{v:Value}{ts:List Tkn}(h:G4 w v ts):∃a c,v= .slice a ts.length c:=by
 rcases h with ⟨rfl,rfl⟩|⟨b,c,rfl,_⟩
 ·exact⟨none,0,rfl⟩
 exact⟨_,_,rfl⟩
theorem G4.at {w:World}{v:Value}{ts:List Tkn}(h:G4 w v ts){k:Nat}(hk:k<ts.length):∃b c,v= .slice (some ⟨b,0,none⟩) ts.length c/\b<w.heap.size/\
 w.cell? ⟨b,k*7,none⟩=some (.int .u8 ts[k].w.k)/\w.cell? ⟨b,k*7+1,none⟩=some (.string ⟨ts[k].w.t.toArray⟩)/\w.cell? ⟨b,k*7+2,none⟩=some (.int .u8 ts[k].w.v.1)/\w.cell? ⟨b,k*7+3,none⟩=some (.int .i64 ts[k].w.v.2.1)/\
 w.cell? ⟨b,k*7+4,none⟩=some (.string ⟨ts[k].w.v.2.2.toArray⟩)/\w.cell? ⟨b,k*7+5,none⟩=some (.int .i64 ts[k].line)/\w.cell? ⟨b,k*7+6,none⟩=some (.int .i64 ts[k].col):=by
 rcases h with ⟨_,rfl⟩|⟨b,c,rfl,_,h2,h3⟩
 ·simp at hk
 obtain⟨g0,g1,g2,g3,g4,g5,g6⟩:=Tb ts k hk;exact⟨b,c,rfl,h2,h3 _ _ g0,h3 _ _ g1,h3 _ _ g2,h3 _ _ g3,h3 _ _ g4,h3 _ _ g5,h3 _ _ g6⟩
theorem G4.kept {w w':World}{v:Value}{ts:List Tkn}(h:G4 w v ts)(hz:w.heap.size<=w'.heap.size)(he:∀g,v.ownBlock=some g->g<w.heap.size->w'.heap[g]? =w.heap[g]?):G4 w' v ts:=by
 rcases h with h|⟨b,c,rfl,h4,h2,h3⟩
 ·exact .inl h
 exact .inr ⟨b,c,rfl,h4,Nat.lt_of_lt_of_le h2 hz,fun j u hj=>(World.cell?_of_block (w:=w) (w':=w') (a:=⟨b,j,none⟩) (he b rfl h2)).trans (h3 j u hj)⟩
theorem G4.lt {w:World}{v:Value}{ts:List Tkn}(h:G4 w v ts):∀g,v.ownBlock=some g->g<w.heap.size:=fun g e=>by
 rcases h with ⟨rfl,_⟩|⟨b,c,rfl,h4,h2,h3⟩
 ·cases e
 injection e with e;subst e;exact h2
open Go Go.Lib
structure Hd where
 op:Int
 v:Int×Int×List UInt8
 name:List UInt8
 line:Int
 col:Int
structure Nd where
 h:Hd
 kids:List Nat
inductive Ex where
 |mk (h:Hd) (kids:List Ex)
def Ex.hd:Ex->Hd| .mk h _=>h
def Ex.kids:Ex->List Ex| .mk _ ks=>ks
mutual
def Ex.size:Ex->Nat| .mk _ ks=>Bs ks+1
def Bs:List Ex->Nat|[]=>0|e::es=>e.size+Bs es
end
def D4:List Ex->Nat->List Nat|[],_=>[]|e::es,b=>(b+e.size - 1)::D4 es (b+e.size)
mutual
def Ex.flat:Ex->Nat->List Nd| .mk h ks,b=>B3 ks b++[⟨h,D4 ks b⟩]
def B3:List Ex->Nat->List Nd|[],_=>[]|e::es,b=>e.flat b++B3 es (b+e.size)
end
theorem Ex.size_pos (e:Ex):1<=e.size:=by
 cases e;simp [Ex.size]
mutual
theorem Ex.flat_len:∀(e:Ex) (b:Nat),(e.flat b).length=e.size
 | .mk h ks,b=>by simp [Ex.flat,Ex.size,Cr ks b]
theorem Cr:∀(l:List Ex) (b:Nat),(B3 l b).length=Bs l
 |[],b=>rfl
 |e::es,b=>by simp [B3,Bs,Ex.flat_len e b,Cr es (b+e.size)]
end
theorem Nb:∀(l:List Ex) (b:Nat),(D4 l b).length=l.length
 |[],_=>rfl
 |e::es,b=>by simp [D4,Nb es]
theorem Pa:∀(l m:List Ex),Bs (l++m)=Bs l+Bs m
 |[],m=>by simp [Bs]
 |e::l,m=>by simp [Bs,Pa l m,Nat.add_assoc]
theorem Om:∀(l m:List Ex) (b:Nat),B3 (l++m) b=B3 l b++B3 m (b+Bs l)
 |[],m,b=>by simp [B3,Bs]
 |e::l,m,b=>by simp [B3,Bs,Om l m,Nat.add_assoc]
theorem Qx:∀(l m:List Ex) (b:Nat),D4 (l++m) b=D4 l b++D4 m (b+Bs l)
 |[],m,b=>by simp [D4,Bs]
 |e::l,m,b=>by simp [D4,Bs,Qx l m,Nat.add_assoc]
def isH (s:List UInt8):List Tkn->Bool
 |t::_=>decide (t.w.t=s) && (decide (t.w.k=1)||decide (t.w.k=7))
 |[]=>false
def plH:List Tkn->Int×Int
 |t::_=>(t.line,t.col)
 |[]=>(0,0)
def Bq (lvl:Nat):List (List UInt8×Int):=
 if lvl=0 then[([111,114],4)] else if lvl=1 then[([97,110,100],5)]
 else if lvl=3 then[([61],7),([60,62],8),([60],9),([60,61],10),([62],11),([62,61],12)]
 else if lvl=4 then[([43],13),([45],14)] else if lvl=5 then[([42],15),([47],16)] else[]
def B2 (r:List Tkn):List (List UInt8×Int)->Int
 |[]=>0
 |(s,o)::l=>if isH s r then o else B2 r l
def C9 (s:List UInt8):Option (Int×Nat×Nat):=
 if s=[97,98,115] then some (18,1,1) else if s=[109,105,110] then some (19,1,8) else if s=[109,97,120] then some (20,1,8)
 else if s=[109,111,100] then some (21,2,2) else if s=[108,101,110,103,116,104] then some (22,1,1) else if s=[117,112,112,101,114] then some (23,1,1)
 else if s=[99,111,110,116,97,105,110,115] then some (24,2,2) else if s=[115,116,97,114,116,115] then some (25,2,2) else if s=[105,102] then some (26,3,3) else none
def Kb (s:List UInt8):Option (Int×Int×List UInt8):=
 if s=[116,114,117,101] then some (4,1,[]) else if s=[102,97,108,115,101] then some (4,0,[]) else if s=[110,117,108,108] then some v0 else none
def Jl (n:Nat):List UInt8:=if n=2 then[110,111,116] else[45]
def K5 (n:Nat):Int:=if n=2 then 6 else 17
structure Cl where
 op:Int
 least:Nat
 most:Nat
 line:Int
 col:Int
inductive F3 where
 |lvl (n:Nat)
 |row (n:Nat) (a:Ex)
 |args (c:Cl) (kids:List Ex)
abbrev ExR:=Except (Int×List Tkn) (Ex×List Tkn)
def Da (t:Tkn):Option Hd:=
 if t.w.k=4\/t.w.k=5\/t.w.k=6 then some ⟨1,t.w.v,[],t.line,t.col⟩
 else if t.w.k=2 then some ⟨2,v0,t.w.t,t.line,t.col⟩
 else if t.w.k=3 then some ⟨3,v0,[],t.line,t.col⟩
 else if t.w.k=1 then(match C9 t.w.t with|some _=>none|none=>(Kb t.w.t).map fun v=>⟨1,v,[],t.line,t.col⟩)
 else none
def Eb (t:Tkn):Option Cl:=if t.w.k=1 then(C9 t.w.t).map fun c=>⟨c.1,c.2.1,c.2.2,t.line,t.col⟩ else none
def ExR.next (x:ExR)(g:Ex->List Tkn->ExR):ExR:=
 match x with
 | .error e=> .error e
 | .ok (a,q)=>g a q
def B8 (d:Nat)(r:List Tkn)(g:List Tkn->ExR):ExR:=if isH [40] r then(if d=12 then .error (12,r) else g r.tail) else .error (4,r)
def Dx (a:Ex)(q:List Tkn):ExR:=if isH [41] q then .ok (a,q.tail) else .error (4,q)
def B7:Nat->F3->Nat->List Tkn->ExR
 |0,_,_,r=> .error (0,r)
 |f+1,.lvl n,d,r=>
  if n=2\/n=6 then
   if isH (Jl n) r then
    if d=12 then .error (12,r) else
     (B7 f (.lvl n) (d+1) r.tail).next fun a q=> .ok (.mk ⟨K5 n,v0,[],(plH r).1,(plH r).2⟩ [a],q)
   else B7 f (.lvl (n+1)) d r
  else if n=7 then
   match r with
   |[]=> .error (4,[])
   |t::q=>
    match Da t,Eb t with
    |some h,_=> .ok (.mk h [],q)
    |none,some c=>B8 d q fun q'=>B7 f (.args c []) (d+1) q'
    |none,none=>B8 d (t::q) fun q'=>(B7 f (.lvl 0) (d+1) q').next Dx
  else(B7 f (.lvl (n+1)) d r).next fun a q=>B7 f (.row n a) d q
 |f+1,.row n a,d,r=>
  if B2 r (Bq n)=0 then .ok (a,r) else
   (B7 f (.lvl (n+1)) d r.tail).next fun b q=>
    if n=3 then .ok (.mk ⟨B2 r (Bq n),v0,[],(plH r).1,(plH r).2⟩ [a,b],q)
    else B7 f (.row n (.mk ⟨B2 r (Bq n),v0,[],(plH r).1,(plH r).2⟩ [a,b])) d q
 |f+1,.args c kids,d,r=>
  (B7 f (.lvl 0) d r).next fun a q=>
   if isH [44] q && decide (kids.length+1=c.most)||isH [41] q && decide (kids.length+1<c.least) then .error (14,q)
   else if isH [44] q then B7 f (.args c (kids++[a])) d q.tail
   else Dx (.mk ⟨c.op,v0,[],c.line,c.col⟩ (kids++[a])) q
def Br:F3->List Tkn->Nat
 | .lvl n,r=>r.length*10+(8 - n)
 | .row _ _,r=>r.length*10+9
 | .args _ _,r=>r.length*10+9
def Suf (q r:List Tkn):Prop:=∃k,q=r.drop k
theorem Suf.refl (r:List Tkn):Suf r r:=⟨0,rfl⟩
theorem Suf.trans {a b c:List Tkn}(h:Suf a b)(k:Suf b c):Suf a c:=by
 obtain⟨i,rfl⟩:=h;obtain⟨j,rfl⟩:=k;exact⟨j+i,by rw[List.drop_drop]⟩
theorem Suf.tail {a b:List Tkn}(h:Suf a b.tail):Suf a b:=h.trans ⟨1,by simp⟩
theorem Suf.len {q r:List Tkn}(h:Suf q r):q.length<=r.length:=by
 obtain⟨k,rfl⟩:=h;simp
theorem Suf.cons {t:Tkn}{a b:List Tkn}(h:Suf a b):Suf a (t::b):=h.trans ⟨1,rfl⟩
theorem Cx {s:List UInt8}{r:List Tkn}(h:isH s r=true):∃t q,r=t::q:=by
 cases r with
 |nil=>cases h
 |cons t q=>exact⟨t,q,rfl⟩
theorem Fk {r:List Tkn}:∀{l:List (List UInt8×Int)},B2 r l≠0->∃t q,r=t::q
 |[],h=>absurd rfl h
 |(s,o)::l,h=>by
  unfold B2 at h;by_cases e:isH s r=true
  ·exact Cx e
  rw[Ao e] at h;exact Fk h
def jU:F3->List Tkn->ExR->Prop
 |_,r,.error (_,q)=>Suf q r
 | .row _ _,r,.ok (_,q)=>Suf q r
 |_,r,.ok (_,q)=>Suf q r/\q.length<r.length
theorem jU.suf {td:F3}{r:List Tkn}{a:Ex}{q:List Tkn}(h:jU td r (.ok (a,q))):Suf q r:=by
 cases td with
 |lvl n=>exact h.1
 |row n a=>exact h
 |args c k=>exact h.1
theorem S4:∀(f:Nat) (td:F3) (d:Nat) (r:List Tkn),(∀n,td= .lvl n->n<=7)->Br td r<f->jU td r (B7 f td d r)/\∀g,Br td r<g->B7 g td d r=B7 f td d r:=by
 intro f
 induction f with
 |zero=>intro td d r _ h;exact absurd h (Nat.not_lt_zero _)
 |succ f ih=>
  intro td d r hn h
  have lv:∀{n:Nat} {d:Nat} {r':List Tkn},n<=7->Br (.lvl n) r'<f->(match B7 f (.lvl n) d r' with| .error e=>Suf e.2 r'| .ok p=>Suf p.2 r'/\p.2.length<r'.length)/\∀g,Br (.lvl n) r'<g->B7 g (.lvl n) d r'=B7 f (.lvl n) d r':=fun{n d r'} h7 hr=>by
   have:=ih (.lvl n) d r' (fun m e=>by injection e with e;omega) hr
   refine⟨?_,this.2⟩;have h1:=this.1
   revert h1
   cases B7 f (.lvl n) d r' with
   |error e=>exact id
   |ok p=>exact id
  have rw':∀{n:Nat} {a:Ex} {d:Nat} {r':List Tkn},Br (.row n a) r'<f->(match B7 f (.row n a) d r' with| .error e=>Suf e.2 r'| .ok p=>Suf p.2 r')/\∀g,Br (.row n a) r'<g->B7 g (.row n a) d r'=B7 f (.row n a) d r':=fun{n a d r'} hr=>by
   have:=ih (.row n a) d r' (fun m e=>by cases e) hr
   refine⟨?_,this.2⟩;have h1:=this.1
   revert h1
   cases B7 f (.row n a) d r' with
   |error e=>exact id
   |ok p=>exact id
  have ar:∀{c:Cl} {ks:List Ex} {d:Nat} {r':List Tkn},Br (.args c ks) r'<f->(match B7 f (.args c ks) d r' with| .error e=>Suf e.2 r'| .ok p=>Suf p.2 r'/\p.2.length<r'.length)/\∀g,Br (.args c ks) r'<g->B7 g (.args c ks) d r'=B7 f (.args c ks) d r':=fun{c ks d r'} hr=>by
   have:=ih (.args c ks) d r' (fun m e=>by cases e) hr
   refine⟨?_,this.2⟩;have h1:=this.1
   revert h1
   cases B7 f (.args c ks) d r' with
   |error e=>exact id
   |ok p=>exact id
  have sh:∀(a:Ex) (q:List Tkn),(match Dx a q with| .error e=>Suf e.2 q| .ok p=>Suf p.2 q/\p.2.length<q.length):=fun a q=>by
   unfold Dx;by_cases e:isH [41] q=true
   ·rw[Ap e];obtain⟨t,q',rfl⟩:=Cx e;exact⟨⟨1,rfl⟩,by simp⟩
   rw[Ao e];exact Suf.refl _
  clear ih;cases td with
  |lvl n=>
   have hn7:=hn n rfl;simp only[Br] at h lv;by_cases h26:n=2\/n=6
   ·by_cases hp:isH (Jl n) r=true
    ·obtain⟨t,q,rfl⟩:=Cx hp;by_cases hd:d=12
     ·refine⟨?_,fun g hg=>?_⟩
      ·simp only[B7,Ap h26,Ap hp,Ap hd];exact Suf.refl _
      obtain⟨g,rfl⟩:∃g',g=g'+1:=⟨g - 1,by omega⟩;simp only[B7,Ap h26,Ap hp,Ap hd]
     simp only[Aa] at h;obtain⟨h1,h2⟩:=lv (n:=n) (d:=d+1) (r':=q) hn7 nU;refine⟨?_,fun g hg=>?_⟩
     ·simp only[B7,Ap h26,Ap hp,Ao hd,List.tail_cons]
      revert h1
      cases B7 f (.lvl n) (d+1) q with
      |error e=>exact fun h1=>Suf.cons h1
      |ok p=>exact fun h1=>⟨Suf.cons h1.1,by have:=h1.2;simp only[Aa];omega⟩
     obtain⟨g,rfl⟩:∃g',g=g'+1:=⟨g - 1,by omega⟩;simp only[Br,Aa] at hg;simp only[B7,Ap h26,Ap hp,Ao hd,List.tail_cons];rw[h2 g nU]
    obtain⟨h1,h2⟩:=lv (n:=n+1) (d:=d) (r':=r) nU nU;refine⟨?_,fun g hg=>?_⟩
    ·simp only[B7,Ap h26,Ao hp]
     revert h1
     cases B7 f (.lvl (n+1)) d r with
     |error e=>exact id
     |ok p=>exact id
    obtain⟨g,rfl⟩:∃g',g=g'+1:=⟨g - 1,by omega⟩;simp only[Br] at hg;simp only[B7,Ap h26,Ao hp];exact h2 g nU
   by_cases h7:n=7
   ·cases r with
    |nil=>
     refine⟨?_,fun g hg=>?_⟩
     ·simp only[B7,Ao h26,Ap h7];exact Suf.refl _
     obtain⟨g,rfl⟩:∃g',g=g'+1:=⟨g - 1,by omega⟩;simp only[B7,Ao h26,Ap h7]
    |cons t q=>
     simp only[Aa] at h
     have hgo:∀g,B7 (g+1) (.lvl n) d (t::q)=(match Da t,Eb t with
      |some h,_=> .ok (.mk h [],q)
      |none,some c=>B8 d q fun q'=>B7 g (.args c []) (d+1) q'
      |none,none=>B8 d (t::q) fun q'=>(B7 g (.lvl 0) (d+1) q').next Dx):=fun g=>by
      simp only[B7,Ao h26,Ap h7]
     rw[hgo f];cases hl:Da t with
     |some x=>
      refine⟨⟨⟨1,rfl⟩,by simp⟩,fun g hg=>?_⟩;obtain⟨g,rfl⟩:∃g',g=g'+1:=⟨g - 1,by omega⟩;rw[hgo g,hl]
     |none=>
      cases hc:Eb t with
      |some c=>
       simp only;by_cases ho:isH [40] q=true
       ·obtain⟨t',q',rfl⟩:=Cx ho;by_cases hd:d=12
        ·refine⟨?_,fun g hg=>?_⟩
         ·simp only[B8,Ap ho,Ap hd];exact⟨1,rfl⟩
         obtain⟨g,rfl⟩:∃g',g=g'+1:=⟨g - 1,by omega⟩;rw[hgo g,hl,hc];simp only[B8,Ap ho,Ap hd]
        simp only[Aa] at h;obtain⟨h1,h2⟩:=ar (c:=c) (ks:=[]) (d:=d+1) (r':=q') oG;refine⟨?_,fun g hg=>?_⟩
        ·simp only[B8,Ap ho,Ao hd,List.tail_cons]
         revert h1
         cases B7 f (.args c []) (d+1) q' with
         |error e=>exact fun h1=>Suf.cons (Suf.cons h1)
         |ok p=>exact fun h1=>⟨Suf.cons (Suf.cons h1.1),by have:=h1.2;simp only[Aa];omega⟩
        obtain⟨g,rfl⟩:∃g',g=g'+1:=⟨g - 1,by omega⟩;simp only[Br,Aa] at hg;rw[hgo g,hl,hc];simp only[B8,Ap ho,Ao hd,List.tail_cons];exact h2 g oG
       refine⟨?_,fun g hg=>?_⟩
       ·simp only[B8,Ao ho];exact⟨1,rfl⟩
       obtain⟨g,rfl⟩:∃g',g=g'+1:=⟨g - 1,by omega⟩;rw[hgo g,hl,hc];simp only[B8,Ao ho]
      |none=>
       simp only;by_cases ho:isH [40] (t::q)=true
       ·by_cases hd:d=12
        ·refine⟨?_,fun g hg=>?_⟩
         ·simp only[B8,Ap ho,Ap hd];exact Suf.refl _
         obtain⟨g,rfl⟩:∃g',g=g'+1:=⟨g - 1,by omega⟩;rw[hgo g,hl,hc];simp only[B8,Ap ho,Ap hd]
        obtain⟨h1,h2⟩:=lv (n:=0) (d:=d+1) (r':=q) nU nU;refine⟨?_,fun g hg=>?_⟩
        ·simp only[B8,Ap ho,Ao hd,List.tail_cons]
         revert h1
         cases B7 f (.lvl 0) (d+1) q with
         |error e=>exact fun h1=>Suf.cons h1
         |ok p=>
          intro h1;obtain⟨h3,h4⟩:=h1;have hs:=sh p.1 p.2;simp only[ExR.next]
          revert hs
          cases Dx p.1 p.2 with
          |error e=>exact fun hs=>Suf.cons (Suf.trans hs h3)
          |ok p'=>exact fun hs=>⟨Suf.cons (hs.1.trans h3),by have:=hs.2;simp only[Aa];omega⟩
        obtain⟨g,rfl⟩:∃g',g=g'+1:=⟨g - 1,by omega⟩;simp only[Br,Aa] at hg;rw[hgo g,hl,hc];simp only[B8,Ap ho,Ao hd,List.tail_cons];rw[h2 g nU]
       refine⟨?_,fun g hg=>?_⟩
       ·simp only[B8,Ao ho];exact Suf.refl _
       obtain⟨g,rfl⟩:∃g',g=g'+1:=⟨g - 1,by omega⟩;rw[hgo g,hl,hc];simp only[B8,Ao ho]
   obtain⟨h1,h2⟩:=lv (n:=n+1) (d:=d) (r':=r) nU nU;refine⟨?_,fun g hg=>?_⟩
   ·simp only[B7,Ao h26,Ao h7]
    revert h1
    cases B7 f (.lvl (n+1)) d r with
    |error e=>exact id
    |ok p=>
     intro h1;obtain⟨h3,h4⟩:=h1;obtain⟨h5,_⟩:=rw' (n:=n) (a:=p.1) (d:=d) (r':=p.2) oG;simp only[ExR.next]
     revert h5
     cases B7 f (.row n p.1) d p.2 with
     |error e=>exact fun h5=>Suf.trans h5 h3
     |ok p'=>exact fun h5=>⟨Suf.trans h5 h3,by have:=Suf.len h5;omega⟩
   obtain⟨g,rfl⟩:∃g',g=g'+1:=⟨g - 1,by omega⟩;simp only[Br] at hg;simp only[B7,Ao h26,Ao h7];rw[h2 g nU]
   revert h1
   cases B7 f (.lvl (n+1)) d r with
   |error e=>exact fun _=>rfl
   |ok p=>
    intro h1;obtain⟨h3,h4⟩:=h1;obtain⟨_,h6⟩:=rw' (n:=n) (a:=p.1) (d:=d) (r':=p.2) oG;exact h6 g oG
  |row n a=>
   by_cases hz:B2 r (Bq n)=0
   ·refine⟨?_,fun g hg=>?_⟩
    ·simp only[B7,Ap hz];exact Suf.refl _
    obtain⟨g,rfl⟩:∃g',g=g'+1:=⟨g - 1,by omega⟩;simp only[B7,Ap hz]
   have hn5:n<=5:=by
    refine Nat.le_of_not_lt fun hh=>hz ?_
    rw[show Bq n=[] by unfold Bq;rw[Ao nU,Ao nU,Ao nU,Ao nU,Ao nU]];rfl
   obtain⟨t,q,rfl⟩:=Fk hz;simp only[Br,Aa] at h;obtain⟨h1,h2⟩:=lv (n:=n+1) (d:=d) (r':=q) nU oG;refine⟨?_,fun g hg=>?_⟩
   ·simp only[B7,Ao hz,List.tail_cons]
    revert h1
    cases B7 f (.lvl (n+1)) d q with
    |error e=>exact fun h1=>Suf.cons h1
    |ok p=>
     intro h1;obtain⟨h3,h4⟩:=h1;simp only[ExR.next];by_cases h3n:n=3
     ·rw[Ap h3n];exact Suf.cons h3
     rw[Ao h3n];obtain⟨h5,_⟩:=rw' (n:=n) (a:= .mk ⟨B2 (t::q) (Bq n),v0,[],(plH (t::q)).1,(plH (t::q)).2⟩ [a,p.1]) (d:=d) (r':=p.2) oG
     revert h5
     cases B7 f (.row n (.mk ⟨B2 (t::q) (Bq n),v0,[],(plH (t::q)).1,(plH (t::q)).2⟩ [a,p.1])) d p.2 with
     |error e=>exact fun h5=>Suf.cons (Suf.trans h5 h3)
     |ok p'=>exact fun h5=>Suf.cons (Suf.trans h5 h3)
   obtain⟨g,rfl⟩:∃g',g=g'+1:=⟨g - 1,by omega⟩;simp only[Br,Aa] at hg;simp only[B7,Ao hz,List.tail_cons];rw[h2 g oG]
   revert h1
   cases B7 f (.lvl (n+1)) d q with
   |error e=>exact fun _=>rfl
   |ok p=>
    intro h1;obtain⟨h3,h4⟩:=h1;simp only[ExR.next];by_cases h3n:n=3
    ·rw[Ap h3n,Ap h3n]
    rw[Ao h3n,Ao h3n];obtain⟨_,h6⟩:=rw' (n:=n) (a:= .mk ⟨B2 (t::q) (Bq n),v0,[],(plH (t::q)).1,(plH (t::q)).2⟩ [a,p.1]) (d:=d) (r':=p.2) oG;exact h6 g oG
  |args c kids=>
   simp only[Br] at h;obtain⟨h1,h2⟩:=lv (n:=0) (d:=d) (r':=r) nU oG;refine⟨?_,fun g hg=>?_⟩
   ·simp only[B7]
    revert h1
    cases B7 f (.lvl 0) d r with
    |error e=>exact id
    |ok p=>
     intro h1;obtain⟨h3,h4⟩:=h1;simp only[ExR.next];by_cases hm:(isH [44] p.2 && decide (kids.length+1=c.most)||isH [41] p.2 && decide (kids.length+1<c.least))=true
     ·rw[Ap hm];exact h3
     rw[Ao hm];by_cases hc:isH [44] p.2=true
     ·rw[Ap hc];obtain⟨t,q,e⟩:=Cx hc;have e':=Ar List.length e;simp only[Aa] at e';have ht:p.2.tail.length<p.2.length:=by rw[e];simp
      obtain⟨h5,_⟩:=ar (c:=c) (ks:=kids++[p.1]) (d:=d) (r':=p.2.tail) oG
      revert h5
      cases B7 f (.args c (kids++[p.1])) d p.2.tail with
      |error e=>exact fun h5=>Suf.trans (Suf.tail h5) h3
      |ok p'=>exact fun h5=>⟨(Suf.tail h5.1).trans h3,by have:=h5.2;omega⟩
     rw[Ao hc];have hs:=sh (.mk ⟨c.op,v0,[],c.line,c.col⟩ (kids++[p.1])) p.2
     revert hs
     cases Dx (.mk ⟨c.op,v0,[],c.line,c.col⟩ (kids++[p.1])) p.2 with
     |error e=>exact fun hs=>Suf.trans hs h3
     |ok p'=>exact fun hs=>⟨hs.1.trans h3,by have:=hs.2;omega⟩
   obtain⟨g,rfl⟩:∃g',g=g'+1:=⟨g - 1,by omega⟩;simp only[Br] at hg;simp only[B7];rw[h2 g oG]
   revert h1
   cases B7 f (.lvl 0) d r with
   |error e=>exact fun _=>rfl
   |ok p=>
    intro h1;obtain⟨h3,h4⟩:=h1;simp only[ExR.next];by_cases hm:(isH [44] p.2 && decide (kids.length+1=c.most)||isH [41] p.2 && decide (kids.length+1<c.least))=true
    ·rw[Ap hm,Ap hm]
    rw[Ao hm,Ao hm];by_cases hc:isH [44] p.2=true
    ·rw[Ap hc,Ap hc];obtain⟨t,q,e⟩:=Cx hc;have ht:p.2.tail.length<p.2.length:=by rw[e];simp
     obtain⟨_,h6⟩:=ar (c:=c) (ks:=kids++[p.1]) (d:=d) (r':=p.2.tail) oG;exact h6 g oG
    rw[Ao hc,Ao hc]
open Go Go.Lib
def exE (td:F3)(d:Nat)(r:List Tkn):ExR:=B7 (Br td r+1) td d r
abbrev A9 (n d:Nat)(r:List Tkn):ExR:=exE (.lvl n) d r
abbrev R8 (n:Nat)(a:Ex)(d:Nat)(r:List Tkn):ExR:=exE (.row n a) d r
abbrev F5 (c:Cl)(ks:List Ex)(d:Nat)(r:List Tkn):ExR:=exE (.args c ks) d r
def F3.ok:F3->Prop| .lvl n=>n<=7|_=>True
theorem F3.ok_lvl {td:F3}(h:td.ok):∀n,td= .lvl n->n<=7:=fun n e=>by subst e;exact h
theorem Gl {f:Nat}{td:F3}{d:Nat}{r:List Tkn}(ht:td.ok)(h:Br td r<f):B7 f td d r=exE td d r:=
 (S4 f td d r (F3.ok_lvl ht) h).2 _ (Nat.lt_succ_self _)▸rfl
theorem Wi {td:F3}(ht:td.ok)(d:Nat)(r:List Tkn):jU td r (exE td d r):=(S4 _ td d r (F3.ok_lvl ht) (Nat.lt_succ_self _)).1
theorem ExR.next_congr {x:ExR}{g g':Ex->List Tkn->ExR}(h:∀a q,x= .ok (a,q)->g a q=g' a q):x.next g=x.next g':=by
 cases x with
 |error e=>rfl
 |ok p=>exact h p.1 p.2 rfl
theorem Dj {n d:Nat}{r:List Tkn}{a:Ex}{q:List Tkn}(h7:n<=7)(h:A9 n d r= .ok (a,q)):Suf q r/\q.length<r.length:=by
 have:=Wi (td:= .lvl n) h7 d r
 rw[show exE (.lvl n) d r= .ok (a,q) from h] at this;exact this
theorem jP {td:F3}(ht:td.ok){d:Nat}{r q:List Tkn}{e:Int}(h:exE td d r= .error (e,q)):Suf q r:=by
 have:=Wi ht d r
 rw[h] at this;cases td<;>exact this
theorem Qu (f n d:Nat)(r:List Tkn):B7 (f+1) (.lvl n) d r=if n=2\/n=6 then
 if isH (Jl n) r then
  if d=12 then .error (12,r) else
   (B7 f (.lvl n) (d+1) r.tail).next fun a q=> .ok (.mk ⟨K5 n,v0,[],(plH r).1,(plH r).2⟩ [a],q)
 else B7 f (.lvl (n+1)) d r
 else if n=7 then
  match r with
  |[]=> .error (4,[])
  |t::q=>
   match Da t,Eb t with
   |some h,_=> .ok (.mk h [],q)
   |none,some c=>B8 d q fun q'=>B7 f (.args c []) (d+1) q'
   |none,none=>B8 d (t::q) fun q'=>(B7 f (.lvl 0) (d+1) q').next Dx
 else(B7 f (.lvl (n+1)) d r).next fun a q=>B7 f (.row n a) d q:=rfl
theorem eC (f n d:Nat)(a:Ex)(r:List Tkn):B7 (f+1) (.row n a) d r=if B2 r (Bq n)=0 then .ok (a,r) else
 (B7 f (.lvl (n+1)) d r.tail).next fun b q=>
  if n=3 then .ok (.mk ⟨B2 r (Bq n),v0,[],(plH r).1,(plH r).2⟩ [a,b],q)
  else B7 f (.row n (.mk ⟨B2 r (Bq n),v0,[],(plH r).1,(plH r).2⟩ [a,b])) d q:=rfl
theorem bS (f d:Nat)(c:Cl)(kids:List Ex)(r:List Tkn):B7 (f+1) (.args c kids) d r=
 (B7 f (.lvl 0) d r).next fun a q=>
  if isH [44] q && decide (kids.length+1=c.most)||isH [41] q && decide (kids.length+1<c.least) then .error (14,q)
  else if isH [44] q then B7 f (.args c (kids++[a])) d q.tail
  else Dx (.mk ⟨c.op,v0,[],c.line,c.col⟩ (kids++[a])) q:=rfl
theorem Jn {n d:Nat}{r:List Tkn}(h:n=2\/n=6):A9 n d r=
 if isH (Jl n) r then(if d=12 then .error (12,r) else(A9 n (d+1) r.tail).next fun a q=> .ok (.mk ⟨K5 n,v0,[],(plH r).1,(plH r).2⟩ [a],q)) else A9 (n+1) d r:=by
 have h7:n<=7:=by omega
 show B7 (Br (.lvl n) r+1) (.lvl n) d r=_;rw[Qu,Ap h];by_cases hp:isH (Jl n) r=true
 ·rw[Ap hp,Ap hp];by_cases hd:d=12
  ·rw[Ap hd,Ap hd]
  rw[Ao hd,Ao hd];obtain⟨t,q,rfl⟩:=Cx hp;rw[List.tail_cons,Gl (td:= .lvl n) h7 pZ]
 rw[Ao hp,Ao hp,Gl (td:= .lvl (n+1)) oS oG]
theorem Bw (d:Nat)(r:List Tkn):A9 7 d r=match r with
 |[]=> .error (4,[])
 |t::q=>match Da t,Eb t with
  |some h,_=> .ok (.mk h [],q)
  |none,some c=>B8 d q fun q'=>F5 c [] (d+1) q'
  |none,none=>B8 d (t::q) fun q'=>(A9 0 (d+1) q').next Dx:=by
 show B7 (Br (.lvl 7) r+1) (.lvl 7) d r=_;rw[Qu,Ao nU,Ap rfl];cases r with
 |nil=>rfl
 |cons t q=>
  simp only;cases Da t with
  |some x=>rfl
  |none=>
   cases Eb t with
   |some c=>
    simp only[B8];by_cases ho:isH [40] q=true
    ·obtain⟨t',q',rfl⟩:=Cx ho;rw[List.tail_cons,Gl (td:= .args c []) trivial pZ]
    rw[Ao ho,Ao ho]
   |none=>
    simp only[B8,List.tail_cons];rw[Gl (td:= .lvl 0) oS pZ]
theorem K4 {n d:Nat}{r:List Tkn}(h:n<=5)(h2:n≠2):A9 n d r=(A9 (n+1) d r).next fun a q=>R8 n a d q:=by
 show B7 (Br (.lvl n) r+1) (.lvl n) d r=_;rw[Qu,Ao nU,Ao nU,Gl (td:= .lvl (n+1)) oS oG];refine ExR.next_congr fun a q e=>?_
 have hs:=Dj (n:=n+1) nU e;exact Gl (td:= .row n a) trivial oG
theorem Sv {n:Nat}(h:5<n):Bq n=[]:=by
 unfold Bq;rw[Ao nU,Ao nU,Ao nU,Ao nU,Ao nU]
theorem G3 (n:Nat)(a:Ex)(d:Nat)(r:List Tkn):R8 n a d r=
 if B2 r (Bq n)=0 then .ok (a,r) else
  (A9 (n+1) d r.tail).next fun b q=>
   if n=3 then .ok (.mk ⟨B2 r (Bq n),v0,[],(plH r).1,(plH r).2⟩ [a,b],q)
   else R8 n (.mk ⟨B2 r (Bq n),v0,[],(plH r).1,(plH r).2⟩ [a,b]) d q:=by
 show B7 (Br (.row n a) r+1) (.row n a) d r=_;rw[eC];by_cases hz:B2 r (Bq n)=0
 ·rw[Ap hz,Ap hz]
 rw[Ao hz,Ao hz];have hn:n<=5:=Nat.le_of_not_lt fun hh=>hz (by rw[Sv hh];rfl)
 obtain⟨t,q,rfl⟩:=Fk hz;rw[List.tail_cons,Gl (td:= .lvl (n+1)) oS pZ];refine ExR.next_congr fun b q' e=>?_
 have hs:=Dj (n:=n+1) nU e;rw[Gl (td:= .row n _) trivial pZ]
theorem Ig (c:Cl)(ks:List Ex)(d:Nat)(r:List Tkn):F5 c ks d r=
 (A9 0 d r).next fun a q=>
  if isH [44] q && decide (ks.length+1=c.most)||isH [41] q && decide (ks.length+1<c.least) then .error (14,q)
  else if isH [44] q then F5 c (ks++[a]) d q.tail
  else Dx (.mk ⟨c.op,v0,[],c.line,c.col⟩ (ks++[a])) q:=by
 show B7 (Br (.args c ks) r+1) (.args c ks) d r=_;rw[bS,Gl (td:= .lvl 0) oS oG];refine ExR.next_congr fun a q e=>?_
 have hs:=Dj (n:=0) nU e;by_cases hm:(isH [44] q && decide (ks.length+1=c.most)||isH [41] q && decide (ks.length+1<c.least))=true
 ·rw[Ap hm,Ap hm]
 rw[Ao hm,Ao hm];by_cases hc:isH [44] q=true
 ·rw[Ap hc,Ap hc];exact Gl (td:= .args c (ks++[a])) trivial (by simp only[Br,List.length_tail];omega)
 rw[Ao hc,Ao hc]
theorem eM:Bq 2=[]:=rfl
theorem Ue {P:F3->Nat->List Tkn->Prop}
 (hpre:∀n d r,(n=2\/n=6)->(∀t q,r=t::q->isH (Jl n) r=true->d≠12->P (.lvl n) (d+1) q)->(isH (Jl n) r=false->P (.lvl (n+1)) d r)->P (.lvl n) d r)
 (hatom:∀d r,(∀t t' q c,r=t::t'::q->Da t=none->Eb t=some c->isH [40] (t'::q)=true->d≠12->P (.args c []) (d+1) q)->(∀t q,r=t::q->Da t=none->Eb t=none->isH [40] r=true->d≠12->P (.lvl 0) (d+1) q)->P (.lvl 7) d r)
 (hlrow:∀n d r,n<=5->n≠2->P (.lvl (n+1)) d r->(∀a q,A9 (n+1) d r= .ok (a,q)->P (.row n a) d q)->P (.lvl n) d r)
 (hrow:∀n a d r,(∀t q,r=t::q->B2 r (Bq n)≠0->n<=5->n≠2->P (.lvl (n+1)) d q/\∀b q',A9 (n+1) d q= .ok (b,q')->P (.row n (.mk ⟨B2 r (Bq n),v0,[],(plH r).1,(plH r).2⟩ [a,b])) d q')->P (.row n a) d r)
 (hargs:∀c ks d r,P (.lvl 0) d r->(∀a t q,A9 0 d r= .ok (a,t::q)->isH [44] (t::q)=true->P (.args c (ks++[a])) d q)->P (.args c ks) d r):
 ∀td d r,td.ok->P td d r:=by
 have key:∀(k:Nat) (td:F3) (d:Nat) (r:List Tkn),td.ok->Br td r<k->P td d r:=by
  intro k
  induction k with
  |zero=>intro td d r _ h;exact absurd h (Nat.not_lt_zero _)
  |succ k ih=>
   intro td d r hok h;cases td with
   |lvl n=>
    have h7:n<=7:=hok;simp only[Br] at h;by_cases h26:n=2\/n=6
    ·refine hpre n d r h26 (fun t q e hp hd=>?_) fun hp=>ih (.lvl (n+1)) d r oS oG
     subst e;simp only[Aa] at h;exact ih (.lvl n) (d+1) q h7 oG
    by_cases h77:n=7
    ·subst h77;refine hatom d r (fun t t' q c e _ _ _ _=>?_) fun t q e _ _ _ _=>?_
     ·subst e;simp only[Aa] at h;exact ih (.args c []) (d+1) q trivial oG
     subst e;simp only[Aa] at h;exact ih (.lvl 0) (d+1) q oS oG
    refine hlrow n d r nU nU (ih (.lvl (n+1)) d r oS oG) fun a q e=>?_
    have hs:=Dj (n:=n+1) nU e;exact ih (.row n a) d q trivial oG
   |row n a=>
    simp only[Br] at h;refine hrow n a d r fun t q e hz h5 h2=>?_
    subst e;simp only[Aa] at h;refine⟨ih (.lvl (n+1)) d q oS oG,fun b q' e=>?_⟩;have hs:=Dj (n:=n+1) nU e;exact ih (.row n _) d q' trivial oG
   |args c ks=>
    simp only[Br] at h;refine hargs c ks d r (ih (.lvl 0) d r oS oG) fun a t q e _=>?_
    have hs:=Dj (n:=0) nU e;simp only[Aa] at hs;exact ih (.args c (ks++[a])) d q trivial oG
 exact fun td d r hok=>key _ td d r hok (Nat.lt_succ_self _)
theorem Ro {r:List Tkn}{n:Nat}(h:B2 r (Bq n)≠0):n<=5/\n≠2:=
 ⟨Nat.le_of_not_lt fun hh=>h (by rw[Sv hh];rfl),fun e=>h (by rw[e,eM];rfl)⟩
open Go Go.Lib
mutual
def Ex.All (P:Hd->Nat->Prop):Ex->Prop| .mk h ks=>P h ks.length/\Jq P ks
def Jq (P:Hd->Nat->Prop):List Ex->Prop|[]=>True|e::es=>e.All P/\Jq P es
end
theorem Vc {P:Hd->Nat->Prop}:∀{l m:List Ex},Jq P l->Jq P m->Jq P (l++m)
 |[],_,_,k=>k
 |_::_,_,h,k=>⟨h.1,Vc h.2 k⟩
mutual
theorem Ex.All.mono {P Q:Hd->Nat->Prop}(hpq:∀h k,P h k->Q h k):∀{e:Ex},e.All P->e.All Q
 | .mk _ _,h=>⟨hpq _ _ h.1,Jq.mono hpq h.2⟩
theorem Jq.mono {P Q:Hd->Nat->Prop}(hpq:∀h k,P h k->Q h k):∀{l:List Ex},Jq P l->Jq Q l
 |[],_=>trivial
 |_::_,h=>⟨Ex.All.mono hpq h.1,Jq.mono hpq h.2⟩
end
mutual
theorem Ex.All.and {P Q:Hd->Nat->Prop}:∀{e:Ex},e.All P->e.All Q->e.All fun h k=>P h k/\Q h k
 | .mk _ _,h,k=>⟨⟨h.1,k.1⟩,Jq.and h.2 k.2⟩
theorem Jq.and {P Q:Hd->Nat->Prop}:∀{l:List Ex},Jq P l->Jq Q l->Jq (fun h k=>P h k/\Q h k) l
 |[],_,_=>trivial
 |_::_,h,k=>⟨Ex.All.and h.1 k.1,Jq.and h.2 k.2⟩
end
theorem Qr {P:Hd->Nat->Prop}:(∀(e:Ex) (b:Nat),e.All P->∀n∈e.flat b,P n.h n.kids.length):=by
 have key:∀(k:Nat),(∀(e:Ex) (b:Nat),e.size<=k->e.All P->∀n∈e.flat b,P n.h n.kids.length)/\(∀(l:List Ex) (b:Nat),Bs l<=k->Jq P l->∀n∈B3 l b,P n.h n.kids.length):=by
  intro k
  induction k with
  |zero=>
   refine⟨fun e b h=>?_,fun l b h=>?_⟩
   ·have:=e.size_pos
    omega
   cases l with
   |nil=>intro _ n hn;cases hn
   |cons e l=>
    have:=e.size_pos
    simp only[Bs] at h;omega
  |succ k ih=>
   have h1:∀(e:Ex) (b:Nat),e.size<=k+1->e.All P->∀n∈e.flat b,P n.h n.kids.length:=fun e b h ha n hn=>by
    cases e with
    |mk hd ks=>
     simp only[Ex.size] at h;simp only[Ex.flat,List.mem_append,List.mem_singleton] at hn;rcases hn with hn|rfl
     ·exact ih.2 ks b nU ha.2 n hn
     simp only[Nb];exact ha.1
   refine⟨h1,fun l=>?_⟩
   induction l with
   |nil=>intro b _ _ n hn;cases hn
   |cons e l il=>
    intro b h ha n hn;simp only[Bs] at h;simp only[B3,List.mem_append] at hn;rcases hn with hn|hn
    ·exact h1 e b nU ha.1 n hn
    exact il (b+e.size) nU ha.2 n hn
 exact fun e b=>(key e.size).1 e b (Ak _)
def Zv (P:Hd->Nat->Prop)(W:Tkn->Prop):F3->Prop
 | .lvl _=>True
 | .row _ a=>a.All P
 | .args c ks=>Jq P ks/\ks.length<c.most/\∃t,W t/\Eb t=some c
theorem Vz {s:List UInt8}{c:Int×Nat×Nat}(h:C9 s=some c):1<=c.2.1/\c.2.1<=c.2.2/\c.2.2<=8/\18<=c.1/\c.1<=26:=by
 unfold C9 at h
 repeat' split at h
 all_goals first|(injection h with h;subst h;decide)|cases h
theorem N4 {t:Tkn}{c:Cl}(h:Eb t=some c):t.w.k=1/\C9 t.w.t=some (c.op,c.least,c.most)/\c.line=t.line/\c.col=t.col/\1<=c.least/\c.least<=c.most/\c.most<=8:=by
 unfold Eb at h
 split at h
 ·rename_i hk
  cases hc:C9 t.w.t with
  |none=>rw[hc] at h;cases h
  |some x=>
   rw[hc] at h;injection h with h;subst h
   have:=Vz hc
   exact⟨hk,rfl,rfl,rfl,this.1,this.2.1,this.2.2.1⟩
 cases h
theorem Gj {x:ExR}{g:Ex->List Tkn->ExR}{p:Ex×List Tkn}(h:x.next g= .ok p):∃a q,x= .ok (a,q)/\g a q= .ok p:=by
 cases x with
 |error e=>cases h
 |ok y=>exact⟨y.1,y.2,rfl,h⟩
theorem T9 {a b:Ex}{q q':List Tkn}(h:Dx a q= .ok (b,q')):b=a/\isH [41] q=true/\q'=q.tail:=by
 unfold Dx at h
 split at h
 ·rename_i hp
  injection h with h;injection h with h1 h2;exact⟨h1.symm,hp,h2.symm⟩
 cases h
theorem Qc {d:Nat}{r:List Tkn}{g:List Tkn->ExR}{p:Ex×List Tkn}(h:B8 d r g= .ok p):isH [40] r=true/\d≠12/\g r.tail= .ok p:=by
 unfold B8 at h
 split at h
 ·rename_i hp
  split at h
  ·cases h
  rename_i hd
  exact⟨hp,hd,h⟩
 cases h
theorem Ub {P:Hd->Nat->Prop}{W:Tkn->Prop}(hleaf:∀t h,W t->Da t=some h->P h 0)(hpre:∀n t,(n=2\/n=6)->W t->P ⟨K5 n,v0,[],t.line,t.col⟩ 1)
 (hin:∀n t q,W t->B2 (t::q) (Bq n)≠0->P ⟨B2 (t::q) (Bq n),v0,[],t.line,t.col⟩ 2)
 (hcall:∀t c k,W t->Eb t=some c->c.least<=k->k<=c.most->P ⟨c.op,v0,[],c.line,c.col⟩ k):
 ∀td d r,td.ok->Zv P W td->(∀t∈r,W t)->∀a q,exE td d r= .ok (a,q)->a.All P:=by
 have suf:∀{q r:List Tkn},Suf q r->(∀t∈r,W t)->∀t∈q,W t:=fun{q r} hs hw t ht=>by
  obtain⟨k,rfl⟩:=hs;exact hw t (List.mem_of_mem_drop ht)
 refine Ue (P:=fun td d r=>Zv P W td->(∀t∈r,W t)->∀a q,exE td d r= .ok (a,q)->a.All P) ?_ ?_ ?_ ?_ ?_
 ·intro n d r hn h1 h2 _ hw a q h;rw[show exE (.lvl n) d r=_ from Jn hn] at h;by_cases hp:isH (Jl n) r=true
  ·rw[Ap hp] at h;obtain⟨t,q0,rfl⟩:=Cx hp;by_cases hd:d=12
   ·rw[Ap hd] at h;cases h
   rw[Ao hd] at h;obtain⟨a',q',h3,h4⟩:=Gj h;injection h4 with h4;injection h4 with h4 _;subst h4;have ht:=hw t Ai;exact⟨hpre n t hn ht,h1 t q0 rfl hp hd trivial (fun x hx=>hw x (Aj _ hx)) _ _ h3,trivial⟩
  rw[Ao hp] at h;exact h2 (by simpa using hp) trivial hw a q h
 ·intro d r h1 h2 _ hw a q h;rw[show exE (.lvl 7) d r=_ from Bw d r] at h;cases r with
  |nil=>cases h
  |cons t r=>
   simp only at h;have ht:=hw t Ai;have hr:∀x∈r,W x:=fun x hx=>hw x (Aj _ hx)
   cases hl:Da t with
   |some x=>
    rw[hl] at h;injection h with h;injection h with h _;subst h;exact⟨hleaf t x ht hl,trivial⟩
   |none=>
    cases hc:Eb t with
    |some c=>
     rw[hl,hc] at h;obtain⟨h3,h4,h5⟩:=Qc h;obtain⟨t',q',rfl⟩:=Cx h3;have hcl:=N4 hc;exact h1 t t' q' c rfl hl hc h3 h4 ⟨trivial,by show 0<c.most;omega,t,ht,hc⟩ (fun x hx=>hr x (Aj _ hx)) a q h5
    |none=>
     rw[hl,hc] at h;obtain⟨h3,h4,h5⟩:=Qc h;obtain⟨a',q',h6,h7⟩:=Gj h5;obtain⟨rfl,h8,rfl⟩:=T9 h7;exact h2 t r rfl hl hc h3 h4 trivial hr _ _ h6
 ·intro n d r h5 hn2 h1 h2 _ hw a q h;rw[show exE (.lvl n) d r=_ from K4 h5 hn2] at h;obtain⟨a',q',h3,h4⟩:=Gj h;exact h2 a' q' h3 (h1 trivial hw a' q' h3) (suf (Dj nU h3).1 hw) a q h4
 ·intro n b d r h1 hb hw a q h;rw[show exE (.row n b) d r=_ from G3 n b d r] at h;by_cases hz:B2 r (Bq n)=0
  ·rw[Ap hz] at h;injection h with h;injection h with h _;subst h;exact hb
  rw[Ao hz] at h;obtain⟨t,r',rfl⟩:=Fk hz;obtain⟨h5,hn2⟩:=Ro hz;obtain⟨k1,k2⟩:=h1 t r' rfl hz h5 hn2;obtain⟨a',q',h3,h4⟩:=Gj h;have ht:=hw t Ai;have hr:∀x∈r',W x:=fun x hx=>hw x (Aj _ hx)
  have hnew:(Ex.mk ⟨B2 (t::r') (Bq n),v0,[],(plH (t::r')).1,(plH (t::r')).2⟩ [b,a']).All P:=
   ⟨hin n t r' ht hz,hb,k1 trivial hr a' q' h3,trivial⟩
  by_cases h3n:n=3
  ·rw[Ap h3n] at h4;injection h4 with h4;injection h4 with h4 _;subst h4;exact hnew
  rw[Ao h3n] at h4;exact k2 a' q' h3 hnew (suf (Dj nU h3).1 hr) a q h4
 intro c ks d r h1 h2 hks hw a q h;rw[show exE (.args c ks) d r=_ from Ig c ks d r] at h;obtain⟨a',q',h3,h4⟩:=Gj h;have ha:=h1 trivial hw a' q' h3;have hq:=suf (Dj nU h3).1 hw;obtain⟨hk1,hk2,t,ht,hc⟩:=hks;have hcl:=N4 hc;have hall:Jq P (ks++[a']):=Vc hk1 ⟨ha,trivial⟩;by_cases hm:(isH [44] q' && decide (ks.length+1=c.most)||isH [41] q' && decide (ks.length+1<c.least))=true
 ·rw[Ap hm] at h4;cases h4
 rw[Ao hm] at h4;simp only[Bool.or_eq_true,Bool.and_eq_true,decide_eq_true_eq,not_or,not_and] at hm;by_cases hcm:isH [44] q'=true
 ·rw[Ap hcm] at h4;have hne:=hm.1 hcm;obtain⟨t',q'',rfl⟩:=Cx hcm;exact h2 a' t' q'' h3 hcm ⟨hall,by simp;omega,t,ht,hc⟩ (fun x hx=>hq x (Aj _ hx)) a q h4
 rw[Ao hcm] at h4;obtain⟨rfl,h8,rfl⟩:=T9 h4;have hls:=hm.2 h8;exact⟨hcall t c _ ht hc oB oB,hall⟩
theorem fT:∀td d r,td.ok->∀a q,exE td d r= .ok (a,q)->match td with
 | .lvl _=>a.size+q.length<=r.length
 | .row _ b=>a.size+q.length<=b.size+r.length
 | .args _ ks=>a.size+q.length<=Bs ks+1+r.length:=by
 have sht:∀{a b:Ex} {q q':List Tkn},Dx a q= .ok (b,q')->b.size+q'.length<a.size+q.length:=fun{a b q q'} h=>by
  obtain⟨rfl,h1,rfl⟩:=T9 h;obtain⟨t,q0,rfl⟩:=Cx h1;simp
 refine Ue (P:=fun td d r=>∀a q,exE td d r= .ok (a,q)->match td with
  | .lvl _=>a.size+q.length<=r.length
  | .row _ b=>a.size+q.length<=b.size+r.length
  | .args _ ks=>a.size+q.length<=Bs ks+1+r.length) ?_ ?_ ?_ ?_ ?_
 ·intro n d r hn h1 h2 a q h;rw[show exE (.lvl n) d r=_ from Jn hn] at h;by_cases hp:isH (Jl n) r=true
  ·rw[Ap hp] at h;obtain⟨t,q0,rfl⟩:=Cx hp;by_cases hd:d=12
   ·rw[Ap hd] at h;cases h
   rw[Ao hd] at h;obtain⟨a',q',h3,h4⟩:=Gj h;injection h4 with h4;injection h4 with h4 h5;subst h4;subst h5
   have:=h1 t q0 rfl hp hd a' q' h3
   simp only[Ex.size,Bs,Aa] at this ⊢;omega
  rw[Ao hp] at h;exact h2 (by simpa using hp) a q h
 ·intro d r h1 h2 a q h;rw[show exE (.lvl 7) d r=_ from Bw d r] at h;cases r with
  |nil=>cases h
  |cons t r=>
   simp only at h;cases hl:Da t with
   |some x=>
    rw[hl] at h;injection h with h;injection h with h h5;subst h;subst h5;simp only[Ex.size,Bs,Aa];omega
   |none=>
    cases hc:Eb t with
    |some c=>
     rw[hl,hc] at h;obtain⟨h3,h4,h5⟩:=Qc h;obtain⟨t',q',rfl⟩:=Cx h3
     have:=h1 t t' q' c rfl hl hc h3 h4 a q h5
     simp only[Bs,Aa] at this ⊢;omega
    |none=>
     rw[hl,hc] at h;obtain⟨h3,h4,h5⟩:=Qc h;obtain⟨a',q',h6,h7⟩:=Gj h5;have e1:=h2 t r rfl hl hc h3 h4 a' q' h6;have e2:=sht h7;simp only[Aa] at e1 e2 ⊢;omega
 ·intro n d r h5 hn2 h1 h2 a q h;rw[show exE (.lvl n) d r=_ from K4 h5 hn2] at h;obtain⟨a',q',h3,h4⟩:=Gj h;have e1:=h1 a' q' h3;have e2:=h2 a' q' h3 a q h4;simp only at e1 e2 ⊢;omega
 ·intro n b d r h1 a q h;rw[show exE (.row n b) d r=_ from G3 n b d r] at h;by_cases hz:B2 r (Bq n)=0
  ·rw[Ap hz] at h;injection h with h;injection h with h h5;subst h;subst h5;exact Ak _
  rw[Ao hz] at h;obtain⟨t,r',rfl⟩:=Fk hz;obtain⟨h5,hn2⟩:=Ro hz;obtain⟨k1,k2⟩:=h1 t r' rfl hz h5 hn2;obtain⟨a',q',h3,h4⟩:=Gj h;have e1:=k1 a' q' h3;by_cases h3n:n=3
  ·rw[Ap h3n] at h4;injection h4 with h4;injection h4 with h4 h6;subst h4;subst h6;simp only[Ex.size,Bs,Aa] at e1 ⊢;omega
  rw[Ao h3n] at h4;have e2:=k2 a' q' h3 a q h4;simp only[Ex.size,Bs,Aa] at e1 e2 ⊢;omega
 intro c ks d r h1 h2 a q h;rw[show exE (.args c ks) d r=_ from Ig c ks d r] at h;obtain⟨a',q',h3,h4⟩:=Gj h;have e1:=h1 a' q' h3;by_cases hm:(isH [44] q' && decide (ks.length+1=c.most)||isH [41] q' && decide (ks.length+1<c.least))=true
 ·rw[Ap hm] at h4;cases h4
 rw[Ao hm] at h4;by_cases hcm:isH [44] q'=true
 ·rw[Ap hcm] at h4;obtain⟨t',q'',rfl⟩:=Cx hcm;have e2:=h2 a' t' q'' h3 hcm a q h4;simp only[Bs,Pa,Aa] at e1 e2 ⊢;omega
 rw[Ao hcm] at h4;have e2:=sht h4;simp only[Ex.size,Bs,Pa] at e1 e2 ⊢;omega
open Go Go.Lib
def Hd.bare (h:Hd):Hd:=⟨h.op,h.v,h.name,0,0⟩
mutual
def Ex.bare:Ex->Ex| .mk h ks=> .mk h.bare (mB ks)
def mB:List Ex->List Ex|[]=>[]|e::es=>e.bare::mB es
end
def Nd.bare (n:Nd):Nd:=⟨n.h.bare,n.kids⟩
theorem Zg {t t':Tkn}(h:t'.w=t.w):(Da t').map Hd.bare=(Da t).map Hd.bare:=by
 unfold Da;rw[h]
 repeat' split
 all_goals first|rfl|skip
 cases Kb t.w.t<;>rfl
def Ctx (k:Nat)(post:List Tkn)(x:ExR)(a:Ex)(q:List Tkn):Prop:=
 (k≠0/\∃q1,x= .error (12,q1))\/∃a' q',x= .ok (a',q'++post)/\a'.bare=a.bare/\q'.map Tkn.w=q.map Tkn.w
theorem Ctx.next {k:Nat}{post:List Tkn}{x:ExR}{a:Ex}{q:List Tkn}(h:Ctx k post x a q){g:Ex->List Tkn->ExR}{b:Ex}{p:List Tkn}
 (hg:∀a' q',a'.bare=a.bare->q'.map Tkn.w=q.map Tkn.w->Ctx k post (g a' (q'++post)) b p):Ctx k post (x.next g) b p:=by
 rcases h with ⟨hk,q1,rfl⟩|⟨a',q',rfl,h1,h2⟩
 ·exact .inl ⟨hk,q1,rfl⟩
 exact hg a' q' h1 h2
open Go Go.Lib
structure iO (st:Nat->Option Nat)(i s:Nat)(kids:List Nat)(cs:List Nat):Prop where
 len:cs.length=kids.length+1
 first:cs[0]? =some s
 last:cs[kids.length]? =some i
 kid:∀k x y,kids[k]? =some x->cs[k+1]? =some y->x+1=y/\st x=cs[k]?
 rise:∀k x y,cs[k]? =some x->cs[k+1]? =some y->x<y
theorem iO.mono {st st':Nat->Option Nat}{i s:Nat}{kids cs:List Nat}(h:iO st i s kids cs)(hs:∀x y,st x=some y->st' x=some y):iO st' i s kids cs:=by
 refine⟨h.len,h.first,h.last,fun k x y hx hy=>?_,h.rise⟩;obtain⟨h1,h2⟩:=h.kid k x y hx hy;refine⟨h1,?_⟩
 have hk:k<cs.length:=by
  have:=(List.getElem?_eq_some_iff.1 hy).1
  omega
 rw[Ag hk] at h2 ⊢;exact hs _ _ h2
def off (b:Nat)(l:List Nat)(x:Nat):Option Nat:=if b<=x then l[x - b]? else none
theorem iO.lt {st:Nat->Option Nat}{i s:Nat}{kids cs:List Nat}(h:iO st i s kids cs):∀(k x:Nat),kids[k]? =some x->x<i:=by
 have hle:∀(m k x:Nat),k+m=kids.length->cs[k]? =some x->x<=i:=fun m=>by
  induction m with
  |zero=>
   intro k x e hx;rw[show k=kids.length by omega,h.last,Option.some.injEq] at hx;omega
  |succ m ih=>
   intro k x e hx;have hk:k+1<cs.length:=by rw[h.len];omega
   have h1:=h.rise k x _ hx (Ag hk);have h2:=ih (k+1) _ nU (Ag hk);omega
 intro k x hx;have hkl:=(List.getElem?_eq_some_iff.1 hx).1;have hk:k+1<cs.length:=by rw[h.len];omega
 have h1:=(h.kid k x _ hx (Ag hk)).1;have h2:=hle (kids.length - (k+1)) (k+1) _ nU (Ag hk);omega
end Go.Proofs.YtgfakdobajgnfaaGreatDoor
