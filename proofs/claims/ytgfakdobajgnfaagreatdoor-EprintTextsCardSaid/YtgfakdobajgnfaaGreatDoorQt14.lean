import Derived.Test.YtgfakdobajgnfaaGreatDoorQt13
set_option maxRecDepth 100000
set_option maxHeartbeats 16000000
namespace Go.Proofs.YtgfakdobajgnfaaGreatDoor
open Go Go.RowKit Go.Lib Go.Sort Go.Shelf
def Dk (op:Int):Nat×Nat:=if(4<=op/\op<=5)\/(7<=op/\op<=16)\/op=21\/op=24\/op=25 then(2,2) else if op=6\/op=17\/op=18\/op=22\/op=23 then(1,1)
 else if op=19\/op=20 then(1,8) else if op=26 then(3,3) else(0,0)
structure Wh (h:Hd)(k:Nat):Prop where
 few:(Dk h.op).1<=k
 many:k<=(Dk h.op).2
 op1:1<=h.op
 op2:h.op<=26
 line:1<=h.line
 col:1<=h.col
 v:h.op≠1->h.v=v0
 name:h.op=2->Ir h.name=true
 anon:h.op≠2->h.name=[]
theorem I6 {h:Hd}{k:Nat}(o:Int)(ho:h.op=o)(hk:(Dk o).1<=k/\k<=(Dk o).2/\1<=o/\o<=26)(hl:1<=h.line)(hc:1<=h.col)(hv:o≠1->h.v=v0)(hn:o=2->Ir h.name=true)(ha:o≠2->h.name=[]):Wh h k:=by
 subst ho;exact⟨hk.1,hk.2.1,hk.2.2.1,hk.2.2.2,hl,hc,hv,hn,ha⟩
theorem L7 {r:List Tkn}:∀{l:List (List UInt8×Int)},Bn r l≠0->Bn r l∈l.map Prod.snd
 |[],h=>absurd rfl h
 |(s,o)::l,h=>by
  unfold Bn at h ⊢;by_cases e:isH s r=true
  ·rw[Ap e];exact Ai
  rw[Ao e] at h ⊢;exact Aj _ (L7 h)
theorem Nv (n:Nat):∀o∈(Bs n).map Prod.snd,(4<=o/\o<=5)\/(7<=o/\o<=16):=by
 unfold Bs
 repeat' split
 all_goals first|decide|(intro o ho;cases ho)
theorem Sz {l:List UInt8}{ts:List Tkn}(h:Fu l= .ok ts){a:Ex}{q:List Tkn}(hx:Bd 0 0 ts= .ok (a,q)):a.All Wh:=by
 refine Vt (P:=Wh) (W:=fun t=>Pv t.w/\1<=t.line/\1<=t.col) ?_ ?_ ?_ ?_ (.lvl 0) 0 ts sS trivial (fun t ht=>⟨O2 h t ht,(Li h t ht).1,(Li h t ht).2.2.1⟩) a q hx
 ·rintro t hd ⟨hf,hl,hc⟩ he;unfold Cz at he;by_cases h1:t.w.k=4\/t.w.k=5\/t.w.k=6
  ·rw[Ap h1] at he;injection he with he;subst he;exact I6 1 rfl qP hl hc (fun e=>absurd rfl e) (fun e=>absurd e qP) fun _=>rfl
  rw[Ao h1] at he;by_cases h2:t.w.k=2
  ·rw[Ap h2] at he;injection he with he;subst he;refine I6 2 rfl qP hl hc (fun _=>rfl) (fun _=>?_) fun e=>absurd rfl e
   show Ir t.w.t=true;cases hf with
   |var _ ht _=>exact ht
   |name h _ _=>omega
   |self h _ _=>omega
   |num h _ _=>omega
   |str h _ _ _=>omega
   |sym h _ _=>omega
   |sign h _ _=>omega
  rw[Ao h2] at he;by_cases h3:t.w.k=3
  ·rw[Ap h3] at he;injection he with he;subst he;exact I6 3 rfl qP hl hc (fun _=>rfl) (fun e=>absurd e qP) fun _=>rfl
  rw[Ao h3] at he;by_cases h4:t.w.k=1
  ·rw[Ap h4] at he;cases hcl:Dg t.w.t with
   |some c=>rw[hcl] at he;cases he
   |none=>
    rw[hcl] at he;cases hll:Lk t.w.t with
    |none=>rw[hll] at he;cases he
    |some v=>
     rw[hll] at he;injection he with he;subst he;exact I6 1 rfl qP hl hc (fun e=>absurd rfl e) (fun e=>absurd e qP) fun _=>rfl
  rw[Ao h4] at he;cases he
 ·rintro n t hn ⟨hf,hl,hc⟩;rcases hn with rfl|rfl
  ·exact I6 6 rfl qP hl hc (fun _=>rfl) (fun e=>absurd e qP) fun _=>rfl
  exact I6 17 rfl qP hl hc (fun _=>rfl) (fun e=>absurd e qP) fun _=>rfl
 ·rintro n t r ⟨hf,hl,hc⟩ hz;have ho:=Nv n _ (L7 hz);obtain⟨o,hoo⟩:∃o,Bn (t::r) (Bs n)=o:=⟨_,rfl⟩;rw[hoo] at ho ⊢
  have hk:Dk o=(2,2):=by
   unfold Dk;rw[Ap qO]
  refine⟨?_,?_,?_,?_,hl,hc,fun _=>rfl,fun e=>?_,fun _=>rfl⟩
  ·show(Dk o).1<=2
   rw[hk];decide
  ·show 2<=(Dk o).2;rw[hk];decide
  ·show 1<=o;omega
  ·show o<=26;omega
  have:o=2:=e
  omega
 rintro t c k ⟨hf,hl,hc⟩ he h1 h2;obtain⟨_,hcl,hln,hco,_⟩:=O4 he
 have hk:Dk c.op=(c.least,c.most)/\18<=c.op/\c.op<=26:=by
  unfold Dg at hcl
  repeat' split at hcl
  all_goals first|(injection hcl with hcl;injection hcl with e1 e2;injection e2 with e2 e3;rw[←e1,←e2,←e3];decide)|cases hcl
 refine⟨?_,?_,?_,?_,?_,?_,fun _=>rfl,fun e=>?_,fun _=>rfl⟩
 ·show(Dk c.op).1<=k
  rw[hk.1];exact h1
 ·show k<=(Dk c.op).2;rw[hk.1];exact h2
 ·show 1<=c.op;omega
 ·show c.op<=26;omega
 ·show 1<=c.line;omega
 ·show 1<=c.col;omega
 have:c.op=2:=e
 omega
open Go Go.RowKit Go.Lib Go.Sort Go.Shelf
def G3 (w:World)(b:Nat)(l:List Nat):Prop:=w.heap[b]? =some (.cells (Eg l).toArray 3 (0,0))
theorem G3.cell {w:World}{b:Nat}{l:List Nat}(h:G3 w b l){i:Nat}{x:Nat}(hx:l[i]? =some x):w.cell? ⟨b,i,none⟩=some (.int .i64 (x:Int)):=by
 unfold G3 at h;simp only[World.cell?,h];simp [Eg,hx]
theorem G3.frozen {w:World}{b:Nat}{l:List Nat}(h:G3 w b l)(i:Nat):w.frozen? ⟨b,i,none⟩=false:=by
 unfold G3 at h;simp only[World.frozen?,h];simp
theorem G3.set {w:World}{b:Nat}{l:List Nat}(h:G3 w b l)(i x:Nat):G3 (w.setCell ⟨b,i,none⟩ (.int .i64 (x:Int))) b (l.set i x):=by
 unfold G3 at h ⊢;rw[A2 h];congr 2;apply Array.ext';simp [Eg,List.map_set]
theorem G3.below {w w':World}{b:Nat}{l:List Nat}(h:G3 w b l)(hb:Below w.heap.size w w'):G3 w' b l:=(hb.block b (Ay h)).trans h
theorem U0 {l:List UInt8}{p:(Int×Int)×Int}(h:Cf l= .error p):p.2≠0:=by
 unfold Cf at h;cases hl:Fu l with
 |error e=>
  obtain⟨a,b,q⟩:=e;rw[hl] at h;injection h with h
  have:=((Ll _ l 1 1 (Ak _) qP).1 a b q hl).2.2
  rw[←h];show q≠0;omega
 |ok ts=>
  rw[hl] at h;simp only at h;cases hx:Bd 0 0 ts with
  |error e=>
   obtain⟨er,q⟩:=e;rw[hx] at h;injection h with h
   have:=X6 (.lvl 0) 0 ts sS _ (show exE (.lvl 0) 0 ts=_ from hx)
   rw[←h];show er≠0;simp only at this;omega
  |ok x=>
   obtain⟨a,q⟩:=x;rw[hx] at h;simp only at h
   split at h
   ·injection h with h;rw[←h]
    show(7:Int)≠0
    decide
   split at h
   ·cases h
   injection h with h;rw[←h]
   show(4:Int)≠0
   decide
theorem Ii {l:List UInt8}{a:Ex}(h:Cf l= .ok a):∃ts,Fu l= .ok ts/\Bd 0 0 ts= .ok (a,[])/\a.size<=60:=by
 unfold Cf at h;cases hl:Fu l with
 |error e=>rw[hl] at h;cases h
 |ok ts=>
  rw[hl] at h;simp only at h;cases hx:Bd 0 0 ts with
  |error e=>rw[hx] at h;cases h
  |ok x=>
   obtain⟨b,q⟩:=x;rw[hx] at h;simp only at h
   split at h
   ·cases h
   rename_i h60
   split at h
   ·rename_i hq
    injection h with h;subst h;subst hq;exact⟨ts,rfl,hx,by omega⟩
   cases h
theorem iO {l:List UInt8}{a:Ex}(h:Cf l= .ok a):a.All Wh:=by
 obtain⟨ts,h1,h2,_⟩:=Ii h;exact Sz h1 h2
theorem Sm (op:Int):(Dk op).2<=8:=by
 unfold Dk
 repeat' split
 all_goals decide
theorem Uv {l:List UInt8}{a:Ex}(h:Cf l= .ok a):pW (a.flat 0):=fun n hn=>by
 have h1:=Yd a 0 (iO h) n hn;have h2:=h1.many;have h3:=Sm n.h.op;omega
open Go Go.RowKit Go.Lib Go.Sort Go.Shelf
theorem Below.drewN' {B:Nat}{a:World}:∀(n:Nat) {w:World},Below B a w->Below B a (w.drewN n)
 |0,_,h=>h
 |n+1,_,h=>(Below.drewN' n h).drew
open Go Go.Lib
theorem Ud:∀(l:List (List UInt8×Int)),Bn [] l=0
 |[]=>rfl
 |(s,o)::l=>by
  unfold Bn;rw[Ao (by simp [isH])];exact Ud l
open Go Go.RowKit Go.Lib Go.Sort Go.Shelf
theorem Yy {a b:Ex}(h:a.bare=b.bare):Dm ((a.flat 0).map Nd.z) ((b.flat 0).map Nd.z)=true:=by
 rw[N9]
 have:=Ar (List.map Nd.z) (dV h 0)
 rw[List.map_map,List.map_map] at this ⊢;exact this
open Go Go.RowKit Go.Lib Go.Sort Go.Shelf
def Ov:List (List UInt8×Int×Nat):=
 [([111,114],4,0),([97,110,100],5,1),([61],7,3),([60,62],8,3),([60],9,3),([60,61],10,3),([62],11,3),([62,61],12,3),([43],13,4),([45],14,4),([42],15,5),([47],16,5)]
def Pa (s:List UInt8):Int:=if s=[111,114]\/s=[97,110,100] then 1 else 7
def cG (s:List UInt8)(t:Tkn):Prop:=t.w=⟨Pa s,s,v0⟩
theorem nQ {s:List UInt8}{t:Tkn}(h:cG s t)(r:List Tkn)(u:List UInt8):isH u (t::r)=decide (s=u):=by
 unfold cG at h
 show(decide (t.w.t=u) && (decide (t.w.k=1)||decide (t.w.k=7)))=_
 rw[h]
 show(decide (s=u) && (decide (Pa s=1)||decide (Pa s=7)))=_
 have:(decide (Pa s=1)||decide (Pa s=7))=true:=by
  unfold Pa
  split<;>rfl
 rw[this,Bool.and_true]
theorem Zb {x:List UInt8×Int×Nat}(hx:x∈Ov){t:Tkn}(h:cG x.1 t)(r:List Tkn)(n:Nat):Bn (t::r) (Bs n)=if n=x.2.2 then x.2.1 else 0:=by
 have key:∀l:List (List UInt8×Int),Bn (t::r) l=(l.find? fun y=>decide (x.1=y.1)).elim 0 Prod.snd:=fun l=>by
  induction l with
  |nil=>rfl
  |cons y l ih=>
   unfold Bn;rw[nQ h,List.find?_cons];by_cases e:x.1=y.1
   ·rw[Ap tN];simp [e]
   rw[Ao tN,ih];simp [e]
 rw[key];clear key h;by_cases h5:n<=5
 ·revert n
  revert x
  decide
 rw[Qi qO]
 have:n≠x.2.2:=by
  have:x.2.2<=5:=by
   revert x
   decide
  omega
 rw[Ao this];rfl
theorem gK {x:List UInt8×Int×Nat}(hx:x∈Ov):Bq x.1= .ok (⟨Pa x.1,x.1,v0⟩,x.1.length)/\∃c r,x.1=c::r/\Iz c:=by
 unfold Iz;simp only[Ov,List.mem_cons,List.not_mem_nil,or_false] at hx;rcases hx with rfl|rfl|rfl|rfl|rfl|rfl|rfl|rfl|rfl|rfl|rfl|rfl<;>exact⟨rfl,_,_,rfl,by decide⟩
theorem lV {x:List UInt8×Int×Nat}(hx:x∈Ov)(r:List UInt8)(hs:Yc r)(a b:Int):LX (x.1++r) a b=Qu ⟨⟨Pa x.1,x.1,v0⟩,a,b⟩ (LX r a (b+(x.1.length:Nat))):=by
 obtain⟨h,c,q,e,hc⟩:=gK hx;have h2:=Y4 h hs;rw[List.take_length] at h2;rw[e] at h2 ⊢;rw[List.cons_append] at h2 ⊢;rw[Iu hc h2,←List.cons_append,List.drop_left]
theorem Zm (r:List UInt8):Yc (32::r):=fun c h=> .inr (by simpa using h.symm)
end Go.Proofs.YtgfakdobajgnfaaGreatDoor
