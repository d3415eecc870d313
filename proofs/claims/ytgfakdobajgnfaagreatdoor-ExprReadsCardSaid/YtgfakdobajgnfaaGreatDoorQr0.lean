import Derived.WalkKit
import Derived.WalkLawsBesides
import Derived.WalkSpells
import Derived.Below
import Derived.RegionTactic
import Derived.BigQuiet
import Derived.Deep.QuietTactic
import Derived.Deep.RegionHeld3
import Derived.Deep.RegionLaw
import Derived.Maps.RangeWalk
import Derived.Test.YtgfakdobajgnfaaGreatDoorProg
namespace Go.Proofs.YtgfakdobajgnfaaGreatDoor
open Go Go.RowKit
theorem hide {p:Prop}(h:p):Hid p:=h
theorem lt_of_cell {w:World}{p:Addr}{v:Value}(h:w.cell? p=some v):p.block<w.heap.size:=by
 simp only[World.cell?] at h
 cases hb:w.heap[p.block]? with
 |none=>simp [hb] at h
 |some o=>exact lt_of_block hb
theorem bcell {W w1:World}(hb:Below W.heap.size W w1){b o:Nat}{v:Value}(h:W.cell? ⟨b,o,none⟩=some v):w1.cell? ⟨b,o,none⟩=some v:=
 (hb.cell (p:=⟨b,o,none⟩) (lt_of_cell h)).trans h
structure Vl where
 k:Int
 n:Int
 s:ByteArray
 deriving DecidableEq
def SlAt {α:Type}(k:Nat)(cells:α→List Value)(w:World)(a:Option Addr)(c:Nat)(l:List α):Prop:=
 l.length≤c∧c≤9223372036854775807∧((∃b off,a=some ⟨b,off,none⟩∧∀i (h:i<l.length) j v,(cells l[i])[j]? =some v→w.cell? ⟨b,off+i*k+j,none⟩=some v)∨l=[])
theorem SlAt.below {α:Type}{k:Nat}{cells:α→List Value}{w w':World}{a:Option Addr}{c:Nat}{l:List α}(h:SlAt k cells w a c l)(hb:Below w.heap.size w w'):SlAt k cells w' a c l:=by
 obtain⟨h1,h2,⟨b,off,rfl,h3⟩|rfl⟩:=h
 ·exact⟨h1,h2,.inl ⟨b,off,rfl,fun i hi j v hv=>bcell hb (h3 i hi j v hv)⟩⟩
 ·exact⟨h1,h2,.inr rfl⟩
theorem SlAt.len {α:Type}{k:Nat}{cells:α→List Value}{w:World}{a:Option Addr}{c:Nat}{l:List α}(h:SlAt k cells w a c l):l.length≤9223372036854775807:=Nat.le_trans h.1 h.2.1
theorem SlAt.nil {α:Type}{k:Nat}{cells:α→List Value}(w:World)(a:Option Addr){c:Nat}(hc:c≤9223372036854775807):SlAt k cells w a c []:=⟨Nat.zero_le _,hc,.inr rfl⟩
def Vl.cells (v:Vl):List Value:=[.int .u8 v.k,.int .i64 v.n,.string v.s]
def Vl.val (v:Vl):Value:= .agg #[.int .u8 v.k,.int .i64 v.n,.string v.s]
def Vl.ok (v:Vl):Prop:=0≤v.k∧v.k≤255∧v.s.size≤9223372036854775807
open Go Go.RowKit Go.MapKept
structure Only (S:List Nat)(w w':World):Prop where
 os:w'.os=w.os
 tape:w'.tape=w.tape
 output:w'.output=w.output
 size:w.heap.size≤w'.heap.size
 block:∀k,k<w.heap.size→k∉S→w'.heap[k]? =w.heap[k]?
theorem Only.refl (S:List Nat)(w:World):Only S w w:=⟨rfl,rfl,rfl,Nat.le_refl _,fun _ _ _=>rfl⟩
theorem Only.step {S T:List Nat}{a b c:World}(h:Only S a b)(k:Only T b c)(hT:∀i∈T,i∈S∨a.heap.size≤i):Only S a c:=
 ⟨k.os.trans h.os,k.tape.trans h.tape,k.output.trans h.output,Nat.le_trans h.size k.size,fun i hi hn=>
   (k.block i (Nat.lt_of_lt_of_le hi h.size) (fun hm=>by rcases hT i hm with q|q;exact hn q;omega)).trans (h.block i hi hn)⟩
theorem Only.trans {S:List Nat}{a b c:World}(h:Only S a b)(k:Only S b c):Only S a c:=h.step k fun _ hi=> .inl hi
theorem Only.mono {S T:List Nat}{a b:World}(h:Only S a b)(hs:∀i∈S,i∈T):Only T a b:=
 ⟨h.os,h.tape,h.output,h.size,fun i hi hn=>h.block i hi fun hm=>hn (hs i hm)⟩
theorem Only.of_below {a b:World}(h:Below a.heap.size a b)(S:List Nat):Only S a b:=⟨h.os,h.tape,h.output,h.size,fun i hi _=>h.block i hi⟩
theorem Only.below {a b:World}(h:Only [] a b):Below a.heap.size a b:=⟨h.os,h.tape,h.output,h.size,fun i hi=>h.block i hi (by simp)⟩
theorem Only.drew {S:List Nat}{a b:World}(h:Only S a b):Only S a b.drew:=⟨h.os,h.tape,h.output,h.size,h.block⟩
theorem Only.drewN {S:List Nat}{a b:World}(h:Only S a b)(n:Nat):Only S a (b.drewN n):=⟨h.os,h.tape,h.output,h.size,h.block⟩
theorem Only.alloc {S:List Nat}{a b:World}(h:Only S a b)(o:Obj):Only S a (b.alloc o):=
 h.step (T:=[]) ⟨rfl,rfl,rfl,by simp,fun k hk _=>Below.heap_alloc _ _ _ hk⟩ (by simp)
theorem Only.setCell {S:List Nat}{a b:World}(h:Only S a b){p:Addr}(hp:p.block∈S∨a.heap.size≤p.block)(u:Value):Only S a (b.setCell p u):=
 h.step (T:=[p.block]) ⟨rfl,rfl,rfl,by simp [World.setCell],fun k _ hn=>Below.heap_setCell _ _ _ _ (by simpa using hn)⟩ (by simpa using hp)
theorem Only.of_grown {a b:World}{row:Option Nat}(h:a.grownBy b row)(S:List Nat)(hr:∀k,row=some k→k∈S):Only S a b:=
 ⟨h.os,h.tape,h.output,h.size,fun i hi hn=>h.block i hi fun e=>hn (hr i e.symm)⟩
theorem Only.cell {S:List Nat}{a b:World}(h:Only S a b){p:Addr}(hp:p.block<a.heap.size)(hn:p.block∉S):b.cell? p=a.cell? p:=World.cell?_of_block (w:=a) (h.block p.block hp hn)
theorem Only.frozen {S:List Nat}{a b:World}(h:Only S a b){p:Addr}(hp:p.block<a.heap.size)(hn:p.block∉S):b.frozen? p=a.frozen? p:=World.frozen?_of_block (w:=a) (h.block p.block hp hn)
theorem below_only {B:Nat}{a b c:World}{S:List Nat}(h:Below B a b)(k:Only S b c)(hS:∀i∈S,B≤i)(hB:B≤b.heap.size):Below B a c:=
 h.trans ⟨k.os,k.tape,k.output,k.size,fun i hi=>k.block i (by omega) fun hm=>by have:=hS i hm;omega⟩
theorem below_drewN {B:Nat}{a w:World}(h:Below B a w)(n:Nat):Below B a (w.drewN n):=⟨h.os,h.tape,h.output,h.size,h.block⟩
theorem lt_of_heap {w:World}{b:Nat}{o:Obj}(h:w.heap[b]? =some o):b<w.heap.size:=lt_of_block h
theorem setCell_heap {w:World}{b i:Nat}{u:Value}{c:Array Value}{t:TypeId}{fz:Nat×Nat}(h:w.heap[b]? =some (.cells c t fz)):(w.setCell ⟨b,i,none⟩ u).heap[b]? =some (.cells (c.setIfInBounds i u) t fz):=by
 simp [World.setCell,Array.getElem?_modify,h]
section
variable {K:IntKind}
def KMap (K:IntKind)(w:World)(b:Nat)(l:List (Int×Value)):Prop:=
 ∃es clock,w.heap[b]? =some (.map es clock)∧Stamped es clock∧es.toList.map (fun e=>(e.key,e.val))=l.map (fun p=>(Value.int K p.1,p.2))
theorem KMap.of_block {w w':World}{b:Nat}{l:List (Int×Value)}(h:KMap K w b l)(he:w'.heap[b]? =w.heap[b]?):KMap K w' b l:=by
 obtain⟨es,c,h1,h2,h3⟩:=h
 exact⟨es,c,he.trans h1,h2,h3⟩
theorem KMap.lt {w:World}{b:Nat}{l:List (Int×Value)}(h:KMap K w b l):b<w.heap.size:=by
 obtain⟨es,c,h1,_⟩:=h
 exact lt_of_heap h1
theorem KMap.only {w w':World}{b:Nat}{l:List (Int×Value)}{S:List Nat}(h:KMap K w b l)(ho:Only S w w')(hn:b∉S):KMap K w' b l:=h.of_block (ho.block b h.lt hn)
theorem KMap.new (w:World):KMap K (w.alloc (.map #[] 0)) w.heap.size []:=⟨#[],0,(MapKept.heap_alloc w _).1,stamped_empty 0,rfl⟩
def look (l:List (Int×Value))(k:Int):Option Value:=(l.find? (fun p=>p.1==k)).map (·.2)
def looked (z:Value):Option Value→Value
 |some v=> .tuple #[v,.bool true]
 |none=> .tuple #[z,.bool false]
def put:List (Int×Value)→Int→Value→List (Int×Value)
 |[],k,v=>[(k,v)]
 |p::r,k,v=>if p.1=k then(k,v)::r else p::put r k v
theorem KMap.size {l:List (Int×Value)}{es:Array MapEntry}(h:es.toList.map (fun e=>(e.key,e.val))=l.map (fun p=>(Value.int K p.1,p.2))):es.size=l.length:=by
 have:=congrArg List.length h
 simpa using this
theorem entry_at {l:List (Int×Value)}{es:Array MapEntry}(h:es.toList.map (fun e=>(e.key,e.val))=l.map (fun p=>(Value.int K p.1,p.2))){e:MapEntry}(he:e∈es.toList):∃p∈l,e.key= .int K p.1∧e.val=p.2:=by
 have:(e.key,e.val)∈es.toList.map (fun e=>(e.key,e.val)):=List.mem_map.2 ⟨e,he,rfl⟩
 rw[h] at this
 obtain⟨p,hp,q⟩:=List.mem_map.1 this
 simp only[Prod.mk.injEq] at q
 exact⟨p,hp,q.1.symm,q.2.symm⟩
theorem findNow_int (k:Int):∀(es:List MapEntry) (l:List (Int×Value)) (i:Nat),es.map (fun e=>(e.key,e.val))=l.map (fun p=>(Value.int K p.1,p.2))→
 Instr.findNow (.int K) (.int K k) es i=some ((l.findIdx? (fun p=>p.1==k)).bind fun j=>(l[j]?).map fun p=>(i+j,p.2))
 |[],[],_,_=>rfl
 |[],_::_,_,h=>by simp at h
 |_::_,[],_,h=>by simp at h
 |e::es,p::l,i,h=>by
  simp only[List.map_cons,List.cons.injEq,Prod.mk.injEq] at h
  obtain⟨⟨h1,h2⟩,h3⟩:=h
  by_cases hk:p.1=k
  ·subst hk
   simp [Instr.findNow,h1,Instr.sameNow,h2,List.findIdx?_cons]
  ·have hk':¬k=p.1:=fun q=>hk q.symm
   have hb:(k==p.1)=false:=by simpa using hk'
   have hb2:(p.1==k)=false:=by simpa using hk
   rw[show Instr.findNow (.int K) (.int K k) (e::es) i=Instr.findNow (.int K) (.int K k) es (i+1) from by simp [Instr.findNow,h1,Instr.sameNow,hb],findNow_int k es l (i+1) h3]
   simp only[List.findIdx?_cons,hb2]
   cases l.findIdx? (fun p=>p.1==k) with
   |none=>simp
   |some j=>simp [Nat.add_assoc,Nat.add_comm 1]
theorem look_idx (l:List (Int×Value))(k:Int):look l k=(l.findIdx? (fun p=>p.1==k)).bind fun j=>(l[j]?).map (·.2):=by
 induction l with
 |nil=>rfl
 |cons p l ih=>
  unfold look at ih ⊢
  by_cases hk:p.1=k
  ·simp [hk,List.findIdx?_cons]
  ·have hb2:(p.1==k)=false:=by simpa using hk
   simp only[List.find?_cons,hb2,List.findIdx?_cons,ih]
   cases l.findIdx? (fun p=>p.1==k)<;>simp
section
variable {P:Program} {w:World} {t kt et:TypeId} {b:Nat} {l:List (Int×Value)}
theorem KMap.keys {es:Array MapEntry}(h3:es.toList.map (fun e=>(e.key,e.val))=l.map (fun p=>(Value.int K p.1,p.2))):∀x∈es.toList,IsKey (.int K) x.key:=by
 intro x hx
 obtain⟨p,_,hk,_⟩:=entry_at h3 hx
 rw[hk]
 rfl
theorem run_lookup (ht:P.underlying t=some (.map kt et))(hk:P.underlying kt=some (.int K))(h:KMap K w b l){z:Value}(hz:(zeroValue et).run P w= .ok z w)(k:Int):
 (Instr.lookup t (.map (some b)) (.int K k) true).run P w= .ok (looked z (look l k)) w:=by
 obtain⟨es,c,h1,h2,h3⟩:=h
 have hf:=run_findKey (P:=P) (w:=w) hk (findNow_int k es.toList l 0 h3)
 rw[look_idx]
 simp only[Instr.lookup,Sem.run_bind,run_underlying ht,MapKept.run_getObj_map h1,Result.andThen_ok,Sem.run_pure,run_checkKey (k:= .int K k) hk rfl,hf]
 cases hi:l.findIdx? (fun p=>p.1==k) with
 |none=>simp [hz,looked]
 |some j=>
  have hj:=(List.findIdx?_eq_some_iff_getElem.1 hi).1
  simp [List.getElem?_eq_getElem hj,looked]
theorem put_eq (l:List (Int×Value))(k:Int)(v:Value):put l k v=match l.findIdx? (fun p=>p.1==k) with|some j=>l.set j (k,v)|none=>l++[(k,v)]:=by
 induction l with
 |nil=>rfl
 |cons p l ih=>
  unfold put
  by_cases hk:p.1=k
  ·simp [hk,List.findIdx?_cons]
  ·have hb2:(p.1==k)=false:=by simpa using hk
   rw[if_neg hk,ih]
   simp only[List.findIdx?_cons,hb2]
   cases l.findIdx? (fun p=>p.1==k)<;>simp
theorem run_mapUpdate (ht:P.underlying t=some (.map kt et))(hk:P.underlying kt=some (.int K))(h:KMap K w b l)(k:Int)(v:Value):
 ∃w',(Instr.mapUpdate t (.map (some b)) (.int K k) v).run P w= .ok () w'∧KMap K w' b (put l k v)∧Only [b] w w'∧w'.heap.size=w.heap.size:=by
 obtain⟨es,c,h1,h2,h3⟩:=h
 have hfn:=findNow_int k es.toList l 0 h3
 have hf:=run_findKey (P:=P) (w:=w) hk hfn
 have hks:∀x∈es.toList,IsKey (.int K) x.key:=KMap.keys h3
 have hlt:=lt_of_heap h1
 rw[put_eq]
 have honly:∀o,Only [b] w {w with heap:=w.heap.setIfInBounds b o}:=fun o=>⟨rfl,rfl,rfl,by simp,fun i _ hn=>by
  have:b≠i:=fun e=>hn (by simp [e])
  simp [this]⟩
 cases hi:l.findIdx? (fun p=>p.1==k) with
 |none=>
  rw[hi] at hf hfn
  refine⟨{w with heap:=w.heap.setIfInBounds b (.map (es.push {key:= .int K k,val:=v,born:=c}) (c+1))},?_,?_,honly _,by simp⟩
  ·simp only[Instr.mapUpdate,Sem.run_bind,run_underlying ht,MapKept.run_getObj_map h1,Result.andThen_ok,run_checkKey (k:= .int K k) hk rfl,hf,Option.bind_none,MapKept.run_setObj_map _ h1]
  ·refine⟨_,_,(heap_set h1).1,stamped_push h2 ?_,?_⟩
   ·intro x hx hxk
    obtain⟨p,hp,q,_⟩:=entry_at h3 hx
    rw[hxk] at q
    cases q
    have:=List.findIdx?_eq_none_iff.1 hi p hp
    simp at this
   ·simp [h3]
 |some j=>
  have hjl:=(List.findIdx?_eq_some_iff_getElem.1 hi)
  obtain⟨hj,hjk,_⟩:=hjl
  have hjk':(l[j]).1=k:=by simpa using hjk
  rw[hi] at hf hfn
  simp only[Option.bind_some,List.getElem?_eq_getElem hj,Option.map_some,Nat.zero_add] at hf hfn
  have hsz:es.size=l.length:=KMap.size h3
  have hje:j<es.size:=by omega
  have hkey:es[j].key= .int K k∧es[j].val=l[j].2:=by
   have:=congrArg (fun q=>q[j]?) h3
   simp only[List.getElem?_map,Array.getElem?_toList,Array.getElem?_eq_getElem hje,List.getElem?_eq_getElem hj,Option.map_some,Option.some.injEq,Prod.mk.injEq] at this
   exact⟨this.1.trans (by rw[hjk']),this.2⟩
  refine⟨{w with heap:=w.heap.setIfInBounds b (.map (es.modify j fun e=>{e with key:= .int K k,val:=v}) c)},?_,?_,honly _,by simp⟩
  ·simp only[Instr.mapUpdate,Sem.run_bind,run_underlying ht,MapKept.run_getObj_map h1,Result.andThen_ok,run_checkKey (k:= .int K k) hk rfl,hf,Array.getElem?_eq_getElem hje,Option.map_some,Option.getD_some,hkey.1,run_keyThatStays (d:= .int K) (k:= .int K k) rfl,MapKept.run_setObj_map _ h1]
  ·refine⟨_,_,(heap_set h1).1,stamped_modify h2 _ _ (fun _ _=>rfl) (fun e' _ he'=>?_),?_⟩
   ·rw[Array.getElem?_eq_getElem hje] at he'
    cases he'
    exact hkey.1.symm
   ·apply List.ext_getElem?
    intro i
    simp only[List.getElem?_map,Array.getElem?_toList,Array.getElem?_modify,List.getElem?_set]
    have h3i:=congrArg (fun q=>q[i]?) h3
    simp only[List.getElem?_map,Array.getElem?_toList] at h3i
    by_cases hij:j=i
    ·subst hij
     simp [hj,Array.getElem?_eq_getElem hje]
    ·simp [hij,h3i]
end
end
open Go Go.RowKit Go.MapKept
theorem row_own {w:World}{B n sz:Nat}{e:TypeId}{v:Value}{xs:List Value}(h:w.ownsRow B e sz v n xs):∀k,v.ownBlock=some k→B≤k:=by
 intro k hk
 rcases h.2 with ⟨rfl,_⟩|⟨g,cap,cur,rfl,hb,_⟩
 ·simp [Value.ownBlock] at hk
 ·simp only[Value.ownBlock,Option.some.injEq] at hk
  omega
theorem owns_below {W w2:World}{base:Nat}{e:TypeId}{size:Nat}{v:Value}{n:Nat}{xs:List Value}(h:W.ownsRow base e size v n xs)(hb:Below W.heap.size W w2):w2.ownsRow base e size v n xs:=
 h.kept (row:=none) ⟨hb.os,hb.tape,hb.output,hb.size,fun i hi _=>hb.block i hi⟩ (by cases v.ownBlock<;>simp)
theorem owns_only {W w2:World}{base:Nat}{e:TypeId}{size:Nat}{v:Value}{n:Nat}{xs:List Value}{S:List Nat}(h:W.ownsRow base e size v n xs)(hb:Only S W w2)(hn:∀k,v.ownBlock=some k→k∉S):w2.ownsRow base e size v n xs:=by
 refine⟨h.1,?_⟩
 rcases h.2 with q|⟨g,cap,cur,rfl,hb1,hg,r⟩
 ·exact .inl q
 ·exact .inr ⟨g,cap,cur,rfl,hb1,(hb.block g (lt_of_heap hg) (hn g rfl)).trans hg,r⟩
theorem row_form {w:World}{B n sz:Nat}{e:TypeId}{v:Value}{xs:List Value}(h:w.ownsRow B e sz v n xs):∃a c,v= .slice a n c:=by
 rcases h.2 with ⟨rfl,q⟩|⟨g,cap,cur,rfl,_⟩
 ·exact⟨none,0,by rw[q]⟩
 ·exact⟨_,_,rfl⟩
theorem owns_base {w:World}{B B' n sz:Nat}{e:TypeId}{v:Value}{xs:List Value}(h:w.ownsRow B e sz v n xs)(hB:B'≤B):w.ownsRow B' e sz v n xs:=by
 refine⟨h.1,?_⟩
 rcases h.2 with q|⟨g,cap,cur,e,hb,r⟩
 ·exact .inl q
 ·exact .inr ⟨g,cap,cur,e,Nat.le_trans hB hb,r⟩
theorem heap_alloc0 (w:World)(o:Obj):(w.alloc o).heap[w.heap.size]? =some o:=(MapKept.heap_alloc w o).1
theorem owns_not {w:World}{B n s k:Nat}{t t':TypeId}{v:Value}{xs:List Value}{cs:Array Value}(h:w.ownsRow B t s v n xs)(hk:w.heap[k]? =some (.cells cs t' (0,0)))(ht:t≠t'):v.ownBlock≠some k:=by
 intro e
 rcases h.2 with ⟨rfl,_⟩|⟨g,cap,cur,rfl,_,hg,_⟩
 ·cases e
 ·simp only[Value.ownBlock,Option.some.injEq] at e
  subst e
  rw[hg] at hk
  injection hk with q
  injection q with q1 q2
  exact ht q2
open Go Go.RowKit
structure Wd where
 k:Int
 t:List UInt8
 v:Int×Int×List UInt8
structure Tkn where
 w:Wd
 line:Int
 col:Int
def v0:Int×Int×List UInt8:=(0,0,[])
def tflat:List Tkn→List Value
 |[]=>[]
 |t::l=> .int .u8 t.w.k:: .string ⟨t.w.t.toArray⟩:: .int .u8 t.w.v.1:: .int .i64 t.w.v.2.1:: .string ⟨t.w.v.2.2.toArray⟩:: .int .i64 t.line:: .int .i64 t.col::tflat l
theorem tflat_append (l m:List Tkn):tflat (l++m)=tflat l++tflat m:=by
 induction l with
 |nil=>rfl
 |cons j l ih=>simp [tflat,ih]
theorem tflat_get:∀(l:List Tkn) (i:Nat) (h:i<l.length),(tflat l)[i*7]? =some (.int .u8 l[i].w.k)∧(tflat l)[i*7+1]? =some (.string ⟨l[i].w.t.toArray⟩)∧(tflat l)[i*7+2]? =some (.int .u8 l[i].w.v.1)∧
 (tflat l)[i*7+3]? =some (.int .i64 l[i].w.v.2.1)∧(tflat l)[i*7+4]? =some (.string ⟨l[i].w.v.2.2.toArray⟩)∧(tflat l)[i*7+5]? =some (.int .i64 l[i].line)∧(tflat l)[i*7+6]? =some (.int .i64 l[i].col)
 |[],i,h=>by simp at h
 |t::l,0,_=>⟨rfl,rfl,rfl,rfl,rfl,rfl,rfl⟩
 |t::l,i+1,h=>by
  have:=tflat_get l i (by simpa using h)
  rw[show(i+1)*7=i*7+1+1+1+1+1+1+1 by omega]
  exact this
def TkIs (w:World)(v:Value)(ts:List Tkn):Prop:=
 (v= .slice none 0 0∧ts=[])∨∃b c,v= .slice (some ⟨b,0,none⟩) ts.length c∧ts.length≤c∧b<w.heap.size∧∀j u,(tflat ts)[j]? =some u→w.cell? ⟨b,j,none⟩=some u
theorem TkIs.below {w w':World}{v:Value}{ts:List Tkn}(h:TkIs w v ts)(hb:Below w.heap.size w w'):TkIs w' v ts:=by
 rcases h with h|⟨b,c,h1,h4,h2,h3⟩
 ·exact .inl h
 ·exact .inr ⟨b,c,h1,h4,Nat.lt_of_lt_of_le h2 hb.size,fun j u hj=>(World.cell?_of_block (w:=w) (w':=w') (a:=⟨b,j,none⟩) (hb.block b h2)).trans (h3 j u hj)⟩
theorem TkIs.of_row {w:World}{B:Nat}{v:Value}{ts:List Tkn}(h:w.ownsRow B 94 7 v ts.length (tflat ts)):TkIs w v ts:=by
 rcases h.2 with ⟨e,h0⟩|⟨g,cap,cur,rfl,_,hg,hc,_⟩
 ·exact .inl ⟨e,List.eq_nil_of_length_eq_zero h0⟩
 ·refine .inr ⟨g,cap,rfl,hc,lt_of_heap hg,fun j u hj=>?_⟩
  have:=h.cells (g:=g) rfl j u hj
  rwa [Addr.add_lit,Nat.zero_add] at this
theorem TkIs.form {w:World}{v:Value}{ts:List Tkn}(h:TkIs w v ts):∃a c,v= .slice a ts.length c:=by
 rcases h with ⟨rfl,rfl⟩|⟨b,c,rfl,_⟩
 ·exact⟨none,0,rfl⟩
 ·exact⟨_,_,rfl⟩
theorem TkIs.at {w:World}{v:Value}{ts:List Tkn}(h:TkIs w v ts){k:Nat}(hk:k<ts.length):∃b c,v= .slice (some ⟨b,0,none⟩) ts.length c∧b<w.heap.size∧
 w.cell? ⟨b,k*7,none⟩=some (.int .u8 ts[k].w.k)∧w.cell? ⟨b,k*7+1,none⟩=some (.string ⟨ts[k].w.t.toArray⟩)∧w.cell? ⟨b,k*7+2,none⟩=some (.int .u8 ts[k].w.v.1)∧w.cell? ⟨b,k*7+3,none⟩=some (.int .i64 ts[k].w.v.2.1)∧
 w.cell? ⟨b,k*7+4,none⟩=some (.string ⟨ts[k].w.v.2.2.toArray⟩)∧w.cell? ⟨b,k*7+5,none⟩=some (.int .i64 ts[k].line)∧w.cell? ⟨b,k*7+6,none⟩=some (.int .i64 ts[k].col):=by
 rcases h with ⟨_,rfl⟩|⟨b,c,rfl,_,h2,h3⟩
 ·simp at hk
 ·obtain⟨g0,g1,g2,g3,g4,g5,g6⟩:=tflat_get ts k hk
  exact⟨b,c,rfl,h2,h3 _ _ g0,h3 _ _ g1,h3 _ _ g2,h3 _ _ g3,h3 _ _ g4,h3 _ _ g5,h3 _ _ g6⟩
theorem TkIs.kept {w w':World}{v:Value}{ts:List Tkn}(h:TkIs w v ts)(hz:w.heap.size≤w'.heap.size)(he:∀g,v.ownBlock=some g→g<w.heap.size→w'.heap[g]? =w.heap[g]?):TkIs w' v ts:=by
 rcases h with h|⟨b,c,rfl,h4,h2,h3⟩
 ·exact .inl h
 ·exact .inr ⟨b,c,rfl,h4,Nat.lt_of_lt_of_le h2 hz,fun j u hj=>(World.cell?_of_block (w:=w) (w':=w') (a:=⟨b,j,none⟩) (he b rfl h2)).trans (h3 j u hj)⟩
theorem TkIs.lt {w:World}{v:Value}{ts:List Tkn}(h:TkIs w v ts):∀g,v.ownBlock=some g→g<w.heap.size:=fun g e=>by
 rcases h with ⟨rfl,_⟩|⟨b,c,rfl,h4,h2,h3⟩
 ·cases e
 ·injection e with e
  subst e
  exact h2
end Go.Proofs.YtgfakdobajgnfaaGreatDoor
