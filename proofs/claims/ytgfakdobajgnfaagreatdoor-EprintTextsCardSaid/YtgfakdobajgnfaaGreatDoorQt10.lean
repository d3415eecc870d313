import Derived.Test.YtgfakdobajgnfaaGreatDoorQt0
set_option maxRecDepth 100000
set_option maxHeartbeats 16000000
namespace Go.Proofs.YtgfakdobajgnfaaGreatDoor
open Go Go.RowKit Go.MapKept
def Rh (w:World)(b:Nat)(l:List (List UInt8×Value)):Prop:=
 ∃es clock,w.heap[b]? =some (.map es clock)/\Stamped es clock/\es.toList.map (fun e=>(e.key,e.val))=l.map (fun p=>(Value.string ⟨p.1.toArray⟩,p.2))
theorem Rh.of_block {w w':World}{b:Nat}{l:List (List UInt8×Value)}(h:Rh w b l)(he:w'.heap[b]? =w.heap[b]?):Rh w' b l:=by
 obtain⟨es,c,h1,h2,h3⟩:=h;exact⟨es,c,he.trans h1,h2,h3⟩
theorem Rh.lt {w:World}{b:Nat}{l:List (List UInt8×Value)}(h:Rh w b l):b<w.heap.size:=by
 obtain⟨es,c,h1,_⟩:=h;exact Ay h1
theorem Rh.new (w:World):Rh (w.alloc (.map #[] 0)) w.heap.size []:=⟨#[],0,(MapKept.heap_alloc w _).1,stamped_empty 0,rfl⟩
def O7 (l:List (List UInt8×Value))(k:List UInt8):Option Value:=(l.find? (fun p=>p.1==k)).map (·.2)
theorem Yx {a b:List UInt8}:((⟨a.toArray⟩:ByteArray)==⟨b.toArray⟩)=(b==a):=by
 rw[Bool.eq_iff_iff,MapKept.bytes_beq,beq_iff_eq];constructor
 ·intro e
  have:=Ar (fun x:ByteArray=>x.data.toList) e
  simpa using this.symm
 rintro rfl;rfl
theorem L0 (k:List UInt8):∀(es:List MapEntry) (l:List (List UInt8×Value)) (i:Nat),es.map (fun e=>(e.key,e.val))=l.map (fun p=>(Value.string ⟨p.1.toArray⟩,p.2))->
 Instr.findNow .string (.string ⟨k.toArray⟩) es i=some ((l.findIdx? (fun p=>p.1==k)).bind fun j=>(l[j]?).map fun p=>(i+j,p.2))
 |[],[],_,_=>rfl
 |[],_::_,_,h=>by simp at h
 |_::_,[],_,h=>by simp at h
 |e::es,p::l,i,h=>by
  simp only[List.map_cons,List.cons.injEq,Prod.mk.injEq] at h;obtain⟨⟨h1,h2⟩,h3⟩:=h;by_cases hk:p.1=k
  ·subst hk;simp [Instr.findNow,h1,Instr.sameNow,h2,List.findIdx?_cons,Yx]
  have hb2:(p.1==k)=false:=by simpa using hk
  rw[show Instr.findNow .string (.string ⟨k.toArray⟩) (e::es) i=Instr.findNow .string (.string ⟨k.toArray⟩) es (i+1) from by simp only[Instr.findNow,h1,Instr.sameNow,Yx,hb2],L0 k es l (i+1) h3];exact zwp
theorem dR (l:List (List UInt8×Value))(k:List UInt8):O7 l k=(l.findIdx? (fun p=>p.1==k)).bind fun j=>(l[j]?).map (·.2):=by
 induction l with
 |nil=>rfl
 |cons p l ih=>
  unfold O7 at ih ⊢;exact zxg
section
variable {P:Program} {w:World} {t kt et:TypeId} {b:Nat} {l:List (List UInt8×Value)}
theorem Qo (ht:P.underlying t=some (.map kt et))(hk:P.underlying kt=some .string)(h:Rh w b l){z:Value}(hz:(zeroValue et).run P w= .ok z w)(k:List UInt8):
 (Instr.lookup t (.map (some b)) (.string ⟨k.toArray⟩) true).run P w= .ok (Im z (O7 l k)) w:=by
 obtain⟨es,c,h1,h2,h3⟩:=h;have hf:=run_findKey (P:=P) (w:=w) hk (L0 k es.toList l 0 h3);rw[dR];simp only[Instr.lookup,Sem.run_bind,run_underlying ht,MapKept.run_getObj_map h1,Result.andThen_ok,Sem.run_pure,run_checkKey (k:= .string ⟨k.toArray⟩) hk trivial,hf];cases hi:l.findIdx? (fun p=>p.1==k) with
 |none=>simp [hz,Im]
 |some j=>
  have hj:=(List.findIdx?_eq_some_iff_getElem.1 hi).1;simp [Ag hj,Im]
theorem Ey (ht:P.underlying t=some (.map kt et))(hk:P.underlying kt=some .string)(h:Rh w b l)(k:List UInt8)(v:Value)(hn:l.findIdx? (fun p=>p.1==k)=none):
 ∃w',(Instr.mapUpdate t (.map (some b)) (.string ⟨k.toArray⟩) v).run P w= .ok () w'/\Rh w' b (l++[(k,v)])/\Bb [b] w w'/\w'.heap.size=w.heap.size:=by
 obtain⟨es,c,h1,h2,h3⟩:=h;have hf:=run_findKey (P:=P) (w:=w) hk (L0 k es.toList l 0 h3);rw[hn] at hf;refine⟨{w with heap:=w.heap.setIfInBounds b (.map (es.push {key:= .string ⟨k.toArray⟩,val:=v,born:=c}) (c+1))},?_,?_,⟨rfl,rfl,rfl,by simp,fun i _ hn=>?_⟩,by simp⟩
 ·simp only[Instr.mapUpdate,Sem.run_bind,run_underlying ht,MapKept.run_getObj_map h1,Result.andThen_ok,run_checkKey (k:= .string ⟨k.toArray⟩) hk trivial,hf,Option.bind_none,MapKept.run_setObj_map _ h1]
 ·refine⟨_,_,(heap_set h1).1,stamped_push h2 ?_,by simp [h3]⟩;intro x hx hxk;have hm:(x.key,x.val)∈es.toList.map (fun e=>(e.key,e.val)):=List.mem_map.2 ⟨x,hx,rfl⟩;rw[h3] at hm;obtain⟨p,hp,q⟩:=List.mem_map.1 hm;simp only[Prod.mk.injEq] at q;rw[hxk] at q;have h4:=List.findIdx?_eq_none_iff.1 hn p hp
  have h5:p.1=k:=by
   have:=q.1
   injection this with this
   have:=Ar (fun x:ByteArray=>x.data.toList) this
   simpa using this
  simp [h5] at h4
 have:b≠i:=fun e=>hn (by simp [e])
 simp [this]
end
end Go.Proofs.YtgfakdobajgnfaaGreatDoor
