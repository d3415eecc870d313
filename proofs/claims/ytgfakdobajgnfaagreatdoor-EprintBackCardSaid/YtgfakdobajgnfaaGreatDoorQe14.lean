import Derived.Test.YtgfakdobajgnfaaGreatDoorQe12
set_option maxRecDepth 100000
set_option maxHeartbeats 16000000
namespace Go.Proofs.YtgfakdobajgnfaaGreatDoor
open Go Go.Lib
def Nd.up (k:Nat)(n:Nd):Nd:=⟨n.h,n.kids.map (· +k)⟩
theorem dN:∀(l:List Ex) (b c:Nat),Ck l (b+c)=(Ck l b).map (· +c)
 |[],_,_=>rfl
 |e::es,b,c=>by
  have h:=e.size_pos
  simp only[Ck,List.map_cons]
  rw[show b+c+e.size=b+e.size+c by omega,dN es (b+e.size) c,show b+e.size+c - 1=b+e.size - 1+c by omega]
mutual
theorem Ex.flat_up:∀(e:Ex) (b c:Nat),e.flat (b+c)=(e.flat b).map (Nd.up c)
 | .mk h ks,b,c=>by
   simp only[Ex.flat,List.map_append,List.map_cons,List.map_nil]
   rw[Xy ks b c,dN]
   rfl
theorem Xy:∀(l:List Ex) (b c:Nat),Bl l (b+c)=(Bl l b).map (Nd.up c)
 |[],_,_=>rfl
 |e::es,b,c=>by
  simp only[Bl,List.map_append]
  rw[Ex.flat_up e b c,show b+c+e.size=b+e.size+c by omega,Xy es (b+e.size) c]
end
theorem Ex.flat_at (e:Ex)(c:Nat):e.flat c=(e.flat 0).map (Nd.up c):=by
 have:=e.flat_up 0 c
 rwa [Nat.zero_add] at this
open Go Go.RowKit Go.Lib Go.Sort Go.Shelf
theorem Gr.form {w:World}{B:Nat}{X:List Nat}{v:Value}{nds:List Nd}(h:Gr w B X v nds)(hn:0<nds.length):∃g c,v= .slice (some ⟨g,0,none⟩) nds.length c/\nds.length<=c/\B<=g:=by
 obtain⟨kvs,h1,_⟩:=h
 rcases h1.2 with ⟨_,h0⟩|⟨g,cap,cur,rfl,hB,_,hc,_⟩
 ·omega
 ·exact⟨g,cap,rfl,hc,hB⟩
theorem Gr.slice {w:World}{B:Nat}{X:List Nat}{v:Value}{nds:List Nd}(h:Gr w B X v nds):∃a c,v= .slice a nds.length c:=by
 obtain⟨kvs,h1,_⟩:=h
 exact Fi h1
theorem Gr.nil (w:World)(B:Nat):Gr w B [] (.slice none 0 0) []:=⟨[],World.ownsRow_nil w B 43 8,trivial⟩
theorem lK {w X Z:World}{B:Nat}{v v' kv:Value}{kvs:List Value}{nds:List Nd}{n:Nd}(hk1:w.ownsRow B 43 8 v nds.length (Ee kvs nds))(hk2:Cr w B [] kvs nds)(hbw:Below w.heap.size w X)
 (hkv:X.ownsRow w.heap.size 3 1 kv n.kids.length (Eg n.kids)) (hB:B<=w.heap.size) (hg:X.grownBy Z v.ownBlock) (hown:Z.ownsRow B 43 8 v' (nds.length+1) (Ee kvs nds++Ee [kv] [n])):Gr Z B [] v' (nds++[n]):=by
 have hX:A4 v.ownBlock.toList w Z:=(A4.of_below hbw _).trans (A4.of_grown hg _ fun k hk=>by simp [hk])
 have hvb:∀g,v.ownBlock=some g->g<w.heap.size:=fun g e=>by
  rcases hk1.2 with ⟨e2,_⟩|⟨g',cap,cur,e2,_,hg',_⟩
  ·rw[e2] at e;cases e
  ·rw[e2] at e
   simp only[Value.ownBlock,Option.some.injEq] at e
   subst e
   exact Aq hg'
 refine⟨kvs++[kv],?_,Cr.snoc (hk2.imp fun u k xs hn q=>⟨A8 q hX fun g e hm=>?_,hn⟩) ⟨N1 (A8 hkv (A4.of_grown hg v.ownBlock.toList fun k hk=>by simp [hk]) fun g e hm=>?_) hB,fun _ _ h=>by cases h⟩⟩
 ·rw[Lu hk2.len]
  simpa using hown
 ·have hm':v.ownBlock=some g:=by simpa using hm
  exact zyg
 ·have h1:=Cm hkv g e
  have h2:=hvb g rZ
  omega
theorem Fy {B:Nat}{a b c:World}{v:Value}(h:Below B a b)(hg:b.grownBy c v.ownBlock)(hv:∀g,v.ownBlock=some g->B<=g)(hB:B<=b.heap.size):Below B a c:=
 Bp h (A4.of_grown hg v.ownBlock.toList fun k hk=>by simp [hk]) (fun i hi=>hv i tT) hB
theorem Wl (b:Ex)(k i:Nat)(hi:i<b.size):∃n,(b.flat 0)[i]? =some n/\(b.flat k)[i]? =some (n.up k):=by
 have h1:i<(b.flat 0).length:=by rw[Ex.flat_len];exact hi
 refine⟨(b.flat 0)[i],Ag h1,?_⟩
 rw[Ex.flat_at b k,List.getElem?_map,Ag h1]
 rfl
theorem TrZ.get {w:World}{b off n c i:Nat}{l:List Nz}{x:Nz}(h:TrZ w (.slice (some ⟨b,off,none⟩) n c) l)(hx:l[i]? =some x):∃kv,Ta w b (off+i*8) x.h kv/\Ik w kv x.kids:=by
 obtain⟨h1,a,c0,e,h2⟩:=h
 injection e with e1 _ _
 obtain⟨hi,rfl⟩:=List.getElem?_eq_some_iff.1 hx
 obtain⟨b',off',kv,e',hn,hk⟩:=h2 i hi
 rw[←e1] at e'
 injection e' with e'
 injection e' with e3 e4
 subst e3 e4
 exact⟨kv,hn,hk⟩
theorem cV {w:World}{x:Value}{kids:List Nat}{k:Nat}{h:Hd}(q:Ik w x (Nd.z (Nd.up k ⟨h,kids⟩)).kids):∃a c,x= .slice a kids.length c/\∀(j v:Nat),kids[j]? =some v->∃b off,a=some ⟨b,off,none⟩/\w.cell? ⟨b,off+j,none⟩=some (.int .i64 ((v:Int)+(k:Int))):=by
 obtain⟨_,a,c,rfl,h2⟩:=q
 refine⟨a,c,by simp [Nd.z,Nd.up],fun j v hj=>?_⟩
 obtain⟨hj1,rfl⟩:=List.getElem?_eq_some_iff.1 hj
 obtain⟨b,off,e,hc⟩:=h2 j (by simpa[Nd.z,Nd.up] using hj1)
 refine⟨b,off,e,?_⟩
 rw[hc]
 simp [Nd.z,Nd.up]
theorem Rs:∀{l:List Nd} {n:Nd} {v:Nat},n∈l->v∈n.kids->v∈Fu l
 |[],_,_,h,_=>by cases h
 |x::l,n,v,h,hv=>by
  show v∈x.kids++Fu l
  rcases List.mem_cons.1 h with rfl|h
  ·exact List.mem_append.2 (.inl hv)
  ·exact List.mem_append.2 (.inr (Rs h hv))
theorem pQ {e:Ex}{n:Nd}{i v:Nat}(h:(e.flat 0)[i]? =some n)(hv:v∈n.kids):v+1<e.size:=by
 have h1:=List.count_pos_iff.2 (Rs (List.mem_of_getElem? h) hv)
 rw[Ex.counts] at h1
 split at h1<;>omega
theorem Lh (l:List Nat)(x:Nat):Eg (l++[x])=Eg l++[.int .i64 (x:Int)]:=by simp [Eg]
theorem Yy (k:Int)(n:Nat)(h:0<n):∃j:Nat,j<n/\(IntKind.u64.wrap k).tmod (n:Int)=(j:Int):=by
 have h0:0<=IntKind.u64.wrap k:=by
  simp only[IntKind.wrap,IntKind.signed,IntKind.bits]
  simp
  omega
 obtain⟨u,hu⟩:∃u:Nat,IntKind.u64.wrap k=(u:Int):=⟨(IntKind.u64.wrap k).toNat,by omega⟩
 refine⟨u % n,Nat.mod_lt _ h,?_⟩
 rw[hu]
 rfl
end Go.Proofs.YtgfakdobajgnfaaGreatDoor
