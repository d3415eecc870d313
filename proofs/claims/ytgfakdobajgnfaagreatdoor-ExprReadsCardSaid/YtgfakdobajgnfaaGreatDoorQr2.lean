import Derived.Deep.AppendLies
import Derived.Laws.Externs
import Derived.Laws.EntriesVeiled
import Derived.BigQuiet
import Derived.Test.YtgfakdobajgnfaaGreatDoorQr1
import Derived.Test.YtgfakdobajgnfaaGreatDoorQr0
namespace Go.Proofs.YtgfakdobajgnfaaGreatDoor
open Go Go.RowKit
def nflat:List Value→List Nd→List Value
 |kv::kvs,n::ns=> .int .u8 n.h.op:: .int .u8 n.h.v.1:: .int .i64 n.h.v.2.1:: .string ⟨n.h.v.2.2.toArray⟩:: .string ⟨n.h.name.toArray⟩::kv:: .int .i64 n.h.line:: .int .i64 n.h.col::nflat kvs ns
 |_,_=>[]
def nums (l:List Nat):List Value:=l.map fun(k:Nat)=>Value.int .i64 (k:Int)
def KidsAre (w:World)(B:Nat)(X:List Nat):List Value→List Nd→Prop
 |[],[]=>True
 |v::vs,n::ns=>(w.ownsRow B 3 1 v n.kids.length (nums n.kids)∧∀g,v.ownBlock=some g→g∉X)∧KidsAre w B X vs ns
 |_,_=>False
theorem KidsAre.snoc {w:World}{B:Nat}{X:List Nat}{v:Value}{n:Nd}:∀{vs:List Value} {ns:List Nd},KidsAre w B X vs ns→(w.ownsRow B 3 1 v n.kids.length (nums n.kids)∧∀g,v.ownBlock=some g→g∉X)→KidsAre w B X (vs++[v]) (ns++[n])
 |[],[],_,h=>⟨h,trivial⟩
 |_::_,_::_,h,k=>⟨h.1,KidsAre.snoc h.2 k⟩
 |[],_::_,h,_=>h.elim
 |_::_,[],h,_=>h.elim
theorem KidsAre.imp {w w':World}{B:Nat}{X:List Nat}{Y:List Nat}(hk:∀v n xs,(∀g,v.ownBlock=some g→g∉X)→w.ownsRow B 3 1 v n xs→w'.ownsRow B 3 1 v n xs∧∀g,v.ownBlock=some g→g∉Y):∀{vs:List Value} {ns:List Nd},KidsAre w B X vs ns→KidsAre w' B Y vs ns
 |[],[],_=>trivial
 |_::_,_::_,h=>⟨hk _ _ _ h.1.2 h.1.1,KidsAre.imp hk h.2⟩
 |[],_::_,h=>h.elim
 |_::_,[],h=>h.elim
theorem KidsAre.base {w:World}{B B':Nat}{X:List Nat}(hB:B'≤B):∀{vs:List Value} {ns:List Nd},KidsAre w B X vs ns→KidsAre w B' X vs ns
 |[],[],_=>trivial
 |_::_,_::_,h=>⟨⟨owns_base h.1.1 hB,h.1.2⟩,KidsAre.base hB h.2⟩
 |[],_::_,h=>h.elim
 |_::_,[],h=>h.elim
theorem KidsAre.len {w:World}{B:Nat}{X:List Nat}:∀{vs:List Value} {ns:List Nd},KidsAre w B X vs ns→vs.length=ns.length
 |[],[],_=>rfl
 |_::_,_::_,h=>by simp [KidsAre.len h.2]
 |[],_::_,h=>h.elim
 |_::_,[],h=>h.elim
theorem nflat_snoc {v:Value}{n:Nd}:∀{vs:List Value} {ns:List Nd},vs.length=ns.length→nflat (vs++[v]) (ns++[n])=nflat vs ns++nflat [v] [n]
 |[],[],_=>rfl
 |_::vs,_::ns,h=>by simp [nflat,nflat_snoc (vs:=vs) (ns:=ns) (by simpa using h)]
 |[],_::_,h=>by simp at h
 |_::_,[],h=>by simp at h
def TrIs (w:World)(B:Nat)(X:List Nat)(v:Value)(nds:List Nd):Prop:=∃kvs,w.ownsRow B 43 8 v nds.length (nflat kvs nds)∧KidsAre w B X kvs nds
structure RdAt (w:World)(B:Nat)(X:List Nat)(b:Nat)(vl:Value)(ts r:List Tkn)(d:Nat)(vt:Value)(nds:List Nd):Prop where
 suf:Suf r ts
 toks:TkIs w vl ts
 nam:∀t∈ts,t.w.k=1→t.w.t≠[40]
 tl:∀g,vl.ownBlock=some g→g<B
 hB:B≤b
 xl:∀x∈X,x<w.heap.size
 hd:d≤12
 big:ts.length≤1000000
 few:nds.length+r.length≤1000000
 blk:w.heap[b]? =some (.cells #[vl,.int .i64 ((ts.length - r.length:Nat):Int),.int .i64 (d:Int),vt] 130 (0,0))
 tree:TrIs w B X vt nds
def RdErr (w:World)(b:Nat)(vl:Value)(p:Nat):Prop:=∃dd vv,w.heap[b]? =some (.cells #[vl,.int .i64 (p:Int),dd,vv] 130 (0,0))
structure Rch (b:Nat)(w:World)(vt:Value)(w':World)(vt':Value):Prop where
 only:Only (b::vt.ownBlock.toList) w w'
 own:∀g,vt'.ownBlock=some g→vt.ownBlock=some g∨w.heap.size≤g
theorem Rch.refl (b:Nat)(w:World)(vt:Value):Rch b w vt w vt:=⟨Only.refl _ _,fun _ h=> .inl h⟩
theorem Rch.trans {b:Nat}{w w1 w2:World}{vt v1 v2:Value}(h:Rch b w vt w1 v1)(k:Rch b w1 v1 w2 v2):Rch b w vt w2 v2:=by
 refine⟨h.only.step k.only fun i hi=>?_,fun g hg=>?_⟩
 ·rcases List.mem_cons.1 hi with rfl|hi
  ·exact .inl List.mem_cons_self
  ·have e:v1.ownBlock=some i:=by simpa using hi
   rcases h.own i e with q|q
   ·exact .inl (List.mem_cons_of_mem _ (by simpa using q))
   ·exact .inr q
 ·rcases k.own g hg with q|q
  ·exact h.own g q
  ·exact .inr (Nat.le_trans h.only.size q)
theorem Rch.err {b:Nat}{w w1 w2:World}{vt v1:Value}(h:Rch b w vt w1 v1)(k:Only (b::v1.ownBlock.toList) w1 w2):Only (b::vt.ownBlock.toList) w w2:=
 (h.trans (v2:=v1) ⟨k,fun _ q=> .inl q⟩).only
theorem Rch.of_below {b:Nat}{w w':World}(vt:Value)(h:Below w.heap.size w w'):Rch b w vt w' vt:=⟨Only.of_below h _,fun _ q=> .inl q⟩
theorem Rch.of_only {b:Nat}{w w':World}(vt:Value)(h:Only [b] w w'):Rch b w vt w' vt:=⟨h.mono fun i hi=>by simp at hi;simp [hi],fun _ q=> .inl q⟩
theorem Suf.at_drop {r ts:List Tkn}(h:Suf r ts):r=ts.drop (ts.length - r.length):=by
 obtain⟨k,rfl⟩:=h
 rw[List.length_drop]
 by_cases hk:k≤ts.length
 ·rw[show ts.length - (ts.length - k)=k by omega]
 ·rw[List.drop_eq_nil_of_le (by omega),List.drop_eq_nil_of_le (by omega)]
theorem TrIs.imp {w w':World}{B:Nat}{X:List Nat}{v:Value}{nds:List Nd}(h:TrIs w B X v nds)(ht:∀xs,w.ownsRow B 43 8 v nds.length xs→w'.ownsRow B 43 8 v nds.length xs)
 {Y:List Nat} (hk:∀v n xs,(∀g,v.ownBlock=some g→g∉X)→w.ownsRow B 3 1 v n xs→w'.ownsRow B 3 1 v n xs∧∀g,v.ownBlock=some g→g∉Y):TrIs w' B Y v nds:=by
 obtain⟨kvs,h1,h2⟩:=h
 exact⟨kvs,ht _ h1,h2.imp hk⟩
theorem TrIs.below {w w':World}{B:Nat}{X:List Nat}{v:Value}{nds:List Nd}(h:TrIs w B X v nds)(hb:Below w.heap.size w w'):TrIs w' B X v nds:=h.imp (fun _ q=>owns_below q hb) fun _ _ _ n q=>⟨owns_below q hb,n⟩
theorem TrIs.own {w:World}{B:Nat}{X:List Nat}{v:Value}{nds:List Nd}(h:TrIs w B X v nds):∀g,v.ownBlock=some g→B≤g:=by
 obtain⟨kvs,h1,_⟩:=h
 exact row_own h1
theorem TrIs.not {w:World}{B k:Nat}{X:List Nat}{t:TypeId}{v:Value}{nds:List Nd}{cs:Array Value}(h:TrIs w B X v nds)(hk:w.heap[k]? =some (.cells cs t (0,0)))(ht:43≠t):v.ownBlock≠some k:=by
 obtain⟨kvs,h1,_⟩:=h
 exact owns_not h1 hk ht
theorem RdAt.below {w w':World}{B b d:Nat}{X:List Nat}{vl vt:Value}{ts r:List Tkn}{nds:List Nd}(h:RdAt w B X b vl ts r d vt nds)(hb:Below w.heap.size w w'):RdAt w' B X b vl ts r d vt nds:=
 ⟨h.suf,h.toks.below hb,h.nam,h.tl,h.hB,fun x hx=>Nat.lt_of_lt_of_le (h.xl x hx) hb.size,h.hd,h.big,h.few,(hb.block b (lt_of_heap h.blk)).trans h.blk,h.tree.below hb⟩
theorem RdAt.turn {w w':World}{B b d d':Nat}{X:List Nat}{vl vt:Value}{ts r r':List Tkn}{nds:List Nd}(h:RdAt w B X b vl ts r d vt nds)(ho:Only [b] w w')(hs:Suf r' r)(hd:d'≤12)
 (hb:w'.heap[b]? =some (.cells #[vl,.int .i64 ((ts.length - r'.length:Nat):Int),.int .i64 (d':Int),vt] 130 (0,0))):RdAt w' B X b vl ts r' d' vt nds:=by
 have hl:=hs.len
 refine⟨hs.trans h.suf,h.toks.kept ho.size fun g hg hlt=>ho.block g hlt ?_,h.nam,h.tl,h.hB,fun x hx=>Nat.lt_of_lt_of_le (h.xl x hx) ho.size,hd,h.big,by have:=h.few;omega,hb,h.tree.imp (fun _ q=>owns_only q ho fun k e hm=>?_) fun v n xs hn q=>⟨owns_only q ho fun k e hm=>?_,hn⟩⟩
 ·have:=h.tl g hg
  have:=h.hB
  simp
  omega
 ·simp at hm
  subst hm
  exact h.tree.not h.blk (by decide) e
 ·simp at hm
  subst hm
  exact owns_not q h.blk (by decide) e
theorem cells4 {w:World}{b:Nat}{x y z u:Value}{t:TypeId}(h:w.heap[b]? =some (.cells #[x,y,z,u] t (0,0))):
 w.cell? ⟨b,0,none⟩=some x∧w.cell? ⟨b,1,none⟩=some y∧w.cell? ⟨b,2,none⟩=some z∧w.cell? ⟨b,3,none⟩=some u∧∀i,w.frozen? ⟨b,i,none⟩=false:=
 ⟨by simp only[World.cell?,h];rfl,by simp only[World.cell?,h];rfl,by simp only[World.cell?,h];rfl,by simp only[World.cell?,h];rfl,fun i=>by simp only[World.frozen?,h];simp⟩
theorem only_setCell (w:World)(b i:Nat)(u:Value):Only [b] w (w.setCell ⟨b,i,none⟩ u):=(Only.refl [b] w).setCell (.inl (by simp)) u
theorem RdAt.step {w:World}{B b d:Nat}{X:List Nat}{vl vt:Value}{ts q:List Tkn}{t:Tkn}{nds:List Nd}(h:RdAt w B X b vl ts (t::q) d vt nds):
 RdAt (w.setCell ⟨b,1,none⟩ (.int .i64 (((ts.length - (q.length+1):Nat):Int)+1))) B X b vl ts q d vt nds:=by
 have hl:=h.suf.len
 simp only[List.length_cons] at hl
 refine h.turn (only_setCell _ _ _ _) ⟨1,rfl⟩ h.hd ?_
 rw[setCell_heap h.blk]
 have:((ts.length - (q.length+1):Nat):Int)+1=((ts.length - q.length:Nat):Int):=by omega
 rw[this]
 rfl
theorem RdAt.deep {w:World}{B b d d':Nat}{X:List Nat}{vl vt:Value}{ts r:List Tkn}{nds:List Nd}(h:RdAt w B X b vl ts r d vt nds)(hd:d'≤12):RdAt (w.setCell ⟨b,2,none⟩ (.int .i64 (d':Int))) B X b vl ts r d' vt nds:=by
 refine h.turn (only_setCell _ _ _ _) (Suf.refl _) hd ?_
 rw[setCell_heap h.blk]
 rfl
theorem RdAt.head {w:World}{B b d:Nat}{X:List Nat}{vl vt:Value}{ts q:List Tkn}{t:Tkn}{nds:List Nd}(h:RdAt w B X b vl ts (t::q) d vt nds):∃g c,vl= .slice (some ⟨g,0,none⟩) ts.length c∧g<w.heap.size∧ts.length - (t::q).length<ts.length∧
 w.cell? ⟨g,(ts.length - (t::q).length)*7,none⟩=some (.int .u8 t.w.k)∧w.cell? ⟨g,(ts.length - (t::q).length)*7+1,none⟩=some (.string ⟨t.w.t.toArray⟩)∧w.cell? ⟨g,(ts.length - (t::q).length)*7+2,none⟩=some (.int .u8 t.w.v.1)∧
 w.cell? ⟨g,(ts.length - (t::q).length)*7+3,none⟩=some (.int .i64 t.w.v.2.1)∧w.cell? ⟨g,(ts.length - (t::q).length)*7+4,none⟩=some (.string ⟨t.w.v.2.2.toArray⟩)∧w.cell? ⟨g,(ts.length - (t::q).length)*7+5,none⟩=some (.int .i64 t.line)∧w.cell? ⟨g,(ts.length - (t::q).length)*7+6,none⟩=some (.int .i64 t.col):=by
 have hl:=h.suf.len
 simp only[List.length_cons] at hl
 have hlt:ts.length - (t::q).length<ts.length:=by simp only[List.length_cons];omega
 have he:ts[ts.length - (t::q).length]=t:=by
  have h1:=h.suf.at_drop
  have h2:=congrArg (fun l=>l[0]?) h1
  simp only[List.getElem?_cons_zero,List.getElem?_drop,Nat.add_zero] at h2
  rw[List.getElem?_eq_getElem hlt] at h2
  injection h2 with h2
  exact h2.symm
 obtain⟨g,c,e,hg,h0⟩:=h.toks.at hlt
 rw[he] at h0
 exact⟨g,c,e,hg,hlt,h0⟩
open Go Go.RowKit
set_option maxRecDepth 100000 in
theorem is_any {w:World}{B b d:Nat}{X:List Nat}{vl vt:Value}{ts r:List Tkn}{nds:List Nd}(h:RdAt w B X b vl ts r d vt nds)(s:List UInt8):
 Calls Tryz.prog 206 #[.pointer (some ⟨b,0,none⟩),.string ⟨s.toArray⟩] w fun e w'=>e= .returned (.bool (isH s r))∧Below w.heap.size w w':=by
 obtain⟨c0,c1,c2,c3,_⟩:=cells4 h.blk
 have hl:=h.suf.len
 have hbig:=h.big
 cases r with
 |nil=>
  obtain⟨va,vc,rfl⟩:=h.toks.form
  have i0:¬(((ts.length - ([]:List Tkn).length:Nat):Int)<(ts.length:Int)):=by simp
  have i1:decide (((ts.length - ([]:List Tkn).length:Nat):Int)<(ts.length:Int))=false:=by simp
  clear h hl
  go_enter Tryz.func206,Tryz.ntmps206
  go_wp2_with fail
  go_quiet (fail)
  go_wp2_with fail
  go_ret
  exact⟨rfl,below_drewN (Below.refl _ w) _⟩
 |cons t q=>
  obtain⟨g,c,rfl,hg,hlt,t0,t1,_⟩:=h.head
  obtain⟨n,hn⟩:∃n,ts.length - (t::q).length=n:=⟨_,rfl⟩
  rw[hn] at c1 hlt t0 t1
  have i0:(n:Int)<(ts.length:Int):=by omega
  have i1:decide ((n:Int)<(ts.length:Int))=true:=by simp;omega
  have i2:(0:Int)≤(n:Int):=by omega
  clear h hl hn
  by_cases hs:t.w.t=s
  ·have e1:(t.w.t==s)=true:=by simpa using hs
   have e2:isH s (t::q)=(decide (t.w.k=1)||decide (t.w.k=7)):=by simp [isH,hs]
   rw[e2]
   obtain⟨k,hk⟩:∃k,t.w.k=k:=⟨_,rfl⟩
   rw[hk] at t0 ⊢
   clear hk e2
   rw[hs] at t1
   clear hs e1
   by_cases k1:k=1
   ·subst k1
    go_enter Tryz.func206,Tryz.ntmps206
    go_wp2_with fail
    go_quiet (fail)
    go_wp2_with fail
    go_ret
    exact⟨rfl,below_drewN (Below.refl _ w) _⟩
   ·have f1:(k==1)=false:=by simpa using k1
    have f2:decide (k=1)=false:=by simpa using k1
    rw[f2]
    by_cases k7:k=7
    ·subst k7
     go_enter Tryz.func206,Tryz.ntmps206
     go_wp2_with fail
     go_quiet (fail)
     go_wp2_with fail
     go_ret
     exact⟨rfl,below_drewN (Below.refl _ w) _⟩
    ·have f3:(k==7)=false:=by simpa using k7
     have f4:decide (k=7)=false:=by simpa using k7
     rw[f4]
     go_enter Tryz.func206,Tryz.ntmps206
     go_wp2_with fail
     go_quiet (fail)
     go_wp2_with fail
     go_ret
     exact⟨rfl,below_drewN (Below.refl _ w) _⟩
  ·have e1:(t.w.t==s)=false:=by simpa using hs
   have e2:isH s (t::q)=false:=by simp [isH,hs]
   rw[e2]
   go_enter Tryz.func206,Tryz.ntmps206
   go_wp2_with fail
   go_quiet (fail)
   go_wp2_with fail
   go_ret
   exact⟨rfl,below_drewN (Below.refl _ w) _⟩
abbrev gaveUp (e:Int):Ending:= .panicked [{v:= .iface 131 (.int .i64 e),recovered:=false}]
set_option maxRecDepth 100000 in
theorem open_deep {w:World}{B b:Nat}{X:List Nat}{vl vt:Value}{ts r:List Tkn}{nds:List Nd}(h:RdAt w B X b vl ts r 12 vt nds):
 Calls Tryz.prog 207 #[.pointer (some ⟨b,0,none⟩)] w fun e w'=>e=gaveUp 12∧w'=w:=by
 obtain⟨c0,c1,c2,c3,cf⟩:=cells4 h.blk
 have c2':w.cell? ⟨b,2,none⟩=some (.int .i64 12):=c2
 clear h cf c2
 go_enter Tryz.func207,Tryz.ntmps207
 go_wp2_with fail
 exact⟨rfl,rfl,rfl⟩
set_option maxRecDepth 100000 in
theorem open_ok' {w:World}{B b d:Nat}{X:List Nat}{vl vt:Value}{ts r:List Tkn}{nds:List Nd}(h:RdAt w B X b vl ts r d vt nds)(hd:d≠12):
 Calls Tryz.prog 207 #[.pointer (some ⟨b,0,none⟩)] w fun e w'=>e= .returned (.tuple #[])∧RdAt w' B X b vl ts r (d+1) vt nds∧Only [b] w w':=by
 obtain⟨c0,c1,c2,c3,cf⟩:=cells4 h.blk
 have hd12:=h.hd
 have cf2:=cf 2
 have e1:((d:Int)==12)=false:=by simp;omega
 have hn:=h.deep (d':=d+1) (by omega)
 have hN:=hide hn
 have ho:=hide (only_setCell w b 2 (.int .i64 ((d+1:Nat):Int)))
 clear h cf hn hd
 go_enter Tryz.func207,Tryz.ntmps207
 go_wp2_with fail
 go_end0
 exact⟨rfl,hN.out,ho.out⟩
theorem place_tail (w:World)(n:Nat)(o:Obj)(a b x y:Value)(T:TypeId)(ho:o= .cells #[a,b] T):
 ((((((w.alloc o).drewN n).setCell ⟨w.heap.size,0,none⟩ x).setCell ⟨w.heap.size,1,none⟩ y).setCell ⟨w.heap.size,0,none⟩ x).setCell ⟨w.heap.size,1,none⟩ y).heap[w.heap.size]? =some (.cells #[x,y] T (0,0)):=by
 subst ho
 have h0:((w.alloc (.cells #[a,b] T)).drewN n).heap[w.heap.size]? =some (.cells #[a,b] T (0,0)):=heap_alloc0 w _
 rw[setCell_heap (setCell_heap (setCell_heap (setCell_heap h0)))]
 rfl
theorem two_cells {w:World}{b:Nat}{x y:Value}{t:TypeId}(h:w.heap[b]? =some (.cells #[x,y] t (0,0))):w.cell? ⟨b,0,none⟩=some x∧w.cell? ⟨b,1,none⟩=some y∧∀i,w.frozen? ⟨b,i,none⟩=false:=
 ⟨by simp only[World.cell?,h];rfl,by simp only[World.cell?,h];rfl,fun i=>by simp only[World.frozen?,h];simp⟩
set_option maxRecDepth 100000 in
theorem place_any {w:World}{B b d:Nat}{X:List Nat}{vl vt:Value}{ts r:List Tkn}{nds:List Nd}(h:RdAt w B X b vl ts r d vt nds):
 Calls Tryz.prog 238 #[.pointer (some ⟨b,0,none⟩)] w fun e w'=>e= .returned (.agg #[.int .i64 (plH r).1,.int .i64 (plH r).2])∧Below w.heap.size w w':=by
 obtain⟨c0,c1,c2,c3,_⟩:=cells4 h.blk
 have hl:=h.suf.len
 have hbig:=h.big
 have hB:=lt_of_heap h.blk
 cases r with
 |nil=>
  obtain⟨va,vc,rfl⟩:=h.toks.form
  have i0:¬(((ts.length - ([]:List Tkn).length:Nat):Int)<(ts.length:Int)):=by simp
  have i1:decide (((ts.length - ([]:List Tkn).length:Nat):Int)<(ts.length:Int))=false:=by simp
  clear h hl
  go_enter Tryz.func238,Tryz.ntmps238
  go_wp2_with fail
  go_quiet (fail)
  go_wp2_with fail
  refine bodyPost_ret (v:= .agg #[.int .i64 0,.int .i64 0]) (by simp [results,Tryz.results238,go_sem, *]) rfl ?_
  exact⟨rfl,((below_drewN ((Below.refl _ w).alloc (Nat.le_refl _) _) _).setCell (Nat.le_refl _) _).setCell (Nat.le_refl _) _⟩
 |cons t q=>
  obtain⟨g,c,rfl,hg,hlt,t0,t1,t2,t3,t4,t5,t6⟩:=h.head
  obtain⟨n,hn⟩:∃n,ts.length - (t::q).length=n:=⟨_,rfl⟩
  rw[hn] at c1 hlt t0 t1 t2 t3 t4 t5 t6
  have i0:(n:Int)<(ts.length:Int):=by omega
  have i1:decide ((n:Int)<(ts.length:Int))=true:=by simp;omega
  have i2:(0:Int)≤(n:Int):=by omega
  clear h hl hn
  go_enter Tryz.func238,Tryz.ntmps238
  go_wp2_with fail
  go_quiet (fail)
  go_wp2_with fail
  go_region
  go_wp2_with fail
  obtain⟨z0,z1,_⟩:=two_cells (place_tail w (nq+1) (.cells #[.int .i64 0,.int .i64 0] 33) _ _ (.int .i64 t.line) (.int .i64 t.col) _ rfl)
  refine bodyPost_ret (v:= .agg #[.int .i64 t.line,.int .i64 t.col]) (by simp [results,Tryz.results238,go_sem,z0,z1]) rfl ?_
  exact⟨rfl,((((below_drewN ((Below.refl _ w).alloc (Nat.le_refl _) _) _).setCell (Nat.le_refl _) _).setCell (Nat.le_refl _) _).setCell (Nat.le_refl _) _).setCell (Nat.le_refl _) _⟩
set_option maxRecDepth 100000 in
theorem must_any {w:World}{B b d:Nat}{X:List Nat}{vl vt:Value}{ts r:List Tkn}{nds:List Nd}(h:RdAt w B X b vl ts r d vt nds)(s:List UInt8):
 Calls Tryz.prog 208 #[.pointer (some ⟨b,0,none⟩),.string ⟨s.toArray⟩] w fun e w'=>
  if isH s r then e= .returned (.tuple #[])∧RdAt w' B X b vl ts r.tail d vt nds∧Only [b] w w' else e=gaveUp 4∧Below w.heap.size w w':=by
 have hi:=is_any h s
 have Hi:=hide hi
 have H:=hide h
 by_cases e:isH s r=true
 ·rw[e] at hi Hi
  rw[e]
  simp only[if_true]
  obtain⟨t,q,rfl⟩:=isH_ne e
  clear hi h
  go_enter Tryz.func208,Tryz.ntmps208
  go_wp2_with fail
  (with_reducible refine Hi.out.mono ?_)
  rintro e V ⟨rfl,hb⟩
  have h':=H.out.below hb
  obtain⟨c0,c1,c2,c3,cf⟩:=cells4 h'.blk
  have cf1:=cf 1
  have hbig:=h'.big
  have hst:=hide h'.step
  have ho:=hide ((Only.of_below hb [b]).trans (only_setCell V b 1 (.int .i64 (((ts.length - (t::q).length:Nat):Int)+1))))
  clear cf h' H hb
  go_wp2_with fail
  go_end0
  exact⟨rfl,hst.out,ho.out⟩
 ·have e':isH s r=false:=by simpa using e
  rw[e'] at hi Hi
  rw[e']
  simp only[Bool.false_eq_true,if_false]
  clear hi h
  go_enter Tryz.func208,Tryz.ntmps208
  go_wp2_with fail
  (with_reducible refine Hi.out.mono ?_)
  rintro e V ⟨rfl,hb⟩
  have Hb:=hide hb
  clear hb
  go_wp2_with fail
  exact⟨rfl,rfl,Hb.out⟩
open Go Go.RowKit
def opsC:List (List UInt8×Int)→List Value
 |[]=>[]
 |o::l=> .string ⟨o.1.toArray⟩:: .int .u8 o.2::opsC l
theorem opsC_get:∀(l:List (List UInt8×Int)) (i:Nat) (h:i<l.length),(opsC l)[i*2]? =some (.string ⟨l[i].1.toArray⟩)∧(opsC l)[i*2+1]? =some (.int .u8 l[i].2)
 |[],i,h=>by simp at h
 |o::l,0,_=>⟨rfl,rfl⟩
 |o::l,i+1,h=>by
  have:=opsC_get l i (by simpa using h)
  rw[show(i+1)*2=i*2+1+1 by omega]
  exact this
def OpsIs (w:World)(g:Nat)(l:List (List UInt8×Int)):Prop:=w.heap[g]? =some (.cells (opsC l).toArray 228 (0,0))
theorem OpsIs.at {w:World}{g:Nat}{l:List (List UInt8×Int)}(h:OpsIs w g l){i:Nat}(hi:i<l.length):w.cell? ⟨g,i*2,none⟩=some (.string ⟨l[i].1.toArray⟩)∧w.cell? ⟨g,i*2+1,none⟩=some (.int .u8 l[i].2):=by
 obtain⟨h1,h2⟩:=opsC_get l i hi
 constructor
 ·simp only[World.cell?,OpsIs] at h ⊢
  rw[h]
  simpa using h1
 ·simp only[World.cell?,OpsIs] at h ⊢
  rw[h]
  simpa using h2
theorem OpsIs.below {w w':World}{g:Nat}{l:List (List UInt8×Int)}(h:OpsIs w g l)(hb:Below w.heap.size w w'):OpsIs w' g l:=(hb.block g (lt_of_heap h)).trans h
set_option maxRecDepth 100000 in
theorem infix_any {w:World}{B b d:Nat}{X:List Nat}{vl vt:Value}{ts r:List Tkn}{nds:List Nd}(h:RdAt w B X b vl ts r d vt nds){g:Nat}{l:List (List UInt8×Int)}(ho:OpsIs w g l)(hl:l.length≤6):
 Calls Tryz.prog 239 #[.pointer (some ⟨b,0,none⟩),.slice (some ⟨g,0,none⟩) l.length l.length] w fun e w'=>e= .returned (.int .u8 (infixH r l))∧Below w.heap.size w w':=by
 have H:=hide h
 have Ho:=hide ho
 clear h ho
 go_enter Tryz.func239,Tryz.ntmps239
 go_wp2_with fail
 go_loopw [9] (fun vi wr=>∃j:Nat,j≤l.length∧vi= .int .i64 j∧Hid (infixH r (l.drop j)=infixH r l)∧Hid (Below w.heap.size w wr)) (fun vi _=>l.length - (intOf vi).toNat)
 case atStart=>exact⟨0,Nat.zero_le _,rfl,rfl,Below.refl _ _⟩
 case round=>
  obtain⟨j,hj,rfl,hq,hb⟩:=hrel
  by_cases hjl:j<l.length
  ·obtain⟨d0,d1⟩:=(Ho.out.below hb.out).at hjl
   have e1:=List.drop_eq_getElem_cons hjl
   have e2:(if isH l[j].1 r then l[j].2 else infixH r (l.drop (j+1)))=infixH r l:=by
    rw[←hq.out,e1]
    rfl
   obtain⟨⟨s,o⟩,hlj⟩:∃x,l[j]=x:=⟨_,rfl⟩
   rw[hlj] at d0 d1 e2
   simp only at d0 d1 e2
   have i1:(0:Int)≤(j:Int):=by omega
   have i2:(j:Int)<(l.length:Int):=by omega
   have hb2:Below wr.heap.size wr (wr.alloc (.cells #[.string ⟨s.toArray⟩,.int .u8 o] 228)):=(Below.refl _ wr).alloc (Nat.le_refl _) _
   have hz2:=heap_alloc0 wr (.cells #[.string ⟨s.toArray⟩,.int .u8 o] 228)
   obtain⟨z0,z1,_⟩:=two_cells hz2
   have hi:=hide (is_any ((H.out.below hb.out).below hb2) s)
   have HZ:=hide (lt_of_heap hz2)
   have HB:=hide (hb.out.trans (hb2.mono hb.out.size))
   have E2:=hide e2
   have hj9:(j:Int)≤6:=by omega
   clear hq hb hb2 hz2 e1 e2 hlj
   go_wp2_with fail
   (with_reducible refine hi.out.mono ?_)
   rintro e V ⟨rfl,hbV⟩
   have z1':=bcell hbV z1
   have HBV:=hide (HB.out.trans (hbV.mono HB.out.size))
   have E3:=E2.out
   clear z0 z1 d0 d1 hbV HZ HB E2 hi
   cases hh:isH s r with
   |true=>
    rw[hh] at E3
    simp only[if_true] at E3
    have HE:=hide E3
    clear E3
    go_wp2_with fail
    go_ret
    exact⟨by rw[←HE.out];rfl,HBV.out⟩
   |false=>
    rw[hh] at E3
    simp only[Bool.false_eq_true,if_false] at E3
    have HE:=hide E3
    clear E3
    go_wp2_with fail
    go_roundw
    case rel=>exact⟨j+1,by omega,by go_num,HE,HBV⟩
    case measure=>simp [intOf];omega
  ·obtain rfl:j=l.length:=by omega
   have e2:=hq.out
   rw[List.drop_length] at e2
   have HE:=hide e2
   have HB:=hide hb.out
   clear hq hb e2
   go_wp2_with fail
   go_ret
   exact⟨by rw[←HE.out];rfl,HB.out⟩
theorem nodeinfo:(Tryz.prog.info? 43).map (fun i=>(i.zero,i.size,i.bytes))=some (some (.agg #[.int .u8 0,.int .u8 0,.int .i64 0,.string ⟨#[]⟩,.string ⟨#[]⟩,.slice none 0 0,.int .i64 0,.int .i64 0]),8,96):=by kernel_rfl
theorem nodeinfo_parts:∃i,Tryz.prog.info? 43=some i∧i.zero=some (.agg #[.int .u8 0,.int .u8 0,.int .i64 0,.string ⟨#[]⟩,.string ⟨#[]⟩,.slice none 0 0,.int .i64 0,.int .i64 0])∧i.size=8∧i.bytes=96:=by
 have h:=nodeinfo
 cases hi:Tryz.prog.info? 43 with
 |none=>simp [hi] at h
 |some i=>
  simp [hi] at h
  exact⟨i,rfl,h.1,h.2.1,h.2.2⟩
def hdV (h:Hd):Value:= .agg #[.int .u8 h.op,.int .u8 h.v.1,.int .i64 h.v.2.1,.string ⟨h.v.2.2.toArray⟩,.string ⟨h.name.toArray⟩,.slice none 0 0,.int .i64 h.line,.int .i64 h.col]
theorem RdAt.lay {w W Z:World}{B b d:Nat}{X:List Nat}{vl vt v' kv:Value}{ts r:List Tkn}{nds:List Nd}{kvs:List Value}{n:Nd}(h:RdAt w B X b vl ts r d vt nds)(hk1:w.ownsRow B 43 8 vt nds.length (nflat kvs nds))(hk2:KidsAre w B X kvs nds)
 (hkv:w.ownsRow B 3 1 kv n.kids.length (nums n.kids)) (hkx:∀g,kv.ownBlock=some g→g∉X) (hbw:Below w.heap.size w W) (hg:W.grownBy Z vt.ownBlock) (hown:Z.ownsRow B 43 8 v' (nds.length+1) (nflat kvs nds++nflat [kv] [n])) (hv:∀g,v'.ownBlock=some g→vt.ownBlock=some g∨w.heap.size≤g)
 (hroom:nds.length+1+r.length≤1000000):RdAt (Z.setCell ⟨b,3,none⟩ v') B X b vl ts r d v' (nds++[n])∧Rch b w vt (Z.setCell ⟨b,3,none⟩ v') v':=by
 have hX:Only vt.ownBlock.toList w Z:=(Only.of_below hbw _).trans (Only.of_grown hg _ fun k hk=>by simp [hk])
 have hbt:vt.ownBlock≠some b:=h.tree.not h.blk (by decide)
 have hbX:Z.heap[b]? =some (.cells #[vl,.int .i64 ((ts.length - r.length:Nat):Int),.int .i64 (d:Int),vt] 130 (0,0)):=(hX.block b (lt_of_heap h.blk) (by simpa using hbt)).trans h.blk
 have hb2:(Z.setCell ⟨b,3,none⟩ v').heap[b]? =some (.cells #[vl,.int .i64 ((ts.length - r.length:Nat):Int),.int .i64 (d:Int),v'] 130 (0,0)):=by
  rw[setCell_heap hbX]
  rfl
 have hO:Only (b::vt.ownBlock.toList) w (Z.setCell ⟨b,3,none⟩ v'):=(hX.mono fun i hi=>List.mem_cons_of_mem _ hi).setCell (.inl (by simp)) _
 have hint:∀v k xs,w.ownsRow B 3 1 v k xs→Z.ownsRow B 3 1 v k xs:=fun v k xs q=>owns_only q hX fun g e hm=>by
  have hm':vt.ownBlock=some g:=by simpa using hm
  rcases q.2 with ⟨rfl,_⟩|⟨g',cap,cur,rfl,_,hg',_⟩
  ·cases e
  ·simp only[Value.ownBlock,Option.some.injEq] at e
   subst e
   exact owns_not hk1 hg' (by decide) hm'
 have hset:∀{t:TypeId} {sz:Nat} v k xs,t≠130→Z.ownsRow B t sz v k xs→(Z.setCell ⟨b,3,none⟩ v').ownsRow B t sz v k xs:=fun v k xs ht q=>owns_only q (only_setCell Z b 3 v') fun g e hm=>by
  simp at hm
  subst hm
  exact owns_not q hbX ht e
 refine⟨⟨h.suf,h.toks.kept hO.size fun g hg hlt=>hO.block g hlt fun hm=>?_,h.nam,h.tl,h.hB,fun x hx=>Nat.lt_of_lt_of_le (h.xl x hx) hO.size,h.hd,h.big,by simpa using hroom,hb2,kvs++[kv],?_,?_⟩,hO,fun g hg=>hv g hg⟩
 ·have h1:=h.tl g hg
  rcases List.mem_cons.1 hm with rfl|hm
  ·have:=h.hB
   omega
  ·have:=h.tree.own g (by simpa using hm)
   omega
 ·rw[nflat_snoc hk2.len]
  have:=hset _ _ _ (by decide) hown
  simpa using this
 ·exact KidsAre.snoc (hk2.imp fun v k xs hn q=>⟨hset v k xs (by decide) (hint v k xs q),hn⟩) ⟨hset _ _ _ (by decide) (hint _ _ _ hkv),hkx⟩
set_option maxRecDepth 100000 in
set_option maxHeartbeats 4000000 in
theorem node_any {w:World}{B b d:Nat}{X:List Nat}{vl vt:Value}{ts r:List Tkn}{nds:List Nd}(h:RdAt w B X b vl ts r d vt nds)(hroom:nds.length+1+r.length≤1000000)(hB:B≤w.heap.size)(hd:Hd)(kids:List Nat)(ka:Option Addr)(kc:Nat)(hk:w.ownsRow B 3 1 (.slice ka kids.length kc) kids.length (nums kids))(hkx:∀g,(Value.slice ka kids.length kc).ownBlock=some g→g∉X):
 Calls Tryz.prog 209 #[.pointer (some ⟨b,0,none⟩),hdV hd,.slice ka kids.length kc] w fun e w'=>e= .returned (.int .i64 (nds.length:Int))∧∃vt',RdAt w' B X b vl ts r d vt' (nds++[⟨hd,kids⟩])∧Rch b w vt w' vt':=by
 obtain⟨kvs,hk1,hk2⟩:=h.tree
 obtain⟨la,lc,rfl⟩:=row_form hk1
 obtain⟨c0,c1,c2,c3,cf⟩:=cells4 h.blk
 have cf3:=cf 3
 obtain⟨i0,hi,hz0,hz1,hz2⟩:=nodeinfo_parts
 have hb:=lt_of_heap h.blk
 obtain⟨op,⟨vk,vn,vs⟩,nm,ln,cl⟩:=hd
 have Ow:Hid (((w.alloc (.cells #[.int .u8 op,.int .u8 vk,.int .i64 vn,.string ⟨vs.toArray⟩,.string ⟨nm.toArray⟩,.slice ka kids.length kc,.int .i64 ln,.int .i64 cl] 43)).alloc (.cells #[.int .u8 op,.int .u8 vk,.int .i64 vn,.string ⟨vs.toArray⟩,.string ⟨nm.toArray⟩,.slice ka kids.length kc,.int .i64 ln,.int .i64 cl] 43)).drew.ownsRow B 43 8 (.slice la nds.length lc) nds.length (nflat kvs nds)):=hide (owns_below hk1 (Only.drew (((Only.refl [] w).alloc _).alloc _)).below)
 have OW:Hid (Below w.heap.size w ((w.alloc (.cells #[.int .u8 op,.int .u8 vk,.int .i64 vn,.string ⟨vs.toArray⟩,.string ⟨nm.toArray⟩,.slice ka kids.length kc,.int .i64 ln,.int .i64 cl] 43)).alloc (.cells #[.int .u8 op,.int .u8 vk,.int .i64 vn,.string ⟨vs.toArray⟩,.string ⟨nm.toArray⟩,.slice ka kids.length kc,.int .i64 ln,.int .i64 cl] 43)).drew):=hide (Only.drew (((Only.refl [] w).alloc _).alloc _)).below
 have HS:Hid (((w.alloc (.cells #[.int .u8 op,.int .u8 vk,.int .i64 vn,.string ⟨vs.toArray⟩,.string ⟨nm.toArray⟩,.slice ka kids.length kc,.int .i64 ln,.int .i64 cl] 43)).alloc (.cells #[.int .u8 op,.int .u8 vk,.int .i64 vn,.string ⟨vs.toArray⟩,.string ⟨nm.toArray⟩,.slice ka kids.length kc,.int .i64 ln,.int .i64 cl] 43)).drew.heap.size=w.heap.size+2):=hide (by show((w.alloc _).alloc _).heap.size=_;simp)
 have hbt:Hid (Value.ownBlock (.slice la nds.length lc)≠some b):=hide (h.tree.not h.blk (by decide))
 have HN:Hid (((w.alloc (.cells #[.int .u8 op,.int .u8 vk,.int .i64 vn,.string ⟨vs.toArray⟩,.string ⟨nm.toArray⟩,.slice ka kids.length kc,.int .i64 ln,.int .i64 cl] 43)).alloc (.cells #[.int .u8 op,.int .u8 vk,.int .i64 vn,.string ⟨vs.toArray⟩,.string ⟨nm.toArray⟩,.slice ka kids.length kc,.int .i64 ln,.int .i64 cl] 43)).drew.heap[w.heap.size+1]? =some (.cells #[.int .u8 op,.int .u8 vk,.int .i64 vn,.string ⟨vs.toArray⟩,.string ⟨nm.toArray⟩,.slice ka kids.length kc,.int .i64 ln,.int .i64 cl] 43)):=hide (by
  have:=heap_alloc0 (w.alloc (.cells #[.int .u8 op,.int .u8 vk,.int .i64 vn,.string ⟨vs.toArray⟩,.string ⟨nm.toArray⟩,.slice ka kids.length kc,.int .i64 ln,.int .i64 cl] 43)) (.cells #[.int .u8 op,.int .u8 vk,.int .i64 vn,.string ⟨vs.toArray⟩,.string ⟨nm.toArray⟩,.slice ka kids.length kc,.int .i64 ln,.int .i64 cl] 43)
  rw[show(w.alloc (.cells #[.int .u8 op,.int .u8 vk,.int .i64 vn,.string ⟨vs.toArray⟩,.string ⟨nm.toArray⟩,.slice ka kids.length kc,.int .i64 ln,.int .i64 cl] 43)).heap.size=w.heap.size+1 by simp] at this
  exact this)
 have p3:=bcell OW.out c3
 have pf:((w.alloc (.cells #[.int .u8 op,.int .u8 vk,.int .i64 vn,.string ⟨vs.toArray⟩,.string ⟨nm.toArray⟩,.slice ka kids.length kc,.int .i64 ln,.int .i64 cl] 43)).alloc (.cells #[.int .u8 op,.int .u8 vk,.int .i64 vn,.string ⟨vs.toArray⟩,.string ⟨nm.toArray⟩,.slice ka kids.length kc,.int .i64 ln,.int .i64 cl] 43)).drew.frozen? ⟨b,3,none⟩=false:=(OW.out.frozen (p:=⟨b,3,none⟩) hb).trans cf3
 have HK1:=hide hk1
 have HK2:=hide hk2
 have HK:=hide hk
 have Hkx:=hide hkx
 have H:=hide h
 have Hi:=hide hi
 have Hz0:=hide hz0
 have Hz1:=hide hz1
 have Hz2:=hide hz2
 clear h hk1 hk2 hk hkx hi hz0 hz1 hz2 cf
 unfold hdV
 go_enter Tryz.func209,Tryz.ntmps209
 go_wp2_with fail
 go_region_law
  ((refine step_append_lies _ (by rfl) _ _ _ (by rfl) B 43 i0 (.agg #[.int .u8 0,.int .u8 0,.int .i64 0,.string ⟨#[]⟩,.string ⟨#[]⟩,.slice none 0 0,.int .i64 0,.int .i64 0]) 8 96 Tryz.underlying31 Hi.out Hz0.out Hz1.out Hz2.out rfl (by decide) (.slice la nds.length lc) nds.length (nflat kvs nds) (by rfl) Ow.out ⟨w.heap.size+1,0,none⟩ 1 1 [.int .u8 op,.int .u8 vk,.int .i64 vn,.string ⟨vs.toArray⟩,.string ⟨nm.toArray⟩,.slice ka kids.length kc,.int .i64 ln,.int .i64 cl] (by rfl) (by rfl) (World.news_of_block (cs:= #[.int .u8 op,.int .u8 vk,.int .i64 vn,.string ⟨vs.toArray⟩,.string ⟨nm.toArray⟩,.slice ka kids.length kc,.int .i64 ln,.int .i64 cl]) (t:=43) (fr:=(0,0)) HN.out) (by simp [Value.oneCell']) (by decide) (by unfold maxLen;omega) (by omega) (by rw[HS.out];omega) (w.heap.size+2) HS.out ?_;intro g cap w3 hown3 hgrow hat hlt;have r0:=(hgrow.cell_far ⟨b,3,none⟩ (by show b<_;rw[HS.out];omega) (Ne.symm hbt.out)).trans p3;have rf:=(hgrow.frozen_far ⟨b,3,none⟩ (by show b<_;rw[HS.out];omega) (Ne.symm hbt.out)).trans pf))
 all_goals
  have hG:=H.out.lay (n:=⟨⟨op,(vk,vn,vs),nm,ln,cl⟩,kids⟩) HK1.out HK2.out HK.out Hkx.out OW.out hgrow hown3 (fun x hx=>by
   simp only[Value.ownBlock,Option.some.injEq] at hx
   subst hx
   rcases hat with q|q
   ·exact .inl q
   ·exact .inr (by omega)) hroom
  clear hown3 hgrow hat hlt r0 rf p3 pf c0 c1 c2 c3 Ow OW HS hbt HN HK1 HK2 HK
  obtain⟨W1,hW1⟩:∃W1,w3.setCell ⟨b,3,none⟩ (.slice (some ⟨g,0,none⟩) (nds.length+1) cap)=W1:=⟨_,rfl⟩
  rw[hW1] at hG ⊢
  clear hW1
  obtain⟨_,_,_,c3,_⟩:=cells4 hG.1.blk
  have HG:=hide hG
  clear hG
  go_wp2_with fail
  go_ret
  refine⟨?_,_,HG.out.1,HG.out.2⟩
  first|rfl|(simp;done)
def nv:List Nat→Nat
 |[]=>0
 |d::l=>d+10000*nv l
def okD (l:List Nat):Prop:=∀d∈l,d<10000
def dg (n:Nat):List Nat:=if h:n=0 then[] else n % 10000::dg (n/10000)
termination_by n
decreasing_by omega
theorem dg_zero:dg 0=[]:=by rw[dg,dif_pos rfl]
theorem dg_pos {n:Nat}(h:n≠0):dg n=n % 10000::dg (n/10000):=by rw[dg,dif_neg h]
theorem nv_dg:∀n,nv (dg n)=n:=fun n=>by
 induction n using Nat.strongRecOn with
 |_ n ih=>
  by_cases h:n=0
  ·subst h;rw[dg_zero];rfl
  ·rw[dg_pos h,nv,ih (n/10000) (by omega)]
   omega
theorem ok_dg:∀n,okD (dg n):=fun n=>by
 induction n using Nat.strongRecOn with
 |_ n ih=>
  by_cases h:n=0
  ·subst h;rw[dg_zero];intro d hd;cases hd
  ·rw[dg_pos h]
   intro d hd
   rcases List.mem_cons.1 hd with rfl|hd
   ·omega
   ·exact ih (n/10000) (by omega) d hd
theorem nv_app (l m:List Nat):nv (l++m)=nv l+10000^l.length*nv m:=by
 induction l with
 |nil=>simp [nv]
 |cons d l ih=>
  rw[List.cons_append,nv,nv,ih,List.length_cons,Nat.pow_succ,Nat.mul_add]
  rw[show 10000^l.length*10000*nv m=10000*(10000^l.length*nv m) by rw[Nat.mul_comm (10000^l.length) 10000,Nat.mul_assoc]]
  omega
theorem nv_snoc (l:List Nat)(d:Nat):nv (l++[d])=nv l+10000^l.length*d:=by
 rw[nv_app]
 simp [nv]
theorem nv_take_succ (l:List Nat)(k:Nat)(h:k<l.length):nv (l.take (k+1))=nv (l.take k)+10000^k*l[k]:=by
 rw[List.take_succ_eq_append_getElem h,nv_snoc,List.length_take,Nat.min_eq_left (by omega)]
theorem nv_lt:∀(l:List Nat),okD l→nv l<10000^l.length
 |[],_=>by simp [nv]
 |d::l,h=>by
  have h1:=nv_lt l fun x hx=>h x (List.mem_cons_of_mem _ hx)
  have h2:=h d List.mem_cons_self
  rw[nv,List.length_cons,Nat.pow_succ]
  omega
theorem ok_take {l:List Nat}(h:okD l)(k:Nat):okD (l.take k):=fun d hd=>h d (List.mem_of_mem_take hd)
theorem ok_snoc {l:List Nat}{d:Nat}(h:okD l)(hd:d<10000):okD (l++[d]):=fun x hx=>by
 rcases List.mem_append.1 hx with hx|hx
 ·exact h x hx
 ·rw[List.mem_singleton.1 hx];exact hd
theorem dg_nv:∀(l:List Nat),okD l→(∀h:l≠[],l.getLast h≠0)→dg (nv l)=l
 |[],_,_=>dg_zero
 |d::l,ho,hl=>by
  have hd:=ho d List.mem_cons_self
  have ho':okD l:=fun x hx=>ho x (List.mem_cons_of_mem _ hx)
  have hl':∀h:l≠[],l.getLast h≠0:=fun h=>by
   have:=hl (by simp)
   rwa [List.getLast_cons h] at this
  have hne:nv (d::l)≠0:=by
   rw[nv]
   intro h0
   cases l with
   |nil=>have:=hl (by simp);simp at this;omega
   |cons e m=>
    have h1:nv (e::m)=0:=by omega
    have h2:=dg_nv (e::m) ho' hl'
    rw[h1,dg_zero] at h2
    cases h2
  rw[dg_pos hne,nv,show(d+10000*nv l) % 10000=d by omega,show(d+10000*nv l)/10000=nv l by omega,dg_nv l ho' hl']
def lenD (n:Nat):Nat:=(dg n).length
theorem lenD_le {n k:Nat}(h:n<10000^k):lenD n≤k:=by
 unfold lenD
 induction k generalizing n with
 |zero=>
  have:n=0:=by simpa using h
  subst this
  rw[dg_zero]
  simp
 |succ k ih=>
  by_cases h0:n=0
  ·subst h0;rw[dg_zero];simp
  ·rw[dg_pos h0,List.length_cons]
   have:n/10000<10000^k:=by rw[Nat.pow_succ] at h;omega
   have:=ih this
   omega
theorem lt_lenD (n:Nat):n<10000^lenD n:=by
 have:=nv_lt (dg n) (ok_dg n)
 rwa [nv_dg] at this
theorem lenD_mono {n m:Nat}(h:n≤m):lenD n≤lenD m:=lenD_le (Nat.lt_of_le_of_lt h (lt_lenD m))
theorem lenD_of_ok {l:List Nat}(h:okD l):lenD (nv l)≤l.length:=lenD_le (nv_lt l h)
theorem lenD_mul (n m:Nat):lenD (n*m)≤lenD n+lenD m:=by
 refine lenD_le ?_
 have h1:=lt_lenD n
 have h2:=lt_lenD m
 rw[Nat.pow_add]
 by_cases h0:m=0
 ·subst h0
  rw[Nat.mul_zero]
  exact Nat.mul_pos (Nat.pow_pos (by decide)) (Nat.pow_pos (by decide))
 ·calc n*m<10000^lenD n*m:=Nat.mul_lt_mul_of_pos_right h1 (by omega)
   _≤10000^lenD n*10000^lenD m:=Nat.mul_le_mul_left _ (by omega)
theorem lenD_small {n:Nat}(h:n<10000):lenD n≤1:=lenD_le (by simpa using h)
theorem lt_of_len {n m:Nat}(h:lenD n<lenD m):n<m:=by
 refine Nat.lt_of_not_le fun hh=>?_
 have:=lenD_mono hh
 omega
theorem nv_split (l:List Nat)(k:Nat):nv l=nv (l.take k)+10000^(l.take k).length*nv (l.drop k):=by
 have:=nv_app (l.take k) (l.drop k)
 rwa [List.take_append_drop] at this
theorem nv_drop_cons {l:List Nat}{k:Nat}(h:k<l.length):nv (l.drop k)=l[k]+10000*nv (l.drop (k+1)):=by
 rw[List.drop_eq_getElem_cons h,nv]
theorem cmp_at {l m:List Nat}(hl:okD l)(hn:l.length=m.length){k:Nat}(hk:k<l.length)(hk2:k<m.length)(hd:l.drop (k+1)=m.drop (k+1))(h:l[k]<m[k]):nv l<nv m:=by
 have h1:=nv_split l k
 have h2:=nv_split m k
 rw[List.length_take,Nat.min_eq_left (by omega)] at h1 h2
 rw[nv_drop_cons hk] at h1
 rw[nv_drop_cons hk2,←hd] at h2
 have h3:=nv_lt (l.take k) (ok_take hl k)
 rw[List.length_take,Nat.min_eq_left (by omega)] at h3
 obtain⟨x,hx⟩:∃x,nv (l.drop (k+1))=x:=⟨_,rfl⟩
 obtain⟨p,hp⟩:∃p,10000^k=p:=⟨_,rfl⟩
 rw[hx,hp] at h1 h2
 rw[hp] at h3
 have h4:p*(l[k]+10000*x)+p≤p*(m[k]+10000*x):=by
  rw[←Nat.mul_succ]
  exact Nat.mul_le_mul_left _ (by omega)
 omega
open Go Go.RowKit Go.Lib
def DgRd (w:World)(v:Value)(l:List Nat):Prop:=l.length≤1000000∧∃a c,v= .slice a l.length c∧l.length≤c∧∀i (h:i<l.length),∃b off,a=some ⟨b,off,none⟩∧w.cell? ⟨b,off+i,none⟩=some (.int .i64 (l[i]:Int))
theorem DgRd.below {w w':World}{v:Value}{l:List Nat}(h:DgRd w v l)(hb:Below w.heap.size w w'):DgRd w' v l:=by
 obtain⟨h1,a,c,h2,h3,h4⟩:=h
 refine⟨h1,a,c,h2,h3,fun i hi=>?_⟩
 obtain⟨b,off,e,hc⟩:=h4 i hi
 exact⟨b,off,e,bcell hb hc⟩
theorem DgRd.slice {w:World}{v:Value}{l:List Nat}(h:DgRd w v l):∃a c,v= .slice a l.length c∧l.length≤c:=by
 obtain⟨_,a,c,h2,h3,_⟩:=h
 exact⟨a,c,h2,h3⟩
theorem DgRd.at {w:World}{a:Option Addr}{n c:Nat}{l:List Nat}(h:DgRd w (.slice a n c) l){i:Nat}(hi:i<l.length):∃b off,a=some ⟨b,off,none⟩∧w.cell? ⟨b,off+i,none⟩=some (.int .i64 (l[i]:Int)):=by
 obtain⟨_,a',c',h2,_,h4⟩:=h
 injection h2 with h2
 subst h2
 exact h4 i hi
theorem DgRd.nil (w:World):DgRd w (.slice none 0 0) []:=⟨by simp,none,0,rfl,Nat.le_refl _,fun i hi=>absurd hi (by simp)⟩
theorem DgRd.take {w:World}{a:Option Addr}{n c:Nat}{l:List Nat}(h:DgRd w (.slice a n c) l){k:Nat}(hk:k≤l.length):DgRd w (.slice a k c) (l.take k):=by
 obtain⟨h1,a',c',h2,h3,h4⟩:=h
 injection h2 with e1 e2 e3
 subst e1 e3
 have hl:(l.take k).length=k:=by rw[List.length_take];omega
 refine⟨by omega,a,c,by rw[hl],by omega,fun i hi=>?_⟩
 obtain⟨b,off,e,hc⟩:=h4 i (by omega)
 refine⟨b,off,e,?_⟩
 rw[hc]
 simp
def dnums (l:List Nat):List Value:=l.map fun(k:Nat)=>Value.int .i64 (k:Int)
theorem dnums_snoc (l:List Nat)(x:Nat):dnums (l++[x])=dnums l++[.int .i64 (x:Int)]:=by simp [dnums]
theorem DgRd.of_row {w:World}{B n:Nat}{v:Value}{l:List Nat}(hl:l.length≤1000000)(hn:n=l.length)(h:w.ownsRow B 3 1 v n (dnums l)):DgRd w v l:=by
 subst hn
 rcases h.2 with ⟨e,h0⟩|⟨g,cap,cur,rfl,_,hg,hc,_⟩
 ·have:l=[]:=List.eq_nil_of_length_eq_zero h0
  subst this
  rw[e]
  exact DgRd.nil w
 ·refine⟨hl,some ⟨g,0,none⟩,cap,rfl,hc,fun i hi=>⟨g,0,rfl,?_⟩⟩
  have:=h.cells (g:=g) rfl i (.int .i64 (l[i]:Int)) (by simp [dnums,hi])
  rw[Addr.add_lit,Nat.zero_add] at this
  rw[Nat.zero_add]
  exact this
theorem below_grown' {B:Nat}{a b c:World}{v:Value}(h:Below B a b)(hg:b.grownBy c v.ownBlock)(hv:∀g,v.ownBlock=some g→B≤g)(hB:B≤b.heap.size):Below B a c:=
 below_only h (Only.of_grown hg v.ownBlock.toList fun k hk=>by simp [hk]) (fun i hi=>hv i (by simpa using hi)) hB
theorem dinfo:(Tryz.prog.info? 3).map (fun i=>(i.zero,i.size,i.bytes))=some (some (.int .i64 0),1,8):=by kernel_rfl
theorem dinfo_parts:∃i,Tryz.prog.info? 3=some i∧i.zero=some (.int .i64 0)∧i.size=1∧i.bytes=8:=by
 have h:=dinfo
 cases hi:Tryz.prog.info? 3 with
 |none=>simp [hi] at h
 |some i=>
  simp [hi] at h
  exact⟨i,rfl,h.1,h.2.1,h.2.2⟩
def NumIs (w:World)(v:Value)(z:Int):Prop:=∃s,v= .agg #[.bool (decide (z<0)),s]∧DgRd w s (dg z.natAbs)
theorem NumIs.below {w w':World}{v:Value}{z:Int}(h:NumIs w v z)(hb:Below w.heap.size w w'):NumIs w' v z:=by
 obtain⟨s,h1,h2⟩:=h
 exact⟨s,h1,h2.below hb⟩
def sgn (neg:Bool)(n:Nat):Int:=if neg then -(n:Int) else n
theorem sgn_abs (b:Bool)(n:Nat):(sgn b n).natAbs=n:=by unfold sgn;split<;>simp
theorem sgn_neg (b:Bool)(n:Nat):decide (sgn b n<0)=(b && decide (0<n)):=by
 unfold sgn
 cases b<;>simp<;>omega
theorem last_take {l:List Nat}{k:Nat}(hk:k<l.length)(h0:l[k]≠0):∀h:l.take (k+1)≠[],(l.take (k+1)).getLast h≠0:=fun h=>by
 have:∀m,m=l.take k++[l[k]]→∀h:m≠[],m.getLast h≠0:=by
  rintro m rfl h
  rw[List.getLast_concat]
  exact h0
 exact this _ (List.take_succ_eq_append_getElem hk) h
theorem two_cells' {w:World}{b:Nat}{x y:Value}{t:TypeId}(h:w.heap[b]? =some (.cells #[x,y] t (0,0))):w.cell? ⟨b,0,none⟩=some x∧w.cell? ⟨b,1,none⟩=some y∧∀i,w.frozen? ⟨b,i,none⟩=false:=
 ⟨by simp only[World.cell?,h];rfl,by simp only[World.cell?,h];rfl,fun i=>by simp only[World.frozen?,h];simp⟩
def TrimKeep (a:Option Addr)(c:Nat)(z:Int)(e:Ending)(w':World):Prop:=∃(k:Nat) (b:Bool),e= .returned (.agg #[.bool b,.slice a k c])∧NumIs w' (.agg #[.bool b,.slice a k c]) z
theorem TrimKeep.mk {a:Option Addr}{k c:Nat}{b:Bool}{z:Int}{w':World}(h:NumIs w' (.agg #[.bool b,.slice a k c]) z):TrimKeep a c z (.returned (.agg #[.bool b,.slice a k c])) w':=⟨k,b,rfl,h⟩
set_option maxRecDepth 100000 in
set_option maxHeartbeats 4000000 in
theorem trim_keeps {w:World}{a:Option Addr}{n c:Nat}{l:List Nat}(neg:Bool)(hs:DgRd w (.slice a n c) l)(ho:okD l):
 Calls Tryz.prog 125 #[.bool neg,.slice a n c] w fun e w'=>TrimKeep a c (sgn neg (nv l)) e w'∧Below w.heap.size w w':=by
 have hlm:=hs.1
 obtain⟨a',c',he,hc⟩:=hs.slice
 injection he with e1 e2 e3
 subst e1
 subst e2
 subst e3
 obtain⟨W1,hW1⟩:∃W1,w.alloc (.cells #[.bool false,.slice none 0 0] 79)=W1:=⟨_,rfl⟩
 have hp1:=heap_alloc0 w (.cells #[.bool false,.slice none 0 0] 79)
 have hb1:Below w.heap.size w W1:=by rw[←hW1];exact(Below.refl _ w).alloc (Nat.le_refl _) _
 rw[hW1] at hp1
 have hs1:=hs.below hb1
 have HS:=hide hs1
 have HW:=hide hs
 have HO:=hide ho
 have HB:=hide hb1
 have HP:=hide hp1
 have HR:Hid (nv (l.take l.length)=nv l):=hide (by rw[List.take_length])
 clear hs ho hb1 hp1 hs1
 go_enter Tryz.func125,Tryz.ntmps125
 go_wp2_with fail
 go_loop [1] (fun v1=>∃k:Nat,k≤l.length∧v1= .slice a k c∧Hid (nv (l.take k)=nv l)) (fun v1=>match v1 with| .slice _ k _=>k|_=>0)
 case atStart=>exact⟨l.length,Nat.le_refl _,rfl,HR⟩
 case round=>
  obtain⟨k,hk,rfl,hq⟩:=hrel
  obtain⟨x0,x1,xf⟩:=two_cells' HP.out
  have xf0:=xf 0
  have xf1:=xf 1
  by_cases h0:k=0
  ·subst h0
   have hz:nv l=0:=by have:=hq.out;rw[List.take_zero] at this;exact this.symm
   have HN:Hid (NumIs w (.agg #[.bool false,.slice a 0 c]) (sgn neg (nv l))):=hide ⟨.slice a 0 c,by rw[sgn_neg,hz];simp,by
    rw[sgn_abs,hz,dg_zero]
    have:=HW.out.take (k:=0) (Nat.zero_le _)
    rw[List.take_zero] at this
    exact this⟩
   clear hq hz xf HR
   cases neg with
   |true=>
    go_wp2_with fail
    refine bodyPost_ret (v:= .agg #[.bool false,.slice a 0 c]) (by simp [results,Tryz.results125,go_sem, *]) rfl ⟨TrimKeep.mk ?_,(HB.out.setCell (Nat.le_refl _) _).setCell (Nat.le_refl _) _⟩
    exact HN.out.below ((HB.out.setCell (Nat.le_refl _) _).setCell (Nat.le_refl _) _)
   |false=>
    go_wp2_with fail
    refine bodyPost_ret (v:= .agg #[.bool false,.slice a 0 c]) (by simp [results,Tryz.results125,go_sem, *]) rfl ⟨TrimKeep.mk ?_,(HB.out.setCell (Nat.le_refl _) _).setCell (Nat.le_refl _) _⟩
    exact HN.out.below ((HB.out.setCell (Nat.le_refl _) _).setCell (Nat.le_refl _) _)
  ·obtain⟨m,rfl⟩:∃m,k=m+1:=⟨k - 1,by omega⟩
   have hml:m<l.length:=by omega
   obtain⟨b,off,rfl,hcell⟩:=HS.out.at hml
   have j1:decide ((0:Int)<((m+1:Nat):Int))=true:=decide_eq_true (by omega)
   have j2:decide ((0:Int)<(m:Int)+1)=true:=decide_eq_true (by omega)
   have j3:((m+1:Nat):Int) - 1=(m:Int):=by omega
   obtain⟨d,hd⟩:∃d,l[m]=d:=⟨_,rfl⟩
   rw[hd] at hcell
   have j4:(0:Int)≤(m:Int):=by omega
   have j5:m+1≤c:=by omega
   by_cases hd0:d=0
   ·subst hd0
    have HQ:Hid (nv (l.take m)=nv l):=hide (by rw[←hq.out,nv_take_succ l m hml,hd];simp)
    have j6:(m:Int)<((m+1:Nat):Int):=by omega
    have j7:m≤c:=by omega
    clear hq hd xf
    go_wp2_with fail
    go_round
    case rel=>exact⟨m,by omega,rfl,HQ⟩
    case measure=>simp
   ·have hnz:=last_take hml (by rw[hd];exact hd0)
    have hdg:dg (nv l)=l.take (m+1):=by rw[←hq.out];exact dg_nv _ (ok_take HO.out _) hnz
    have hpos:0<nv l:=by
     refine Nat.pos_of_ne_zero fun h=>?_
     rw[h,dg_zero] at hdg
     have:=congrArg List.length hdg
     rw[List.length_take] at this
     simp at this
     omega
    have HN:Hid (NumIs w (.agg #[.bool neg,.slice (some ⟨b,off,none⟩) (m+1) c]) (sgn neg (nv l))):=hide ⟨.slice (some ⟨b,off,none⟩) (m+1) c,by rw[sgn_neg];simp [hpos],by
     rw[sgn_abs,hdg]
     exact HW.out.take (by omega)⟩
    have j6:((d:Int)==0)=false:=by simp;omega
    clear hq hd xf hnz hdg hpos hd0
    cases neg with
    |true=>
     go_wp2_with fail
     refine bodyPost_ret (v:= .agg #[.bool true,.slice (some ⟨b,off,none⟩) (m+1) c]) (by simp [results,Tryz.results125,go_sem, *]) rfl ⟨TrimKeep.mk ?_,(HB.out.setCell (Nat.le_refl _) _).setCell (Nat.le_refl _) _⟩
     exact HN.out.below ((HB.out.setCell (Nat.le_refl _) _).setCell (Nat.le_refl _) _)
    |false=>
     go_wp2_with fail
     refine bodyPost_ret (v:= .agg #[.bool false,.slice (some ⟨b,off,none⟩) (m+1) c]) (by simp [results,Tryz.results125,go_sem, *]) rfl ⟨TrimKeep.mk ?_,(HB.out.setCell (Nat.le_refl _) _).setCell (Nat.le_refl _) _⟩
     exact HN.out.below ((HB.out.setCell (Nat.le_refl _) _).setCell (Nat.le_refl _) _)
theorem trim_any {w:World}{sl:Value}{l:List Nat}(neg:Bool)(hs:DgRd w sl l)(ho:okD l):
 Calls Tryz.prog 125 #[.bool neg,sl] w fun e w'=>(∃v,e= .returned v∧NumIs w' v (sgn neg (nv l)))∧Below w.heap.size w w':=by
 obtain⟨a,c,rfl,_⟩:=hs.slice
 refine(trim_keeps neg hs ho).mono ?_
 rintro e w' ⟨⟨k,b,rfl,h⟩,hb⟩
 exact⟨⟨_,rfl,h⟩,hb⟩
open Go Go.RowKit Go.Lib
structure UpAt (w wr:World)(la lb:List Nat)(i more:Nat)(v:Value)(o:List Nat):Prop where
 row:wr.ownsRow w.heap.size 3 1 v i (dnums o)
 len:o.length=i
 ok:okD o
 val:nv o+10000^i*(more+nv (la.drop i)+nv (lb.drop i))=nv la+nv lb
 bel:Below w.heap.size w wr
theorem up_step {O p t s A B:Nat}(h:t+10000*A+10000*B=s):O+p*(t % 10000)+p*10000*(t/10000+A+B)=O+p*s:=by
 rw[←h,Nat.add_assoc,Nat.mul_assoc,←Nat.mul_add]
 congr 2
 omega
set_option maxRecDepth 100000 in
set_option maxHeartbeats 8000000 in
theorem up_any {w:World}{sa sb:Value}{la lb:List Nat}(ha:DgRd w sa la)(hb:DgRd w sb lb)(hoa:okD la)(hob:okD lb)(hla:la.length≤100000)(hlb:lb.length≤100000):
 Calls Tryz.prog 190 #[sa,sb] w fun e w'=>(∃v o,e= .returned v∧DgRd w' v o∧okD o∧nv o=nv la+nv lb∧o.length≤max la.length lb.length+1)∧Below w.heap.size w w':=by
 obtain⟨aa,ca,rfl,_⟩:=ha.slice
 obtain⟨ab,cb,rfl,_⟩:=hb.slice
 have HA:=hide ha
 have HBb:=hide hb
 have HOA:=hide hoa
 have HOB:=hide hob
 have HU0:Hid (UpAt w w la lb 0 0 (.slice none 0 0) []):=hide ⟨World.ownsRow_nil _ _ _ _,rfl,fun _ h=>by(cases h),by simp [nv],Below.refl _ _⟩
 clear ha hb hoa hob
 go_enter Tryz.func190,Tryz.ntmps190
 go_wp2_with fail
 go_loopw [5,6,7] (fun v5 v6 v7 wr=>∃(i more:Nat) (o:List Nat) (oa:Option Addr) (oc:Nat),more≤1∧(i≤max la.length lb.length∨i=max la.length lb.length+1∧more=0)∧v7= .int .i64 i∧v5= .slice oa i oc∧v6= .int .i64 more∧Hid (UpAt w wr la lb i more (.slice oa i oc) o)) (fun _ _ v7 _=>max la.length lb.length+2 - (intOf v7).toNat)
 case atStart=>exact⟨0,0,[],none,0,by omega,.inl (by omega),rfl,rfl,rfl,HU0⟩
 case round=>
  obtain⟨i,more,o,oa,oc,hm,hi,rfl,rfl,rfl,hq⟩:=hrel
  have hU:=hq.out
  by_cases hia:i<la.length
  ·by_cases hib:i<lb.length
   ·skip
    obtain⟨ba,fa,rfl,ha⟩:=HA.out.at hia
    have ha:=bcell hU.bel ha
    have hxl:=HOA.out _ (List.getElem_mem hia)
    have hda:=nv_drop_cons hia
    obtain⟨x,hx⟩:∃x,la[i]=x:=⟨_,rfl⟩
    rw[hx] at ha hda hxl
    have p1:decide ((i:Int)<(la.length:Int))=true:=decide_eq_true (by omega)
    have p1':(i:Int)<(la.length:Int):=by omega
    have q1:(0:Int)≤(x:Int):=by omega
    have q2:(x:Int)≤9999:=by omega
    obtain⟨bb,fb,rfl,hb⟩:=HBb.out.at hib
    have hb:=bcell hU.bel hb
    have hyl:=HOB.out _ (List.getElem_mem hib)
    have hdb:=nv_drop_cons hib
    obtain⟨y,hy⟩:∃y,lb[i]=y:=⟨_,rfl⟩
    rw[hy] at hb hdb hyl
    have p2:decide ((i:Int)<(lb.length:Int))=true:=decide_eq_true (by omega)
    have p2':(i:Int)<(lb.length:Int):=by omega
    have q3:(0:Int)≤(y:Int):=by omega
    have q4:(y:Int)≤9999:=by omega
    have q0:(0:Int)≤(i:Int):=by omega
    have q5:(0:Int)≤(more:Int):=by omega
    have q6:(more:Int)≤1:=by omega
    have hz:(((more:Int)+(x:Int)+(y:Int)) % 10000:Int)=(((more+x+y) % 10000:Nat):Int):=by omega
    have hd:(((more:Int)+(x:Int)+(y:Int))/10000:Int)=(((more+x+y)/10000:Nat):Int):=by omega
    have hm1:(more+x+y)/10000≤1:=by omega
    have hbd:i+1≤max la.length lb.length∨i+1=max la.length lb.length+1∧(more+x+y)/10000=0:=by omega
    have HVL:=hide (up_step (O:=nv o) (p:=10000^i) (show(more+x+y)+10000*nv (la.drop (i+1))+10000*nv (lb.drop (i+1))=more+nv (la.drop i)+nv (lb.drop i) by omega))
    have Hrow1:=hide (hU.row.alloc (.cells #[.int .i64 (((more:Int)+(x:Int)+(y:Int)) % 10000)] 3))
    have HN1:=hide (heap_alloc0 wr (.cells #[.int .i64 (((more:Int)+(x:Int)+(y:Int)) % 10000)] 3))
    have HZ:Hid ((wr.alloc (.cells #[.int .i64 (((more:Int)+(x:Int)+(y:Int)) % 10000)] 3)).heap.size=wr.heap.size+1):=hide (by simp)
    have hsr:=hU.bel.size
    have Hown:=hide (row_own hU.row)
    have HU:=hide hU
    have Hzz:=hide hz
    have Hdd:=hide hd
    obtain⟨i0,hi0,hz0,hz1,hz2⟩:=dinfo_parts
    have Hi0:=hide hi0
    have Hy0:=hide hz0
    have Hy1:=hide hz1
    have Hy2:=hide hz2
    have Hbd:=hide hbd
    clear hq hU hz hd hi0 hz0 hz1 hz2 hda hdb hbd hx hy
    go_wp2_with ((refine wpList_append_lies _ rfl (.tmp 44) (.tmp 47) _ rfl w.heap.size 3 i0 (.int .i64 0) 1 8 Tryz.underlying41 Hi0.out Hy0.out Hy1.out Hy2.out rfl (by decide) (.slice oa i oc) i (dnums o) rfl Hrow1.out ⟨wr.heap.size,0,none⟩ 1 1 [.int .i64 (((more:Int)+(x:Int)+(y:Int)) % 10000)] rfl rfl (World.news_of_block (cs:= #[.int .i64 (((more:Int)+(x:Int)+(y:Int)) % 10000)]) HN1.out) (by simp [Value.oneCell']) (by decide) (by unfold maxLen;omega) (by omega) (by rw[HZ.out];omega) (wr.heap.size+1) HZ.out ?_;intro g6 cap w6 hown6 hgrow6 hat6 hlt6))
    have hB6:=below_grown' (v:= .slice oa i oc) (HU.out.bel.alloc HU.out.bel.size (.cells #[.int .i64 (((more:Int)+(x:Int)+(y:Int)) % 10000)] 3)) hgrow6 Hown.out (by rw[HZ.out];omega)
    rw[Hzz.out,←dnums_snoc] at hown6
    have HR6:Hid (UpAt w w6 la lb (i+1) ((more+x+y)/10000) (.slice (some ⟨g6,0,none⟩) (i+1) cap) (o++[(more+x+y) % 10000])):=hide ⟨hown6,by rw[List.length_append,HU.out.len];rfl,ok_snoc HU.out.ok (Nat.mod_lt _ (by decide)),by
     rw[nv_snoc,HU.out.len,Nat.pow_succ,HVL.out]
     exact HU.out.val,hB6⟩
    clear hown6 hgrow6 hat6 hlt6 hB6 Hrow1 HN1 HZ hsr Hown HU HVL
    go_wp2_with fail
    go_roundw
    case rel=>exact⟨i+1,(more+x+y)/10000,o++[(more+x+y) % 10000],some ⟨g6,0,none⟩,cap,hm1,Hbd.out,by go_num,rfl,by rw[Hdd.out],HR6⟩
    case measure=>simp [intOf];omega
   ·skip
    obtain⟨ba,fa,rfl,ha⟩:=HA.out.at hia
    have ha:=bcell hU.bel ha
    have hxl:=HOA.out _ (List.getElem_mem hia)
    have hda:=nv_drop_cons hia
    obtain⟨x,hx⟩:∃x,la[i]=x:=⟨_,rfl⟩
    rw[hx] at ha hda hxl
    have p1:decide ((i:Int)<(la.length:Int))=true:=decide_eq_true (by omega)
    have p1':(i:Int)<(la.length:Int):=by omega
    have q1:(0:Int)≤(x:Int):=by omega
    have q2:(x:Int)≤9999:=by omega
    have hdb:nv (lb.drop i)=0:=by rw[List.drop_eq_nil_of_le (by omega)];rfl
    have hdb':nv (lb.drop (i+1))=0:=by rw[List.drop_eq_nil_of_le (by omega)];rfl
    have p2:decide ((i:Int)<(lb.length:Int))=false:=decide_eq_false (by omega)
    have q0:(0:Int)≤(i:Int):=by omega
    have q5:(0:Int)≤(more:Int):=by omega
    have q6:(more:Int)≤1:=by omega
    have hz:(((more:Int)+(x:Int)) % 10000:Int)=(((more+x) % 10000:Nat):Int):=by omega
    have hd:(((more:Int)+(x:Int))/10000:Int)=(((more+x)/10000:Nat):Int):=by omega
    have hm1:(more+x)/10000≤1:=by omega
    have hbd:i+1≤max la.length lb.length∨i+1=max la.length lb.length+1∧(more+x)/10000=0:=by omega
    have HVL:=hide (up_step (O:=nv o) (p:=10000^i) (show(more+x)+10000*nv (la.drop (i+1))+10000*nv (lb.drop (i+1))=more+nv (la.drop i)+nv (lb.drop i) by omega))
    have Hrow1:=hide (hU.row.alloc (.cells #[.int .i64 (((more:Int)+(x:Int)) % 10000)] 3))
    have HN1:=hide (heap_alloc0 wr (.cells #[.int .i64 (((more:Int)+(x:Int)) % 10000)] 3))
    have HZ:Hid ((wr.alloc (.cells #[.int .i64 (((more:Int)+(x:Int)) % 10000)] 3)).heap.size=wr.heap.size+1):=hide (by simp)
    have hsr:=hU.bel.size
    have Hown:=hide (row_own hU.row)
    have HU:=hide hU
    have Hzz:=hide hz
    have Hdd:=hide hd
    obtain⟨i0,hi0,hz0,hz1,hz2⟩:=dinfo_parts
    have Hi0:=hide hi0
    have Hy0:=hide hz0
    have Hy1:=hide hz1
    have Hy2:=hide hz2
    have Hbd:=hide hbd
    clear hq hU hz hd hi0 hz0 hz1 hz2 hda hdb hbd hx hdb'
    go_wp2_with ((refine wpList_append_lies _ rfl (.tmp 44) (.tmp 47) _ rfl w.heap.size 3 i0 (.int .i64 0) 1 8 Tryz.underlying41 Hi0.out Hy0.out Hy1.out Hy2.out rfl (by decide) (.slice oa i oc) i (dnums o) rfl Hrow1.out ⟨wr.heap.size,0,none⟩ 1 1 [.int .i64 (((more:Int)+(x:Int)) % 10000)] rfl rfl (World.news_of_block (cs:= #[.int .i64 (((more:Int)+(x:Int)) % 10000)]) HN1.out) (by simp [Value.oneCell']) (by decide) (by unfold maxLen;omega) (by omega) (by rw[HZ.out];omega) (wr.heap.size+1) HZ.out ?_;intro g6 cap w6 hown6 hgrow6 hat6 hlt6))
    have hB6:=below_grown' (v:= .slice oa i oc) (HU.out.bel.alloc HU.out.bel.size (.cells #[.int .i64 (((more:Int)+(x:Int)) % 10000)] 3)) hgrow6 Hown.out (by rw[HZ.out];omega)
    rw[Hzz.out,←dnums_snoc] at hown6
    have HR6:Hid (UpAt w w6 la lb (i+1) ((more+x)/10000) (.slice (some ⟨g6,0,none⟩) (i+1) cap) (o++[(more+x) % 10000])):=hide ⟨hown6,by rw[List.length_append,HU.out.len];rfl,ok_snoc HU.out.ok (Nat.mod_lt _ (by decide)),by
     rw[nv_snoc,HU.out.len,Nat.pow_succ,HVL.out]
     exact HU.out.val,hB6⟩
    clear hown6 hgrow6 hat6 hlt6 hB6 Hrow1 HN1 HZ hsr Hown HU HVL
    go_wp2_with fail
    go_roundw
    case rel=>exact⟨i+1,(more+x)/10000,o++[(more+x) % 10000],some ⟨g6,0,none⟩,cap,hm1,Hbd.out,by go_num,rfl,by rw[Hdd.out],HR6⟩
    case measure=>simp [intOf];omega
  ·by_cases hib:i<lb.length
   ·skip
    have hda:nv (la.drop i)=0:=by rw[List.drop_eq_nil_of_le (by omega)];rfl
    have hda':nv (la.drop (i+1))=0:=by rw[List.drop_eq_nil_of_le (by omega)];rfl
    have p1:decide ((i:Int)<(la.length:Int))=false:=decide_eq_false (by omega)
    obtain⟨bb,fb,rfl,hb⟩:=HBb.out.at hib
    have hb:=bcell hU.bel hb
    have hyl:=HOB.out _ (List.getElem_mem hib)
    have hdb:=nv_drop_cons hib
    obtain⟨y,hy⟩:∃y,lb[i]=y:=⟨_,rfl⟩
    rw[hy] at hb hdb hyl
    have p2:decide ((i:Int)<(lb.length:Int))=true:=decide_eq_true (by omega)
    have p2':(i:Int)<(lb.length:Int):=by omega
    have q3:(0:Int)≤(y:Int):=by omega
    have q4:(y:Int)≤9999:=by omega
    have q0:(0:Int)≤(i:Int):=by omega
    have q5:(0:Int)≤(more:Int):=by omega
    have q6:(more:Int)≤1:=by omega
    have hz:(((more:Int)+(y:Int)) % 10000:Int)=(((more+y) % 10000:Nat):Int):=by omega
    have hd:(((more:Int)+(y:Int))/10000:Int)=(((more+y)/10000:Nat):Int):=by omega
    have hm1:(more+y)/10000≤1:=by omega
    have hbd:i+1≤max la.length lb.length∨i+1=max la.length lb.length+1∧(more+y)/10000=0:=by omega
    have HVL:=hide (up_step (O:=nv o) (p:=10000^i) (show(more+y)+10000*nv (la.drop (i+1))+10000*nv (lb.drop (i+1))=more+nv (la.drop i)+nv (lb.drop i) by omega))
    have Hrow1:=hide (hU.row.alloc (.cells #[.int .i64 (((more:Int)+(y:Int)) % 10000)] 3))
    have HN1:=hide (heap_alloc0 wr (.cells #[.int .i64 (((more:Int)+(y:Int)) % 10000)] 3))
    have HZ:Hid ((wr.alloc (.cells #[.int .i64 (((more:Int)+(y:Int)) % 10000)] 3)).heap.size=wr.heap.size+1):=hide (by simp)
    have hsr:=hU.bel.size
    have Hown:=hide (row_own hU.row)
    have HU:=hide hU
    have Hzz:=hide hz
    have Hdd:=hide hd
    obtain⟨i0,hi0,hz0,hz1,hz2⟩:=dinfo_parts
    have Hi0:=hide hi0
    have Hy0:=hide hz0
    have Hy1:=hide hz1
    have Hy2:=hide hz2
    have Hbd:=hide hbd
    clear hq hU hz hd hi0 hz0 hz1 hz2 hda hdb hbd hda' hy
    go_wp2_with ((refine wpList_append_lies _ rfl (.tmp 44) (.tmp 47) _ rfl w.heap.size 3 i0 (.int .i64 0) 1 8 Tryz.underlying41 Hi0.out Hy0.out Hy1.out Hy2.out rfl (by decide) (.slice oa i oc) i (dnums o) rfl Hrow1.out ⟨wr.heap.size,0,none⟩ 1 1 [.int .i64 (((more:Int)+(y:Int)) % 10000)] rfl rfl (World.news_of_block (cs:= #[.int .i64 (((more:Int)+(y:Int)) % 10000)]) HN1.out) (by simp [Value.oneCell']) (by decide) (by unfold maxLen;omega) (by omega) (by rw[HZ.out];omega) (wr.heap.size+1) HZ.out ?_;intro g6 cap w6 hown6 hgrow6 hat6 hlt6))
    have hB6:=below_grown' (v:= .slice oa i oc) (HU.out.bel.alloc HU.out.bel.size (.cells #[.int .i64 (((more:Int)+(y:Int)) % 10000)] 3)) hgrow6 Hown.out (by rw[HZ.out];omega)
    rw[Hzz.out,←dnums_snoc] at hown6
    have HR6:Hid (UpAt w w6 la lb (i+1) ((more+y)/10000) (.slice (some ⟨g6,0,none⟩) (i+1) cap) (o++[(more+y) % 10000])):=hide ⟨hown6,by rw[List.length_append,HU.out.len];rfl,ok_snoc HU.out.ok (Nat.mod_lt _ (by decide)),by
     rw[nv_snoc,HU.out.len,Nat.pow_succ,HVL.out]
     exact HU.out.val,hB6⟩
    clear hown6 hgrow6 hat6 hlt6 hB6 Hrow1 HN1 HZ hsr Hown HU HVL
    go_wp2_with fail
    go_roundw
    case rel=>exact⟨i+1,(more+y)/10000,o++[(more+y) % 10000],some ⟨g6,0,none⟩,cap,hm1,Hbd.out,by go_num,rfl,by rw[Hdd.out],HR6⟩
    case measure=>simp [intOf];omega
   ·by_cases hm0:more=0
    ·subst hm0
     have p1:decide ((i:Int)<(la.length:Int))=false:=decide_eq_false (by omega)
     have p2:decide ((i:Int)<(lb.length:Int))=false:=decide_eq_false (by omega)
     have hil:i≤200000:=by omega
     have hres:DgRd wr (.slice oa i oc) o:=DgRd.of_row (by rw[hU.len];omega) hU.len.symm hU.row
     have hval:nv o=nv la+nv lb:=by
      have:=hU.val
      rw[List.drop_eq_nil_of_le (by omega),List.drop_eq_nil_of_le (by omega)] at this
      simpa[nv] using this
     have HR:Hid (∃v o',Ending.returned (.slice oa i oc)= .returned v∧DgRd wr v o'∧okD o'∧nv o'=nv la+nv lb∧o'.length≤max la.length lb.length+1):=hide ⟨_,o,rfl,hres,hU.ok,hval,by rw[hU.len];omega⟩
     have HB:=hide hU.bel
     clear hq hU hres hval hi hil hm
     go_wp2_with fail
     go_ret
     exact⟨HR.out,HB.out⟩
    ·obtain rfl:more=1:=by omega
     have hda:nv (la.drop i)=0:=by rw[List.drop_eq_nil_of_le (by omega)];rfl
     have hda':nv (la.drop (i+1))=0:=by rw[List.drop_eq_nil_of_le (by omega)];rfl
     have p1:decide ((i:Int)<(la.length:Int))=false:=decide_eq_false (by omega)
     have hdb:nv (lb.drop i)=0:=by rw[List.drop_eq_nil_of_le (by omega)];rfl
     have hdb':nv (lb.drop (i+1))=0:=by rw[List.drop_eq_nil_of_le (by omega)];rfl
     have p2:decide ((i:Int)<(lb.length:Int))=false:=decide_eq_false (by omega)
     have q0:(0:Int)≤(i:Int):=by omega
     have hz:(1:Int)=(((1) % 10000:Nat):Int):=by omega
     have hd:(0:Int)=(((1)/10000:Nat):Int):=by omega
     have hm1:(1)/10000≤1:=by omega
     have hbd:i+1≤max la.length lb.length∨i+1=max la.length lb.length+1∧(1)/10000=0:=by right;omega
     have HVL:=hide (up_step (O:=nv o) (p:=10000^i) (show(1)+10000*nv (la.drop (i+1))+10000*nv (lb.drop (i+1))=1+nv (la.drop i)+nv (lb.drop i) by omega))
     have Hrow1:=hide (hU.row.alloc (.cells #[.int .i64 (1)] 3))
     have HN1:=hide (heap_alloc0 wr (.cells #[.int .i64 (1)] 3))
     have HZ:Hid ((wr.alloc (.cells #[.int .i64 (1)] 3)).heap.size=wr.heap.size+1):=hide (by simp)
     have hsr:=hU.bel.size
     have Hown:=hide (row_own hU.row)
     have HU:=hide hU
     have Hzz:=hide hz
     have Hdd:=hide hd
     obtain⟨i0,hi0,hz0,hz1,hz2⟩:=dinfo_parts
     have Hi0:=hide hi0
     have Hy0:=hide hz0
     have Hy1:=hide hz1
     have Hy2:=hide hz2
     have Hbd:=hide hbd
     clear hq hU hz hd hi0 hz0 hz1 hz2 hda hdb hbd hda' hdb'
     go_wp2_with ((refine wpList_append_lies _ rfl (.tmp 44) (.tmp 47) _ rfl w.heap.size 3 i0 (.int .i64 0) 1 8 Tryz.underlying41 Hi0.out Hy0.out Hy1.out Hy2.out rfl (by decide) (.slice oa i oc) i (dnums o) rfl Hrow1.out ⟨wr.heap.size,0,none⟩ 1 1 [.int .i64 (1)] rfl rfl (World.news_of_block (cs:= #[.int .i64 (1)]) HN1.out) (by simp [Value.oneCell']) (by decide) (by unfold maxLen;omega) (by omega) (by rw[HZ.out];omega) (wr.heap.size+1) HZ.out ?_;intro g6 cap w6 hown6 hgrow6 hat6 hlt6))
     have hB6:=below_grown' (v:= .slice oa i oc) (HU.out.bel.alloc HU.out.bel.size (.cells #[.int .i64 (1)] 3)) hgrow6 Hown.out (by rw[HZ.out];omega)
     rw[Hzz.out,←dnums_snoc] at hown6
     have HR6:Hid (UpAt w w6 la lb (i+1) ((1)/10000) (.slice (some ⟨g6,0,none⟩) (i+1) cap) (o++[(1) % 10000])):=hide ⟨hown6,by rw[List.length_append,HU.out.len];rfl,ok_snoc HU.out.ok (Nat.mod_lt _ (by decide)),by
      rw[nv_snoc,HU.out.len,Nat.pow_succ,HVL.out]
      exact HU.out.val,hB6⟩
     clear hown6 hgrow6 hat6 hlt6 hB6 Hrow1 HN1 HZ hsr Hown HU HVL
     go_wp2_with fail
     go_roundw
     case rel=>exact⟨i+1,(1)/10000,o++[(1) % 10000],some ⟨g6,0,none⟩,cap,hm1,Hbd.out,by go_num,rfl,by rw[Hdd.out],HR6⟩
     case measure=>simp [intOf];omega
end Go.Proofs.YtgfakdobajgnfaaGreatDoor
