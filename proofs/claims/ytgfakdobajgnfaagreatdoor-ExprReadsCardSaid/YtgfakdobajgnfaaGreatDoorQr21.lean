import Derived.Deep.CutBlock
import Derived.Carry
import Derived.Test.YtgfakdobajgnfaaGreatDoorQr2
import Derived.Test.YtgfakdobajgnfaaGreatDoorQr20
namespace Go.Proofs.YtgfakdobajgnfaaGreatDoor
open Go Go.RowKit
def valV (v:Int×Int×List UInt8):Value:= .agg #[.int .u8 v.1,.int .i64 v.2.1,.string ⟨v.2.2.toArray⟩]
theorem zeroV (w:World):(zeroValue 23).run Tryz.prog w= .ok (.agg #[.int .u8 0,.int .i64 0,.string ⟨#[]⟩]) w:=by kernel_rfl
theorem zeroC (w:World):(zeroValue 233).run Tryz.prog w= .ok (.agg #[.int .u8 0,.int .i64 0,.int .i64 0]) w:=by kernel_rfl
theorem slook_cons (a k:List UInt8)(v:Value)(l:List (List UInt8×Value)):slook ((a,v)::l) k=if k=a then some v else slook l k:=by
 unfold slook
 by_cases h:k=a
 ·subst h
  simp
 ·have:(a==k)=false:=by simpa using fun e=>h e.symm
  simp [h,this]
theorem slook_nil (k:List UInt8):slook [] k=none:=rfl
theorem cells3 {w:World}{b:Nat}{x y z:Value}{t:TypeId}(h:w.heap[b]? =some (.cells #[x,y,z] t (0,0))):w.cell? ⟨b,0,none⟩=some x∧w.cell? ⟨b,1,none⟩=some y∧w.cell? ⟨b,2,none⟩=some z∧∀i,w.frozen? ⟨b,i,none⟩=false:=
 ⟨by simp only[World.cell?,h];rfl,by simp only[World.cell?,h];rfl,by simp only[World.cell?,h];rfl,fun i=>by simp only[World.frozen?,h];simp⟩
def callV (c:Int×Nat×Nat):Value:= .agg #[.int .u8 c.1,.int .i64 (c.2.1:Int),.int .i64 (c.2.2:Int)]
def litT:List (List UInt8×Value):=[([116,114,117,101],.agg #[.int .u8 4,.int .i64 1,.string ⟨#[]⟩]),([102,97,108,115,101],.agg #[.int .u8 4,.int .i64 0,.string ⟨#[]⟩]),([110,117,108,108],.agg #[.int .u8 0,.int .i64 0,.string ⟨#[]⟩])]
theorem look_litT (s:List UInt8):slook litT s=(litL s).map valV:=by
 unfold litT litL
 rw[slook_cons,slook_cons,slook_cons,slook_nil]
 repeat' split
 all_goals rfl
set_option maxRecDepth 100000 in
set_option maxHeartbeats 4000000 in
theorem literal_any (s:List UInt8)(w:World):Calls Tryz.prog 203 #[.string ⟨s.toArray⟩] w fun e w'=>e= .returned (.tuple #[valV ((litL s).getD v0),.bool (litL s).isSome])∧Below w.heap.size w w':=by
 obtain⟨W0,hW0⟩:∃W0,w.alloc (.cells #[.int .u8 0,.int .i64 0,.string ⟨#[]⟩] 23)=W0:=⟨_,rfl⟩
 have hb0:Below w.heap.size w W0:=by rw[←hW0];exact(Below.refl w.heap.size w).alloc (Nat.le_refl _) _
 have hbx:=heap_alloc0 w (.cells #[.int .u8 0,.int .i64 0,.string ⟨#[]⟩] 23)
 have hz0:W0.heap.size=w.heap.size+1:=by rw[←hW0];simp
 rw[hW0] at hbx
 have m0:=SMap.new W0
 have ha:Below W0.heap.size W0 (W0.alloc (.map #[] 0)):=(Below.refl _ _).alloc (Nat.le_refl _) _
 have hm0:(W0.alloc (.map #[] 0)).heap.size=W0.heap.size+1:=by simp
 obtain⟨M0,hM0⟩:∃M0,W0.alloc (.map #[] 0)=M0:=⟨_,rfl⟩
 rw[hM0,hz0] at m0
 rw[hM0] at ha hm0
 obtain⟨M1,e1,m1,o1,z1⟩:=srun_put (P:=Tryz.prog) (t:=262) Tryz.underlying262 Tryz.underlying9 m0 [116,114,117,101] (.agg #[.int .u8 4,.int .i64 1,.string ⟨#[]⟩]) (by decide)
 obtain⟨M2,e2,m2,o2,z2⟩:=srun_put (P:=Tryz.prog) (t:=262) Tryz.underlying262 Tryz.underlying9 m1 [102,97,108,115,101] (.agg #[.int .u8 4,.int .i64 0,.string ⟨#[]⟩]) (by decide)
 obtain⟨M3,e3,m3,o3,z3⟩:=srun_put (P:=Tryz.prog) (t:=262) Tryz.underlying262 Tryz.underlying9 m2 [110,117,108,108] (.agg #[.int .u8 0,.int .i64 0,.string ⟨#[]⟩]) (by decide)
 have hlk:=srun_lookup (P:=Tryz.prog) (t:=262) Tryz.underlying262 Tryz.underlying9 m3 (zeroV M3) s
 rw[show([]:List (List UInt8×Value))++[([116,114,117,101],.agg #[.int .u8 4,.int .i64 1,.string ⟨#[]⟩])]++[([102,97,108,115,101],.agg #[.int .u8 4,.int .i64 0,.string ⟨#[]⟩])]++[([110,117,108,108],.agg #[.int .u8 0,.int .i64 0,.string ⟨#[]⟩])]=litT from rfl,look_litT] at hlk
 have hO:Only [w.heap.size+1] M0 M3:=((o1.trans o2).trans o3)
 have hB3:Below w.heap.size w M3:=below_only (hb0.trans (ha.mono (by omega))) hO (by simp) (by omega)
 have hx3:M3.heap[w.heap.size]? =some (.cells #[.int .u8 0,.int .i64 0,.string ⟨#[]⟩] 23 (0,0)):=(hO.block _ (by omega) (by simp)).trans ((ha.block _ (by omega)).trans hbx)
 have HW0:=hide hW0
 have HB3:=hide hB3
 have Hx3:=hide hx3
 have Hlk:=hide hlk
 have hlt:=lt_of_heap hx3
 have hmm:= @run_makeMap Tryz.prog
 clear hW0 hb0 hbx ha hm0 m0 m1 m2 m3 o1 z1 o2 z2 o3 z3 hO hB3 hx3 hlk
 go_enter Tryz.func203,Tryz.ntmps203
 go_upto_region 1 with fail
 rw[HW0.out]
 clear HW0
 cases hl:litL s with
 |none=>
  have hlk:=Hlk.out
  rw[hl] at hlk
  simp only[Option.map_none,looked] at hlk
  obtain⟨f0,f1,f2⟩:=cells3 Hx3.out
  have Hl:=hide hl
  clear hl Hlk
  go_wp2_with fail
  refine bodyPost_ret (v:= .tuple #[.agg #[.int .u8 0,.int .i64 0,.string ⟨#[]⟩],.bool false]) (by simp [results,Tryz.results203,go_sem, *]) rfl ?_
  refine⟨by rw[Hl.out];rfl,?_⟩
  exact(((HB3.out.setCell (Nat.le_refl _) _).setCell (Nat.le_refl _) _).setCell (Nat.le_refl _) _).alloc (by simp;omega) _
 |some v=>
  have hlk:=Hlk.out
  rw[hl] at hlk
  simp only[Option.map_some,looked] at hlk
  obtain⟨vk,vn,vs⟩:=v
  simp only[valV] at hlk
  obtain⟨f0,f1,f2⟩:=cells3 Hx3.out
  have Hl:=hide hl
  clear hl Hlk
  go_wp2_with fail
  refine bodyPost_ret (v:= .tuple #[.agg #[.int .u8 vk,.int .i64 vn,.string ⟨vs.toArray⟩],.bool true]) (by simp [results,Tryz.results203,go_sem, *]) rfl ?_
  refine⟨by rw[Hl.out];rfl,?_⟩
  exact(((HB3.out.setCell (Nat.le_refl _) _).setCell (Nat.le_refl _) _).setCell (Nat.le_refl _) _).alloc (by simp;omega) _
def callT:List (List UInt8×Value):=[([97,98,115],.agg #[.int .u8 18,.int .i64 1,.int .i64 1]),([109,105,110],.agg #[.int .u8 19,.int .i64 1,.int .i64 8]),([109,97,120],.agg #[.int .u8 20,.int .i64 1,.int .i64 8]),([109,111,100],.agg #[.int .u8 21,.int .i64 2,.int .i64 2]),([108,101,110,103,116,104],.agg #[.int .u8 22,.int .i64 1,.int .i64 1]),([117,112,112,101,114],.agg #[.int .u8 23,.int .i64 1,.int .i64 1]),([99,111,110,116,97,105,110,115],.agg #[.int .u8 24,.int .i64 2,.int .i64 2]),([115,116,97,114,116,115],.agg #[.int .u8 25,.int .i64 2,.int .i64 2]),([105,102],.agg #[.int .u8 26,.int .i64 3,.int .i64 3])]
theorem look_callT (s:List UInt8):slook callT s=(callL s).map callV:=by
 unfold callT callL
 rw[slook_cons,slook_cons,slook_cons,slook_cons,slook_cons,slook_cons,slook_cons,slook_cons,slook_cons,slook_nil]
 repeat' split
 all_goals rfl
set_option maxRecDepth 100000 in
set_option maxHeartbeats 4000000 in
theorem calls_any (s:List UInt8)(w:World):Calls Tryz.prog 204 #[.string ⟨s.toArray⟩] w fun e w'=>e= .returned (.tuple #[callV ((callL s).getD (0,0,0)),.bool (callL s).isSome])∧Below w.heap.size w w':=by
 obtain⟨W0,hW0⟩:∃W0,w.alloc (.cells #[.int .u8 0,.int .i64 0,.int .i64 0] 233)=W0:=⟨_,rfl⟩
 have hb0:Below w.heap.size w W0:=by rw[←hW0];exact(Below.refl w.heap.size w).alloc (Nat.le_refl _) _
 have hbx:=heap_alloc0 w (.cells #[.int .u8 0,.int .i64 0,.int .i64 0] 233)
 have hz0:W0.heap.size=w.heap.size+1:=by rw[←hW0];simp
 rw[hW0] at hbx
 have m0:=SMap.new W0
 have ha:Below W0.heap.size W0 (W0.alloc (.map #[] 0)):=(Below.refl _ _).alloc (Nat.le_refl _) _
 have hm0:(W0.alloc (.map #[] 0)).heap.size=W0.heap.size+1:=by simp
 obtain⟨M0,hM0⟩:∃M0,W0.alloc (.map #[] 0)=M0:=⟨_,rfl⟩
 rw[hM0,hz0] at m0
 rw[hM0] at ha hm0
 obtain⟨M1,e1,m1,o1,z1⟩:=srun_put (P:=Tryz.prog) (t:=263) Tryz.underlying263 Tryz.underlying9 m0 [97,98,115] (.agg #[.int .u8 18,.int .i64 1,.int .i64 1]) (by decide)
 obtain⟨M2,e2,m2,o2,z2⟩:=srun_put (P:=Tryz.prog) (t:=263) Tryz.underlying263 Tryz.underlying9 m1 [109,105,110] (.agg #[.int .u8 19,.int .i64 1,.int .i64 8]) (by decide)
 obtain⟨M3,e3,m3,o3,z3⟩:=srun_put (P:=Tryz.prog) (t:=263) Tryz.underlying263 Tryz.underlying9 m2 [109,97,120] (.agg #[.int .u8 20,.int .i64 1,.int .i64 8]) (by decide)
 obtain⟨M4,e4,m4,o4,z4⟩:=srun_put (P:=Tryz.prog) (t:=263) Tryz.underlying263 Tryz.underlying9 m3 [109,111,100] (.agg #[.int .u8 21,.int .i64 2,.int .i64 2]) (by decide)
 obtain⟨M5,e5,m5,o5,z5⟩:=srun_put (P:=Tryz.prog) (t:=263) Tryz.underlying263 Tryz.underlying9 m4 [108,101,110,103,116,104] (.agg #[.int .u8 22,.int .i64 1,.int .i64 1]) (by decide)
 obtain⟨M6,e6,m6,o6,z6⟩:=srun_put (P:=Tryz.prog) (t:=263) Tryz.underlying263 Tryz.underlying9 m5 [117,112,112,101,114] (.agg #[.int .u8 23,.int .i64 1,.int .i64 1]) (by decide)
 obtain⟨M7,e7,m7,o7,z7⟩:=srun_put (P:=Tryz.prog) (t:=263) Tryz.underlying263 Tryz.underlying9 m6 [99,111,110,116,97,105,110,115] (.agg #[.int .u8 24,.int .i64 2,.int .i64 2]) (by decide)
 obtain⟨M8,e8,m8,o8,z8⟩:=srun_put (P:=Tryz.prog) (t:=263) Tryz.underlying263 Tryz.underlying9 m7 [115,116,97,114,116,115] (.agg #[.int .u8 25,.int .i64 2,.int .i64 2]) (by decide)
 obtain⟨M9,e9,m9,o9,z9⟩:=srun_put (P:=Tryz.prog) (t:=263) Tryz.underlying263 Tryz.underlying9 m8 [105,102] (.agg #[.int .u8 26,.int .i64 3,.int .i64 3]) (by decide)
 have hlk:=srun_lookup (P:=Tryz.prog) (t:=263) Tryz.underlying263 Tryz.underlying9 m9 (zeroC M9) s
 rw[show([]:List (List UInt8×Value))++[([97,98,115],.agg #[.int .u8 18,.int .i64 1,.int .i64 1])]++[([109,105,110],.agg #[.int .u8 19,.int .i64 1,.int .i64 8])]++[([109,97,120],.agg #[.int .u8 20,.int .i64 1,.int .i64 8])]++[([109,111,100],.agg #[.int .u8 21,.int .i64 2,.int .i64 2])]++[([108,101,110,103,116,104],.agg #[.int .u8 22,.int .i64 1,.int .i64 1])]++[([117,112,112,101,114],.agg #[.int .u8 23,.int .i64 1,.int .i64 1])]++[([99,111,110,116,97,105,110,115],.agg #[.int .u8 24,.int .i64 2,.int .i64 2])]++[([115,116,97,114,116,115],.agg #[.int .u8 25,.int .i64 2,.int .i64 2])]++[([105,102],.agg #[.int .u8 26,.int .i64 3,.int .i64 3])]=callT from rfl,look_callT] at hlk
 have hO:Only [w.heap.size+1] M0 M9:=((((((((o1.trans o2).trans o3).trans o4).trans o5).trans o6).trans o7).trans o8).trans o9)
 have hB3:Below w.heap.size w M9:=below_only (hb0.trans (ha.mono (by omega))) hO (by simp) (by omega)
 have hx3:M9.heap[w.heap.size]? =some (.cells #[.int .u8 0,.int .i64 0,.int .i64 0] 233 (0,0)):=(hO.block _ (by omega) (by simp)).trans ((ha.block _ (by omega)).trans hbx)
 have HW0:=hide hW0
 have HB3:=hide hB3
 have Hx3:=hide hx3
 have Hlk:=hide hlk
 have hlt:=lt_of_heap hx3
 have hmm:= @run_makeMap Tryz.prog
 clear hW0 hb0 hbx ha hm0 m0 m1 m2 m3 m4 m5 m6 m7 m8 m9 o1 z1 o2 z2 o3 z3 o4 z4 o5 z5 o6 z6 o7 z7 o8 z8 o9 z9 hO hB3 hx3 hlk
 go_enter Tryz.func204,Tryz.ntmps204
 go_upto_region 1 with fail
 rw[HW0.out]
 clear HW0
 cases hl:callL s with
 |none=>
  have hlk:=Hlk.out
  rw[hl] at hlk
  simp only[Option.map_none,looked] at hlk
  obtain⟨f0,f1,f2⟩:=cells3 Hx3.out
  have Hl:=hide hl
  clear hl Hlk
  go_wp2_with fail
  refine bodyPost_ret (v:= .tuple #[.agg #[.int .u8 0,.int .i64 0,.int .i64 0],.bool false]) (by simp [results,Tryz.results204,go_sem, *]) rfl ?_
  refine⟨by rw[Hl.out];rfl,?_⟩
  exact(((HB3.out.setCell (Nat.le_refl _) _).setCell (Nat.le_refl _) _).setCell (Nat.le_refl _) _).alloc (by simp;omega) _
 |some v=>
  have hlk:=Hlk.out
  rw[hl] at hlk
  simp only[Option.map_some,looked] at hlk
  obtain⟨c1,c2,c3⟩:=v
  simp only[callV] at hlk
  obtain⟨f0,f1,f2⟩:=cells3 Hx3.out
  have Hl:=hide hl
  clear hl Hlk
  go_wp2_with fail
  refine bodyPost_ret (v:= .tuple #[.agg #[.int .u8 c1,.int .i64 (c2:Int),.int .i64 (c3:Int)],.bool true]) (by simp [results,Tryz.results204,go_sem, *]) rfl ?_
  refine⟨by rw[Hl.out];rfl,?_⟩
  exact(((HB3.out.setCell (Nat.le_refl _) _).setCell (Nat.le_refl _) _).setCell (Nat.le_refl _) _).alloc (by simp;omega) _
open Go Go.RowKit
def XPost (w:World)(B:Nat)(X:List Nat)(b:Nat)(vl:Value)(ts:List Tkn)(d:Nat)(vt:Value)(nds:List Nd)(x:ExR)(e:Ending)(w':World):Prop:=
 match x with
 | .ok p=>e= .returned (.int .i64 ((nds.length+p.1.size - 1:Nat):Int))∧∃vt',RdAt w' B X b vl ts p.2 d vt' (nds++p.1.flat nds.length)∧Rch b w vt w' vt'
 | .error p=>e=gaveUp p.1∧RdErr w' b vl (ts.length - p.2.length)∧Only (b::vt.ownBlock.toList) w w'
def LvlIH (k B b:Nat)(vl:Value)(ts:List Tkn):Prop:=∀(X:List Nat) (n d:Nat) (r:List Tkn) (w:World) (vt:Value) (nds:List Nd),n≤7→rank (.lvl n) r<k→RdAt w B X b vl ts r d vt nds→B≤w.heap.size→
 Calls Tryz.prog 89 #[.pointer (some ⟨b,0,none⟩),.int .i64 (n:Int)] w (XPost w B X b vl ts d vt nds (lvlE n d r))
theorem XPost.pre {w w1 w':World}{B b d:Nat}{X:List Nat}{vl vt v1:Value}{ts:List Tkn}{nds1:List Nd}{er:Int}{q:List Tkn}{e:Ending}(h:XPost w1 B X b vl ts d v1 nds1 (.error (er,q)) e w')(hr:Rch b w vt w1 v1):
 e=gaveUp er∧RdErr w' b vl (ts.length - q.length)∧Only (b::vt.ownBlock.toList) w w':=⟨h.1,h.2.1,hr.err h.2.2⟩
theorem RdAt.err {w:World}{B b d:Nat}{X:List Nat}{vl vt:Value}{ts r:List Tkn}{nds:List Nd}(h:RdAt w B X b vl ts r d vt nds):RdErr w b vl (ts.length - r.length):=⟨_,_,h.blk⟩
theorem Only.cells_of {S:List Nat}{w w':World}{p:Nat}{o:Obj}(h:Only S w w')(hp:w.heap[p]? =some o)(hn:p∉S):w'.heap[p]? =some o:=(h.block p (lt_of_heap hp) hn).trans hp
theorem RdAt.apart {w:World}{B b d p:Nat}{X:List Nat}{vl vt:Value}{ts r:List Tkn}{nds:List Nd}{cs:Array Value}{t:TypeId}(h:RdAt w B X b vl ts r d vt nds)(hp:w.heap[p]? =some (.cells cs t (0,0)))(h1:130≠t)(h2:43≠t):p∉b::vt.ownBlock.toList:=by
 intro hm
 rcases List.mem_cons.1 hm with rfl|hm
 ·rw[h.blk] at hp
  injection hp with hp
  injection hp with _ hp
  exact h1 hp
 ·exact h.tree.not hp h2 (by simpa using hm)
def readAt (b:Nat)(w:World):Nat:=match w.cell? ⟨b,1,none⟩ with|some v=>(intOf v).toNat|none=>0
theorem RdAt.left {w:World}{B b d:Nat}{X:List Nat}{vl vt:Value}{ts r:List Tkn}{nds:List Nd}(h:RdAt w B X b vl ts r d vt nds):ts.length - readAt b w=r.length:=by
 obtain⟨_,c1,_⟩:=cells4 h.blk
 have:=h.suf.len
 unfold readAt
 rw[c1]
 simp only[intOf]
 omega
theorem row_size {n d:Nat}{r:List Tkn}{a:Ex}{q:List Tkn}(h7:n≤7)(h:lvlE n d r= .ok (a,q)):a.size+q.length≤r.length:=exE_size (.lvl n) d r h7 a q h
theorem flat_two (h:Hd)(a b:Ex)(k:Nat):(Ex.mk h [a,b]).flat k=a.flat k++b.flat (k+a.size)++[⟨h,[k+a.size - 1,k+a.size+b.size - 1]⟩]:=by
 simp [Ex.flat,flats,ends]
theorem flat_one (h:Hd)(a:Ex)(k:Nat):(Ex.mk h [a]).flat k=a.flat k++[⟨h,[k+a.size - 1]⟩]:=by
 simp [Ex.flat,flats,ends]
theorem ownsRow_two (w:World)(B i j:Nat)(hB:B≤w.heap.size):(w.alloc (.cells #[.int .i64 (i:Int),.int .i64 (j:Int)] 3)).ownsRow B 3 1 (.slice (some ⟨w.heap.size,0,none⟩) [i,j].length 2) [i,j].length (nums [i,j]):=
 ⟨rfl,.inr ⟨w.heap.size,2,_,rfl,hB,heap_alloc0 w _,Nat.le_refl _,by decide,rfl,rfl⟩⟩
set_option maxRecDepth 100000 in
set_option maxHeartbeats 4000000 in
theorem row_any {k B b:Nat}{X:List Nat}{vl:Value}{ts:List Tkn}(ih:LvlIH k B b vl ts){n d:Nat}{r:List Tkn}{w:World}{vt:Value}{nds:List Nd}(h5:n≤5)(hn2:n≠2)(hk:rank (.lvl n) r≤k)(h:RdAt w B X b vl ts r d vt nds)(hB:B≤w.heap.size)
 {g m:Nat} {l:List (List UInt8×Int)} (hl:l=opsL n) (hlm:l.length=m) (hm:m≤6) (ho:OpsIs w g l) (many:Bool) (hmany:Hid (many=decide (n≠3))):
 Calls Tryz.prog 201 #[.pointer (some ⟨b,0,none⟩),.int .i64 (n:Int),.bool many,.slice (some ⟨g,0,none⟩) m m] w (XPost w B X b vl ts d vt nds (lvlE n d r)):=by
 have hc:=ih X (n+1) d r w vt nds (by omega) (by simp only[rank] at hk ⊢;omega) h hB
 rw[Int.natCast_succ] at hc
 have hx:=lvlE_row (d:=d) (r:=r) h5 hn2
 have Hx:=hide hx
 have Hc:=hide hc
 have H:=hide h
 have Ho:=hide ho
 have HI:=hide ih
 have hn5:(n:Int)≤5:=by omega
 have hg:=lt_of_heap ho
 have hga:=hide (h.apart ho (by decide) (by decide))
 clear hc h ho hx ih
 go_enter Tryz.func201,Tryz.ntmps201
 go_wp2_with fail
 (with_reducible refine Hc.out.mono ?_)
 rintro e V1 hp
 cases hq1:lvlE (n+1) d r with
 |error p=>
  obtain⟨er,q⟩:=p
  rw[hq1] at hp
  obtain⟨rfl,hp1,hp2⟩:=hp
  have HE:Hid (XPost w B X b vl ts d vt nds (lvlE n d r) (gaveUp er) V1):=hide (by
   rw[Hx.out,hq1]
   exact⟨rfl,hp1,hp2⟩)
  clear hp1 hp2 hq1 Hx
  go_wp2_with fail
  exact⟨rfl,HE.out⟩
 |ok p=>
  obtain⟨a,q⟩:=p
  rw[hq1] at hp
  obtain⟨rfl,v1,hp1,hp2⟩:=hp
  have hsz:=row_size (n:=n+1) (by omega) hq1
  have hlen:=(lvlE_suf (n:=n+1) (by omega) hq1).2
  have hfew:=H.out.few
  have HS:Hid (∃(aj:Ex) (rj:List Tkn) (vj:Value),(Value.int .i64 ((nds.length+a.size - 1:Nat):Int))= .int .i64 ((nds.length+aj.size - 1:Nat):Int)∧rj.length<r.length∧aj.size+rj.length≤r.length∧RdAt V1 B X b vl ts rj d vj (nds++aj.flat nds.length)∧Rch b w vt V1 vj∧rowE n aj d rj=lvlE n d r):=
   hide ⟨a,q,v1,rfl,hlen,hsz,hp1,hp2,by rw[Hx.out,hq1];rfl⟩
  clear hp1 hp2 hq1 Hx Hc hsz hlen
  go_wp2_with fail
  go_loopw [9] (fun v9 wr=>Hid (∃(aj:Ex) (rj:List Tkn) (vj:Value),v9= .int .i64 ((nds.length+aj.size - 1:Nat):Int)∧rj.length<r.length∧aj.size+rj.length≤r.length∧RdAt wr B X b vl ts rj d vj (nds++aj.flat nds.length)∧Rch b w vt wr vj∧rowE n aj d rj=lvlE n d r)) (fun _ wr=>ts.length - readAt b wr)
  case atStart=>exact HS
  case round=>
   obtain⟨aj,rj,vj,rfl,hj1,hj2,hj3,hj4,hj5⟩:=hrel.out
   have hbw:=Nat.le_trans hB hj4.only.size
   have hpl:=hide (place_any hj3)
   have HJ3:=hide hj3
   have HJ4:=hide hj4
   have HJ5:=hide hj5
   have hgj:=hide (hj4.only.cells_of Ho.out hga.out)
   have hsp:=aj.size_pos
   have hjl:=hj3.left
   clear hrel HS hj3 hj4 hj5
   go_wp2_with fail
   (with_reducible refine hpl.out.mono ?_)
   rintro e V2 ⟨rfl,hb2⟩
   have hin:=infix_any (HJ3.out.below hb2) (l:=l) (OpsIs.below hgj.out hb2) (by omega)
   rw[hlm] at hin
   have Hin:=hide hin
   have HB2:=hide hb2
   clear hin hb2 hpl
   go_wp2_with fail
   (with_reducible refine Hin.out.mono ?_)
   rintro e V3 ⟨rfl,hb3⟩
   have hb23:=HB2.out.trans (hb3.mono HB2.out.size)
   have HB3:=hide hb23
   obtain⟨o,hoe⟩:∃o,infixH rj l=o:=⟨_,rfl⟩
   rw[hoe]
   have hre:=rowE_eq n aj d rj
   rw[←hl,hoe] at hre
   clear hb3 hb23 Hin HB2
   by_cases ho0:o=0
   ·subst ho0
    have HP:Hid (XPost w B X b vl ts d vt nds (lvlE n d r) (.returned (.int .i64 ((nds.length+aj.size - 1:Nat):Int))) (V3.alloc (.cells #[.int .i64 (plH rj).1,.int .i64 (plH rj).2] 33))):=hide (by
     rw[←HJ5.out,hre,if_pos rfl]
     have hbz:=(HB3.out.trans ((Below.refl V3.heap.size V3).alloc (Nat.le_refl _) (.cells #[.int .i64 (plH rj).1,.int .i64 (plH rj).2] 33)|>.mono HB3.out.size))
     exact⟨rfl,vj,HJ3.out.below hbz,HJ4.out.trans (Rch.of_below vj hbz)⟩)
    clear hre hoe HJ3 HJ4 HJ5 HB3 hgj
    go_wp2_with fail
    go_ret
    exact HP.out
   ·have ho1:(o==0)=false:=by simpa using ho0
    obtain⟨t,q,rfl⟩:∃t q,rj=t::q:=infixH_ne (l:=l) (by rw[hoe];exact ho0)
    rw[if_neg ho0] at hre
    simp only[List.tail_cons] at hre
    have hba:=HB3.out.trans ((Below.refl V3.heap.size V3).alloc (Nat.le_refl _) (.cells #[.int .i64 (plH (t::q)).1,.int .i64 (plH (t::q)).2] 33)|>.mono HB3.out.size)
    have hpz:=heap_alloc0 V3 (.cells #[.int .i64 (plH (t::q)).1,.int .i64 (plH (t::q)).2] 33)
    obtain⟨V4,hV4⟩:∃V4,V3.alloc (.cells #[.int .i64 (plH (t::q)).1,.int .i64 (plH (t::q)).2] 33)=V4:=⟨_,rfl⟩
    rw[hV4] at hba hpz
    have hr4:=HJ3.out.below hba
    obtain⟨c0,c1,c2,c3,cf⟩:=cells4 hr4.blk
    have cf1:=cf 1
    have hbig:=hr4.big
    have hr5:=hr4.step
    have ho5:=only_setCell V4 b 1 (.int .i64 (((ts.length - (q.length+1):Nat):Int)+1))
    have hch5:Rch b w vt (V4.setCell ⟨b,1,none⟩ (.int .i64 (((ts.length - (q.length+1):Nat):Int)+1))) vj:=(HJ4.out.trans (Rch.of_below vj hba)).trans (Rch.of_only vj ho5)
    have hc6:=HI.out X (n+1) d q _ vj _ (by omega) (by simp only[rank,List.length_cons] at hk hj1 ⊢;omega) hr5 (Nat.le_trans hB hch5.only.size)
    rw[Int.natCast_succ] at hc6
    have hp5:=(ho5.cells_of hpz (by
     have h1:=lt_of_heap hr4.blk
     intro hm
     simp at hm
     have h2:=hr4.apart hpz (by decide) (by decide)
     exact h2 (by simp [hm])))
    have hpa:=hide (hr5.apart hp5 (by decide) (by decide))
    have HP5:=hide hp5
    have Hc6:=hide hc6
    have HCH:=hide hch5
    have HR5:=hide hr5
    have HRE:=hide hre
    have hwz:=HI.out
    clear cf hr4 hr5 ho5 hch5 hc6 hpz hba hp5 hre HJ3 HJ4 HB3 hgj hwz
    go_wp2_with fail
    (with_reducible refine Hc6.out.mono ?_)
    rintro e V6 hp6
    cases hq6:lvlE (n+1) d q with
    |error p=>
     obtain⟨er,q6⟩:=p
     rw[hq6] at hp6
     have HE:Hid (XPost w B X b vl ts d vt nds (lvlE n d r) (gaveUp er) V6):=hide (by
      rw[←HJ5.out,HRE.out,hq6]
      obtain⟨_,h2,h3⟩:=XPost.pre hp6 HCH.out
      exact⟨rfl,h2,h3⟩)
     obtain⟨rfl,_,_⟩:=hp6
     clear hq6 HRE HJ5 HCH HP5 hpa
     go_wp2_with fail
     exact⟨rfl,HE.out⟩
    |ok p=>
     obtain⟨bx,q6⟩:=p
     rw[hq6] at hp6
     obtain⟨rfl,v6,hp6,hch6⟩:=hp6
     have hsz6:=row_size (n:=n+1) (by omega) hq6
     have hbp:=bx.size_pos
     have hlen6:=(lvlE_suf (n:=n+1) (by omega) hq6).2
     have hfew6:=hp6.few
     simp only[List.length_append,Ex.flat_len] at hfew6 hp6 hch6 ⊢
     simp only[List.length_cons] at hj1 hj2
     have hB6:=Nat.le_trans (Nat.le_trans hB HCH.out.only.size) hch6.only.size
     have hpl6:=hch6.only.cells_of HP5.out hpa.out
     obtain⟨z0,z1,_⟩:=two_cells hpl6
     have hkv:=ownsRow_two V6 B (nds.length+aj.size - 1) (nds.length+aj.size+bx.size - 1) hB6
     have hbz:Below V6.heap.size V6 (V6.alloc (.cells #[.int .i64 ((nds.length+aj.size - 1:Nat):Int),.int .i64 ((nds.length+aj.size+bx.size - 1:Nat):Int)] 3)):=(Below.refl _ _).alloc (Nat.le_refl _) _
     have hnd:Calls Tryz.prog 209 #[.pointer (some ⟨b,0,none⟩),.agg #[.int .u8 o,.int .u8 0,.int .i64 0,.string ⟨#[]⟩,.string ⟨#[]⟩,.slice none 0 0,.int .i64 (plH (t::q)).1,.int .i64 (plH (t::q)).2],.slice (some ⟨V6.heap.size,0,none⟩) 2 2]
      (V6.alloc (.cells #[.int .i64 ((nds.length+aj.size - 1:Nat):Int),.int .i64 ((nds.length+aj.size+bx.size - 1:Nat):Int)] 3)) _:=node_any (hp6.below hbz) (by simp only[List.length_append,Ex.flat_len];omega) (Nat.le_trans hB6 hbz.size) ⟨o,v0,[],(plH (t::q)).1,(plH (t::q)).2⟩ [nds.length+aj.size - 1,nds.length+aj.size+bx.size - 1] (some ⟨V6.heap.size,0,none⟩) 2 hkv (fun x hx hm=>by
      simp only[Value.ownBlock,Option.some.injEq] at hx
      have h1:=hp6.xl x hm
      omega)
     obtain⟨z,hz⟩:∃z:Nat,(nds++aj.flat nds.length++bx.flat (nds.length+aj.size)).length=z:=⟨_,rfl⟩
     rw[hz] at hnd
     have hz':Hid (z=nds.length+aj.size+bx.size):=hide (by rw[←hz];simp only[List.length_append,Ex.flat_len])
     have HN:=hide hnd
     clear hz
     have HC6:=hide ((HCH.out.trans hch6).trans (Rch.of_below v6 hbz))
     clear hpl6 hbz hnd hp6 hch6 hkv HP5 hpa HCH
     go_wp2_with fail
     (with_reducible refine HN.out.mono ?_)
     rintro e V7 ⟨rfl,v7,hr7,hch7⟩
     have hfl:nds++aj.flat nds.length++bx.flat (nds.length+aj.size)++[⟨⟨o,v0,[],(plH (t::q)).1,(plH (t::q)).2⟩,[nds.length+aj.size - 1,nds.length+aj.size+bx.size - 1]⟩]=nds++(Ex.mk ⟨o,v0,[],(plH (t::q)).1,(plH (t::q)).2⟩ [aj,bx]).flat nds.length:=by
      rw[flat_two,List.append_assoc,List.append_assoc,List.append_assoc]
     have hsm:(Ex.mk ⟨o,v0,[],(plH (t::q)).1,(plH (t::q)).2⟩ [aj,bx]).size=aj.size+bx.size+1:=by simp [Ex.size,sizes]
     have hnum:z=nds.length+(Ex.mk ⟨o,v0,[],(plH (t::q)).1,(plH (t::q)).2⟩ [aj,bx]).size - 1:=by have:=hz'.out;omega
     rw[hfl] at hr7
     have hC7:=HC6.out.trans hch7
     have hl7:=hr7.left
     have hl1:=H.out.suf.len
     clear hV4 c0 c1 c2 c3 cf1 z0 z1 hch7 HC6 HN hfl
     by_cases hn3:n=3
     ·subst hn3
      have hnm:(!many)=true:=by rw[hmany.out];rfl
      have HP:Hid (XPost w B X b vl ts d vt nds (lvlE 3 d r) (.returned (.int .i64 (z:Int))) V7):=hide (by
       rw[←HJ5.out,HRE.out,hq6]
       simp only[ExR.next,if_true]
       exact⟨by rw[hnum],v7,hr7,hC7⟩)
      clear hr7 hC7 HRE HJ5 hq6 hnum hl7 hjl
      go_wp2_with fail
      go_ret
      exact HP.out
     ·have HP:Hid (∃(ak:Ex) (rj:List Tkn) (vj:Value),(Value.int .i64 (z:Int))= .int .i64 ((nds.length+ak.size - 1:Nat):Int)∧rj.length<r.length∧ak.size+rj.length≤r.length∧RdAt V7 B X b vl ts rj d vj (nds++ak.flat nds.length)∧Rch b w vt V7 vj∧rowE n ak d rj=lvlE n d r):=hide ⟨_,q6,v7,by rw[hnum],by omega,by omega,hr7,hC7,by
       rw[←HJ5.out,HRE.out,hq6]
       simp only[ExR.next,if_neg hn3]⟩
      have hwr:ts.length - readAt b V7<ts.length - readAt b wr:=by
       rw[hl7,hjl]
       simp only[List.length_cons]
       omega
      have hnm:(!many)=false:=by rw[hmany.out];simp [hn3]
      clear hr7 hC7 HRE HJ5 hq6 hnum hl7 hjl
      go_wp2_with fail
      go_roundw
      case rel=>exact HP
      case measure=>exact hwr
theorem ownsRow_one (w:World)(B i:Nat)(hB:B≤w.heap.size):(w.alloc (.cells #[.int .i64 (i:Int)] 3)).ownsRow B 3 1 (.slice (some ⟨w.heap.size,0,none⟩) [i].length 1) [i].length (nums [i]):=
 ⟨rfl,.inr ⟨w.heap.size,1,_,rfl,hB,heap_alloc0 w _,Nat.le_refl _,by decide,rfl,rfl⟩⟩
set_option maxRecDepth 100000 in
set_option maxHeartbeats 4000000 in
theorem ahead_any {k B b:Nat}{X:List Nat}{vl:Value}{ts:List Tkn}(ih:LvlIH k B b vl ts){n d:Nat}{r:List Tkn}{w:World}{vt:Value}{nds:List Nd}(h26:n=2∨n=6)(hk:rank (.lvl n) r≤k)(h:RdAt w B X b vl ts r d vt nds)(hB:B≤w.heap.size)
 (s:List UInt8) (hs:s=preW n) (o:Int) (ho:o=preO n):
 Calls Tryz.prog 202 #[.pointer (some ⟨b,0,none⟩),.int .i64 (n:Int),.string ⟨s.toArray⟩,.int .u8 o] w (XPost w B X b vl ts d vt nds (lvlE n d r)):=by
 have hi:=hide (is_any h s)
 have hn6:(n:Int)≤6:=by omega
 have Hx:=hide (lvlE_pre (d:=d) (r:=r) h26)
 have H:=hide h
 have HI:=hide ih
 have Hs:=hide hs
 have Ho:=hide ho
 have hn7:n≤6:=by omega
 clear h ih hs ho h26
 by_cases hp:isH (preW n) r=true
 ·have hx:=Hx.out
  rw[if_pos hp] at hx
  obtain⟨t,q,rfl⟩:=isH_ne hp
  rw[←Hs.out] at hp
  rw[hp] at hi
  have HX:=hide hx
  clear Hx hx
  go_enter Tryz.func202,Tryz.ntmps202
  go_wp2_with fail
  (with_reducible refine hi.out.mono ?_)
  rintro e V1 ⟨rfl,hb1⟩
  have hpl:=hide (place_any (H.out.below hb1))
  have HB1:=hide hb1
  clear hb1 hi hp
  go_wp2_with fail
  (with_reducible refine hpl.out.mono ?_)
  rintro e V2 ⟨rfl,hb2⟩
  have hba:=(HB1.out.trans (hb2.mono HB1.out.size)).trans ((Below.refl V2.heap.size V2).alloc (Nat.le_refl _) (.cells #[.int .i64 (plH (t::q)).1,.int .i64 (plH (t::q)).2] 33)|>.mono (Nat.le_trans HB1.out.size hb2.size))
  have hpz:=heap_alloc0 V2 (.cells #[.int .i64 (plH (t::q)).1,.int .i64 (plH (t::q)).2] 33)
  obtain⟨V3,hV3⟩:∃V3,V2.alloc (.cells #[.int .i64 (plH (t::q)).1,.int .i64 (plH (t::q)).2] 33)=V3:=⟨_,rfl⟩
  rw[hV3] at hba hpz
  have hr3:=H.out.below hba
  have hpa:=hide (hr3.apart hpz (by decide) (by decide))
  have HPZ:=hide hpz
  have HBA:=hide hba
  clear hpz hba hb2 HB1 hpl
  by_cases hd:d=12
  ·have hop:=hide (open_deep (hd▸hr3))
   have HE:Hid (XPost w B X b vl ts d vt nds (lvlE n d (t::q)) (gaveUp 12) V3):=hide (by
    rw[HX.out,if_pos hd]
    exact⟨rfl,hr3.err,Only.of_below HBA.out _⟩)
   clear hr3 HX HBA hd
   go_wp2_with fail
   (with_reducible refine hop.out.mono ?_)
   rintro e V4 ⟨rfl,rfl⟩
   clear hop
   go_wp2_with fail
   exact⟨rfl,HE.out⟩
  ·have hop:=hide (open_ok' hr3 hd)
   have hx:=HX.out
   rw[if_neg hd,List.tail_cons] at hx
   have HX:=hide hx
   clear hr3 hx
   go_wp2_with fail
   (with_reducible refine hop.out.mono ?_)
   rintro e V4 ⟨rfl,hr4,ho4⟩
   obtain⟨c0,c1,c2,c3,cf⟩:=cells4 hr4.blk
   have cf1:=cf 1
   have hbig:=hr4.big
   have hr5:=hr4.step
   have ho5:=only_setCell V4 b 1 (.int .i64 (((ts.length - (q.length+1):Nat):Int)+1))
   have hch5:Rch b w vt (V4.setCell ⟨b,1,none⟩ (.int .i64 (((ts.length - (q.length+1):Nat):Int)+1))) vt:=(Rch.of_below vt HBA.out).trans (Rch.of_only vt (ho4.trans ho5))
   have hp5:=(ho4.trans ho5).cells_of HPZ.out (fun hm=>hpa.out (by simp at hm;simp [hm]))
   have hc6:=HI.out X n (d+1) q _ vt nds (by omega) (by simp only[rank,List.length_cons] at hk ⊢;omega) hr5 (Nat.le_trans hB hch5.only.size)
   have hpa5:=hide (hr5.apart hp5 (by decide) (by decide))
   have Hc6:=hide hc6
   have HP5:=hide hp5
   have HCH:=hide hch5
   clear hr4 hr5 ho4 ho5 hch5 hp5 hc6 cf hop hpa HPZ HBA
   go_wp2_with fail
   (with_reducible refine Hc6.out.mono ?_)
   rintro e V6 hp6
   cases hq6:lvlE n (d+1) q with
   |error p=>
    obtain⟨er,q6⟩:=p
    rw[hq6] at hp6
    have HE:Hid (XPost w B X b vl ts d vt nds (lvlE n d (t::q)) (gaveUp er) V6):=hide (by
     rw[HX.out,hq6]
     obtain⟨_,h2,h3⟩:=XPost.pre hp6 HCH.out
     exact⟨rfl,h2,h3⟩)
    obtain⟨rfl,_,_⟩:=hp6
    clear hq6 HX HCH HP5 hpa5
    go_wp2_with fail
    exact⟨rfl,HE.out⟩
   |ok p=>
    obtain⟨bx,q6⟩:=p
    rw[hq6] at hp6
    obtain⟨rfl,v6,hp6,hch6⟩:=hp6
    have hsz6:=row_size (n:=n) (by omega) hq6
    have hbp:=bx.size_pos
    have hfew6:=hp6.few
    simp only[List.length_append,Ex.flat_len] at hfew6
    have hB6:=Nat.le_trans (Nat.le_trans hB HCH.out.only.size) hch6.only.size
    have hpl6:=hch6.only.cells_of HP5.out hpa5.out
    obtain⟨e0,e1,e2,e3,ef⟩:=cells4 hp6.blk
    have ef2:=ef 2
    have hd12:=H.out.hd
    have hfw:=H.out.few
    simp only[List.length_cons] at hfw
    have hr7:=hp6.deep (d':=d) (by omega)
    have ho7:=only_setCell V6 b 2 (.int .i64 (d:Int))
    have hpl7:=ho7.cells_of hpl6 (fun hm=>by
     have h2:=hp6.apart hpl6 (by decide) (by decide)
     exact h2 (by simp at hm;simp [hm]))
    obtain⟨V7,hV7⟩:∃V7,V6.setCell ⟨b,2,none⟩ (.int .i64 (d:Int))=V7:=⟨_,rfl⟩
    rw[hV7] at hr7 ho7 hpl7
    obtain⟨z0,z1,_⟩:=two_cells hpl7
    have hB7:=Nat.le_trans hB6 ho7.size
    have hkv:=ownsRow_one V7 B (nds.length+bx.size - 1) hB7
    have hbz:Below V7.heap.size V7 (V7.alloc (.cells #[.int .i64 ((nds.length+bx.size - 1:Nat):Int)] 3)):=(Below.refl _ _).alloc (Nat.le_refl _) _
    have hnd:Calls Tryz.prog 209 #[.pointer (some ⟨b,0,none⟩),.agg #[.int .u8 o,.int .u8 0,.int .i64 0,.string ⟨#[]⟩,.string ⟨#[]⟩,.slice none 0 0,.int .i64 (plH (t::q)).1,.int .i64 (plH (t::q)).2],.slice (some ⟨V7.heap.size,0,none⟩) 1 1]
     (V7.alloc (.cells #[.int .i64 ((nds.length+bx.size - 1:Nat):Int)] 3)) _:=node_any (hr7.below hbz) (by simp only[List.length_append,Ex.flat_len];omega) (Nat.le_trans hB7 hbz.size) ⟨o,v0,[],(plH (t::q)).1,(plH (t::q)).2⟩ [nds.length+bx.size - 1] (some ⟨V7.heap.size,0,none⟩) 1 hkv (fun x hx hm=>by
     simp only[Value.ownBlock,Option.some.injEq] at hx
     have h1:=hr7.xl x hm
     omega)
    obtain⟨z,hz⟩:∃z:Nat,(nds++bx.flat nds.length).length=z:=⟨_,rfl⟩
    rw[hz] at hnd
    have hz':Hid (z=nds.length+bx.size):=hide (by rw[←hz];simp only[List.length_append,Ex.flat_len])
    have HN:=hide hnd
    have HC7:=hide (((HCH.out.trans hch6).trans (Rch.of_only v6 ho7)).trans (Rch.of_below v6 hbz))
    have hdd:((d+1:Nat):Int) - 1=(d:Int):=by omega
    clear hz hnd hkv hbz hpl7 hpl6 hr7 ho7 hp6 hch6 HP5 hpa5 HCH ef Hc6
    go_wp2_with fail
    (with_reducible refine HN.out.mono ?_)
    rintro e V8 ⟨rfl,v8,hr8,hch8⟩
    have HE:Hid (XPost w B X b vl ts d vt nds (lvlE n d (t::q)) (.returned (.int .i64 (z:Int))) V8):=hide (by
     rw[HX.out,hq6]
     have hz:=hz'.out
     refine⟨?_,v8,?_,HC7.out.trans hch8⟩
     ·rw[show z=nds.length+(Ex.mk ⟨preO n,v0,[],(plH (t::q)).1,(plH (t::q)).2⟩ [bx]).size - 1 by simp [Ex.size,sizes];omega]
     ·rw[flat_one,←List.append_assoc,←Ho.out]
      exact hr8)
    clear hr8 hch8 HX HN HC7 hq6 hV3 hV7 z0 z1
    go_wp2_with fail
    go_ret
    exact HE.out
 ·have hp':isH (preW n) r=false:=by simpa using hp
  have hx:=Hx.out
  rw[if_neg hp] at hx
  rw[←Hs.out] at hp'
  rw[hp'] at hi
  have HX:=hide hx
  clear Hx hx
  go_enter Tryz.func202,Tryz.ntmps202
  go_wp2_with fail
  (with_reducible refine hi.out.mono ?_)
  rintro e V1 ⟨rfl,hb1⟩
  have hc:=HI.out X (n+1) d r V1 vt nds (by omega) (by simp only[rank] at hk ⊢;omega) (H.out.below hb1) (Nat.le_trans hB hb1.size)
  rw[Int.natCast_succ] at hc
  have Hc:=hide hc
  have HB1:=hide hb1
  clear hc hb1 hi hp hp'
  go_wp2_with fail
  (with_reducible refine Hc.out.mono ?_)
  rintro e V2 hp2
  cases hq2:lvlE (n+1) d r with
  |error p=>
   obtain⟨er,q2⟩:=p
   rw[hq2] at hp2
   have HE:Hid (XPost w B X b vl ts d vt nds (lvlE n d r) (gaveUp er) V2):=hide (by
    rw[HX.out,hq2]
    obtain⟨_,h2,h3⟩:=XPost.pre hp2 (Rch.of_below vt HB1.out)
    exact⟨rfl,h2,h3⟩)
   obtain⟨rfl,_,_⟩:=hp2
   clear hq2 HX
   go_wp2_with fail
   exact⟨rfl,HE.out⟩
  |ok p=>
   obtain⟨bx,q2⟩:=p
   rw[hq2] at hp2
   obtain⟨rfl,v2,hp2,hch2⟩:=hp2
   have HE:Hid (XPost w B X b vl ts d vt nds (lvlE n d r) (.returned (.int .i64 ((nds.length+bx.size - 1:Nat):Int))) V2):=hide (by
    rw[HX.out,hq2]
    exact⟨rfl,v2,hp2,(Rch.of_below vt HB1.out).trans hch2⟩)
   clear hq2 HX hp2 hch2
   go_wp2_with fail
   go_ret
   exact HE.out
open Go Go.RowKit
theorem intinfo:(Tryz.prog.info? 3).map (fun i=>(i.zero,i.size,i.bytes))=some (some (.int .i64 0),1,8):=by kernel_rfl
theorem intinfo_parts:∃i,Tryz.prog.info? 3=some i∧i.zero=some (.int .i64 0)∧i.size=1∧i.bytes=8:=by
 have h:=intinfo
 cases hi:Tryz.prog.info? 3 with
 |none=>simp [hi] at h
 |some i=>
  simp [hi] at h
  exact⟨i,rfl,h.1,h.2.1,h.2.2⟩
theorem RdAt.grow {w w1 w2:World}{B b d m:Nat}{X:List Nat}{vl vt vk v':Value}{ts r:List Tkn}{nds:List Nd}{xs:List Value}(h:RdAt w B (vk.ownBlock.toList++X) b vl ts r d vt nds)(hk:w.ownsRow B 3 1 vk m xs)(hb:Below w.heap.size w w1)(hg:w1.grownBy w2 vk.ownBlock)
 (hv:∀g,v'.ownBlock=some g→vk.ownBlock=some g∨w.heap.size≤g∧g<w2.heap.size):RdAt w2 B (v'.ownBlock.toList++X) b vl ts r d vt nds:=by
 have hO:Only vk.ownBlock.toList w w2:=(Only.of_below hb _).trans (Only.of_grown hg _ fun k hk=>by simp [hk])
 have hnb:vk.ownBlock≠some b:=owns_not hk h.blk (by decide)
 refine⟨h.suf,h.toks.kept hO.size fun g hg' hlt=>hO.block g hlt fun hm=>?_,h.nam,h.tl,h.hB,fun x hx=>?_,h.hd,h.big,h.few,hO.cells_of h.blk (by simpa using hnb),h.tree.imp (fun xs q=>owns_only q hO fun g e hm=>?_) fun v n xs hn q=>⟨owns_only q hO fun g e hm=>hn g e (List.mem_append.2 (.inl hm)),fun g e hm=>?_⟩⟩
 ·have h1:=h.tl g hg'
  have h2:=row_own hk g (by simpa using hm)
  omega
 ·rcases List.mem_append.1 hx with hx|hx
  ·rcases hv x (by simpa using hx) with e|e
   ·have:=h.xl x (List.mem_append.2 (.inl (by simpa using e)))
    have:=hO.size
    omega
   ·exact e.2
  ·have:=h.xl x (List.mem_append.2 (.inr hx))
   have:=hO.size
   omega
 ·have hm':vk.ownBlock=some g:=by simpa using hm
  rcases q.2 with ⟨rfl,_⟩|⟨g',cap,cur,rfl,_,hg',_⟩
  ·cases e
  ·simp only[Value.ownBlock,Option.some.injEq] at e
   subst e
   exact owns_not hk hg' (by decide) hm'
 ·rcases List.mem_append.1 hm with hm|hm
  ·rcases hv g (by simpa using hm) with e2|e2
   ·exact hn g e (List.mem_append.2 (.inl (by simpa using e2)))
   ·have:g<w.heap.size:=by
     rcases q.2 with ⟨rfl,_⟩|⟨g',cap,cur,rfl,_,hg',_⟩
     ·cases e
     ·simp only[Value.ownBlock,Option.some.injEq] at e
      subst e
      exact lt_of_heap hg'
    omega
  ·exact hn g e (List.mem_append.2 (.inr hm))
theorem RdAt.free {w:World}{B b d:Nat}{X Y:List Nat}{vl vt:Value}{ts r:List Tkn}{nds:List Nd}(h:RdAt w B Y b vl ts r d vt nds)(hXY:∀x∈X,x∈Y):RdAt w B X b vl ts r d vt nds:=
 ⟨h.suf,h.toks,h.nam,h.tl,h.hB,fun x hx=>h.xl x (hXY x hx),h.hd,h.big,h.few,h.blk,h.tree.imp (fun _ q=>q) fun _ _ _ hn q=>⟨q,fun g e hm=>hn g e (hXY g hm)⟩⟩
structure CallAt (w:World)(B:Nat)(X:List Nat)(b:Nat)(vl:Value)(ts:List Tkn)(d:Nat)(vt:Value)(nds:List Nd)(c:Cl)(pc pp:Nat)(wr:World)(ks:List Ex)(rj:List Tkn)(vj vk:Value):Prop where
 rd:RdAt wr B (vk.ownBlock.toList++X) b vl ts rj (d+1) vj (nds++flats ks nds.length)
 row:wr.ownsRow B 3 1 vk ks.length (nums (ends ks nds.length))
 new:∀g,vk.ownBlock=some g→w.heap.size≤g
 rch:Rch b w vt wr vj
 hc:wr.heap[pc]? =some (.cells #[.int .u8 c.op,.int .i64 (c.least:Int),.int .i64 (c.most:Int)] 233 (0,0))
 hp:wr.heap[pp]? =some (.cells #[.int .i64 c.line,.int .i64 c.col] 33 (0,0))
theorem CallAt.below {w wr V:World}{B b d pc pp:Nat}{X:List Nat}{vl vt vj vk:Value}{ts rj:List Tkn}{nds:List Nd}{c:Cl}{ks:List Ex}(h:CallAt w B X b vl ts d vt nds c pc pp wr ks rj vj vk)(hb:Below wr.heap.size wr V):CallAt w B X b vl ts d vt nds c pc pp V ks rj vj vk:=
 ⟨h.rd.below hb,owns_below h.row hb,h.new,h.rch.trans (Rch.of_below vj hb),(hb.block _ (lt_of_heap h.hc)).trans h.hc,(hb.block _ (lt_of_heap h.hp)).trans h.hp⟩
theorem CallAt.turn {w wr V:World}{B b d pc pp:Nat}{X:List Nat}{vl vt vj vk:Value}{ts rj r':List Tkn}{nds:List Nd}{c:Cl}{ks:List Ex}(h:CallAt w B X b vl ts d vt nds c pc pp wr ks rj vj vk)(ho:Only [b] wr V)
 (hr:RdAt V B (vk.ownBlock.toList++X) b vl ts r' (d+1) vj (nds++flats ks nds.length)):CallAt w B X b vl ts d vt nds c pc pp V ks r' vj vk:=by
 have hne:∀{p:Nat} {cs:Array Value} {T:TypeId},wr.heap[p]? =some (.cells cs T (0,0))→130≠T→p∉[b]:=fun hp hT hm=>by
  simp at hm
  subst hm
  rw[h.rd.blk] at hp
  injection hp with hp
  injection hp with _ hp
  exact hT hp
 exact⟨hr,owns_only h.row ho fun g e hm=>owns_not h.row h.rd.blk (by decide) (by simp at hm;rw[←hm];exact e),h.new,h.rch.trans (Rch.of_only vj ho),ho.cells_of h.hc (hne h.hc (by decide)),ho.cells_of h.hp (hne h.hp (by decide))⟩
theorem CallAt.more {w wr V4 V5 w6:World}{B b d pc pp g n cap:Nat}{X:List Nat}{vl vt vj vk v4:Value}{ts rj q4:List Tkn}{nds:List Nd}{c:Cl}{ks:List Ex}{a:Ex}{z:Nat}(h:CallAt w B X b vl ts d vt nds c pc pp wr ks rj vj vk)
 (hr:RdAt V4 B (vk.ownBlock.toList++X) b vl ts q4 (d+1) v4 (nds++flats ks nds.length++a.flat (nds++flats ks nds.length).length)) (hch:Rch b wr vj V4 v4) (hz:z=nds.length+sizes ks+a.size - 1) (hb:Below V4.heap.size V4 V5) (hg:V5.grownBy w6 vk.ownBlock)
 (hown:w6.ownsRow B 3 1 (.slice (some ⟨g,0,none⟩) n cap) n (nums (ends ks nds.length)++[.int .i64 (z:Int)])) (hn:n=ks.length+1) (hat:vk.ownBlock=some g∨V4.heap.size≤g) (hlt:g<w6.heap.size):
 CallAt w B X b vl ts d vt nds c pc pp w6 (ks++[a]) q4 v4 (.slice (some ⟨g,0,none⟩) n cap):=by
 have hrow4:V4.ownsRow B 3 1 vk ks.length (nums (ends ks nds.length)):=owns_only h.row hch.only fun g e hm=>by
  rcases h.row.2 with ⟨e2,_⟩|⟨g',cap,cur,e2,_,hg',_⟩
  ·rw[e2] at e
   cases e
  ·rw[e2] at e
   simp only[Value.ownBlock,Option.some.injEq] at e
   subst e
   exact h.rd.apart hg' (by decide) (by decide) hm
 have hc4:=hch.only.cells_of h.hc (h.rd.apart h.hc (by decide) (by decide))
 have hp4:=hch.only.cells_of h.hp (h.rd.apart h.hp (by decide) (by decide))
 have hO:Only vk.ownBlock.toList V4 w6:=(Only.of_below hb _).trans (Only.of_grown hg _ fun k hk=>by simp [hk])
 have hfl:nds++flats ks nds.length++a.flat (nds++flats ks nds.length).length=nds++flats (ks++[a]) nds.length:=by
  rw[flats_app,List.append_assoc,List.length_append,flats_len]
  simp [flats]
 have hen:nums (ends ks nds.length)++[.int .i64 (z:Int)]=nums (ends (ks++[a]) nds.length):=by
  rw[ends_app,hz]
  simp [nums,ends]
 subst hn
 rw[hen] at hown
 refine⟨?_,by simpa using hown,fun g' e=>?_,⟨(h.rch.trans hch).only.step hO fun i hi=> .inr (h.new i (by simpa using hi)),(h.rch.trans hch).own⟩,hO.cells_of hc4 fun hm=>owns_not hrow4 hc4 (by decide) (by simpa using hm),hO.cells_of hp4 fun hm=>owns_not hrow4 hp4 (by decide) (by simpa using hm)⟩
 ·rw[←hfl]
  refine hr.grow hrow4 hb hg fun g' e=>?_
  simp only[Value.ownBlock,Option.some.injEq] at e
  subst e
  rcases hat with e2|e2
  ·exact .inl e2
  ·exact .inr ⟨e2,hlt⟩
 ·simp only[Value.ownBlock,Option.some.injEq] at e
  subst e
  rcases hat with e2|e2
  ·exact h.new g e2
  ·exact Nat.le_trans (h.rch.trans hch).only.size e2
theorem isH_excl {s s':List UInt8}{r:List Tkn}(h:isH s r=true)(hs:s≠s'):isH s' r=false:=by
 cases r with
 |nil=>cases h
 |cons t q=>
  simp only[isH,Bool.and_eq_true,decide_eq_true_eq] at h
  have:t.w.t≠s':=fun e=>hs (h.1.symm.trans e)
  simp [isH,this]
theorem flat_many (h:Hd)(ks:List Ex)(k:Nat):(Ex.mk h ks).flat k=flats ks k++[⟨h,ends ks k⟩]:=by rw[Ex.flat]
set_option maxRecDepth 100000 in
set_option maxHeartbeats 8000000 in
theorem call_any {k B b:Nat}{X:List Nat}{vl:Value}{ts:List Tkn}(ih:LvlIH k B b vl ts){d:Nat}{t:Tkn}{q:List Tkn}{w:World}{vt:Value}{nds:List Nd}(hk:rank (.lvl 7) (t::q)≤k)(h:RdAt w B X b vl ts (t::q) d vt nds)(hB:B≤w.heap.size)
 (c:Cl) (hm0:1≤c.most) (hm8:c.most≤8):
 Calls Tryz.prog 205 #[.pointer (some ⟨b,0,none⟩),.agg #[.int .u8 c.op,.int .i64 (c.least:Int),.int .i64 (c.most:Int)],.agg #[.int .i64 c.line,.int .i64 c.col]] w (XPost w B X b vl ts d vt nds (openE d q fun q'=>argsE c [] (d+1) q')):=by
 obtain⟨Wa,hWa⟩:∃Wa,w.alloc (.cells #[.int .u8 c.op,.int .i64 (c.least:Int),.int .i64 (c.most:Int)] 233)=Wa:=⟨_,rfl⟩
 have hza:Wa.heap.size=w.heap.size+1:=by rw[←hWa];simp
 obtain⟨Wb,hWb⟩:∃Wb,Wa.alloc (.cells #[.int .i64 c.line,.int .i64 c.col] 33)=Wb:=⟨_,rfl⟩
 have hca:=heap_alloc0 w (.cells #[.int .u8 c.op,.int .i64 (c.least:Int),.int .i64 (c.most:Int)] 233)
 have hpa:=heap_alloc0 Wa (.cells #[.int .i64 c.line,.int .i64 c.col] 33)
 have hbb:Below w.heap.size w Wb:=by rw[←hWb,←hWa];exact((Below.refl _ w).alloc (Nat.le_refl _) _).alloc (by simp) _
 have hba:Below Wa.heap.size Wa Wb:=by rw[←hWb];exact(Below.refl _ _).alloc (Nat.le_refl _) _
 rw[hWa] at hca
 rw[hWb,hza] at hpa
 have hcb:=(hba.block _ (lt_of_heap hca)).trans hca
 have hrb:=h.below hbb
 obtain⟨c0,c1,c2,c3,cf⟩:=cells4 hrb.blk
 have cf1:=cf 1
 have hbig:=hrb.big
 have hr1:=hrb.step
 have ho1:=only_setCell Wb b 1 (.int .i64 (((ts.length - (q.length+1):Nat):Int)+1))
 have hne:∀{p:Nat} {cs:Array Value} {T:TypeId},Wb.heap[p]? =some (.cells cs T (0,0))→130≠T→p∉[b]:=fun hp hT hm=>by
  simp at hm
  subst hm
  rw[hrb.blk] at hp
  injection hp with hp
  injection hp with _ hp
  exact hT hp
 have hc1:=ho1.cells_of hcb (hne hcb (by decide))
 have hp1:=ho1.cells_of hpa (hne hpa (by decide))
 obtain⟨W1,hW1⟩:∃W1,Wb.setCell ⟨b,1,none⟩ (.int .i64 (((ts.length - (q.length+1):Nat):Int)+1))=W1:=⟨_,rfl⟩
 rw[hW1] at hr1 ho1 hc1 hp1
 have hch1:Rch b w vt W1 vt:=(Rch.of_below vt hbb).trans (Rch.of_only vt ho1)
 have hi1:=hide (is_any hr1 [40])
 have HR1:=hide hr1
 have HC1:=hide hc1
 have HP1:=hide hp1
 have HCH:=hide hch1
 have HI:=hide ih
 have H:=hide h
 clear h ih hr1 ho1 hc1 hp1 hch1 hne hrb hca hpa hbb hba hcb cf
 by_cases ho:isH [40] q=true
 ·obtain⟨t',q',rfl⟩:=isH_ne ho
  rw[ho] at hi1
  simp only[List.length_cons] at hW1
  by_cases hd:d=12
  ·have HO:=hide ho
   have HD:=hide hd
   clear ho hd
   go_enter Tryz.func205,Tryz.ntmps205
   go_wp2_with fail
   (with_reducible refine hi1.out.mono ?_)
   rintro e V1 ⟨rfl,hb1⟩
   have hr:=HR1.out.below hb1
   have hop:=hide (open_deep (HD.out▸hr))
   have HE:Hid (XPost w B X b vl ts d vt nds (openE d (t'::q') fun q'=>argsE c [] (d+1) q') (gaveUp 12) V1):=hide (by
    unfold openE
    rw[if_pos HO.out,if_pos HD.out]
    exact⟨rfl,hr.err,HCH.out.err (Only.of_below hb1 _)⟩)
   clear hr hb1 hi1 HR1 hWa hWb hW1
   go_wp2_with fail
   (with_reducible refine hop.out.mono ?_)
   rintro e V4 ⟨rfl,rfl⟩
   clear hop
   go_wp2_with fail
   exact⟨rfl,HE.out⟩
  ·have HO:=hide ho
   have HD:=hide hd
   clear ho hd
   have hx:openE d (t'::q') (fun q'=>argsE c [] (d+1) q')=argsE c [] (d+1) q':=by
    unfold openE
    rw[if_pos HO.out,if_neg HD.out]
    rfl
   rw[hx]
   clear hx
   obtain⟨xx,hxx⟩:∃xx,argsE c [] (d+1) q'=xx:=⟨_,rfl⟩
   rw[hxx]
   have HX:=hide hxx
   clear hxx
   go_enter Tryz.func205,Tryz.ntmps205
   go_wp2_with fail
   (with_reducible refine hi1.out.mono ?_)
   rintro e V1 ⟨rfl,hb1⟩
   have hr:=HR1.out.below hb1
   have hop:=hide (open_ok' hr HD.out)
   have HB1:=hide hb1
   clear hr hb1 hi1 hWa hWb hW1
   go_wp2_with fail
   (with_reducible refine hop.out.mono ?_)
   rintro e V2 ⟨rfl,hr2,ho2⟩
   have hmu:=must_any hr2 [40]
   rw[HO.out] at hmu
   simp only[if_true,List.tail_cons] at hmu
   have Hmu:=hide hmu
   have HO2:=hide ho2
   clear hmu ho2 hr2 hop
   go_wp2_with fail
   (with_reducible refine Hmu.out.mono ?_)
   rintro e V3 ⟨rfl,hr3,ho3⟩
   have hne3:∀{p:Nat} {cs:Array Value} {T:TypeId},W1.heap[p]? =some (.cells cs T (0,0))→130≠T→p∉[b]:=fun hp hT hm=>by
    simp at hm
    subst hm
    rw[HR1.out.blk] at hp
    injection hp with hp
    injection hp with _ hp
    exact hT hp
   have hO3:Only [b] W1 V3:=((Only.of_below HB1.out _).trans HO2.out).trans ho3
   have HS:Hid (∃(ks:List Ex) (rj:List Tkn) (vj vk:Value),(Value.slice none 0 0)=vk∧rj.length≤q'.length∧ks.length<c.most∧argsE c ks (d+1) rj=xx∧CallAt w B X b vl ts d vt nds c w.heap.size (w.heap.size+1) V3 ks rj vj vk):=hide
    ⟨[],q',vt,.slice none 0 0,rfl,Nat.le_refl _,hm0,HX.out,by simpa[Value.ownBlock,flats] using hr3,World.ownsRow_nil _ _ _ _,fun g e=>(by cases e),HCH.out.trans (Rch.of_only vt hO3),
      hO3.cells_of HC1.out (hne3 HC1.out (by decide)),hO3.cells_of HP1.out (hne3 HP1.out (by decide))⟩
   have hfew:=H.out.few
   simp only[List.length_cons] at hfew
   clear hne3 hO3 hr3 ho3 Hmu HO2 HB1
   go_wp2_with fail
   obtain⟨i0,hi0,hz0,hz1,hz2⟩:=intinfo_parts
   have Hi0:=hide hi0
   have Hz0:=hide hz0
   have Hz1:=hide hz1
   have Hz2:=hide hz2
   clear hi0 hz0 hz1 hz2
   go_loopw [7] (fun v7 wr=>Hid (∃(ks:List Ex) (rj:List Tkn) (vj vk:Value),v7=vk∧rj.length≤q'.length∧ks.length<c.most∧argsE c ks (d+1) rj=xx∧CallAt w B X b vl ts d vt nds c w.heap.size (w.heap.size+1) wr ks rj vj vk)) (fun _ wr=>ts.length - readAt b wr)
   case atStart=>exact HS
   case round=>
    obtain⟨ks,rj,vj,vk,rfl,hlen,hks,hrest,hC⟩:=hrel.out
    obtain⟨ka,kc,rfl⟩:=row_form hC.row
    have hBr:=Nat.le_trans hB hC.rch.only.size
    have hc0:Calls Tryz.prog 89 #[.pointer (some ⟨b,0,none⟩),.int .i64 0] wr _:=HI.out _ 0 (d+1) rj wr vj (nds++flats ks nds.length) (by omega) (by simp only[rank,List.length_cons] at hk ⊢;omega) hC.rd hBr
    have Hc0:=hide hc0
    have Hrest:=hide hrest
    have hjl:=hC.rd.left
    have HC:=hide hC
    clear hrel HS hc0 hC hrest
    go_wp2_with fail
    (with_reducible refine Hc0.out.mono ?_)
    rintro e V4 hp4
    have hC:=HC.out
    cases hq4:lvlE 0 (d+1) rj with
    |error p=>
     obtain⟨er,q4⟩:=p
     rw[hq4] at hp4
     have HE:Hid (XPost w B X b vl ts d vt nds xx (gaveUp er) V4):=hide (by
      rw[←Hrest.out,argsE_eq,hq4]
      exact⟨rfl,hp4.2.1,hC.rch.err hp4.2.2⟩)
     obtain⟨rfl,_,_⟩:=hp4
     clear hq4 hC HC
     go_wp2_with fail
     exact⟨rfl,HE.out⟩
    |ok p=>
     obtain⟨a,q4⟩:=p
     rw[hq4] at hp4
     obtain⟨rfl,v4,hr4,hch4⟩:=hp4
     have hsz4:=row_size (n:=0) (by omega) hq4
     have hap:=a.size_pos
     have hlt4:=(lvlE_suf (n:=0) (by omega) hq4).2
     have hfew4:=hr4.few
     simp only[List.length_append,Ex.flat_len,flats_len] at hfew4
     have hrow4:V4.ownsRow B 3 1 (.slice ka ks.length kc) ks.length (nums (ends ks nds.length)):=owns_only hC.row hch4.only fun g e hm=>by
      rcases hC.row.2 with ⟨e2,_⟩|⟨g',cap,cur,e2,_,hg',_⟩
      ·rw[e2] at e
       cases e
      ·rw[e2] at e
       simp only[Value.ownBlock,Option.some.injEq] at e
       subst e
       exact hC.rd.apart hg' (by decide) (by decide) hm
     obtain⟨z,hz⟩:∃z:Nat,(nds++flats ks nds.length).length+a.size - 1=z:=⟨_,rfl⟩
     have hz':Hid (z=nds.length+sizes ks+a.size - 1):=hide (by rw[←hz];simp only[List.length_append,flats_len])
     rw[hz]
     have Hrow5:=hide (hrow4.alloc (.cells #[.int .i64 (z:Int)] 3))
     have HN5:=hide (heap_alloc0 V4 (.cells #[.int .i64 (z:Int)] 3))
     have hB4:=Nat.le_trans hBr hch4.only.size
     have HZ5:Hid ((V4.alloc (.cells #[.int .i64 (z:Int)] 3)).heap.size=V4.heap.size+1):=hide (by simp)
     have HR4:=hide hr4
     have HCH4:=hide hch4
     have hbz:=(Below.refl V4.heap.size V4).alloc (Nat.le_refl _) (.cells #[.int .i64 (z:Int)] 3)
     have HBZ:=hide hbz
     have hx4:=argsE_eq c ks (d+1) rj
     rw[hq4,Hrest.out] at hx4
     have HX4:=hide hx4
     clear hz hC hr4 hch4 hrow4 hq4 hbz hx4
     go_wp2_with ((refine wpList_append_lies _ rfl (.tmp 22) (.tmp 25) _ rfl B 3 i0 (.int .i64 0) 1 8 Tryz.underlying41 Hi0.out Hz0.out Hz1.out Hz2.out rfl (by decide) (.slice ka ks.length kc) ks.length (nums (ends ks nds.length)) rfl Hrow5.out ⟨V4.heap.size,0,none⟩ 1 1 [.int .i64 (z:Int)] rfl rfl (World.news_of_block (cs:= #[.int .i64 (z:Int)]) HN5.out) (by simp [Value.oneCell']) (by decide) (by unfold maxLen;omega) (by omega) (by rw[HZ5.out];omega) (V4.heap.size+1) HZ5.out ?_;intro g cap w6 hown6 hgrow6 hat6 hlt6))
     have hM:=HC.out.more HR4.out HCH4.out hz'.out HBZ.out hgrow6 hown6 rfl (by
      rcases hat6 with e|e
      ·exact .inl e
      ·exact .inr (by omega)) hlt6
     have hzr:=HCH4.out.only.size
     clear hgrow6 hown6 hat6 hlt6 HR4 HCH4 HBZ Hrow5 HN5 HZ5 HC Hc0
     have his:=hide (is_any hM.rd [44])
     have HM:=hide hM
     have hB6:=hM.rch.only.size
     clear hM
     go_wp2_with fail
     (with_reducible refine his.out.mono ?_)
     rintro e V7 ⟨rfl,hb7⟩
     have hM7:=HM.out.below hb7
     clear hb7 HM his
     obtain⟨m1,hm1⟩:∃m1,isH [44] q4=m1:=⟨_,rfl⟩
     rw[hm1]
     obtain⟨z0,z1,z2,_⟩:=cells3 hM7.hc
     cases m1 with
     |true=>
      have h41:=isH_excl (s':=[41]) hm1 (by decide)
      have hx4:=HX4.out
      simp only[ExR.next,hm1,h41,Bool.true_and,Bool.false_and,Bool.or_false,if_true] at hx4
      by_cases hmost:ks.length+1=c.most
      ·rw[if_pos (by simpa using hmost)] at hx4
       have HE:Hid (XPost w B X b vl ts d vt nds xx (gaveUp 14) V7):=hide (by
        rw[hx4]
        exact⟨rfl,hM7.rd.err,hM7.rch.only⟩)
       have f1:((((ks.length+1:Nat):Int))==(c.most:Int))=true:=by simp;omega
       have f2:(((ks.length:Int)+1)==(c.most:Int))=true:=by simp;omega
       have HM7:=hide hM7
       clear hM7 hx4 hm1 h41 HX4 HX Hrest hmost
       go_wp2_with fail
       exact⟨rfl,HE.out⟩
      ·rw[if_neg (by simpa using hmost)] at hx4
       have hk1:ks.length+1<c.most:=by omega
       obtain⟨t4,q5,rfl⟩:=isH_ne hm1
       have f1:((((ks.length+1:Nat):Int))==(c.most:Int))=false:=by simp;omega
       have f2:(((ks.length:Int)+1)==(c.most:Int))=false:=by simp;omega
       have his:=hide (is_any hM7.rd [41])
       rw[h41] at his
       have HM7:=hide hM7
       have HX5:=hide hx4
       clear hM7 hx4 hm1 h41 HX4 HX Hrest hmost
       go_wp2_with fail
       (with_reducible refine his.out.mono ?_)
       rintro e V8 ⟨rfl,hb8⟩
       have hM8:=HM7.out.below hb8
       obtain⟨c0',c1',c2',c3',cf'⟩:=cells4 hM8.rd.blk
       have cf1':=cf' 1
       have hst:=hM8.turn (only_setCell V8 b 1 (.int .i64 (((ts.length - (q5.length+1):Nat):Int)+1))) hM8.rd.step
       simp only[List.length_cons] at hlt4
       have HP:Hid (∃(kt:List Ex) (rj:List Tkn) (vj vk:Value),(Value.slice (some ⟨g,0,none⟩) (ks.length+1) cap)=vk∧rj.length≤q'.length∧kt.length<c.most∧argsE c kt (d+1) rj=xx∧CallAt w B X b vl ts d vt nds c w.heap.size (w.heap.size+1) (V8.setCell ⟨b,1,none⟩ (.int .i64 (((ts.length - (q5.length+1):Nat):Int)+1))) kt rj vj vk):=
        hide ⟨ks++[a],q5,v4,_,rfl,by omega,by simp;omega,HX5.out.symm,hst⟩
       have hwr:ts.length - readAt b (V8.setCell ⟨b,1,none⟩ (.int .i64 (((ts.length - (q5.length+1):Nat):Int)+1)))<ts.length - readAt b wr:=by
        rw[hst.rd.left,hjl]
        omega
       clear hM8 hst hb8 HM7 his HX5 cf' z0 z1 z2
       go_wp2_with fail
       go_roundw
       case rel=>exact HP
       case measure=>exact hwr
     |false=>
      have hx4:=HX4.out
      simp only[ExR.next,hm1,Bool.false_and,Bool.false_or,Bool.false_eq_true,if_false] at hx4
      have his:=hide (is_any hM7.rd [41])
      have HM7:=hide hM7
      have HX5:=hide hx4
      clear hM7 hx4 hm1 HX4 HX Hrest
      go_wp2_with fail
      (with_reducible refine his.out.mono ?_)
      rintro e V8 ⟨rfl,hb8⟩
      have hM8:=HM7.out.below hb8
      obtain⟨m2,hm2⟩:∃m2,isH [41] q4=m2:=⟨_,rfl⟩
      rw[hm2]
      have hx5:=HX5.out
      rw[hm2] at hx5
      obtain⟨z0,z1,z2,_⟩:=cells3 hM8.hc
      clear hb8 his HM7 HX5
      cases m2 with
      |true=>
       simp only[Bool.true_and] at hx5
       by_cases hle:ks.length+1<c.least
       ·rw[if_pos (by simpa using hle)] at hx5
        have HE:Hid (XPost w B X b vl ts d vt nds xx (gaveUp 14) V8):=hide (by
         rw[hx5]
         exact⟨rfl,hM8.rd.err,hM8.rch.only⟩)
        have f1:decide ((((ks.length+1:Nat):Int))<(c.least:Int))=true:=by simp;omega
        have f2:decide (((ks.length:Int)+1)<(c.least:Int))=true:=by simp;omega
        have f3:((ks.length:Int)+1)<(c.least:Int):=by omega
        have HM8:=hide hM8
        clear hM8 hx5 hm2 hle
        go_wp2_with fail
        exact⟨rfl,HE.out⟩
       ·rw[if_neg (by simpa using hle)] at hx5
        unfold shutE at hx5
        rw[if_pos hm2] at hx5
        obtain⟨t4,q5,rfl⟩:=isH_ne hm2
        have hmu:=must_any hM8.rd [41]
        rw[hm2] at hmu
        simp only[if_true,List.tail_cons] at hmu hx5
        have Hmu:=hide hmu
        have f1:decide ((((ks.length+1:Nat):Int))<(c.least:Int))=false:=by simp;omega
        have f2:decide (((ks.length:Int)+1)<(c.least:Int))=false:=by simp;omega
        have f3:(c.least:Int)≤((ks.length:Int)+1):=by omega
        have hf8:(nds++flats (ks++[a]) nds.length).length+1+q5.length≤1000000:=by
         have:=hM8.rd.few
         simp only[List.length_cons] at this
         omega
        have HM8:=hide hM8
        have HX5:=hide hx5
        clear hM8 hx5 hm2 hle hmu
        go_wp2_with fail
        (with_reducible refine Hmu.out.mono ?_)
        rintro e V9 ⟨rfl,hr9,ho9⟩
        have hM9:=HM8.out.turn ho9 hr9
        clear Hmu HM8 hr9 ho9 z0 z1 z2
        obtain⟨c0',c1',c2',c3',cf'⟩:=cells4 hM9.rd.blk
        have cf2':=cf' 2
        have hd12:=H.out.hd
        have hfw9:=hf8
        have hr10:=hM9.rd.deep (d':=d) (by omega)
        have ho10:=only_setCell V9 b 2 (.int .i64 (d:Int))
        have hne:∀{p:Nat} {cs:Array Value} {T:TypeId},V9.heap[p]? =some (.cells cs T (0,0))→130≠T→p∉[b]:=fun hp hT hm=>by
         simp at hm
         subst hm
         rw[hM9.rd.blk] at hp
         injection hp with hp
         injection hp with _ hp
         exact hT hp
        have hc10:=ho10.cells_of hM9.hc (hne hM9.hc (by decide))
        have hp10:=ho10.cells_of hM9.hp (hne hM9.hp (by decide))
        have hrow10:=owns_only hM9.row ho10 fun x e hm=>owns_not hM9.row hM9.rd.blk (by decide) (by simp at hm;rw[←hm];exact e)
        obtain⟨V10,hV10⟩:∃V10,V9.setCell ⟨b,2,none⟩ (.int .i64 (d:Int))=V10:=⟨_,rfl⟩
        rw[hV10] at hr10 ho10 hc10 hp10 hrow10
        obtain⟨z0,z1,z2,_⟩:=cells3 hc10
        obtain⟨y0,y1,_⟩:=two_cells hp10
        have hch10:=hM9.rch.trans (Rch.of_only v4 ho10)
        have hel:(ends (ks++[a]) nds.length).length=ks.length+1:=by rw[ends_len];simp
        have hnd:Calls Tryz.prog 209 #[.pointer (some ⟨b,0,none⟩),.agg #[.int .u8 c.op,.int .u8 0,.int .i64 0,.string ⟨#[]⟩,.string ⟨#[]⟩,.slice none 0 0,.int .i64 c.line,.int .i64 c.col],.slice (some ⟨g,0,none⟩) (ks.length+1) cap]
         V10 (fun e w'=>e= .returned (.int .i64 ((nds++flats (ks++[a]) nds.length).length:Int))∧∃vt',RdAt w' B X b vl ts q5 d vt' (nds++flats (ks++[a]) nds.length++[⟨⟨c.op,v0,[],c.line,c.col⟩,ends (ks++[a]) nds.length⟩])∧Rch b V10 v4 w' vt'):=by
         have hq:=node_any (hr10.free fun x hx=>List.mem_append.2 (.inr hx)) hfw9 (Nat.le_trans hB hch10.only.size) ⟨c.op,v0,[],c.line,c.col⟩ (ends (ks++[a]) nds.length) (some ⟨g,0,none⟩) cap (by rw[hel];rw[List.length_append] at hrow10;exact hrow10) (fun x hx hm=>by
          simp only[Value.ownBlock,Option.some.injEq] at hx
          subst hx
          have h1:=hM9.new g rfl
          have h2:=H.out.xl g hm
          omega)
         rw[hel] at hq
         exact hq
        obtain⟨zz,hzz⟩:∃zz:Nat,(nds++flats (ks++[a]) nds.length).length=zz:=⟨_,rfl⟩
        rw[hzz] at hnd
        have hzz':Hid (zz=nds.length+sizes (ks++[a])):=hide (by rw[←hzz];simp only[List.length_append,flats_len])
        have HN:=hide hnd
        have HCH10:=hide hch10
        clear hzz hnd hch10 hrow10 hp10 hc10 ho10 hr10 hne cf' hM9
        go_wp2_with fail
        (with_reducible refine HN.out.mono ?_)
        rintro e V11 ⟨rfl,v11,hr11,hch11⟩
        have HE:Hid (XPost w B X b vl ts d vt nds xx (.returned (.int .i64 (zz:Int))) V11):=hide (by
         rw[HX5.out]
         refine⟨?_,v11,?_,HCH10.out.trans hch11⟩
         ·rw[hzz'.out]
          rfl
         ·rw[flat_many,←List.append_assoc]
          exact hr11)
        clear hr11 hch11 HN HCH10 HX5 hV10 z0 z1 z2 y0 y1
        go_wp2_with fail
        go_ret
        exact HE.out
      |false=>
       simp only[Bool.false_and,Bool.false_eq_true,if_false] at hx5
       unfold shutE at hx5
       rw[if_neg (by rw[hm2];decide)] at hx5
       have hmu:=must_any hM8.rd [41]
       rw[hm2] at hmu
       simp only[Bool.false_eq_true,if_false] at hmu
       have Hmu:=hide hmu
       have HM8:=hide hM8
       have HX5:=hide hx5
       clear hM8 hx5 hm2 hmu
       go_wp2_with fail
       (with_reducible refine Hmu.out.mono ?_)
       rintro e V9 ⟨rfl,hb9⟩
       have hM9:=HM8.out.below hb9
       have HE:Hid (XPost w B X b vl ts d vt nds xx (gaveUp 4) V9):=hide (by
        rw[HX5.out]
        exact⟨rfl,hM9.rd.err,hM9.rch.only⟩)
       clear hM9 Hmu HM8 hb9
       go_wp2_with fail
       exact⟨rfl,HE.out⟩
 ·have HO:Hid (isH [40] q=false):=hide (by simpa using ho)
  rw[HO.out] at hi1
  clear ho
  go_enter Tryz.func205,Tryz.ntmps205
  go_wp2_with fail
  (with_reducible refine hi1.out.mono ?_)
  rintro e V1 ⟨rfl,hb1⟩
  have hr:=HR1.out.below hb1
  have hmu:=must_any hr [40]
  rw[HO.out] at hmu
  simp only[Bool.false_eq_true,if_false] at hmu
  have Hmu:=hide hmu
  have HR:=hide hr
  have HB1:=hide hb1
  clear hr hb1 hi1 hmu HR1 hWa hWb hW1
  go_wp2_with fail
  (with_reducible refine Hmu.out.mono ?_)
  rintro e V2 ⟨rfl,hb2⟩
  have HE:Hid (XPost w B X b vl ts d vt nds (openE d q fun q'=>argsE c [] (d+1) q') (gaveUp 4) V2):=hide (by
   unfold openE
   rw[HO.out]
   exact⟨rfl,(HR.out.below hb2).err,HCH.out.err ((Only.of_below HB1.out _).trans (Only.of_below (hb2.mono (Nat.le_refl _)) _))⟩)
  clear hb2 Hmu
  go_wp2_with fail
  exact⟨rfl,HE.out⟩
end Go.Proofs.YtgfakdobajgnfaaGreatDoor
