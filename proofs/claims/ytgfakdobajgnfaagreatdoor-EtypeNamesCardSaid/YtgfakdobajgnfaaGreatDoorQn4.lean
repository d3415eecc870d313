import Derived.Laws.Externs
import Derived.Test.YtgfakdobajgnfaaGreatDoorQn3
set_option maxRecDepth 100000
set_option maxHeartbeats 16000000
namespace Go.Proofs.YtgfakdobajgnfaaGreatDoor
open Go Go.RowKit
def Ed:List Value->List Nd->List Value
 |kv::kvs,n::ns=> .int .u8 n.h.op:: .int .u8 n.h.v.1:: .int .i64 n.h.v.2.1:: .string ⟨n.h.v.2.2.toArray⟩:: .string ⟨n.h.name.toArray⟩::kv:: .int .i64 n.h.line:: .int .i64 n.h.col::Ed kvs ns
 |_,_=>[]
def Fo (l:List Nat):List Value:=l.map fun(k:Nat)=>Value.int .i64 (k:Int)
def Cu (w:World)(B:Nat)(X:List Nat):List Value->List Nd->Prop
 |[],[]=>True
 |v::vs,n::ns=>(w.ownsRow B 3 1 v n.kids.length (Fo n.kids)/\∀g,v.ownBlock=some g->g∉X)/\Cu w B X vs ns
 |_,_=>False
theorem Cu.snoc {w:World}{B:Nat}{X:List Nat}{v:Value}{n:Nd}:∀{vs:List Value} {ns:List Nd},Cu w B X vs ns->(w.ownsRow B 3 1 v n.kids.length (Fo n.kids)/\∀g,v.ownBlock=some g->g∉X)->Cu w B X (vs++[v]) (ns++[n])
 |[],[],_,h=>⟨h,trivial⟩
 |_::_,_::_,h,k=>⟨h.1,Cu.snoc h.2 k⟩
 |[],_::_,h,_=>h.elim
 |_::_,[],h,_=>h.elim
theorem Cu.imp {w w':World}{B:Nat}{X:List Nat}{Y:List Nat}(hk:∀v n xs,(∀g,v.ownBlock=some g->g∉X)->w.ownsRow B 3 1 v n xs->w'.ownsRow B 3 1 v n xs/\∀g,v.ownBlock=some g->g∉Y):∀{vs:List Value} {ns:List Nd},Cu w B X vs ns->Cu w' B Y vs ns
 |[],[],_=>trivial
 |_::_,_::_,h=>⟨hk _ _ _ h.1.2 h.1.1,Cu.imp hk h.2⟩
 |[],_::_,h=>h.elim
 |_::_,[],h=>h.elim
theorem Cu.base {w:World}{B B':Nat}{X:List Nat}(hB:B'<=B):∀{vs:List Value} {ns:List Nd},Cu w B X vs ns->Cu w B' X vs ns
 |[],[],_=>trivial
 |_::_,_::_,h=>⟨⟨Ss h.1.1 hB,h.1.2⟩,Cu.base hB h.2⟩
 |[],_::_,h=>h.elim
 |_::_,[],h=>h.elim
theorem Cu.len {w:World}{B:Nat}{X:List Nat}:∀{vs:List Value} {ns:List Nd},Cu w B X vs ns->vs.length=ns.length
 |[],[],_=>rfl
 |_::_,_::_,h=>by simp [Cu.len h.2]
 |[],_::_,h=>h.elim
 |_::_,[],h=>h.elim
theorem L2 {v:Value}{n:Nd}:∀{vs:List Value} {ns:List Nd},vs.length=ns.length->Ed (vs++[v]) (ns++[n])=Ed vs ns++Ed [v] [n]
 |[],[],_=>rfl
 |_::vs,_::ns,h=>by simp [Ed,L2 (vs:=vs) (ns:=ns) oQ]
 |[],_::_,h=>by simp at h
 |_::_,[],h=>by simp at h
def Gu (w:World)(B:Nat)(X:List Nat)(v:Value)(nds:List Nd):Prop:=∃kvs,w.ownsRow B 43 8 v nds.length (Ed kvs nds)/\Cu w B X kvs nds
structure Cq (w:World)(B:Nat)(X:List Nat)(b:Nat)(vl:Value)(ts r:List Tkn)(d:Nat)(vt:Value)(nds:List Nd):Prop where
 suf:Suf r ts
 toks:G4 w vl ts
 nam:∀t∈ts,t.w.k=1->t.w.t≠[40]
 tl:∀g,vl.ownBlock=some g->g<B
 hB:B<=b
 xl:∀x∈X,x<w.heap.size
 hd:d<=12
 big:ts.length<=1000000
 few:nds.length+r.length<=1000000
 blk:w.heap[b]? =some (.cells #[vl,.int .i64 ((ts.length - r.length:Nat):Int),.int .i64 (d:Int),vt] 130 (0,0))
 tree:Gu w B X vt nds
def gY (w:World)(b:Nat)(vl:Value)(p:Nat):Prop:=∃dd vv,w.heap[b]? =some (.cells #[vl,.int .i64 (p:Int),dd,vv] 130 (0,0))
structure Rch (b:Nat)(w:World)(vt:Value)(w':World)(vt':Value):Prop where
 only:A8 (b::vt.ownBlock.toList) w w'
 own:∀g,vt'.ownBlock=some g->vt.ownBlock=some g\/w.heap.size<=g
theorem Rch.refl (b:Nat)(w:World)(vt:Value):Rch b w vt w vt:=⟨A8.refl _ _,fun _ h=> .inl h⟩
theorem Rch.trans {b:Nat}{w w1 w2:World}{vt v1 v2:Value}(h:Rch b w vt w1 v1)(k:Rch b w1 v1 w2 v2):Rch b w vt w2 v2:=by
 refine⟨h.only.step k.only fun i hi=>?_,fun g hg=>?_⟩
 ·rcases List.mem_cons.1 hi with rfl|hi
  ·exact .inl Ai
  have e:v1.ownBlock=some i:=by simpa using hi
  rcases h.own i e with q|q
  ·exact .inl (Aj _ (by simpa using q))
  exact .inr q
 rcases k.own g hg with q|q
 ·exact h.own g q
 exact .inr (Al h.only.size q)
theorem Rch.err {b:Nat}{w w1 w2:World}{vt v1:Value}(h:Rch b w vt w1 v1)(k:A8 (b::v1.ownBlock.toList) w1 w2):A8 (b::vt.ownBlock.toList) w w2:=
 (h.trans (v2:=v1) ⟨k,fun _ q=> .inl q⟩).only
theorem Rch.of_below {b:Nat}{w w':World}(vt:Value)(h:Below w.heap.size w w'):Rch b w vt w' vt:=⟨A8.of_below h _,fun _ q=> .inl q⟩
theorem Rch.of_only {b:Nat}{w w':World}(vt:Value)(h:A8 [b] w w'):Rch b w vt w' vt:=⟨h.mono fun i hi=>by simp at hi;simp [hi],fun _ q=> .inl q⟩
theorem Suf.at_drop {r ts:List Tkn}(h:Suf r ts):r=ts.drop (ts.length - r.length):=by
 obtain⟨k,rfl⟩:=h;rw[List.length_drop];by_cases hk:k<=ts.length
 ·rw[show ts.length - (ts.length - k)=k by omega]
 rw[List.drop_eq_nil_of_le nU,List.drop_eq_nil_of_le nU]
theorem Gu.imp {w w':World}{B:Nat}{X:List Nat}{v:Value}{nds:List Nd}(h:Gu w B X v nds)(ht:∀xs,w.ownsRow B 43 8 v nds.length xs->w'.ownsRow B 43 8 v nds.length xs)
 {Y:List Nat} (hk:∀v n xs,(∀g,v.ownBlock=some g->g∉X)->w.ownsRow B 3 1 v n xs->w'.ownsRow B 3 1 v n xs/\∀g,v.ownBlock=some g->g∉Y):Gu w' B Y v nds:=by
 obtain⟨kvs,h1,h2⟩:=h;exact⟨kvs,ht _ h1,h2.imp hk⟩
theorem Gu.below {w w':World}{B:Nat}{X:List Nat}{v:Value}{nds:List Nd}(h:Gu w B X v nds)(hb:Below w.heap.size w w'):Gu w' B X v nds:=h.imp (fun _ q=>Cc q hb) fun _ _ _ n q=>⟨Cc q hb,n⟩
theorem Gu.own {w:World}{B:Nat}{X:List Nat}{v:Value}{nds:List Nd}(h:Gu w B X v nds):∀g,v.ownBlock=some g->B<=g:=by
 obtain⟨kvs,h1,_⟩:=h;exact Cf h1
theorem Gu.not {w:World}{B k:Nat}{X:List Nat}{t:TypeId}{v:Value}{nds:List Nd}{cs:Array Value}(h:Gu w B X v nds)(hk:w.heap[k]? =some (.cells cs t (0,0)))(ht:43≠t):v.ownBlock≠some k:=by
 obtain⟨kvs,h1,_⟩:=h;exact Bf h1 hk ht
theorem Cq.below {w w':World}{B b d:Nat}{X:List Nat}{vl vt:Value}{ts r:List Tkn}{nds:List Nd}(h:Cq w B X b vl ts r d vt nds)(hb:Below w.heap.size w w'):Cq w' B X b vl ts r d vt nds:=
 ⟨h.suf,h.toks.below hb,h.nam,h.tl,h.hB,fun x hx=>Nat.lt_of_lt_of_le (h.xl x hx) hb.size,h.hd,h.big,h.few,(hb.block b (Ay h.blk)).trans h.blk,h.tree.below hb⟩
theorem Cq.turn {w w':World}{B b d d':Nat}{X:List Nat}{vl vt:Value}{ts r r':List Tkn}{nds:List Nd}(h:Cq w B X b vl ts r d vt nds)(ho:A8 [b] w w')(hs:Suf r' r)(hd:d'<=12)
 (hb:w'.heap[b]? =some (.cells #[vl,.int .i64 ((ts.length - r'.length:Nat):Int),.int .i64 (d':Int),vt] 130 (0,0))):Cq w' B X b vl ts r' d' vt nds:=by
 exact zyv
theorem Dd {w:World}{b:Nat}{x y z u:Value}{t:TypeId}(h:w.heap[b]? =some (.cells #[x,y,z,u] t (0,0))):
 w.cell? ⟨b,0,none⟩=some x/\w.cell? ⟨b,1,none⟩=some y/\w.cell? ⟨b,2,none⟩=some z/\w.cell? ⟨b,3,none⟩=some u/\∀i,w.frozen? ⟨b,i,none⟩=false:=
 ⟨by simp only[World.cell?,h];rfl,by simp only[World.cell?,h];rfl,by simp only[World.cell?,h];rfl,by simp only[World.cell?,h];rfl,fun i=>by simp only[World.frozen?,h];simp⟩
theorem A3 (w:World)(b i:Nat)(u:Value):A8 [b] w (w.setCell ⟨b,i,none⟩ u):=(A8.refl [b] w).setCell (.inl nW) u
theorem Cq.step {w:World}{B b d:Nat}{X:List Nat}{vl vt:Value}{ts q:List Tkn}{t:Tkn}{nds:List Nd}(h:Cq w B X b vl ts (t::q) d vt nds):
 Cq (w.setCell ⟨b,1,none⟩ (.int .i64 (((ts.length - (q.length+1):Nat):Int)+1))) B X b vl ts q d vt nds:=by
 exact zxr
theorem Cq.deep {w:World}{B b d d':Nat}{X:List Nat}{vl vt:Value}{ts r:List Tkn}{nds:List Nd}(h:Cq w B X b vl ts r d vt nds)(hd:d'<=12):Cq (w.setCell ⟨b,2,none⟩ (.int .i64 (d':Int))) B X b vl ts r d' vt nds:=by
 refine h.turn (A3 _ _ _ _) (Suf.refl _) hd ?_;rw[A2 h.blk];rfl
theorem Cq.head {w:World}{B b d:Nat}{X:List Nat}{vl vt:Value}{ts q:List Tkn}{t:Tkn}{nds:List Nd}(h:Cq w B X b vl ts (t::q) d vt nds):∃g c,vl= .slice (some ⟨g,0,none⟩) ts.length c/\g<w.heap.size/\ts.length - (t::q).length<ts.length/\
 w.cell? ⟨g,(ts.length - (t::q).length)*7,none⟩=some (.int .u8 t.w.k)/\w.cell? ⟨g,(ts.length - (t::q).length)*7+1,none⟩=some (.string ⟨t.w.t.toArray⟩)/\w.cell? ⟨g,(ts.length - (t::q).length)*7+2,none⟩=some (.int .u8 t.w.v.1)/\
 w.cell? ⟨g,(ts.length - (t::q).length)*7+3,none⟩=some (.int .i64 t.w.v.2.1)/\w.cell? ⟨g,(ts.length - (t::q).length)*7+4,none⟩=some (.string ⟨t.w.v.2.2.toArray⟩)/\w.cell? ⟨g,(ts.length - (t::q).length)*7+5,none⟩=some (.int .i64 t.line)/\w.cell? ⟨g,(ts.length - (t::q).length)*7+6,none⟩=some (.int .i64 t.col):=by
 exact zys
open Go Go.RowKit
theorem Km {w:World}{B b d:Nat}{X:List Nat}{vl vt:Value}{ts r:List Tkn}{nds:List Nd}(h:Cq w B X b vl ts r d vt nds)(s:List UInt8):
 Calls Tryz.prog 206 #[.pointer (some ⟨b,0,none⟩),.string ⟨s.toArray⟩] w fun e w'=>e= .returned (.bool (isH s r))/\Below w.heap.size w w':=by
 obtain⟨c0,c1,c2,c3,_⟩:=Dd h.blk;have hl:=h.suf.len;have hbig:=h.big;cases r with
 |nil=>
  obtain⟨va,vc,rfl⟩:=h.toks.form;have i0:¬(((ts.length - ([]:List Tkn).length:Nat):Int)<(ts.length:Int)):=by simp
  have i1:decide (((ts.length - ([]:List Tkn).length:Nat):Int)<(ts.length:Int))=false:=by simp
  clear h hl;go_enter Tryz.func206,Tryz.ntmps206;exact zy1
 |cons t q=>
  obtain⟨g,c,rfl,hg,hlt,t0,t1,_⟩:=h.head;obtain⟨n,hn⟩:∃n,ts.length - (t::q).length=n:=⟨_,rfl⟩;rw[hn] at c1 hlt t0 t1;have i0:(n:Int)<(ts.length:Int):=by omega
  have i1:decide ((n:Int)<(ts.length:Int))=true:=by simp;omega
  have i2:(0:Int)<=(n:Int):=by omega
  clear h hl hn;by_cases hs:t.w.t=s
  ·have e1:(t.w.t==s)=true:=by simpa using hs
   have e2:isH s (t::q)=(decide (t.w.k=1)||decide (t.w.k=7)):=by simp [isH,hs]
   rw[e2];obtain⟨k,hk⟩:∃k,t.w.k=k:=⟨_,rfl⟩;rw[hk] at t0 ⊢;clear hk e2;rw[hs] at t1;clear hs e1;by_cases k1:k=1
   ·subst k1;go_enter Tryz.func206,Tryz.ntmps206;exact zy1
   have f1:(k==1)=false:=by simpa using k1
   have f2:decide (k=1)=false:=by simpa using k1
   rw[f2];by_cases k7:k=7
   ·subst k7;go_enter Tryz.func206,Tryz.ntmps206;exact zy1
   have f3:(k==7)=false:=by simpa using k7
   have f4:decide (k=7)=false:=by simpa using k7
   rw[f4];go_enter Tryz.func206,Tryz.ntmps206;exact zy1
  have e1:(t.w.t==s)=false:=by simpa using hs
  have e2:isH s (t::q)=false:=by simp [isH,hs]
  rw[e2];go_enter Tryz.func206,Tryz.ntmps206;exact zy1
abbrev Dt (e:Int):Ending:= .panicked [{v:= .iface 131 (.int .i64 e),recovered:=false}]
theorem Oy {w:World}{B b:Nat}{X:List Nat}{vl vt:Value}{ts r:List Tkn}{nds:List Nd}(h:Cq w B X b vl ts r 12 vt nds):
 Calls Tryz.prog 207 #[.pointer (some ⟨b,0,none⟩)] w fun e w'=>e=Dt 12/\w'=w:=by
 obtain⟨c0,c1,c2,c3,cf⟩:=Dd h.blk;have c2':w.cell? ⟨b,2,none⟩=some (.int .i64 12):=c2;clear h cf c2;go_enter Tryz.func207,Tryz.ntmps207;go_wp2_with fail;exact⟨rfl,rfl,rfl⟩
theorem Rn {w:World}{B b d:Nat}{X:List Nat}{vl vt:Value}{ts r:List Tkn}{nds:List Nd}(h:Cq w B X b vl ts r d vt nds)(hd:d≠12):
 Calls Tryz.prog 207 #[.pointer (some ⟨b,0,none⟩)] w fun e w'=>e= .returned (.tuple #[])/\Cq w' B X b vl ts r (d+1) vt nds/\A8 [b] w w':=by
 obtain⟨c0,c1,c2,c3,cf⟩:=Dd h.blk;have hd12:=h.hd;have cf2:=cf 2;have e1:((d:Int)==12)=false:=by simp;omega
 have hn:=h.deep (d':=d+1) nU;have hN:=Ax hn;have ho:=Ax (A3 w b 2 (.int .i64 ((d+1:Nat):Int)));clear h cf hn hd;go_enter Tryz.func207,Tryz.ntmps207;go_wp2_with fail
 go_end0
 exact⟨rfl,hN.out,ho.out⟩
theorem Xv (w:World)(n:Nat)(o:Obj)(a b x y:Value)(T:TypeId)(ho:o= .cells #[a,b] T):
 ((((((w.alloc o).drewN n).setCell ⟨w.heap.size,0,none⟩ x).setCell ⟨w.heap.size,1,none⟩ y).setCell ⟨w.heap.size,0,none⟩ x).setCell ⟨w.heap.size,1,none⟩ y).heap[w.heap.size]? =some (.cells #[x,y] T (0,0)):=by
 subst ho;have h0:((w.alloc (.cells #[a,b] T)).drewN n).heap[w.heap.size]? =some (.cells #[a,b] T (0,0)):=A0 w _;rw[A2 (A2 (A2 (A2 h0)))];rfl
theorem Be {w:World}{b:Nat}{x y:Value}{t:TypeId}(h:w.heap[b]? =some (.cells #[x,y] t (0,0))):w.cell? ⟨b,0,none⟩=some x/\w.cell? ⟨b,1,none⟩=some y/\∀i,w.frozen? ⟨b,i,none⟩=false:=
 ⟨by simp only[World.cell?,h];rfl,by simp only[World.cell?,h];rfl,fun i=>by simp only[World.frozen?,h];simp⟩
theorem Th {w:World}{B b d:Nat}{X:List Nat}{vl vt:Value}{ts r:List Tkn}{nds:List Nd}(h:Cq w B X b vl ts r d vt nds):
 Calls Tryz.prog 238 #[.pointer (some ⟨b,0,none⟩)] w fun e w'=>e= .returned (.agg #[.int .i64 (plH r).1,.int .i64 (plH r).2])/\Below w.heap.size w w':=by
 obtain⟨c0,c1,c2,c3,_⟩:=Dd h.blk;have hl:=h.suf.len;have hbig:=h.big;have hB:=Ay h.blk;cases r with
 |nil=>
  obtain⟨va,vc,rfl⟩:=h.toks.form;have i0:¬(((ts.length - ([]:List Tkn).length:Nat):Int)<(ts.length:Int)):=by simp
  have i1:decide (((ts.length - ([]:List Tkn).length:Nat):Int)<(ts.length:Int))=false:=by simp
  clear h hl;go_enter Tryz.func238,Tryz.ntmps238;go_wp2_with fail;go_quiet (fail);go_wp2_with fail;refine Au (v:= .agg #[.int .i64 0,.int .i64 0]) (by simp [results,Tryz.results238,go_sem, *]) rfl ?_;exact zxc
 |cons t q=>
  obtain⟨g,c,rfl,hg,hlt,t0,t1,t2,t3,t4,t5,t6⟩:=h.head;obtain⟨n,hn⟩:∃n,ts.length - (t::q).length=n:=⟨_,rfl⟩;rw[hn] at c1 hlt t0 t1 t2 t3 t4 t5 t6;have i0:(n:Int)<(ts.length:Int):=by omega
  have i1:decide ((n:Int)<(ts.length:Int))=true:=by simp;omega
  have i2:(0:Int)<=(n:Int):=by omega
  clear h hl hn;go_enter Tryz.func238,Tryz.ntmps238;go_wp2_with fail;go_quiet (fail);go_wp2_with fail;go_region;go_wp2_with fail;obtain⟨z0,z1,_⟩:=Be (Xv w (nq+1) (.cells #[.int .i64 0,.int .i64 0] 33) _ _ (.int .i64 t.line) (.int .i64 t.col) _ rfl);refine Au (v:= .agg #[.int .i64 t.line,.int .i64 t.col]) (by simp [results,Tryz.results238,go_sem,z0,z1]) rfl ?_;exact⟨rfl,((((Bd ((Aq _ w).alloc (Ak _) _) _).setCell (Ak _) _).setCell (Ak _) _).setCell (Ak _) _).setCell (Ak _) _⟩
theorem Ib {w:World}{B b d:Nat}{X:List Nat}{vl vt:Value}{ts r:List Tkn}{nds:List Nd}(h:Cq w B X b vl ts r d vt nds)(s:List UInt8):
 Calls Tryz.prog 208 #[.pointer (some ⟨b,0,none⟩),.string ⟨s.toArray⟩] w fun e w'=>
  if isH s r then e= .returned (.tuple #[])/\Cq w' B X b vl ts r.tail d vt nds/\A8 [b] w w' else e=Dt 4/\Below w.heap.size w w':=by
 have hi:=Km h s;have Hi:=Ax hi;have H:=Ax h;by_cases e:isH s r=true
 ·rw[e] at hi Hi;rw[e];simp only[if_true];obtain⟨t,q,rfl⟩:=Cx e;clear hi h;go_enter Tryz.func208,Tryz.ntmps208;go_wp2_with fail;refine Hi.out.mono ?_;rintro e V ⟨rfl,hb⟩;have h':=H.out.below hb;obtain⟨c0,c1,c2,c3,cf⟩:=Dd h'.blk;have cf1:=cf 1;have hbig:=h'.big;have hst:=Ax h'.step;have ho:=Ax ((A8.of_below hb [b]).trans (A3 V b 1 (.int .i64 (((ts.length - (t::q).length:Nat):Int)+1))));clear cf h' H hb;go_wp2_with fail
  go_end0
  exact⟨rfl,hst.out,ho.out⟩
 have e':isH s r=false:=by simpa using e
 rw[e'] at hi Hi;rw[e'];simp only[Bool.false_eq_true,if_false];clear hi h;go_enter Tryz.func208,Tryz.ntmps208;go_wp2_with fail;refine Hi.out.mono ?_;rintro e V ⟨rfl,hb⟩;have Hb:=Ax hb;clear hb;go_wp2_with fail;exact⟨rfl,rfl,Hb.out⟩
open Go Go.RowKit
def kH:List (List UInt8×Int)->List Value
 |[]=>[]
 |o::l=> .string ⟨o.1.toArray⟩:: .int .u8 o.2::kH l
theorem Xc:∀(l:List (List UInt8×Int)) (i:Nat) (h:i<l.length),(kH l)[i*2]? =some (.string ⟨l[i].1.toArray⟩)/\(kH l)[i*2+1]? =some (.int .u8 l[i].2)
 |[],i,h=>by simp at h
 |o::l,0,_=>⟨rfl,rfl⟩
 |o::l,i+1,h=>by
  have:=Xc l i oQ
  rw[show(i+1)*2=i*2+1+1 by omega];exact this
def Lp (w:World)(g:Nat)(l:List (List UInt8×Int)):Prop:=w.heap[g]? =some (.cells (kH l).toArray 228 (0,0))
theorem Lp.at {w:World}{g:Nat}{l:List (List UInt8×Int)}(h:Lp w g l){i:Nat}(hi:i<l.length):w.cell? ⟨g,i*2,none⟩=some (.string ⟨l[i].1.toArray⟩)/\w.cell? ⟨g,i*2+1,none⟩=some (.int .u8 l[i].2):=by
 obtain⟨h1,h2⟩:=Xc l i hi;constructor
 ·simp only[World.cell?,Lp] at h ⊢;rw[h];simpa using h1
 simp only[World.cell?,Lp] at h ⊢;rw[h];simpa using h2
theorem Lp.below {w w':World}{g:Nat}{l:List (List UInt8×Int)}(h:Lp w g l)(hb:Below w.heap.size w w'):Lp w' g l:=(hb.block g (Ay h)).trans h
theorem bY {w:World}{B b d:Nat}{X:List Nat}{vl vt:Value}{ts r:List Tkn}{nds:List Nd}(h:Cq w B X b vl ts r d vt nds){g:Nat}{l:List (List UInt8×Int)}(ho:Lp w g l)(hl:l.length<=6):
 Calls Tryz.prog 239 #[.pointer (some ⟨b,0,none⟩),.slice (some ⟨g,0,none⟩) l.length l.length] w fun e w'=>e= .returned (.int .u8 (B2 r l))/\Below w.heap.size w w':=by
 have H:=Ax h;have Ho:=Ax ho;clear h ho;go_enter Tryz.func239,Tryz.ntmps239;go_wp2_with fail
 go_loopw [9] (fun vi wr=>∃j:Nat,j<=l.length/\vi= .int .i64 j/\Hid (B2 r (l.drop j)=B2 r l)/\Hid (Below w.heap.size w wr)) (fun vi _=>l.length - (intOf vi).toNat)
 case atStart=>exact⟨0,Nat.zero_le _,rfl,rfl,Aq _ _⟩
 obtain⟨j,hj,rfl,hq,hb⟩:=hrel;by_cases hjl:j<l.length
 ·obtain⟨d0,d1⟩:=(Ho.out.below hb.out).at hjl;have e1:=List.drop_eq_getElem_cons hjl
  have e2:(if isH l[j].1 r then l[j].2 else B2 r (l.drop (j+1)))=B2 r l:=by
   rw[←hq.out,e1];rfl
  obtain⟨⟨s,o⟩,hlj⟩:∃x,l[j]=x:=⟨_,rfl⟩;rw[hlj] at d0 d1 e2;simp only at d0 d1 e2;have i1:(0:Int)<=(j:Int):=by omega
  have i2:(j:Int)<(l.length:Int):=by omega
  have hb2:Below wr.heap.size wr (wr.alloc (.cells #[.string ⟨s.toArray⟩,.int .u8 o] 228)):=(Aq _ wr).alloc (Ak _) _;have hz2:=A0 wr (.cells #[.string ⟨s.toArray⟩,.int .u8 o] 228);obtain⟨z0,z1,_⟩:=Be hz2;have hi:=Ax (Km ((H.out.below hb.out).below hb2) s);have HZ:=Ax (Ay hz2);have HB:=Ax (hb.out.trans (hb2.mono hb.out.size));have E2:=Ax e2;have hj9:(j:Int)<=6:=by omega
  clear hq hb hb2 hz2 e1 e2 hlj;go_wp2_with fail;refine hi.out.mono ?_;rintro e V ⟨rfl,hbV⟩;have z1':=A6 hbV z1;have HBV:=Ax (HB.out.trans (hbV.mono HB.out.size));have E3:=E2.out;clear z0 z1 d0 d1 hbV HZ HB E2 hi;cases hh:isH s r with
  |true=>
   rw[hh] at E3;simp only[if_true] at E3;have HE:=Ax E3;clear E3;go_wp2_with fail;go_ret;exact⟨by rw[←HE.out];rfl,HBV.out⟩
  |false=>
   rw[hh] at E3;simp only[Bool.false_eq_true,if_false] at E3;have HE:=Ax E3;clear E3;go_wp2_with fail;go_roundw
   case rel=>exact⟨j+1,by omega,by go_num,HE,HBV⟩
   case measure=>simp [intOf];omega
 obtain rfl:j=l.length:=by omega
 have e2:=hq.out;rw[List.drop_length] at e2;have HE:=Ax e2;have HB:=Ax hb.out;clear hq hb e2;go_wp2_with fail;go_ret;exact⟨by rw[←HE.out];rfl,HB.out⟩
theorem eF:(Tryz.prog.info? 43).map (fun i=>(i.zero,i.size,i.bytes))=some (some (.agg #[.int .u8 0,.int .u8 0,.int .i64 0,.string ⟨#[]⟩,.string ⟨#[]⟩,.slice none 0 0,.int .i64 0,.int .i64 0]),8,96):=by kernel_rfl
theorem Ik:∃i,Tryz.prog.info? 43=some i/\i.zero=some (.agg #[.int .u8 0,.int .u8 0,.int .i64 0,.string ⟨#[]⟩,.string ⟨#[]⟩,.slice none 0 0,.int .i64 0,.int .i64 0])/\i.size=8/\i.bytes=96:=by
 have h:=eF;cases hi:Tryz.prog.info? 43 with
 |none=>simp [hi] at h
 |some i=>
  exact zyc
def hdV (h:Hd):Value:= .agg #[.int .u8 h.op,.int .u8 h.v.1,.int .i64 h.v.2.1,.string ⟨h.v.2.2.toArray⟩,.string ⟨h.name.toArray⟩,.slice none 0 0,.int .i64 h.line,.int .i64 h.col]
theorem Cq.lay {w W Z:World}{B b d:Nat}{X:List Nat}{vl vt v' kv:Value}{ts r:List Tkn}{nds:List Nd}{kvs:List Value}{n:Nd}(h:Cq w B X b vl ts r d vt nds)(hk1:w.ownsRow B 43 8 vt nds.length (Ed kvs nds))(hk2:Cu w B X kvs nds)
 (hkv:w.ownsRow B 3 1 kv n.kids.length (Fo n.kids)) (hkx:∀g,kv.ownBlock=some g->g∉X) (hbw:Below w.heap.size w W) (hg:W.grownBy Z vt.ownBlock) (hown:Z.ownsRow B 43 8 v' (nds.length+1) (Ed kvs nds++Ed [kv] [n])) (hv:∀g,v'.ownBlock=some g->vt.ownBlock=some g\/w.heap.size<=g)
 (hroom:nds.length+1+r.length<=1000000):Cq (Z.setCell ⟨b,3,none⟩ v') B X b vl ts r d v' (nds++[n])/\Rch b w vt (Z.setCell ⟨b,3,none⟩ v') v':=by
 have hX:A8 vt.ownBlock.toList w Z:=(A8.of_below hbw _).trans (A8.of_grown hg _ fun k hk=>by simp [hk]);have hbt:vt.ownBlock≠some b:=h.tree.not h.blk nV;have hbX:Z.heap[b]? =some (.cells #[vl,.int .i64 ((ts.length - r.length:Nat):Int),.int .i64 (d:Int),vt] 130 (0,0)):=(hX.block b (Ay h.blk) (by simpa using hbt)).trans h.blk
 have hb2:(Z.setCell ⟨b,3,none⟩ v').heap[b]? =some (.cells #[vl,.int .i64 ((ts.length - r.length:Nat):Int),.int .i64 (d:Int),v'] 130 (0,0)):=by
  rw[A2 hbX];rfl
 have hO:A8 (b::vt.ownBlock.toList) w (Z.setCell ⟨b,3,none⟩ v'):=(hX.mono fun i hi=>Aj _ hi).setCell (.inl nW) _
 have hint:∀v k xs,w.ownsRow B 3 1 v k xs->Z.ownsRow B 3 1 v k xs:=fun v k xs q=>Bh q hX fun g e hm=>by
  exact zxq
 have hset:∀{t:TypeId} {sz:Nat} v k xs,t≠130->Z.ownsRow B t sz v k xs->(Z.setCell ⟨b,3,none⟩ v').ownsRow B t sz v k xs:=fun v k xs ht q=>Bh q (A3 Z b 3 v') fun g e hm=>by
  simp at hm;subst hm;exact Bf q hbX ht e
 exact zy5
theorem Nq {w:World}{B b d:Nat}{X:List Nat}{vl vt:Value}{ts r:List Tkn}{nds:List Nd}(h:Cq w B X b vl ts r d vt nds)(hroom:nds.length+1+r.length<=1000000)(hB:B<=w.heap.size)(hd:Hd)(kids:List Nat)(ka:Option Addr)(kc:Nat)(hk:w.ownsRow B 3 1 (.slice ka kids.length kc) kids.length (Fo kids))(hkx:∀g,(Value.slice ka kids.length kc).ownBlock=some g->g∉X):
 Calls Tryz.prog 209 #[.pointer (some ⟨b,0,none⟩),hdV hd,.slice ka kids.length kc] w fun e w'=>e= .returned (.int .i64 (nds.length:Int))/\∃vt',Cq w' B X b vl ts r d vt' (nds++[⟨hd,kids⟩])/\Rch b w vt w' vt':=by
 obtain⟨kvs,hk1,hk2⟩:=h.tree;obtain⟨la,lc,rfl⟩:=D9 hk1;obtain⟨c0,c1,c2,c3,cf⟩:=Dd h.blk;have cf3:=cf 3;obtain⟨i0,hi,hz0,hz1,hz2⟩:=Ik;have hb:=Ay h.blk;obtain⟨op,⟨vk,vn,vs⟩,nm,ln,cl⟩:=hd;have Ow:Hid (((w.alloc (.cells #[.int .u8 op,.int .u8 vk,.int .i64 vn,.string ⟨vs.toArray⟩,.string ⟨nm.toArray⟩,.slice ka kids.length kc,.int .i64 ln,.int .i64 cl] 43)).alloc (.cells #[.int .u8 op,.int .u8 vk,.int .i64 vn,.string ⟨vs.toArray⟩,.string ⟨nm.toArray⟩,.slice ka kids.length kc,.int .i64 ln,.int .i64 cl] 43)).drew.ownsRow B 43 8 (.slice la nds.length lc) nds.length (Ed kvs nds)):=Ax (Cc hk1 (A8.drew (((A8.refl [] w).alloc _).alloc _)).below);have OW:Hid (Below w.heap.size w ((w.alloc (.cells #[.int .u8 op,.int .u8 vk,.int .i64 vn,.string ⟨vs.toArray⟩,.string ⟨nm.toArray⟩,.slice ka kids.length kc,.int .i64 ln,.int .i64 cl] 43)).alloc (.cells #[.int .u8 op,.int .u8 vk,.int .i64 vn,.string ⟨vs.toArray⟩,.string ⟨nm.toArray⟩,.slice ka kids.length kc,.int .i64 ln,.int .i64 cl] 43)).drew):=Ax (A8.drew (((A8.refl [] w).alloc _).alloc _)).below;have HS:Hid (((w.alloc (.cells #[.int .u8 op,.int .u8 vk,.int .i64 vn,.string ⟨vs.toArray⟩,.string ⟨nm.toArray⟩,.slice ka kids.length kc,.int .i64 ln,.int .i64 cl] 43)).alloc (.cells #[.int .u8 op,.int .u8 vk,.int .i64 vn,.string ⟨vs.toArray⟩,.string ⟨nm.toArray⟩,.slice ka kids.length kc,.int .i64 ln,.int .i64 cl] 43)).drew.heap.size=w.heap.size+2):=Ax qF;have hbt:Hid (Value.ownBlock (.slice la nds.length lc)≠some b):=Ax (h.tree.not h.blk nV)
 have HN:Hid (((w.alloc (.cells #[.int .u8 op,.int .u8 vk,.int .i64 vn,.string ⟨vs.toArray⟩,.string ⟨nm.toArray⟩,.slice ka kids.length kc,.int .i64 ln,.int .i64 cl] 43)).alloc (.cells #[.int .u8 op,.int .u8 vk,.int .i64 vn,.string ⟨vs.toArray⟩,.string ⟨nm.toArray⟩,.slice ka kids.length kc,.int .i64 ln,.int .i64 cl] 43)).drew.heap[w.heap.size+1]? =some (.cells #[.int .u8 op,.int .u8 vk,.int .i64 vn,.string ⟨vs.toArray⟩,.string ⟨nm.toArray⟩,.slice ka kids.length kc,.int .i64 ln,.int .i64 cl] 43)):=Ax (by
  exact zy7)
 have p3:=A6 OW.out c3;have pf:((w.alloc (.cells #[.int .u8 op,.int .u8 vk,.int .i64 vn,.string ⟨vs.toArray⟩,.string ⟨nm.toArray⟩,.slice ka kids.length kc,.int .i64 ln,.int .i64 cl] 43)).alloc (.cells #[.int .u8 op,.int .u8 vk,.int .i64 vn,.string ⟨vs.toArray⟩,.string ⟨nm.toArray⟩,.slice ka kids.length kc,.int .i64 ln,.int .i64 cl] 43)).drew.frozen? ⟨b,3,none⟩=false:=(OW.out.frozen (p:=⟨b,3,none⟩) hb).trans cf3;have HK1:=Ax hk1;have HK2:=Ax hk2;have HK:=Ax hk;have Hkx:=Ax hkx;have H:=Ax h;have Hi:=Ax hi;have Hz0:=Ax hz0;have Hz1:=Ax hz1;have Hz2:=Ax hz2;clear h hk1 hk2 hk hkx hi hz0 hz1 hz2 cf;unfold hdV;go_enter Tryz.func209,Tryz.ntmps209;go_wp2_with fail
 go_region_law
  ((refine step_append_lies _ pF _ _ _ pF B 43 i0 (.agg #[.int .u8 0,.int .u8 0,.int .i64 0,.string ⟨#[]⟩,.string ⟨#[]⟩,.slice none 0 0,.int .i64 0,.int .i64 0]) 8 96 Tryz.underlying31 Hi.out Hz0.out Hz1.out Hz2.out rfl nV (.slice la nds.length lc) nds.length (Ed kvs nds) pF Ow.out ⟨w.heap.size+1,0,none⟩ 1 1 [.int .u8 op,.int .u8 vk,.int .i64 vn,.string ⟨vs.toArray⟩,.string ⟨nm.toArray⟩,.slice ka kids.length kc,.int .i64 ln,.int .i64 cl] pF pF (World.news_of_block (cs:= #[.int .u8 op,.int .u8 vk,.int .i64 vn,.string ⟨vs.toArray⟩,.string ⟨nm.toArray⟩,.slice ka kids.length kc,.int .i64 ln,.int .i64 cl]) (t:=43) (fr:=(0,0)) HN.out) oH nV oF nU (by rw[HS.out];omega) (w.heap.size+2) HS.out ?_;intro g cap w3 hown3 hgrow hat hlt;have r0:=(hgrow.cell_far ⟨b,3,none⟩ pI (Ne.symm hbt.out)).trans p3;have rf:=(hgrow.frozen_far ⟨b,3,none⟩ pI (Ne.symm hbt.out)).trans pf))
 all_goals
  have hG:=H.out.lay (n:=⟨⟨op,(vk,vn,vs),nm,ln,cl⟩,kids⟩) HK1.out HK2.out HK.out Hkx.out OW.out hgrow hown3 (fun x hx=>by
   simp only[Value.ownBlock,Option.some.injEq] at hx;subst hx;rcases hat with q|q
   ·exact .inl q
   exact .inr nU) hroom
  clear hown3 hgrow hat hlt r0 rf p3 pf c0 c1 c2 c3 Ow OW HS hbt HN HK1 HK2 HK;obtain⟨W1,hW1⟩:∃W1,w3.setCell ⟨b,3,none⟩ (.slice (some ⟨g,0,none⟩) (nds.length+1) cap)=W1:=⟨_,rfl⟩;rw[hW1] at hG ⊢;clear hW1;obtain⟨_,_,_,c3,_⟩:=Dd hG.1.blk;have HG:=Ax hG;clear hG;go_wp2_with fail;go_ret;refine⟨?_,_,HG.out.1,HG.out.2⟩
  first|rfl|(simp;done)
open Go Go.RowKit Go.MapKept
def Pz (w:World)(b:Nat)(l:List (List UInt8×Value)):Prop:=
 ∃es clock,w.heap[b]? =some (.map es clock)/\Stamped es clock/\es.toList.map (fun e=>(e.key,e.val))=l.map (fun p=>(Value.string ⟨p.1.toArray⟩,p.2))
theorem Pz.of_block {w w':World}{b:Nat}{l:List (List UInt8×Value)}(h:Pz w b l)(he:w'.heap[b]? =w.heap[b]?):Pz w' b l:=by
 obtain⟨es,c,h1,h2,h3⟩:=h;exact⟨es,c,he.trans h1,h2,h3⟩
theorem Pz.lt {w:World}{b:Nat}{l:List (List UInt8×Value)}(h:Pz w b l):b<w.heap.size:=by
 obtain⟨es,c,h1,_⟩:=h;exact Ay h1
theorem Pz.new (w:World):Pz (w.alloc (.map #[] 0)) w.heap.size []:=⟨#[],0,(MapKept.heap_alloc w _).1,stamped_empty 0,rfl⟩
def Ni (l:List (List UInt8×Value))(k:List UInt8):Option Value:=(l.find? (fun p=>p.1==k)).map (·.2)
theorem Wh {a b:List UInt8}:((⟨a.toArray⟩:ByteArray)==⟨b.toArray⟩)=(b==a):=by
 rw[Bool.eq_iff_iff,MapKept.bytes_beq,beq_iff_eq];constructor
 ·intro e
  have:=Ar (fun x:ByteArray=>x.data.toList) e
  simpa using this.symm
 rintro rfl;rfl
theorem Kg (k:List UInt8):∀(es:List MapEntry) (l:List (List UInt8×Value)) (i:Nat),es.map (fun e=>(e.key,e.val))=l.map (fun p=>(Value.string ⟨p.1.toArray⟩,p.2))->
 Instr.findNow .string (.string ⟨k.toArray⟩) es i=some ((l.findIdx? (fun p=>p.1==k)).bind fun j=>(l[j]?).map fun p=>(i+j,p.2))
 |[],[],_,_=>rfl
 |[],_::_,_,h=>by simp at h
 |_::_,[],_,h=>by simp at h
 |e::es,p::l,i,h=>by
  simp only[List.map_cons,List.cons.injEq,Prod.mk.injEq] at h;obtain⟨⟨h1,h2⟩,h3⟩:=h;by_cases hk:p.1=k
  ·subst hk;simp [Instr.findNow,h1,Instr.sameNow,h2,List.findIdx?_cons,Wh]
  have hb2:(p.1==k)=false:=by simpa using hk
  rw[show Instr.findNow .string (.string ⟨k.toArray⟩) (e::es) i=Instr.findNow .string (.string ⟨k.toArray⟩) es (i+1) from by simp only[Instr.findNow,h1,Instr.sameNow,Wh,hb2],Kg k es l (i+1) h3];exact zww
theorem cX (l:List (List UInt8×Value))(k:List UInt8):Ni l k=(l.findIdx? (fun p=>p.1==k)).bind fun j=>(l[j]?).map (·.2):=by
 induction l with
 |nil=>rfl
 |cons p l ih=>
  unfold Ni at ih ⊢;exact zxl
section
variable {P:Program} {w:World} {t kt et:TypeId} {b:Nat} {l:List (List UInt8×Value)}
theorem Pr (ht:P.underlying t=some (.map kt et))(hk:P.underlying kt=some .string)(h:Pz w b l){z:Value}(hz:(zeroValue et).run P w= .ok z w)(k:List UInt8):
 (Instr.lookup t (.map (some b)) (.string ⟨k.toArray⟩) true).run P w= .ok (Ft z (Ni l k)) w:=by
 obtain⟨es,c,h1,h2,h3⟩:=h;have hf:=run_findKey (P:=P) (w:=w) hk (Kg k es.toList l 0 h3);rw[cX];simp only[Instr.lookup,Sem.run_bind,run_underlying ht,MapKept.run_getObj_map h1,Result.andThen_ok,Sem.run_pure,run_checkKey (k:= .string ⟨k.toArray⟩) hk trivial,hf];cases hi:l.findIdx? (fun p=>p.1==k) with
 |none=>simp [hz,Ft]
 |some j=>
  have hj:=(List.findIdx?_eq_some_iff_getElem.1 hi).1;simp [Ag hj,Ft]
theorem Ee (ht:P.underlying t=some (.map kt et))(hk:P.underlying kt=some .string)(h:Pz w b l)(k:List UInt8)(v:Value)(hn:l.findIdx? (fun p=>p.1==k)=none):
 ∃w',(Instr.mapUpdate t (.map (some b)) (.string ⟨k.toArray⟩) v).run P w= .ok () w'/\Pz w' b (l++[(k,v)])/\A8 [b] w w'/\w'.heap.size=w.heap.size:=by
 obtain⟨es,c,h1,h2,h3⟩:=h;have hf:=run_findKey (P:=P) (w:=w) hk (Kg k es.toList l 0 h3);rw[hn] at hf;refine⟨{w with heap:=w.heap.setIfInBounds b (.map (es.push {key:= .string ⟨k.toArray⟩,val:=v,born:=c}) (c+1))},?_,?_,⟨rfl,rfl,rfl,by simp,fun i _ hn=>?_⟩,by simp⟩
 ·simp only[Instr.mapUpdate,Sem.run_bind,run_underlying ht,MapKept.run_getObj_map h1,Result.andThen_ok,run_checkKey (k:= .string ⟨k.toArray⟩) hk trivial,hf,Option.bind_none,MapKept.run_setObj_map _ h1]
 ·refine⟨_,_,(heap_set h1).1,stamped_push h2 ?_,by simp [h3]⟩;intro x hx hxk;have hm:(x.key,x.val)∈es.toList.map (fun e=>(e.key,e.val)):=List.mem_map.2 ⟨x,hx,rfl⟩;rw[h3] at hm;obtain⟨p,hp,q⟩:=List.mem_map.1 hm;simp only[Prod.mk.injEq] at q;rw[hxk] at q;have h4:=List.findIdx?_eq_none_iff.1 hn p hp
  have h5:p.1=k:=by
   have:=q.1
   injection this with this
   have:=Ar (fun x:ByteArray=>x.data.toList) this
   simpa using this
  simp [h5] at h4
 have:b≠i:=fun e=>hn (by simp [e])
 simp [this]
end
end Go.Proofs.YtgfakdobajgnfaaGreatDoor
