import Derived.Laws.Externs
import Derived.Test.YtmpfilddeglgbaaGreatDoorQj1
set_option maxRecDepth 100000
set_option maxHeartbeats 16000000
namespace Go.Proofs.YtmpfilddeglgbaaGreatDoor
open Go Go.RowKit
def Fb:List Value->List Nd->List Value
 |kv::kvs,n::ns=> .int .u8 n.h.op:: .int .u8 n.h.v.1:: .int .i64 n.h.v.2.1:: .string ⟨n.h.v.2.2.toArray⟩:: .string ⟨n.h.name.toArray⟩::kv:: .int .i64 n.h.line:: .int .i64 n.h.col::Fb kvs ns
 |_,_=>[]
def Gq (l:List Nat):List Value:=l.map fun(k:Nat)=>Value.int .i64 (k:Int)
def C8 (w:World)(B:Nat)(X:List Nat):List Value->List Nd->Prop
 |[],[]=>True
 |v::vs,n::ns=>(w.ownsRow B 3 1 v n.kids.length (Gq n.kids)/\∀g,v.ownBlock=some g->g∉X)/\C8 w B X vs ns
 |_,_=>False
theorem C8.snoc {w:World}{B:Nat}{X:List Nat}{v:Value}{n:Nd}:∀{vs:List Value} {ns:List Nd},C8 w B X vs ns->(w.ownsRow B 3 1 v n.kids.length (Gq n.kids)/\∀g,v.ownBlock=some g->g∉X)->C8 w B X (vs++[v]) (ns++[n])
 |[],[],_,h=>⟨h,trivial⟩
 |_::_,_::_,h,k=>⟨h.1,C8.snoc h.2 k⟩
 |[],_::_,h,_=>h.elim
 |_::_,[],h,_=>h.elim
theorem C8.imp {w w':World}{B:Nat}{X:List Nat}{Y:List Nat}(hk:∀v n xs,(∀g,v.ownBlock=some g->g∉X)->w.ownsRow B 3 1 v n xs->w'.ownsRow B 3 1 v n xs/\∀g,v.ownBlock=some g->g∉Y):∀{vs:List Value} {ns:List Nd},C8 w B X vs ns->C8 w' B Y vs ns
 |[],[],_=>trivial
 |_::_,_::_,h=>⟨hk _ _ _ h.1.2 h.1.1,C8.imp hk h.2⟩
 |[],_::_,h=>h.elim
 |_::_,[],h=>h.elim
theorem C8.base {w:World}{B B':Nat}{X:List Nat}(hB:B'<=B):∀{vs:List Value} {ns:List Nd},C8 w B X vs ns->C8 w B' X vs ns
 |[],[],_=>trivial
 |_::_,_::_,h=>⟨⟨U7 h.1.1 hB,h.1.2⟩,C8.base hB h.2⟩
 |[],_::_,h=>h.elim
 |_::_,[],h=>h.elim
theorem C8.len {w:World}{B:Nat}{X:List Nat}:∀{vs:List Value} {ns:List Nd},C8 w B X vs ns->vs.length=ns.length
 |[],[],_=>rfl
 |_::_,_::_,h=>by simp [C8.len h.2]
 |[],_::_,h=>h.elim
 |_::_,[],h=>h.elim
theorem Od {v:Value}{n:Nd}:∀{vs:List Value} {ns:List Nd},vs.length=ns.length->Fb (vs++[v]) (ns++[n])=Fb vs ns++Fb [v] [n]
 |[],[],_=>rfl
 |_::vs,_::ns,h=>by simp [Fb,Od (vs:=vs) (ns:=ns) uB]
 |[],_::_,h=>by simp at h
 |_::_,[],h=>by simp at h
def Ii (w:World)(B:Nat)(X:List Nat)(v:Value)(nds:List Nd):Prop:=∃kvs,w.ownsRow B 38 8 v nds.length (Fb kvs nds)/\C8 w B X kvs nds
structure Cz (w:World)(B:Nat)(X:List Nat)(b:Nat)(vl:Value)(ts r:List Tkn)(d:Nat)(vt:Value)(nds:List Nd):Prop where
 suf:Suf r ts
 toks:I8 w vl ts
 nam:∀t∈ts,t.w.k=1->t.w.t≠[40]
 tl:∀g,vl.ownBlock=some g->g<B
 hB:B<=b
 xl:∀x∈X,x<w.heap.size
 hd:d<=12
 big:ts.length<=1000000
 few:nds.length+r.length<=1000000
 blk:w.heap[b]? =some (.cells #[vl,.int .i64 ((ts.length - r.length:Nat):Int),.int .i64 (d:Int),vt] 150 (0,0))
 tree:Ii w B X vt nds
def jS (w:World)(b:Nat)(vl:Value)(p:Nat):Prop:=∃dd vv,w.heap[b]? =some (.cells #[vl,.int .i64 (p:Int),dd,vv] 150 (0,0))
structure Rch (b:Nat)(w:World)(vt:Value)(w':World)(vt':Value):Prop where
 only:Bc (b::vt.ownBlock.toList) w w'
 own:∀g,vt'.ownBlock=some g->vt.ownBlock=some g\/w.heap.size<=g
theorem Rch.refl (b:Nat)(w:World)(vt:Value):Rch b w vt w vt:=⟨Bc.refl _ _,fun _ h=> .inl h⟩
theorem Rch.trans {b:Nat}{w w1 w2:World}{vt v1 v2:Value}(h:Rch b w vt w1 v1)(k:Rch b w1 v1 w2 v2):Rch b w vt w2 v2:=by
 refine⟨h.only.step k.only fun i hi=>?_,fun g hg=>?_⟩
 ·rcases List.mem_cons.1 hi with rfl|hi
  ·exact .inl Ai
  have e:v1.ownBlock=some i:=by simpa using hi
  rcases h.own i e with q|q
  ·exact .inl (Aj _ (by simpa using q))
  exact .inr q
 rcases k.own g hg with q|q
 ·exact h.own g q
 exact .inr (Al h.only.size q)
theorem Rch.err {b:Nat}{w w1 w2:World}{vt v1:Value}(h:Rch b w vt w1 v1)(k:Bc (b::v1.ownBlock.toList) w1 w2):Bc (b::vt.ownBlock.toList) w w2:=
 (h.trans (v2:=v1) ⟨k,fun _ q=> .inl q⟩).only
theorem Rch.of_below {b:Nat}{w w':World}(vt:Value)(h:Below w.heap.size w w'):Rch b w vt w' vt:=⟨Bc.of_below h _,fun _ q=> .inl q⟩
theorem Rch.of_only {b:Nat}{w w':World}(vt:Value)(h:Bc [b] w w'):Rch b w vt w' vt:=⟨h.mono fun i hi=>by simp at hi;simp [hi],fun _ q=> .inl q⟩
theorem Suf.at_drop {r ts:List Tkn}(h:Suf r ts):r=ts.drop (ts.length - r.length):=by
 obtain⟨k,rfl⟩:=h;rw[List.length_drop];by_cases hk:k<=ts.length
 ·rw[show ts.length - (ts.length - k)=k by omega]
 rw[List.drop_eq_nil_of_le tE,List.drop_eq_nil_of_le tE]
theorem Ii.imp {w w':World}{B:Nat}{X:List Nat}{v:Value}{nds:List Nd}(h:Ii w B X v nds)(ht:∀xs,w.ownsRow B 38 8 v nds.length xs->w'.ownsRow B 38 8 v nds.length xs)
 {Y:List Nat} (hk:∀v n xs,(∀g,v.ownBlock=some g->g∉X)->w.ownsRow B 3 1 v n xs->w'.ownsRow B 3 1 v n xs/\∀g,v.ownBlock=some g->g∉Y):Ii w' B Y v nds:=by
 obtain⟨kvs,h1,h2⟩:=h;exact⟨kvs,ht _ h1,h2.imp hk⟩
theorem Ii.below {w w':World}{B:Nat}{X:List Nat}{v:Value}{nds:List Nd}(h:Ii w B X v nds)(hb:Below w.heap.size w w'):Ii w' B X v nds:=h.imp (fun _ q=>Di q hb) fun _ _ _ n q=>⟨Di q hb,n⟩
theorem Ii.own {w:World}{B:Nat}{X:List Nat}{v:Value}{nds:List Nd}(h:Ii w B X v nds):∀g,v.ownBlock=some g->B<=g:=by
 obtain⟨kvs,h1,_⟩:=h;exact C9 h1
theorem Ii.not {w:World}{B k:Nat}{X:List Nat}{t:TypeId}{v:Value}{nds:List Nd}{cs:Array Value}(h:Ii w B X v nds)(hk:w.heap[k]? =some (.cells cs t (0,0)))(ht:38≠t):v.ownBlock≠some k:=by
 obtain⟨kvs,h1,_⟩:=h;exact Bi h1 hk ht
theorem Cz.below {w w':World}{B b d:Nat}{X:List Nat}{vl vt:Value}{ts r:List Tkn}{nds:List Nd}(h:Cz w B X b vl ts r d vt nds)(hb:Below w.heap.size w w'):Cz w' B X b vl ts r d vt nds:=
 ⟨h.suf,h.toks.below hb,h.nam,h.tl,h.hB,fun x hx=>Nat.lt_of_lt_of_le (h.xl x hx) hb.size,h.hd,h.big,h.few,(hb.block b (Ay h.blk)).trans h.blk,h.tree.below hb⟩
theorem Cz.turn {w w':World}{B b d d':Nat}{X:List Nat}{vl vt:Value}{ts r r':List Tkn}{nds:List Nd}(h:Cz w B X b vl ts r d vt nds)(ho:Bc [b] w w')(hs:Suf r' r)(hd:d'<=12)
 (hb:w'.heap[b]? =some (.cells #[vl,.int .i64 ((ts.length - r'.length:Nat):Int),.int .i64 (d':Int),vt] 150 (0,0))):Cz w' B X b vl ts r' d' vt nds:=by
 exact zys
theorem Dx {w:World}{b:Nat}{x y z u:Value}{t:TypeId}(h:w.heap[b]? =some (.cells #[x,y,z,u] t (0,0))):
 w.cell? ⟨b,0,none⟩=some x/\w.cell? ⟨b,1,none⟩=some y/\w.cell? ⟨b,2,none⟩=some z/\w.cell? ⟨b,3,none⟩=some u/\∀i,w.frozen? ⟨b,i,none⟩=false:=
 ⟨by simp only[World.cell?,h];rfl,by simp only[World.cell?,h];rfl,by simp only[World.cell?,h];rfl,by simp only[World.cell?,h];rfl,fun i=>by simp only[World.frozen?,h];simp⟩
theorem A3 (w:World)(b i:Nat)(u:Value):Bc [b] w (w.setCell ⟨b,i,none⟩ u):=(Bc.refl [b] w).setCell (.inl tH) u
theorem Cz.step {w:World}{B b d:Nat}{X:List Nat}{vl vt:Value}{ts q:List Tkn}{t:Tkn}{nds:List Nd}(h:Cz w B X b vl ts (t::q) d vt nds):
 Cz (w.setCell ⟨b,1,none⟩ (.int .i64 (((ts.length - (q.length+1):Nat):Int)+1))) B X b vl ts q d vt nds:=by
 exact zxr
theorem Cz.deep {w:World}{B b d d':Nat}{X:List Nat}{vl vt:Value}{ts r:List Tkn}{nds:List Nd}(h:Cz w B X b vl ts r d vt nds)(hd:d'<=12):Cz (w.setCell ⟨b,2,none⟩ (.int .i64 (d':Int))) B X b vl ts r d' vt nds:=by
 refine h.turn (A3 _ _ _ _) (Suf.refl _) hd ?_;rw[A2 h.blk];rfl
theorem Cz.head {w:World}{B b d:Nat}{X:List Nat}{vl vt:Value}{ts q:List Tkn}{t:Tkn}{nds:List Nd}(h:Cz w B X b vl ts (t::q) d vt nds):∃g c,vl= .slice (some ⟨g,0,none⟩) ts.length c/\g<w.heap.size/\ts.length - (t::q).length<ts.length/\
 w.cell? ⟨g,(ts.length - (t::q).length)*7,none⟩=some (.int .u8 t.w.k)/\w.cell? ⟨g,(ts.length - (t::q).length)*7+1,none⟩=some (.string ⟨t.w.t.toArray⟩)/\w.cell? ⟨g,(ts.length - (t::q).length)*7+2,none⟩=some (.int .u8 t.w.v.1)/\
 w.cell? ⟨g,(ts.length - (t::q).length)*7+3,none⟩=some (.int .i64 t.w.v.2.1)/\w.cell? ⟨g,(ts.length - (t::q).length)*7+4,none⟩=some (.string ⟨t.w.v.2.2.toArray⟩)/\w.cell? ⟨g,(ts.length - (t::q).length)*7+5,none⟩=some (.int .i64 t.line)/\w.cell? ⟨g,(ts.length - (t::q).length)*7+6,none⟩=some (.int .i64 t.col):=by
 exact zyo
open Go Go.RowKit
theorem Nj {w:World}{B b d:Nat}{X:List Nat}{vl vt:Value}{ts r:List Tkn}{nds:List Nd}(h:Cz w B X b vl ts r d vt nds)(s:List UInt8):
 Calls Tryz.prog 164 #[.pointer (some ⟨b,0,none⟩),.string ⟨s.toArray⟩] w fun e w'=>e= .returned (.bool (isH s r))/\Below w.heap.size w w':=by
 obtain⟨c0,c1,c2,c3,_⟩:=Dx h.blk;have hl:=h.suf.len;have hbig:=h.big;cases r with
 |nil=>
  obtain⟨va,vc,rfl⟩:=h.toks.form;have i0:¬(((ts.length - ([]:List Tkn).length:Nat):Int)<(ts.length:Int)):=by simp
  have i1:decide (((ts.length - ([]:List Tkn).length:Nat):Int)<(ts.length:Int))=false:=by simp
  clear h hl;go_enter Tryz.func164,Tryz.ntmps164;exact zyy
 |cons t q=>
  obtain⟨g,c,rfl,hg,hlt,t0,t1,_⟩:=h.head;obtain⟨n,hn⟩:∃n,ts.length - (t::q).length=n:=⟨_,rfl⟩;rw[hn] at c1 hlt t0 t1;have i0:(n:Int)<(ts.length:Int):=by omega
  have i1:decide ((n:Int)<(ts.length:Int))=true:=by simp;omega
  have i2:(0:Int)<=(n:Int):=by omega
  clear h hl hn;by_cases hs:t.w.t=s
  ·have e1:(t.w.t==s)=true:=by simpa using hs
   have e2:isH s (t::q)=(decide (t.w.k=1)||decide (t.w.k=7)):=by simp [isH,hs]
   rw[e2];obtain⟨k,hk⟩:∃k,t.w.k=k:=⟨_,rfl⟩;rw[hk] at t0 ⊢;clear hk e2;rw[hs] at t1;clear hs e1;by_cases k1:k=1
   ·subst k1;go_enter Tryz.func164,Tryz.ntmps164;exact zyy
   have f1:(k==1)=false:=by simpa using k1
   have f2:decide (k=1)=false:=by simpa using k1
   rw[f2];by_cases k7:k=7
   ·subst k7;go_enter Tryz.func164,Tryz.ntmps164;exact zyy
   have f3:(k==7)=false:=by simpa using k7
   have f4:decide (k=7)=false:=by simpa using k7
   rw[f4];go_enter Tryz.func164,Tryz.ntmps164;exact zyy
  have e1:(t.w.t==s)=false:=by simpa using hs
  have e2:isH s (t::q)=false:=by simp [isH,hs]
  rw[e2];go_enter Tryz.func164,Tryz.ntmps164;exact zyy
abbrev Ee (e:Int):Ending:= .panicked [{v:= .iface 151 (.int .i64 e),recovered:=false}]
theorem Ql {w:World}{B b:Nat}{X:List Nat}{vl vt:Value}{ts r:List Tkn}{nds:List Nd}(h:Cz w B X b vl ts r 12 vt nds):
 Calls Tryz.prog 165 #[.pointer (some ⟨b,0,none⟩)] w fun e w'=>e=Ee 12/\w'=w:=by
 obtain⟨c0,c1,c2,c3,cf⟩:=Dx h.blk;have c2':w.cell? ⟨b,2,none⟩=some (.int .i64 12):=c2;clear h cf c2;go_enter Tryz.func165,Tryz.ntmps165;go_wp2_with fail;exact⟨rfl,rfl,rfl⟩
theorem Ta {w:World}{B b d:Nat}{X:List Nat}{vl vt:Value}{ts r:List Tkn}{nds:List Nd}(h:Cz w B X b vl ts r d vt nds)(hd:d≠12):
 Calls Tryz.prog 165 #[.pointer (some ⟨b,0,none⟩)] w fun e w'=>e= .returned (.tuple #[])/\Cz w' B X b vl ts r (d+1) vt nds/\Bc [b] w w':=by
 obtain⟨c0,c1,c2,c3,cf⟩:=Dx h.blk;have hd12:=h.hd;have cf2:=cf 2;have e1:((d:Int)==12)=false:=by simp;omega
 have hn:=h.deep (d':=d+1) tE;have hN:=Ax hn;have ho:=Ax (A3 w b 2 (.int .i64 ((d+1:Nat):Int)));clear h cf hn hd;go_enter Tryz.func165,Tryz.ntmps165;go_wp2_with fail
 go_end0
 exact⟨rfl,hN.out,ho.out⟩
theorem cN (w:World)(n:Nat)(o:Obj)(a b x y:Value)(T:TypeId)(ho:o= .cells #[a,b] T):
 ((((((w.alloc o).drewN n).setCell ⟨w.heap.size,0,none⟩ x).setCell ⟨w.heap.size,1,none⟩ y).setCell ⟨w.heap.size,0,none⟩ x).setCell ⟨w.heap.size,1,none⟩ y).heap[w.heap.size]? =some (.cells #[x,y] T (0,0)):=by
 subst ho;have h0:((w.alloc (.cells #[a,b] T)).drewN n).heap[w.heap.size]? =some (.cells #[a,b] T (0,0)):=A1 w _;rw[A2 (A2 (A2 (A2 h0)))];rfl
theorem Bo {w:World}{b:Nat}{x y:Value}{t:TypeId}(h:w.heap[b]? =some (.cells #[x,y] t (0,0))):w.cell? ⟨b,0,none⟩=some x/\w.cell? ⟨b,1,none⟩=some y/\∀i,w.frozen? ⟨b,i,none⟩=false:=
 ⟨by simp only[World.cell?,h];rfl,by simp only[World.cell?,h];rfl,fun i=>by simp only[World.frozen?,h];simp⟩
theorem Wr {w:World}{B b d:Nat}{X:List Nat}{vl vt:Value}{ts r:List Tkn}{nds:List Nd}(h:Cz w B X b vl ts r d vt nds):
 Calls Tryz.prog 193 #[.pointer (some ⟨b,0,none⟩)] w fun e w'=>e= .returned (.agg #[.int .i64 (plH r).1,.int .i64 (plH r).2])/\Below w.heap.size w w':=by
 obtain⟨c0,c1,c2,c3,_⟩:=Dx h.blk;have hl:=h.suf.len;have hbig:=h.big;have hB:=Ay h.blk;cases r with
 |nil=>
  obtain⟨va,vc,rfl⟩:=h.toks.form;have i0:¬(((ts.length - ([]:List Tkn).length:Nat):Int)<(ts.length:Int)):=by simp
  have i1:decide (((ts.length - ([]:List Tkn).length:Nat):Int)<(ts.length:Int))=false:=by simp
  clear h hl;go_enter Tryz.func193,Tryz.ntmps193;go_wp2_with fail;go_quiet (fail);go_wp2_with fail;refine Au (v:= .agg #[.int .i64 0,.int .i64 0]) (by simp [results,Tryz.results193,go_sem, *]) rfl ?_;exact zxb
 |cons t q=>
  obtain⟨g,c,rfl,hg,hlt,t0,t1,t2,t3,t4,t5,t6⟩:=h.head;obtain⟨n,hn⟩:∃n,ts.length - (t::q).length=n:=⟨_,rfl⟩;rw[hn] at c1 hlt t0 t1 t2 t3 t4 t5 t6;have i0:(n:Int)<(ts.length:Int):=by omega
  have i1:decide ((n:Int)<(ts.length:Int))=true:=by simp;omega
  have i2:(0:Int)<=(n:Int):=by omega
  clear h hl hn;go_enter Tryz.func193,Tryz.ntmps193;go_wp2_with fail;go_quiet (fail);go_wp2_with fail;go_region;go_wp2_with fail;obtain⟨z0,z1,_⟩:=Bo (cN w (nq+1) (.cells #[.int .i64 0,.int .i64 0] 26) _ _ (.int .i64 t.line) (.int .i64 t.col) _ rfl);refine Au (v:= .agg #[.int .i64 t.line,.int .i64 t.col]) (by simp [results,Tryz.results193,go_sem,z0,z1]) rfl ?_;exact⟨rfl,((((Bg ((Aq _ w).alloc (Ak _) _) _).setCell (Ak _) _).setCell (Ak _) _).setCell (Ak _) _).setCell (Ak _) _⟩
theorem Jl {w:World}{B b d:Nat}{X:List Nat}{vl vt:Value}{ts r:List Tkn}{nds:List Nd}(h:Cz w B X b vl ts r d vt nds)(s:List UInt8):
 Calls Tryz.prog 166 #[.pointer (some ⟨b,0,none⟩),.string ⟨s.toArray⟩] w fun e w'=>
  if isH s r then e= .returned (.tuple #[])/\Cz w' B X b vl ts r.tail d vt nds/\Bc [b] w w' else e=Ee 4/\Below w.heap.size w w':=by
 have hi:=Nj h s;have Hi:=Ax hi;have H:=Ax h;by_cases e:isH s r=true
 ·rw[e] at hi Hi;rw[e];simp only[if_true];obtain⟨t,q,rfl⟩:=Cf e;clear hi h;go_enter Tryz.func166,Tryz.ntmps166;go_wp2_with fail;refine Hi.out.mono ?_;rintro e V ⟨rfl,hb⟩;have h':=H.out.below hb;obtain⟨c0,c1,c2,c3,cf⟩:=Dx h'.blk;have cf1:=cf 1;have hbig:=h'.big;have hst:=Ax h'.step;have ho:=Ax ((Bc.of_below hb [b]).trans (A3 V b 1 (.int .i64 (((ts.length - (t::q).length:Nat):Int)+1))));clear cf h' H hb;go_wp2_with fail
  go_end0
  exact⟨rfl,hst.out,ho.out⟩
 have e':isH s r=false:=by simpa using e
 rw[e'] at hi Hi;rw[e'];simp only[Bool.false_eq_true,if_false];clear hi h;go_enter Tryz.func166,Tryz.ntmps166;go_wp2_with fail;refine Hi.out.mono ?_;rintro e V ⟨rfl,hb⟩;have Hb:=Ax hb;clear hb;go_wp2_with fail;exact⟨rfl,rfl,Hb.out⟩
open Go Go.RowKit
def oS:List (List UInt8×Int)->List Value
 |[]=>[]
 |o::l=> .string ⟨o.1.toArray⟩:: .int .u8 o.2::oS l
theorem Y6:∀(l:List (List UInt8×Int)) (i:Nat) (h:i<l.length),(oS l)[i*2]? =some (.string ⟨l[i].1.toArray⟩)/\(oS l)[i*2+1]? =some (.int .u8 l[i].2)
 |[],i,h=>by simp at h
 |o::l,0,_=>⟨rfl,rfl⟩
 |o::l,i+1,h=>by
  have:=Y6 l i uB
  rw[show(i+1)*2=i*2+1+1 by omega];exact this
def N5 (w:World)(g:Nat)(l:List (List UInt8×Int)):Prop:=w.heap[g]? =some (.cells (oS l).toArray 237 (0,0))
theorem N5.at {w:World}{g:Nat}{l:List (List UInt8×Int)}(h:N5 w g l){i:Nat}(hi:i<l.length):w.cell? ⟨g,i*2,none⟩=some (.string ⟨l[i].1.toArray⟩)/\w.cell? ⟨g,i*2+1,none⟩=some (.int .u8 l[i].2):=by
 obtain⟨h1,h2⟩:=Y6 l i hi;constructor
 ·simp only[World.cell?,N5] at h ⊢;rw[h];simpa using h1
 simp only[World.cell?,N5] at h ⊢;rw[h];simpa using h2
theorem N5.below {w w':World}{g:Nat}{l:List (List UInt8×Int)}(h:N5 w g l)(hb:Below w.heap.size w w'):N5 w' g l:=(hb.block g (Ay h)).trans h
theorem fZ {w:World}{B b d:Nat}{X:List Nat}{vl vt:Value}{ts r:List Tkn}{nds:List Nd}(h:Cz w B X b vl ts r d vt nds){g:Nat}{l:List (List UInt8×Int)}(ho:N5 w g l)(hl:l.length<=6):
 Calls Tryz.prog 194 #[.pointer (some ⟨b,0,none⟩),.slice (some ⟨g,0,none⟩) l.length l.length] w fun e w'=>e= .returned (.int .u8 (Be r l))/\Below w.heap.size w w':=by
 have H:=Ax h;have Ho:=Ax ho;clear h ho;go_enter Tryz.func194,Tryz.ntmps194;go_wp2_with fail
 go_loopw [9] (fun vi wr=>∃j:Nat,j<=l.length/\vi= .int .i64 j/\Hid (Be r (l.drop j)=Be r l)/\Hid (Below w.heap.size w wr)) (fun vi _=>l.length - (intOf vi).toNat)
 case atStart=>exact⟨0,Nat.zero_le _,rfl,rfl,Aq _ _⟩
 obtain⟨j,hj,rfl,hq,hb⟩:=hrel;by_cases hjl:j<l.length
 ·obtain⟨d0,d1⟩:=(Ho.out.below hb.out).at hjl;have e1:=List.drop_eq_getElem_cons hjl
  have e2:(if isH l[j].1 r then l[j].2 else Be r (l.drop (j+1)))=Be r l:=by
   rw[←hq.out,e1];rfl
  obtain⟨⟨s,o⟩,hlj⟩:∃x,l[j]=x:=⟨_,rfl⟩;rw[hlj] at d0 d1 e2;simp only at d0 d1 e2;have i1:(0:Int)<=(j:Int):=by omega
  have i2:(j:Int)<(l.length:Int):=by omega
  have hb2:Below wr.heap.size wr (wr.alloc (.cells #[.string ⟨s.toArray⟩,.int .u8 o] 237)):=(Aq _ wr).alloc (Ak _) _;have hz2:=A1 wr (.cells #[.string ⟨s.toArray⟩,.int .u8 o] 237);obtain⟨z0,z1,_⟩:=Bo hz2;have hi:=Ax (Nj ((H.out.below hb.out).below hb2) s);have HZ:=Ax (Ay hz2);have HB:=Ax (hb.out.trans (hb2.mono hb.out.size));have E2:=Ax e2;have hj9:(j:Int)<=6:=by omega
  clear hq hb hb2 hz2 e1 e2 hlj;go_wp2_with fail;refine hi.out.mono ?_;rintro e V ⟨rfl,hbV⟩;have z1':=Ba hbV z1;have HBV:=Ax (HB.out.trans (hbV.mono HB.out.size));have E3:=E2.out;clear z0 z1 d0 d1 hbV HZ HB E2 hi;cases hh:isH s r with
  |true=>
   rw[hh] at E3;simp only[if_true] at E3;have HE:=Ax E3;clear E3;go_wp2_with fail;go_ret;exact⟨by rw[←HE.out];rfl,HBV.out⟩
  |false=>
   rw[hh] at E3;simp only[Bool.false_eq_true,if_false] at E3;have HE:=Ax E3;clear E3;go_wp2_with fail;go_roundw
   case rel=>exact⟨j+1,by omega,by go_num,HE,HBV⟩
   case measure=>simp [intOf];omega
 obtain rfl:j=l.length:=by omega
 have e2:=hq.out;rw[List.drop_length] at e2;have HE:=Ax e2;have HB:=Ax hb.out;clear hq hb e2;go_wp2_with fail;go_ret;exact⟨by rw[←HE.out];rfl,HB.out⟩
theorem nP:(Tryz.prog.info? 38).map (fun i=>(i.zero,i.size,i.bytes))=some (some (.agg #[.int .u8 0,.int .u8 0,.int .i64 0,.string ⟨#[]⟩,.string ⟨#[]⟩,.slice none 0 0,.int .i64 0,.int .i64 0]),8,96):=by kernel_rfl
theorem Jr:∃i,Tryz.prog.info? 38=some i/\i.zero=some (.agg #[.int .u8 0,.int .u8 0,.int .i64 0,.string ⟨#[]⟩,.string ⟨#[]⟩,.slice none 0 0,.int .i64 0,.int .i64 0])/\i.size=8/\i.bytes=96:=by
 have h:=nP;cases hi:Tryz.prog.info? 38 with
 |none=>simp [hi] at h
 |some i=>
  exact zx4
def hdV (h:Hd):Value:= .agg #[.int .u8 h.op,.int .u8 h.v.1,.int .i64 h.v.2.1,.string ⟨h.v.2.2.toArray⟩,.string ⟨h.name.toArray⟩,.slice none 0 0,.int .i64 h.line,.int .i64 h.col]
theorem Cz.lay {w W Z:World}{B b d:Nat}{X:List Nat}{vl vt v' kv:Value}{ts r:List Tkn}{nds:List Nd}{kvs:List Value}{n:Nd}(h:Cz w B X b vl ts r d vt nds)(hk1:w.ownsRow B 38 8 vt nds.length (Fb kvs nds))(hk2:C8 w B X kvs nds)
 (hkv:w.ownsRow B 3 1 kv n.kids.length (Gq n.kids)) (hkx:∀g,kv.ownBlock=some g->g∉X) (hbw:Below w.heap.size w W) (hg:W.grownBy Z vt.ownBlock) (hown:Z.ownsRow B 38 8 v' (nds.length+1) (Fb kvs nds++Fb [kv] [n])) (hv:∀g,v'.ownBlock=some g->vt.ownBlock=some g\/w.heap.size<=g)
 (hroom:nds.length+1+r.length<=1000000):Cz (Z.setCell ⟨b,3,none⟩ v') B X b vl ts r d v' (nds++[n])/\Rch b w vt (Z.setCell ⟨b,3,none⟩ v') v':=by
 have hX:Bc vt.ownBlock.toList w Z:=(Bc.of_below hbw _).trans (Bc.of_grown hg _ fun k hk=>by simp [hk]);have hbt:vt.ownBlock≠some b:=h.tree.not h.blk tG;have hbX:Z.heap[b]? =some (.cells #[vl,.int .i64 ((ts.length - r.length:Nat):Int),.int .i64 (d:Int),vt] 150 (0,0)):=(hX.block b (Ay h.blk) (by simpa using hbt)).trans h.blk
 have hb2:(Z.setCell ⟨b,3,none⟩ v').heap[b]? =some (.cells #[vl,.int .i64 ((ts.length - r.length:Nat):Int),.int .i64 (d:Int),v'] 150 (0,0)):=by
  rw[A2 hbX];rfl
 have hO:Bc (b::vt.ownBlock.toList) w (Z.setCell ⟨b,3,none⟩ v'):=(hX.mono fun i hi=>Aj _ hi).setCell (.inl tH) _
 have hint:∀v k xs,w.ownsRow B 3 1 v k xs->Z.ownsRow B 3 1 v k xs:=fun v k xs q=>Bm q hX fun g e hm=>by
  exact zxq
 have hset:∀{t:TypeId} {sz:Nat} v k xs,t≠150->Z.ownsRow B t sz v k xs->(Z.setCell ⟨b,3,none⟩ v').ownsRow B t sz v k xs:=fun v k xs ht q=>Bm q (A3 Z b 3 v') fun g e hm=>by
  simp at hm;subst hm;exact Bi q hbX ht e
 exact zy3
theorem Qd {w:World}{B b d:Nat}{X:List Nat}{vl vt:Value}{ts r:List Tkn}{nds:List Nd}(h:Cz w B X b vl ts r d vt nds)(hroom:nds.length+1+r.length<=1000000)(hB:B<=w.heap.size)(hd:Hd)(kids:List Nat)(ka:Option Addr)(kc:Nat)(hk:w.ownsRow B 3 1 (.slice ka kids.length kc) kids.length (Gq kids))(hkx:∀g,(Value.slice ka kids.length kc).ownBlock=some g->g∉X):
 Calls Tryz.prog 167 #[.pointer (some ⟨b,0,none⟩),hdV hd,.slice ka kids.length kc] w fun e w'=>e= .returned (.int .i64 (nds.length:Int))/\∃vt',Cz w' B X b vl ts r d vt' (nds++[⟨hd,kids⟩])/\Rch b w vt w' vt':=by
 obtain⟨kvs,hk1,hk2⟩:=h.tree;obtain⟨la,lc,rfl⟩:=Er hk1;obtain⟨c0,c1,c2,c3,cf⟩:=Dx h.blk;have cf3:=cf 3;obtain⟨i0,hi,hz0,hz1,hz2⟩:=Jr;have hb:=Ay h.blk;obtain⟨op,⟨vk,vn,vs⟩,nm,ln,cl⟩:=hd;have Ow:Hid (((w.alloc (.cells #[.int .u8 op,.int .u8 vk,.int .i64 vn,.string ⟨vs.toArray⟩,.string ⟨nm.toArray⟩,.slice ka kids.length kc,.int .i64 ln,.int .i64 cl] 38)).alloc (.cells #[.int .u8 op,.int .u8 vk,.int .i64 vn,.string ⟨vs.toArray⟩,.string ⟨nm.toArray⟩,.slice ka kids.length kc,.int .i64 ln,.int .i64 cl] 38)).drew.ownsRow B 38 8 (.slice la nds.length lc) nds.length (Fb kvs nds)):=Ax (Di hk1 (Bc.drew (((Bc.refl [] w).alloc _).alloc _)).below);have OW:Hid (Below w.heap.size w ((w.alloc (.cells #[.int .u8 op,.int .u8 vk,.int .i64 vn,.string ⟨vs.toArray⟩,.string ⟨nm.toArray⟩,.slice ka kids.length kc,.int .i64 ln,.int .i64 cl] 38)).alloc (.cells #[.int .u8 op,.int .u8 vk,.int .i64 vn,.string ⟨vs.toArray⟩,.string ⟨nm.toArray⟩,.slice ka kids.length kc,.int .i64 ln,.int .i64 cl] 38)).drew):=Ax (Bc.drew (((Bc.refl [] w).alloc _).alloc _)).below;have HS:Hid (((w.alloc (.cells #[.int .u8 op,.int .u8 vk,.int .i64 vn,.string ⟨vs.toArray⟩,.string ⟨nm.toArray⟩,.slice ka kids.length kc,.int .i64 ln,.int .i64 cl] 38)).alloc (.cells #[.int .u8 op,.int .u8 vk,.int .i64 vn,.string ⟨vs.toArray⟩,.string ⟨nm.toArray⟩,.slice ka kids.length kc,.int .i64 ln,.int .i64 cl] 38)).drew.heap.size=w.heap.size+2):=Ax vQ;have hbt:Hid (Value.ownBlock (.slice la nds.length lc)≠some b):=Ax (h.tree.not h.blk tG)
 have HN:Hid (((w.alloc (.cells #[.int .u8 op,.int .u8 vk,.int .i64 vn,.string ⟨vs.toArray⟩,.string ⟨nm.toArray⟩,.slice ka kids.length kc,.int .i64 ln,.int .i64 cl] 38)).alloc (.cells #[.int .u8 op,.int .u8 vk,.int .i64 vn,.string ⟨vs.toArray⟩,.string ⟨nm.toArray⟩,.slice ka kids.length kc,.int .i64 ln,.int .i64 cl] 38)).drew.heap[w.heap.size+1]? =some (.cells #[.int .u8 op,.int .u8 vk,.int .i64 vn,.string ⟨vs.toArray⟩,.string ⟨nm.toArray⟩,.slice ka kids.length kc,.int .i64 ln,.int .i64 cl] 38)):=Ax (by
  exact zy4)
 have p3:=Ba OW.out c3;have pf:((w.alloc (.cells #[.int .u8 op,.int .u8 vk,.int .i64 vn,.string ⟨vs.toArray⟩,.string ⟨nm.toArray⟩,.slice ka kids.length kc,.int .i64 ln,.int .i64 cl] 38)).alloc (.cells #[.int .u8 op,.int .u8 vk,.int .i64 vn,.string ⟨vs.toArray⟩,.string ⟨nm.toArray⟩,.slice ka kids.length kc,.int .i64 ln,.int .i64 cl] 38)).drew.frozen? ⟨b,3,none⟩=false:=(OW.out.frozen (p:=⟨b,3,none⟩) hb).trans cf3;have HK1:=Ax hk1;have HK2:=Ax hk2;have HK:=Ax hk;have Hkx:=Ax hkx;have H:=Ax h;have Hi:=Ax hi;have Hz0:=Ax hz0;have Hz1:=Ax hz1;have Hz2:=Ax hz2;clear h hk1 hk2 hk hkx hi hz0 hz1 hz2 cf;unfold hdV;go_enter Tryz.func167,Tryz.ntmps167;go_wp2_with fail
 go_region_law
  ((refine step_append_lies _ vF _ _ _ vF B 38 i0 (.agg #[.int .u8 0,.int .u8 0,.int .i64 0,.string ⟨#[]⟩,.string ⟨#[]⟩,.slice none 0 0,.int .i64 0,.int .i64 0]) 8 96 Tryz.underlying24 Hi.out Hz0.out Hz1.out Hz2.out rfl tG (.slice la nds.length lc) nds.length (Fb kvs nds) vF Ow.out ⟨w.heap.size+1,0,none⟩ 1 1 [.int .u8 op,.int .u8 vk,.int .i64 vn,.string ⟨vs.toArray⟩,.string ⟨nm.toArray⟩,.slice ka kids.length kc,.int .i64 ln,.int .i64 cl] vF vF (World.news_of_block (cs:= #[.int .u8 op,.int .u8 vk,.int .i64 vn,.string ⟨vs.toArray⟩,.string ⟨nm.toArray⟩,.slice ka kids.length kc,.int .i64 ln,.int .i64 cl]) (t:=38) (fr:=(0,0)) HN.out) tS tG tQ tE (by rw[HS.out];omega) (w.heap.size+2) HS.out ?_;intro g cap w3 hown3 hgrow hat hlt;have r0:=(hgrow.cell_far ⟨b,3,none⟩ uS (Ne.symm hbt.out)).trans p3;have rf:=(hgrow.frozen_far ⟨b,3,none⟩ uS (Ne.symm hbt.out)).trans pf))
 all_goals
  have hG:=H.out.lay (n:=⟨⟨op,(vk,vn,vs),nm,ln,cl⟩,kids⟩) HK1.out HK2.out HK.out Hkx.out OW.out hgrow hown3 (fun x hx=>by
   simp only[Value.ownBlock,Option.some.injEq] at hx;subst hx;rcases hat with q|q
   ·exact .inl q
   exact .inr tE) hroom
  clear hown3 hgrow hat hlt r0 rf p3 pf c0 c1 c2 c3 Ow OW HS hbt HN HK1 HK2 HK;obtain⟨W1,hW1⟩:∃W1,w3.setCell ⟨b,3,none⟩ (.slice (some ⟨g,0,none⟩) (nds.length+1) cap)=W1:=⟨_,rfl⟩;rw[hW1] at hG ⊢;clear hW1;obtain⟨_,_,_,c3,_⟩:=Dx hG.1.blk;have HG:=Ax hG;clear hG;go_wp2_with fail;go_ret;refine⟨?_,_,HG.out.1,HG.out.2⟩
  first|rfl|(simp;done)
open Go Go.RowKit Go.MapKept
def R4 (w:World)(b:Nat)(l:List (List UInt8×Value)):Prop:=
 ∃es clock,w.heap[b]? =some (.map es clock)/\Stamped es clock/\es.toList.map (fun e=>(e.key,e.val))=l.map (fun p=>(Value.string ⟨p.1.toArray⟩,p.2))
theorem R4.of_block {w w':World}{b:Nat}{l:List (List UInt8×Value)}(h:R4 w b l)(he:w'.heap[b]? =w.heap[b]?):R4 w' b l:=by
 obtain⟨es,c,h1,h2,h3⟩:=h;exact⟨es,c,he.trans h1,h2,h3⟩
theorem R4.lt {w:World}{b:Nat}{l:List (List UInt8×Value)}(h:R4 w b l):b<w.heap.size:=by
 obtain⟨es,c,h1,_⟩:=h;exact Ay h1
theorem R4.new (w:World):R4 (w.alloc (.map #[] 0)) w.heap.size []:=⟨#[],0,(MapKept.heap_alloc w _).1,stamped_empty 0,rfl⟩
def Pp (l:List (List UInt8×Value))(k:List UInt8):Option Value:=(l.find? (fun p=>p.1==k)).map (·.2)
theorem Y8 {a b:List UInt8}:((⟨a.toArray⟩:ByteArray)==⟨b.toArray⟩)=(b==a):=by
 rw[Bool.eq_iff_iff,MapKept.bytes_beq,beq_iff_eq];constructor
 ·intro e
  have:=Ar (fun x:ByteArray=>x.data.toList) e
  simpa using this.symm
 rintro rfl;rfl
theorem Mh (k:List UInt8):∀(es:List MapEntry) (l:List (List UInt8×Value)) (i:Nat),es.map (fun e=>(e.key,e.val))=l.map (fun p=>(Value.string ⟨p.1.toArray⟩,p.2))->
 Instr.findNow .string (.string ⟨k.toArray⟩) es i=some ((l.findIdx? (fun p=>p.1==k)).bind fun j=>(l[j]?).map fun p=>(i+j,p.2))
 |[],[],_,_=>rfl
 |[],_::_,_,h=>by simp at h
 |_::_,[],_,h=>by simp at h
 |e::es,p::l,i,h=>by
  simp only[List.map_cons,List.cons.injEq,Prod.mk.injEq] at h;obtain⟨⟨h1,h2⟩,h3⟩:=h;by_cases hk:p.1=k
  ·subst hk;simp [Instr.findNow,h1,Instr.sameNow,h2,List.findIdx?_cons,Y8]
  have hb2:(p.1==k)=false:=by simpa using hk
  rw[show Instr.findNow .string (.string ⟨k.toArray⟩) (e::es) i=Instr.findNow .string (.string ⟨k.toArray⟩) es (i+1) from by simp only[Instr.findNow,h1,Instr.sameNow,Y8,hb2],Mh k es l (i+1) h3];exact zwu
theorem fC (l:List (List UInt8×Value))(k:List UInt8):Pp l k=(l.findIdx? (fun p=>p.1==k)).bind fun j=>(l[j]?).map (·.2):=by
 induction l with
 |nil=>rfl
 |cons p l ih=>
  unfold Pp at ih ⊢;exact zxk
section
variable {P:Program} {w:World} {t kt et:TypeId} {b:Nat} {l:List (List UInt8×Value)}
theorem Rk (ht:P.underlying t=some (.map kt et))(hk:P.underlying kt=some .string)(h:R4 w b l){z:Value}(hz:(zeroValue et).run P w= .ok z w)(k:List UInt8):
 (Instr.lookup t (.map (some b)) (.string ⟨k.toArray⟩) true).run P w= .ok (G1 z (Pp l k)) w:=by
 obtain⟨es,c,h1,h2,h3⟩:=h;have hf:=run_findKey (P:=P) (w:=w) hk (Mh k es.toList l 0 h3);rw[fC];simp only[Instr.lookup,Sem.run_bind,run_underlying ht,MapKept.run_getObj_map h1,Result.andThen_ok,Sem.run_pure,run_checkKey (k:= .string ⟨k.toArray⟩) hk trivial,hf];cases hi:l.findIdx? (fun p=>p.1==k) with
 |none=>simp [hz,G1]
 |some j=>
  have hj:=(List.findIdx?_eq_some_iff_getElem.1 hi).1;simp [Ag hj,G1]
theorem E9 (ht:P.underlying t=some (.map kt et))(hk:P.underlying kt=some .string)(h:R4 w b l)(k:List UInt8)(v:Value)(hn:l.findIdx? (fun p=>p.1==k)=none):
 ∃w',(Instr.mapUpdate t (.map (some b)) (.string ⟨k.toArray⟩) v).run P w= .ok () w'/\R4 w' b (l++[(k,v)])/\Bc [b] w w'/\w'.heap.size=w.heap.size:=by
 obtain⟨es,c,h1,h2,h3⟩:=h;have hf:=run_findKey (P:=P) (w:=w) hk (Mh k es.toList l 0 h3);rw[hn] at hf;refine⟨{w with heap:=w.heap.setIfInBounds b (.map (es.push {key:= .string ⟨k.toArray⟩,val:=v,born:=c}) (c+1))},?_,?_,⟨rfl,rfl,rfl,by simp,fun i _ hn=>?_⟩,by simp⟩
 ·simp only[Instr.mapUpdate,Sem.run_bind,run_underlying ht,MapKept.run_getObj_map h1,Result.andThen_ok,run_checkKey (k:= .string ⟨k.toArray⟩) hk trivial,hf,Option.bind_none,MapKept.run_setObj_map _ h1]
 ·refine⟨_,_,(heap_set h1).1,stamped_push h2 ?_,by simp [h3]⟩;intro x hx hxk;have hm:(x.key,x.val)∈es.toList.map (fun e=>(e.key,e.val)):=List.mem_map.2 ⟨x,hx,rfl⟩;rw[h3] at hm;obtain⟨p,hp,q⟩:=List.mem_map.1 hm;simp only[Prod.mk.injEq] at q;rw[hxk] at q;have h4:=List.findIdx?_eq_none_iff.1 hn p hp
  have h5:p.1=k:=by
   have:=q.1
   injection this with this
   have:=Ar (fun x:ByteArray=>x.data.toList) this
   simpa using this
  simp [h5] at h4
 have:b≠i:=fun e=>hn (by simp [e])
 simp [this]
end
end Go.Proofs.YtmpfilddeglgbaaGreatDoor
