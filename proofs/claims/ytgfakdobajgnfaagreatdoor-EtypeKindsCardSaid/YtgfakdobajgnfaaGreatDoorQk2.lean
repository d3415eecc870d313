import Derived.Laws.Externs
import Derived.Test.YtgfakdobajgnfaaGreatDoorQk1
set_option maxRecDepth 100000
set_option maxHeartbeats 16000000
namespace Go.Proofs.YtgfakdobajgnfaaGreatDoor
open Go Go.RowKit
def En:List Value->List Nd->List Value
 |kv::kvs,n::ns=> .int .u8 n.h.op:: .int .u8 n.h.v.1:: .int .i64 n.h.v.2.1:: .string ⟨n.h.v.2.2.toArray⟩:: .string ⟨n.h.name.toArray⟩::kv:: .int .i64 n.h.line:: .int .i64 n.h.col::En kvs ns
 |_,_=>[]
def Ea (l:List Nat):List Value:=l.map fun(k:Nat)=>Value.int .i64 (k:Int)
def C8 (w:World)(B:Nat)(X:List Nat):List Value->List Nd->Prop
 |[],[]=>True
 |v::vs,n::ns=>(w.ownsRow B 3 1 v n.kids.length (Ea n.kids)/\∀g,v.ownBlock=some g->g∉X)/\C8 w B X vs ns
 |_,_=>False
theorem C8.snoc {w:World}{B:Nat}{X:List Nat}{v:Value}{n:Nd}:∀{vs:List Value} {ns:List Nd},C8 w B X vs ns->(w.ownsRow B 3 1 v n.kids.length (Ea n.kids)/\∀g,v.ownBlock=some g->g∉X)->C8 w B X (vs++[v]) (ns++[n])
 |[],[],_,h=>⟨h,trivial⟩
 |_::_,_::_,h,k=>⟨h.1,C8.snoc h.2 k⟩
 |[],_::_,h,_=>h.elim
 |_::_,[],h,_=>h.elim
theorem C8.imp {w w':World}{B:Nat}{X:List Nat}{Y:List Nat}(c:∀v n d,(∀g,v.ownBlock=some g->g∉X)->w.ownsRow B 3 1 v n d->w'.ownsRow B 3 1 v n d/\∀g,v.ownBlock=some g->g∉Y):∀{vs:List Value} {ns:List Nd},C8 w B X vs ns->C8 w' B Y vs ns
 |[],[],_=>trivial
 |_::_,_::_,h=>⟨c _ _ _ h.1.2 h.1.1,C8.imp c h.2⟩
 |[],_::_,h=>h.elim
 |_::_,[],h=>h.elim
theorem C8.base {w:World}{B c:Nat}{X:List Nat}(d:c<=B):∀{vs:List Value} {ns:List Nd},C8 w B X vs ns->C8 w c X vs ns
 |[],[],_=>trivial
 |_::_,_::_,h=>⟨⟨Tn h.1.1 d,h.1.2⟩,C8.base d h.2⟩
 |[],_::_,h=>h.elim
 |_::_,[],h=>h.elim
theorem C8.len {w:World}{B:Nat}{X:List Nat}:∀{vs:List Value} {ns:List Nd},C8 w B X vs ns->vs.length=ns.length
 |[],[],_=>rfl
 |_::_,_::_,h=>by simp [C8.len h.2]
 |[],_::_,h=>h.elim
 |_::_,[],h=>h.elim
theorem Mp {v:Value}{n:Nd}:∀{vs:List Value} {ns:List Nd},vs.length=ns.length->En (vs++[v]) (ns++[n])=En vs ns++En [v] [n]
 |[],[],_=>rfl
 |_::vs,_::ns,h=>by simp [En,Mp (vs:=vs) (ns:=ns) sD]
 |[],_::_,h=>by simp at h
 |_::_,[],h=>by simp at h
def Hh (w:World)(B:Nat)(X:List Nat)(v:Value)(c:List Nd):Prop:=∃d,w.ownsRow B 43 8 v c.length (En d c)/\C8 w B X d c
structure Cy (w:World)(B:Nat)(X:List Nat)(b:Nat)(vl:Value)(ts r:List Tkn)(d:Nat)(vt:Value)(nds:List Nd):Prop where
 suf:Suf r ts
 toks:Ih w vl ts
 nam:∀t∈ts,t.w.k=1->t.w.t≠[40]
 tl:∀g,vl.ownBlock=some g->g<B
 hB:B<=b
 xl:∀x∈X,x<w.heap.size
 hd:d<=12
 big:ts.length<=1000000
 few:nds.length+r.length<=1000000
 blk:w.heap[b]? =some (.cells #[vl,.int .i64 ((ts.length - r.length:Nat):Int),.int .i64 (d:Int),vt] 130 (0,0))
 tree:Hh w B X vt nds
def kF (w:World)(b:Nat)(c:Value)(p:Nat):Prop:=∃d e,w.heap[b]? =some (.cells #[c,.int .i64 (p:Int),d,e] 130 (0,0))
structure Rch (b:Nat)(w:World)(vt:Value)(w':World)(vt':Value):Prop where
 only:Bb (b::vt.ownBlock.toList) w w'
 own:∀g,vt'.ownBlock=some g->vt.ownBlock=some g\/w.heap.size<=g
theorem Rch.refl (b:Nat)(w:World)(c:Value):Rch b w c w c:=⟨Bb.refl _ _,fun _ h=> .inl h⟩
theorem Rch.trans {b:Nat}{w d f:World}{j v1 v2:Value}(h:Rch b w j d v1)(k:Rch b d v1 f v2):Rch b w j f v2:=by
 refine⟨h.only.step k.only fun i c=>?_,fun g m=>?_⟩
 ·rcases List.mem_cons.1 c with rfl|c
  ·exact .inl Ai
  have e:v1.ownBlock=some i:=by simpa using c
  rcases h.own i e with q|q
  ·exact .inl (Aj _ (by simpa using q))
  exact .inr q
 rcases k.own g m with q|q
 ·exact h.own g q
 exact .inr (Al h.only.size q)
theorem Rch.err {b:Nat}{w c d:World}{e v1:Value}(h:Rch b w e c v1)(k:Bb (b::v1.ownBlock.toList) c d):Bb (b::e.ownBlock.toList) w d:=
 (h.trans (v2:=v1) ⟨k,fun _ q=> .inl q⟩).only
theorem Rch.of_below {b:Nat}{w w':World}(c:Value)(h:Below w.heap.size w w'):Rch b w c w' c:=⟨Bb.of_below h _,fun _ q=> .inl q⟩
theorem Rch.of_only {b:Nat}{w w':World}(c:Value)(h:Bb [b] w w'):Rch b w c w' c:=⟨h.mono fun i d=>by simp at d;simp [d],fun _ q=> .inl q⟩
theorem Suf.at_drop {r ts:List Tkn}(h:Suf r ts):r=ts.drop (ts.length - r.length):=by
 obtain⟨k,rfl⟩:=h;rw[List.length_drop];by_cases hk:k<=ts.length
 ·rw[show ts.length - (ts.length - k)=k by omega]
 rw[List.drop_eq_nil_of_le rF,List.drop_eq_nil_of_le rF]
theorem Hh.imp {w w':World}{B:Nat}{X:List Nat}{v:Value}{c:List Nd}(h:Hh w B X v c)(f:∀d,w.ownsRow B 43 8 v c.length d->w'.ownsRow B 43 8 v c.length d)
 {Y:List Nat} (i:∀v n d,(∀g,v.ownBlock=some g->g∉X)->w.ownsRow B 3 1 v n d->w'.ownsRow B 3 1 v n d/\∀g,v.ownBlock=some g->g∉Y):Hh w' B Y v c:=by
 obtain⟨e,j,k⟩:=h;exact⟨e,f _ j,k.imp i⟩
theorem Hh.below {w w':World}{B:Nat}{X:List Nat}{v:Value}{c:List Nd}(h:Hh w B X v c)(d:Below w.heap.size w w'):Hh w' B X v c:=h.imp (fun _ q=>Cg q d) fun _ _ _ n q=>⟨Cg q d,n⟩
theorem Hh.own {w:World}{B:Nat}{X:List Nat}{v:Value}{c:List Nd}(h:Hh w B X v c):∀g,v.ownBlock=some g->B<=g:=by
 obtain⟨d,e,_⟩:=h;exact Co e
theorem Hh.not {w:World}{B k:Nat}{X:List Nat}{t:TypeId}{v:Value}{c:List Nd}{cs:Array Value}(h:Hh w B X v c)(d:w.heap[k]? =some (.cells cs t (0,0)))(e:43≠t):v.ownBlock≠some k:=by
 obtain⟨f,g,_⟩:=h;exact Bh g d e
theorem Cy.below {w w':World}{B b d:Nat}{X:List Nat}{f g:Value}{ts r:List Tkn}{c:List Nd}(h:Cy w B X b f ts r d g c)(e:Below w.heap.size w w'):Cy w' B X b f ts r d g c:=
 ⟨h.suf,h.toks.below e,h.nam,h.tl,h.hB,fun x i=>Nat.lt_of_lt_of_le (h.xl x i) e.size,h.hd,h.big,h.few,(e.block b (Ay h.blk)).trans h.blk,h.tree.below e⟩
theorem Cy.turn {w w':World}{B b d d':Nat}{X:List Nat}{f i:Value}{ts r r':List Tkn}{c:List Nd}(h:Cy w B X b f ts r d i c)(ho:Bb [b] w w')(hs:Suf r' r)(hd:d'<=12)
 (hb:w'.heap[b]? =some (.cells #[f,.int .i64 ((ts.length - r'.length:Nat):Int),.int .i64 (d':Int),i] 130 (0,0))):Cy w' B X b f ts r' d' i c:=by
 exact zyj
theorem Dn {w:World}{b:Nat}{x y z u:Value}{t:TypeId}(h:w.heap[b]? =some (.cells #[x,y,z,u] t (0,0))):
 w.cell? ⟨b,0,none⟩=some x/\w.cell? ⟨b,1,none⟩=some y/\w.cell? ⟨b,2,none⟩=some z/\w.cell? ⟨b,3,none⟩=some u/\∀i,w.frozen? ⟨b,i,none⟩=false:=
 ⟨by simp only[World.cell?,h];rfl,by simp only[World.cell?,h];rfl,by simp only[World.cell?,h];rfl,by simp only[World.cell?,h];rfl,fun i=>by simp only[World.frozen?,h];simp⟩
theorem A3 (w:World)(b i:Nat)(u:Value):Bb [b] w (w.setCell ⟨b,i,none⟩ u):=(Bb.refl [b] w).setCell (.inl rI) u
theorem Cy.step {w:World}{B b d:Nat}{X:List Nat}{e f:Value}{ts q:List Tkn}{t:Tkn}{c:List Nd}(h:Cy w B X b e ts (t::q) d f c):
 Cy (w.setCell ⟨b,1,none⟩ (.int .i64 (((ts.length - (q.length+1):Nat):Int)+1))) B X b e ts q d f c:=by
 exact zxb
theorem Cy.deep {w:World}{B b d d':Nat}{X:List Nat}{e f:Value}{ts r:List Tkn}{c:List Nd}(h:Cy w B X b e ts r d f c)(hd:d'<=12):Cy (w.setCell ⟨b,2,none⟩ (.int .i64 (d':Int))) B X b e ts r d' f c:=by
 refine h.turn (A3 _ _ _ _) (Suf.refl _) hd ?_;rw[A2 h.blk];rfl
theorem Cy.head {w:World}{B b d:Nat}{X:List Nat}{i j:Value}{ts q:List Tkn}{t:Tkn}{f:List Nd}(h:Cy w B X b i ts (t::q) d j f):∃g c,i= .slice (some ⟨g,0,none⟩) ts.length c/\g<w.heap.size/\ts.length - (t::q).length<ts.length/\
 w.cell? ⟨g,(ts.length - (t::q).length)*7,none⟩=some (.int .u8 t.w.k)/\w.cell? ⟨g,(ts.length - (t::q).length)*7+1,none⟩=some (.string ⟨t.w.t.toArray⟩)/\w.cell? ⟨g,(ts.length - (t::q).length)*7+2,none⟩=some (.int .u8 t.w.v.1)/\
 w.cell? ⟨g,(ts.length - (t::q).length)*7+3,none⟩=some (.int .i64 t.w.v.2.1)/\w.cell? ⟨g,(ts.length - (t::q).length)*7+4,none⟩=some (.string ⟨t.w.v.2.2.toArray⟩)/\w.cell? ⟨g,(ts.length - (t::q).length)*7+5,none⟩=some (.int .i64 t.line)/\w.cell? ⟨g,(ts.length - (t::q).length)*7+6,none⟩=some (.int .i64 t.col):=by
 exact zyf
open Go Go.RowKit
theorem Lp {w:World}{B b d:Nat}{X:List Nat}{A C:Value}{ts r:List Tkn}{i:List Nd}(h:Cy w B X b A ts r d C i)(s:List UInt8):
 Calls Tryz.prog 206 #[.pointer (some ⟨b,0,none⟩),.string ⟨s.toArray⟩] w fun e w'=>e= .returned (.bool (isH s r))/\Below w.heap.size w w':=by
 obtain⟨L,D,M,N,_⟩:=Dn h.blk;have m:=h.suf.len;have o:=h.big;cases r with
 |nil=>
  obtain⟨O,R,rfl⟩:=h.toks.form;have E:¬(((ts.length - ([]:List Tkn).length:Nat):Int)<(ts.length:Int)):=by simp
  have F:decide (((ts.length - ([]:List Tkn).length:Nat):Int)<(ts.length:Int))=false:=by simp
  clear h m;go_enter Tryz.func206,Tryz.ntmps206;exact zyq
 |cons t q=>
  obtain⟨g,c,rfl,T,j,p,u,_⟩:=h.head;obtain⟨n,v⟩:∃n,ts.length - (t::q).length=n:=⟨_,rfl⟩;rw[v] at D j p u;have E:(n:Int)<(ts.length:Int):=by omega
  have F:decide ((n:Int)<(ts.length:Int))=true:=by simp;omega
  have U:(0:Int)<=(n:Int):=by omega
  clear h m v;by_cases hs:t.w.t=s
  ·have x:(t.w.t==s)=true:=by simpa using hs
   have f:isH s (t::q)=(decide (t.w.k=1)||decide (t.w.k=7)):=by simp [isH,hs]
   rw[f];obtain⟨k,y⟩:∃k,t.w.k=k:=⟨_,rfl⟩;rw[y] at p ⊢;clear y f;rw[hs] at u;clear hs x;by_cases k1:k=1
   ·subst k1;go_enter Tryz.func206,Tryz.ntmps206;exact zyq
   have V:(k==1)=false:=by simpa using k1
   have G:decide (k=1)=false:=by simpa using k1
   rw[G];by_cases k7:k=7
   ·subst k7;go_enter Tryz.func206,Tryz.ntmps206;exact zyq
   have W:(k==7)=false:=by simpa using k7
   have I:decide (k=7)=false:=by simpa using k7
   rw[I];go_enter Tryz.func206,Tryz.ntmps206;exact zyq
  have x:(t.w.t==s)=false:=by simpa using hs
  have f:isH s (t::q)=false:=by simp [isH,hs]
  rw[f];go_enter Tryz.func206,Tryz.ntmps206;exact zyq
abbrev D2 (e:Int):Ending:= .panicked [{v:= .iface 131 (.int .i64 e),recovered:=false}]
theorem Px {w:World}{B b:Nat}{X:List Nat}{f g:Value}{ts r:List Tkn}{c:List Nd}(h:Cy w B X b f ts r 12 g c):
 Calls Tryz.prog 207 #[.pointer (some ⟨b,0,none⟩)] w fun e w'=>e=D2 12/\w'=w:=by
 obtain⟨k,m,d,n,i⟩:=Dn h.blk;have j:w.cell? ⟨b,2,none⟩=some (.int .i64 12):=d;clear h i d;go_enter Tryz.func207,Tryz.ntmps207;go_wp2_with fail;exact⟨rfl,rfl,rfl⟩
theorem Re {w:World}{B b d:Nat}{X:List Nat}{f g:Value}{ts r:List Tkn}{c:List Nd}(h:Cy w B X b f ts r d g c)(hd:d≠12):
 Calls Tryz.prog 207 #[.pointer (some ⟨b,0,none⟩)] w fun e w'=>e= .returned (.tuple #[])/\Cy w' B X b f ts r (d+1) g c/\Bb [b] w w':=by
 obtain⟨p,q,u,v,i⟩:=Dn h.blk;have j:=h.hd;have m:=i 2;have x:((d:Int)==12)=false:=by simp;omega
 have k:=h.deep (d':=d+1) rF;have n:=Ax k;have o:=Ax (A3 w b 2 (.int .i64 ((d+1:Nat):Int)));clear h i k hd;go_enter Tryz.func207,Tryz.ntmps207;go_wp2_with fail
 go_end0
 exact⟨rfl,n.out,o.out⟩
theorem aD (w:World)(n:Nat)(o:Obj)(a b x y:Value)(T:TypeId)(c:o= .cells #[a,b] T):
 ((((((w.alloc o).drewN n).setCell ⟨w.heap.size,0,none⟩ x).setCell ⟨w.heap.size,1,none⟩ y).setCell ⟨w.heap.size,0,none⟩ x).setCell ⟨w.heap.size,1,none⟩ y).heap[w.heap.size]? =some (.cells #[x,y] T (0,0)):=by
 subst c;have d:((w.alloc (.cells #[a,b] T)).drewN n).heap[w.heap.size]? =some (.cells #[a,b] T (0,0)):=Az w _;rw[A2 (A2 (A2 (A2 d)))];rfl
theorem Bf {w:World}{b:Nat}{x y:Value}{t:TypeId}(h:w.heap[b]? =some (.cells #[x,y] t (0,0))):w.cell? ⟨b,0,none⟩=some x/\w.cell? ⟨b,1,none⟩=some y/\∀i,w.frozen? ⟨b,i,none⟩=false:=
 ⟨by simp only[World.cell?,h];rfl,by simp only[World.cell?,h];rfl,fun i=>by simp only[World.frozen?,h];simp⟩
theorem Uq {w:World}{B b d:Nat}{X:List Nat}{o p:Value}{ts r:List Tkn}{f:List Nd}(h:Cy w B X b o ts r d p f):
 Calls Tryz.prog 238 #[.pointer (some ⟨b,0,none⟩)] w fun e w'=>e= .returned (.agg #[.int .i64 (plH r).1,.int .i64 (plH r).2])/\Below w.heap.size w w':=by
 obtain⟨N,u,O,R,_⟩:=Dn h.blk;have j:=h.suf.len;have k:=h.big;have T:=Ay h.blk;cases r with
 |nil=>
  obtain⟨U,V,rfl⟩:=h.toks.form;have x:¬(((ts.length - ([]:List Tkn).length:Nat):Int)<(ts.length:Int)):=by simp
  have y:decide (((ts.length - ([]:List Tkn).length:Nat):Int)<(ts.length:Int))=false:=by simp
  clear h j;go_enter Tryz.func238,Tryz.ntmps238;go_wp2_with fail;go_quiet (fail);go_wp2_with fail;refine Au (v:= .agg #[.int .i64 0,.int .i64 0]) (by simp [results,Tryz.results238,go_sem, *]) rfl ?_;exact zwq
 |cons t q=>
  obtain⟨g,c,rfl,W,i,A,C,D,E,F,G,I⟩:=h.head;obtain⟨n,m⟩:∃n,ts.length - (t::q).length=n:=⟨_,rfl⟩;rw[m] at u i A C D E F G I;have x:(n:Int)<(ts.length:Int):=by omega
  have y:decide ((n:Int)<(ts.length:Int))=true:=by simp;omega
  have Y:(0:Int)<=(n:Int):=by omega
  clear h j m;go_enter Tryz.func238,Tryz.ntmps238;go_wp2_with fail;go_quiet (fail);go_wp2_with fail;go_region;go_wp2_with fail;obtain⟨L,M,_⟩:=Bf (aD w (nq+1) (.cells #[.int .i64 0,.int .i64 0] 33) _ _ (.int .i64 t.line) (.int .i64 t.col) _ rfl);refine Au (v:= .agg #[.int .i64 t.line,.int .i64 t.col]) (by simp [results,Tryz.results238,go_sem,L,M]) rfl ?_;exact⟨rfl,((((A8 ((Aq _ w).alloc (Ak _) _) _).setCell (Ak _) _).setCell (Ak _) _).setCell (Ak _) _).setCell (Ak _) _⟩
theorem I3 {w:World}{B b d:Nat}{X:List Nat}{m n:Value}{ts r:List Tkn}{f:List Nd}(h:Cy w B X b m ts r d n f)(s:List UInt8):
 Calls Tryz.prog 208 #[.pointer (some ⟨b,0,none⟩),.string ⟨s.toArray⟩] w fun e w'=>
  if isH s r then e= .returned (.tuple #[])/\Cy w' B X b m ts r.tail d n f/\Bb [b] w w' else e=D2 4/\Below w.heap.size w w':=by
 have g:=Lp h s;have i:=Ax g;have H:=Ax h;by_cases e:isH s r=true
 ·rw[e] at g i;rw[e];simp only[if_true];obtain⟨t,q,rfl⟩:=C6 e;clear g h;go_enter Tryz.func208,Tryz.ntmps208;go_wp2_with fail;refine i.out.mono ?_;rintro e V ⟨rfl,c⟩;have j:=H.out.below c;obtain⟨A,C,D,E,o⟩:=Dn j.blk;have v:=o 1;have p:=j.big;have k:=Ax j.step;have x:=Ax ((Bb.of_below c [b]).trans (A3 V b 1 (.int .i64 (((ts.length - (t::q).length:Nat):Int)+1))));clear o j H c;go_wp2_with fail
  go_end0
  exact⟨rfl,k.out,x.out⟩
 have u:isH s r=false:=by simpa using e
 rw[u] at g i;rw[u];simp only[Bool.false_eq_true,if_false];clear g h;go_enter Tryz.func208,Tryz.ntmps208;go_wp2_with fail;refine i.out.mono ?_;rintro e V ⟨rfl,c⟩;have y:=Ax c;clear c;go_wp2_with fail;exact⟨rfl,rfl,y.out⟩
open Go Go.RowKit
def pD:List (List UInt8×Int)->List Value
 |[]=>[]
 |o::l=> .string ⟨o.1.toArray⟩:: .int .u8 o.2::pD l
theorem Xh:∀(l:List (List UInt8×Int)) (i:Nat) (h:i<l.length),(pD l)[i*2]? =some (.string ⟨l[i].1.toArray⟩)/\(pD l)[i*2+1]? =some (.int .u8 l[i].2)
 |[],i,h=>by simp at h
 |o::l,0,_=>⟨rfl,rfl⟩
 |o::l,i+1,h=>by
  have:=Xh l i sD
  rw[show(i+1)*2=i*2+1+1 by omega];exact this
def Mm (w:World)(g:Nat)(l:List (List UInt8×Int)):Prop:=w.heap[g]? =some (.cells (pD l).toArray 228 (0,0))
theorem Mm.at {w:World}{g:Nat}{l:List (List UInt8×Int)}(h:Mm w g l){i:Nat}(c:i<l.length):w.cell? ⟨g,i*2,none⟩=some (.string ⟨l[i].1.toArray⟩)/\w.cell? ⟨g,i*2+1,none⟩=some (.int .u8 l[i].2):=by
 obtain⟨d,e⟩:=Xh l i c;constructor
 ·simp only[World.cell?,Mm] at h ⊢;rw[h];simpa using d
 simp only[World.cell?,Mm] at h ⊢;rw[h];simpa using e
theorem Mm.below {w w':World}{g:Nat}{l:List (List UInt8×Int)}(h:Mm w g l)(c:Below w.heap.size w w'):Mm w' g l:=(c.block g (Ay h)).trans h
theorem dG {w:World}{B b d:Nat}{X:List Nat}{N O:Value}{ts r:List Tkn}{A:List Nd}(h:Cy w B X b N ts r d O A){g:Nat}{l:List (List UInt8×Int)}(F:Mm w g l)(Z:l.length<=6):
 Calls Tryz.prog 239 #[.pointer (some ⟨b,0,none⟩),.slice (some ⟨g,0,none⟩) l.length l.length] w fun e w'=>e= .returned (.int .u8 (B6 r l))/\Below w.heap.size w w':=by
 have H:=Ax h;have R:=Ax F;clear h F;go_enter Tryz.func239,Tryz.ntmps239;go_wp2_with fail
 go_loopw [9] (fun C wr=>∃j:Nat,j<=l.length/\C= .int .i64 j/\Hid (B6 r (l.drop j)=B6 r l)/\Hid (Below w.heap.size w wr)) (fun C _=>l.length - (intOf C).toNat)
 case atStart=>exact⟨0,Nat.zero_le _,rfl,rfl,Aq _ _⟩
 obtain⟨j,hj,rfl,y,i⟩:=hrel;by_cases hjl:j<l.length
 ·obtain⟨D,E⟩:=(R.out.below i.out).at hjl;have G:=List.drop_eq_getElem_cons hjl
  have c:(if isH l[j].1 r then l[j].2 else B6 r (l.drop (j+1)))=B6 r l:=by
   rw[←y.out,G];rfl
  obtain⟨⟨s,o⟩,p⟩:∃x,l[j]=x:=⟨_,rfl⟩;rw[p] at D E c;simp only at D E c;have i1:(0:Int)<=(j:Int):=by omega
  have i2:(j:Int)<(l.length:Int):=by omega
  have k:Below wr.heap.size wr (wr.alloc (.cells #[.string ⟨s.toArray⟩,.int .u8 o] 228)):=(Aq _ wr).alloc (Ak _) _;have m:=Az wr (.cells #[.string ⟨s.toArray⟩,.int .u8 o] 228);obtain⟨T,I,_⟩:=Bf m;have L:=Ax (Lp ((H.out.below i.out).below k) s);have U:=Ax (Ay m);have q:=Ax (i.out.trans (k.mono i.out.size));have M:=Ax c;have W:(j:Int)<=6:=by omega
  clear y i k m G c p;go_wp2_with fail;refine L.out.mono ?_;rintro e V ⟨rfl,n⟩;have Y:=A4 n I;have u:=Ax (q.out.trans (n.mono q.out.size));have f:=M.out;clear T I D E n U q M L;cases hh:isH s r with
  |true=>
   rw[hh] at f;simp only[if_true] at f;have v:=Ax f;clear f;go_wp2_with fail;go_ret;exact⟨by rw[←v.out];rfl,u.out⟩
  |false=>
   rw[hh] at f;simp only[Bool.false_eq_true,if_false] at f;have v:=Ax f;clear f;go_wp2_with fail;go_roundw
   case rel=>exact⟨j+1,by omega,by go_num,v,u⟩
   case measure=>simp [intOf];omega
 obtain rfl:j=l.length:=by omega
 have c:=y.out;rw[List.drop_length] at c;have v:=Ax c;have q:=Ax i.out;clear y i c;go_wp2_with fail;go_ret;exact⟨by rw[←v.out];rfl,q.out⟩
theorem iU:(Tryz.prog.info? 43).map (fun i=>(i.zero,i.size,i.bytes))=some (some (.agg #[.int .u8 0,.int .u8 0,.int .i64 0,.string ⟨#[]⟩,.string ⟨#[]⟩,.slice none 0 0,.int .i64 0,.int .i64 0]),8,96):=by kernel_rfl
theorem I0:∃i,Tryz.prog.info? 43=some i/\i.zero=some (.agg #[.int .u8 0,.int .u8 0,.int .i64 0,.string ⟨#[]⟩,.string ⟨#[]⟩,.slice none 0 0,.int .i64 0,.int .i64 0])/\i.size=8/\i.bytes=96:=by
 have h:=iU;cases hi:Tryz.prog.info? 43 with
 |none=>simp [hi] at h
 |some i=>
  exact zxn
def hdV (h:Hd):Value:= .agg #[.int .u8 h.op,.int .u8 h.v.1,.int .i64 h.v.2.1,.string ⟨h.v.2.2.toArray⟩,.string ⟨h.name.toArray⟩,.slice none 0 0,.int .i64 h.line,.int .i64 h.col]
theorem Cy.lay {w W Z:World}{B b d:Nat}{X:List Nat}{m vt f kv:Value}{ts r:List Tkn}{c:List Nd}{kvs:List Value}{n:Nd}(h:Cy w B X b m ts r d vt c)(hk1:w.ownsRow B 43 8 vt c.length (En kvs c))(hk2:C8 w B X kvs c)
 (hkv:w.ownsRow B 3 1 kv n.kids.length (Ea n.kids)) (hkx:∀g,kv.ownBlock=some g->g∉X) (o:Below w.heap.size w W) (hg:W.grownBy Z vt.ownBlock) (hown:Z.ownsRow B 43 8 f (c.length+1) (En kvs c++En [kv] [n])) (hv:∀g,f.ownBlock=some g->vt.ownBlock=some g\/w.heap.size<=g)
 (hroom:c.length+1+r.length<=1000000):Cy (Z.setCell ⟨b,3,none⟩ f) B X b m ts r d f (c++[n])/\Rch b w vt (Z.setCell ⟨b,3,none⟩ f) f:=by
 have p:Bb vt.ownBlock.toList w Z:=(Bb.of_below o _).trans (Bb.of_grown hg _ fun k y=>by simp [y]);have u:vt.ownBlock≠some b:=h.tree.not h.blk rH;have j:Z.heap[b]? =some (.cells #[m,.int .i64 ((ts.length - r.length:Nat):Int),.int .i64 (d:Int),vt] 130 (0,0)):=(p.block b (Ay h.blk) (by simpa using u)).trans h.blk
 have hb2:(Z.setCell ⟨b,3,none⟩ f).heap[b]? =some (.cells #[m,.int .i64 ((ts.length - r.length:Nat):Int),.int .i64 (d:Int),f] 130 (0,0)):=by
  rw[A2 j];rfl
 have hO:Bb (b::vt.ownBlock.toList) w (Z.setCell ⟨b,3,none⟩ f):=(p.mono fun i A=>Aj _ A).setCell (.inl rI) _
 have hint:∀v k xs,w.ownsRow B 3 1 v k xs->Z.ownsRow B 3 1 v k xs:=fun v k xs q=>Bj q p fun g e hm=>by
  exact zxa
 have hset:∀{t:TypeId} {sz:Nat} v k xs,t≠130->Z.ownsRow B t sz v k xs->(Z.setCell ⟨b,3,none⟩ f).ownsRow B t sz v k xs:=fun v k xs C q=>Bj q (A3 Z b 3 f) fun g e hm=>by
  simp at hm;subst hm;exact Bh q j C e
 exact zyu
theorem N9 {w:World}{B b d:Nat}{X:List Nat}{vl vt:Value}{ts r:List Tkn}{c:List Nd}(h:Cy w B X b vl ts r d vt c)(k:c.length+1+r.length<=1000000)(hB:B<=w.heap.size)(hd:Hd)(kids:List Nat)(ka:Option Addr)(kc:Nat)(hk:w.ownsRow B 3 1 (.slice ka kids.length kc) kids.length (Ea kids))(o:∀g,(Value.slice ka kids.length kc).ownBlock=some g->g∉X):
 Calls Tryz.prog 209 #[.pointer (some ⟨b,0,none⟩),hdV hd,.slice ka kids.length kc] w fun e w'=>e= .returned (.int .i64 (c.length:Int))/\∃u,Cy w' B X b vl ts r d u (c++[⟨hd,kids⟩])/\Rch b w vt w' u:=by
 obtain⟨v,j,y⟩:=h.tree;obtain⟨N,O,rfl⟩:=D8 j;obtain⟨c0,c1,c2,R,cf⟩:=Dn h.blk;have T:=cf 3;obtain⟨i0,hi,A,C,D⟩:=I0;have hb:=Ay h.blk;obtain⟨op,⟨vk,vn,vs⟩,nm,ln,cl⟩:=hd;have Ow:Hid (((w.alloc (.cells #[.int .u8 op,.int .u8 vk,.int .i64 vn,.string ⟨vs.toArray⟩,.string ⟨nm.toArray⟩,.slice ka kids.length kc,.int .i64 ln,.int .i64 cl] 43)).alloc (.cells #[.int .u8 op,.int .u8 vk,.int .i64 vn,.string ⟨vs.toArray⟩,.string ⟨nm.toArray⟩,.slice ka kids.length kc,.int .i64 ln,.int .i64 cl] 43)).drew.ownsRow B 43 8 (.slice N c.length O) c.length (En v c)):=Ax (Cg j (Bb.drew (((Bb.refl [] w).alloc _).alloc _)).below);have L:Hid (Below w.heap.size w ((w.alloc (.cells #[.int .u8 op,.int .u8 vk,.int .i64 vn,.string ⟨vs.toArray⟩,.string ⟨nm.toArray⟩,.slice ka kids.length kc,.int .i64 ln,.int .i64 cl] 43)).alloc (.cells #[.int .u8 op,.int .u8 vk,.int .i64 vn,.string ⟨vs.toArray⟩,.string ⟨nm.toArray⟩,.slice ka kids.length kc,.int .i64 ln,.int .i64 cl] 43)).drew):=Ax (Bb.drew (((Bb.refl [] w).alloc _).alloc _)).below;have HS:Hid (((w.alloc (.cells #[.int .u8 op,.int .u8 vk,.int .i64 vn,.string ⟨vs.toArray⟩,.string ⟨nm.toArray⟩,.slice ka kids.length kc,.int .i64 ln,.int .i64 cl] 43)).alloc (.cells #[.int .u8 op,.int .u8 vk,.int .i64 vn,.string ⟨vs.toArray⟩,.string ⟨nm.toArray⟩,.slice ka kids.length kc,.int .i64 ln,.int .i64 cl] 43)).drew.heap.size=w.heap.size+2):=Ax tT;have m:Hid (Value.ownBlock (.slice N c.length O)≠some b):=Ax (h.tree.not h.blk rH)
 have HN:Hid (((w.alloc (.cells #[.int .u8 op,.int .u8 vk,.int .i64 vn,.string ⟨vs.toArray⟩,.string ⟨nm.toArray⟩,.slice ka kids.length kc,.int .i64 ln,.int .i64 cl] 43)).alloc (.cells #[.int .u8 op,.int .u8 vk,.int .i64 vn,.string ⟨vs.toArray⟩,.string ⟨nm.toArray⟩,.slice ka kids.length kc,.int .i64 ln,.int .i64 cl] 43)).drew.heap[w.heap.size+1]? =some (.cells #[.int .u8 op,.int .u8 vk,.int .i64 vn,.string ⟨vs.toArray⟩,.string ⟨nm.toArray⟩,.slice ka kids.length kc,.int .i64 ln,.int .i64 cl] 43)):=Ax (by
  exact zyw)
 have p3:=A4 L.out R;have pf:((w.alloc (.cells #[.int .u8 op,.int .u8 vk,.int .i64 vn,.string ⟨vs.toArray⟩,.string ⟨nm.toArray⟩,.slice ka kids.length kc,.int .i64 ln,.int .i64 cl] 43)).alloc (.cells #[.int .u8 op,.int .u8 vk,.int .i64 vn,.string ⟨vs.toArray⟩,.string ⟨nm.toArray⟩,.slice ka kids.length kc,.int .i64 ln,.int .i64 cl] 43)).drew.frozen? ⟨b,3,none⟩=false:=(L.out.frozen (p:=⟨b,3,none⟩) hb).trans T;have E:=Ax j;have F:=Ax y;have HK:=Ax hk;have U:=Ax o;have H:=Ax h;have Hi:=Ax hi;have V:=Ax A;have W:=Ax C;have Y:=Ax D;clear h j y hk o hi A C D cf;unfold hdV;go_enter Tryz.func209,Tryz.ntmps209;go_wp2_with fail
 go_region_law
  ((refine step_append_lies _ tI _ _ _ tI B 43 i0 (.agg #[.int .u8 0,.int .u8 0,.int .i64 0,.string ⟨#[]⟩,.string ⟨#[]⟩,.slice none 0 0,.int .i64 0,.int .i64 0]) 8 96 Tryz.underlying31 Hi.out V.out W.out Y.out rfl rH (.slice N c.length O) c.length (En v c) tI Ow.out ⟨w.heap.size+1,0,none⟩ 1 1 [.int .u8 op,.int .u8 vk,.int .i64 vn,.string ⟨vs.toArray⟩,.string ⟨nm.toArray⟩,.slice ka kids.length kc,.int .i64 ln,.int .i64 cl] tI tI (World.news_of_block (cs:= #[.int .u8 op,.int .u8 vk,.int .i64 vn,.string ⟨vs.toArray⟩,.string ⟨nm.toArray⟩,.slice ka kids.length kc,.int .i64 ln,.int .i64 cl]) (t:=43) (fr:=(0,0)) HN.out) rS rH rP rF (by rw[HS.out];omega) (w.heap.size+2) HS.out ?_;intro g Z w3 i f G a8;have r0:=(f.cell_far ⟨b,3,none⟩ sT (Ne.symm m.out)).trans p3;have rf:=(f.frozen_far ⟨b,3,none⟩ sT (Ne.symm m.out)).trans pf))
 all_goals
  have M:=H.out.lay (n:=⟨⟨op,(vk,vn,vs),nm,ln,cl⟩,kids⟩) E.out F.out HK.out U.out L.out f i (fun x hx=>by
   simp only[Value.ownBlock,Option.some.injEq] at hx;subst hx;rcases G with q|q
   ·exact .inl q
   exact .inr rF) k
  clear i f G a8 r0 rf p3 pf c0 c1 c2 R Ow L HS m HN E F HK;obtain⟨W1,I⟩:∃W1,w3.setCell ⟨b,3,none⟩ (.slice (some ⟨g,0,none⟩) (c.length+1) Z)=W1:=⟨_,rfl⟩;rw[I] at M ⊢;clear I;obtain⟨_,_,_,R,_⟩:=Dn M.1.blk;have HG:=Ax M;clear M;go_wp2_with fail;go_ret;refine⟨?_,_,HG.out.1,HG.out.2⟩
  first|rfl|(simp;done)
open Go Go.RowKit Go.MapKept
def Qq (w:World)(b:Nat)(l:List (List UInt8×Value)):Prop:=
 ∃d c,w.heap[b]? =some (.map d c)/\Stamped d c/\d.toList.map (fun e=>(e.key,e.val))=l.map (fun p=>(Value.string ⟨p.1.toArray⟩,p.2))
theorem Qq.of_block {w w':World}{b:Nat}{l:List (List UInt8×Value)}(h:Qq w b l)(d:w'.heap[b]? =w.heap[b]?):Qq w' b l:=by
 obtain⟨e,c,f,g,i⟩:=h;exact⟨e,c,d.trans f,g,i⟩
theorem Qq.lt {w:World}{b:Nat}{l:List (List UInt8×Value)}(h:Qq w b l):b<w.heap.size:=by
 obtain⟨e,c,d,_⟩:=h;exact Ay d
theorem Qq.new (w:World):Qq (w.alloc (.map #[] 0)) w.heap.size []:=⟨#[],0,(MapKept.heap_alloc w _).1,stamped_empty 0,rfl⟩
def O7 (l:List (List UInt8×Value))(k:List UInt8):Option Value:=(l.find? (fun p=>p.1==k)).map (·.2)
theorem Wt {a b:List UInt8}:((⟨a.toArray⟩:ByteArray)==⟨b.toArray⟩)=(b==a):=by
 rw[Bool.eq_iff_iff,MapKept.bytes_beq,beq_iff_eq];constructor
 ·intro e
  have:=Ar (fun x:ByteArray=>x.data.toList) e
  simpa using this.symm
 rintro rfl;rfl
theorem Lq (k:List UInt8):∀(c:List MapEntry) (l:List (List UInt8×Value)) (i:Nat),c.map (fun e=>(e.key,e.val))=l.map (fun p=>(Value.string ⟨p.1.toArray⟩,p.2))->
 Instr.findNow .string (.string ⟨k.toArray⟩) c i=some ((l.findIdx? (fun p=>p.1==k)).bind fun j=>(l[j]?).map fun p=>(i+j,p.2))
 |[],[],_,_=>rfl
 |[],_::_,_,h=>by simp at h
 |_::_,[],_,h=>by simp at h
 |e::c,p::l,i,h=>by
  simp only[List.map_cons,List.cons.injEq,Prod.mk.injEq] at h;obtain⟨⟨d,f⟩,g⟩:=h;by_cases hk:p.1=k
  ·subst hk;simp [Instr.findNow,d,Instr.sameNow,f,List.findIdx?_cons,Wt]
  have hb2:(p.1==k)=false:=by simpa using hk
  rw[show Instr.findNow .string (.string ⟨k.toArray⟩) (e::c) i=Instr.findNow .string (.string ⟨k.toArray⟩) c (i+1) from by simp only[Instr.findNow,d,Instr.sameNow,Wt,hb2],Lq k c l (i+1) g];exact zv9
theorem dO (l:List (List UInt8×Value))(k:List UInt8):O7 l k=(l.findIdx? (fun p=>p.1==k)).bind fun j=>(l[j]?).map (·.2):=by
 induction l with
 |nil=>rfl
 |cons p l ih=>
  unfold O7 at ih ⊢;exact zw4
section
variable {P:Program} {w:World} {t kt et:TypeId} {b:Nat} {l:List (List UInt8×Value)}
theorem Qc (e:P.underlying t=some (.map kt et))(d:P.underlying kt=some .string)(h:Qq w b l){z:Value}(f:(zeroValue et).run P w= .ok z w)(k:List UInt8):
 (Instr.lookup t (.map (some b)) (.string ⟨k.toArray⟩) true).run P w= .ok (Gd z (O7 l k)) w:=by
 obtain⟨g,c,i,q,m⟩:=h;have n:=run_findKey (P:=P) (w:=w) d (Lq k g.toList l 0 m);rw[dO];simp only[Instr.lookup,Sem.run_bind,run_underlying e,MapKept.run_getObj_map i,Result.andThen_ok,Sem.run_pure,run_checkKey (k:= .string ⟨k.toArray⟩) d trivial,n];cases hi:l.findIdx? (fun p=>p.1==k) with
 |none=>simp [f,Gd]
 |some j=>
  have o:=(List.findIdx?_eq_some_iff_getElem.1 hi).1;simp [Ag o,Gd]
theorem Eo (u:P.underlying t=some (.map kt et))(n:P.underlying kt=some .string)(h:Qq w b l)(k:List UInt8)(v:Value)(d:l.findIdx? (fun p=>p.1==k)=none):
 ∃w',(Instr.mapUpdate t (.map (some b)) (.string ⟨k.toArray⟩) v).run P w= .ok () w'/\Qq w' b (l++[(k,v)])/\Bb [b] w w'/\w'.heap.size=w.heap.size:=by
 obtain⟨f,c,g,y,j⟩:=h;have o:=run_findKey (P:=P) (w:=w) n (Lq k f.toList l 0 j);rw[d] at o;refine⟨{w with heap:=w.heap.setIfInBounds b (.map (f.push {key:= .string ⟨k.toArray⟩,val:=v,born:=c}) (c+1))},?_,?_,⟨rfl,rfl,rfl,by simp,fun i _ d=>?_⟩,by simp⟩
 ·simp only[Instr.mapUpdate,Sem.run_bind,run_underlying u,MapKept.run_getObj_map g,Result.andThen_ok,run_checkKey (k:= .string ⟨k.toArray⟩) n trivial,o,Option.bind_none,MapKept.run_setObj_map _ g]
 ·refine⟨_,_,(heap_set g).1,stamped_push y ?_,by simp [j]⟩;intro x A m;have r:(x.key,x.val)∈f.toList.map (fun e=>(e.key,e.val)):=List.mem_map.2 ⟨x,A,rfl⟩;rw[j] at r;obtain⟨p,C,q⟩:=List.mem_map.1 r;simp only[Prod.mk.injEq] at q;rw[m] at q;have D:=List.findIdx?_eq_none_iff.1 d p C
  have E:p.1=k:=by
   have:=q.1
   injection this with this
   have:=Ar (fun x:ByteArray=>x.data.toList) this
   simpa using this
  simp [E] at D
 have:b≠i:=fun e=>d (by simp [e])
 simp [this]
end
end Go.Proofs.YtgfakdobajgnfaaGreatDoor
