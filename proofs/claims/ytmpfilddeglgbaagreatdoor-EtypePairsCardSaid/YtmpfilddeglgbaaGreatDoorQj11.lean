import Derived.Test.YtmpfilddeglgbaaGreatDoorQj10
set_option maxRecDepth 100000
set_option maxHeartbeats 16000000
namespace Go.Proofs.YtmpfilddeglgbaaGreatDoor
open Go Go.RowKit Go.Lib Go.Shelf
attribute [local go_sem] Oper.semAt_some
def Sl (w:World)(r:Except (Int×Int×Int) (List Tkn))(e:Ending)(w':World):Prop:=
 Below w.heap.size w w'/\match r with
  | .ok ts=>∃v,e= .returned (.tuple #[v,.agg #[.int .i64 0,.int .i64 0],.int .i64 0])/\w'.ownsRow w.heap.size 63 7 v ts.length (Ek ts)
  | .error q=>e= .returned (.tuple #[.slice none 0 0,.agg #[.int .i64 q.1,.int .i64 q.2.1],.int .i64 q.2.2])
structure dA (s:ByteArray)(w:World)(pre:List It)(W:World):Prop where
 below:Below w.heap.size w W
 sbox:W.heap[w.heap.size]? =some (.cells #[.string s] 9 (0,0))
 row:∃v,W.heap[w.heap.size+1]? =some (.cells #[v] 59 (0,0))/\W.ownsRow w.heap.size 63 7 v pre.length (Ek (pre.map (R7 (dl s))))
 pl:W.heap[w.heap.size+1+1]? =some (.cells #[.int .i64 0,.int .i64 0] 26 (0,0))
 er:W.heap[w.heap.size+1+1+1]? =some (.cells #[.int .i64 0] 27 (0,0))
structure mB (s:ByteArray)(w:World)(pre:List It)(W:World):Prop where
 below:Below w.heap.size w W
 err:∃line col q,LX (dl s) 1 1= .error (line,col,q)/\W.heap[w.heap.size+1]? =some (.cells #[.slice none 0 0] 59 (0,0))/\
  W.heap[w.heap.size+1+1]? =some (.cells #[.int .i64 line,.int .i64 col] 26 (0,0))/\W.heap[w.heap.size+1+1+1]? =some (.cells #[.int .i64 q] 27 (0,0))
theorem fS {T:TypeId->Prop}{B B0:Nat}{A C:World}{t:TypeId}{sz n:Nat}{v:Value}{xs:List Value}(h:A.ownsRow B0 t sz v n xs)(ht:Fl T B A C)(hn:¬T t):C.ownsRow B0 t sz v n xs:=by
 obtain⟨h1,h2⟩:=h;refine⟨h1,?_⟩;rcases h2 with h2|⟨g,cap,cur,e,hb,hg,h3,h4,h5,h6⟩
 ·exact .inl h2
 exact .inr ⟨g,cap,cur,e,hb,ht.keeps hg (.inr ⟨_,_,_,rfl,hn⟩),h3,h4,h5,h6⟩
theorem Tj {T:TypeId->Prop}{B:Nat}{w A C:World}(h:Below w.heap.size w A)(ht:Fl T B A C)(hB:w.heap.size<=B):Below w.heap.size w C:=by
 obtain⟨row,h1,h2⟩:=ht;exact h.grown h1 h.size fun k e=>by have:=(h2 k e).1;omega
theorem dA.turn {s:ByteArray}{w A C:World}{pre:List It}{B:Nat}(h:dA s w pre A)(ht:Fl itT B A C)(hB:w.heap.size+4<=B):dA s w pre C:=by
 obtain⟨v,hv,hr⟩:=h.row;exact⟨Tj h.below ht tE,ht.keeps h.sbox (.inl tE),⟨v,ht.keeps hv (.inl tE),fS hr ht (by rintro (e|e)<;>exact absurd e tG)⟩,ht.keeps h.pl (.inl tE),ht.keeps h.er (.inl tE)⟩
theorem mB.turn {s:ByteArray}{w A C:World}{pre:List It}{B:Nat}(h:mB s w pre A)(ht:Fl itT B A C)(hB:w.heap.size+4<=B):mB s w pre C:=by
 obtain⟨line,col,q,h1,h2,h3,h4⟩:=h.err;exact⟨Tj h.below ht tE,line,col,q,h1,ht.keeps h2 (.inl tE),ht.keeps h3 (.inl tE),ht.keeps h4 (.inl tE)⟩
theorem lX {s:ByteArray}{w V Z1 X:World}{pre:List It}{x:It}{k:Int}{t:List UInt8}{vk vn:Int}{vs:List UInt8}{m:Nat}{va:Option Addr}{vc:Nat}{v3:Value}(tmp:Obj)
 (hI:dA s w pre V) (hof:Wm s (w.heap.size+5) pre x V) (hw:Bh ((dl s).drop x.i)= .ok (⟨k,t,(vk,vn,vs)⟩,m)) (hv:V.heap[w.heap.size+1]? =some (.cells #[.slice va pre.length vc] 59 (0,0)))
 (hrow:V.ownsRow w.heap.size 63 7 (.slice va pre.length vc) pre.length (Ek (pre.map (R7 (dl s))))) (hO:Bc [x.ptr] V Z1) (hbox:Z1.heap[x.ptr]? =some (.cells #[.int .i64 (m:Nat)] 3 (0,0)))
 (hg:(Z1.alloc tmp).grownBy X (Value.slice va pre.length vc).ownBlock)
 (hrow3:X.ownsRow w.heap.size 63 7 v3 (pre.length+1) (Ek (pre.map (R7 (dl s)))++[.int .u8 k,.string ⟨t.toArray⟩,.int .u8 vk,.int .i64 vn,.string ⟨vs.toArray⟩,.int .i64 x.line,.int .i64 x.col])):
 X.heap[w.heap.size+1]? =some (.cells #[.slice va pre.length vc] 59 (0,0))/\KeepsFrom (w.heap.size+5) V (X.setCell ⟨w.heap.size+1,0,none⟩ v3)/\sY s (w.heap.size+5) (w.heap.size+1+1+1+1) x V (X.setCell ⟨w.heap.size+1,0,none⟩ v3)/\dA s w (pre++[x]) (X.setCell ⟨w.heap.size+1,0,none⟩ v3):=by
 have hlow:=hof.low;have hzV:Z1.heap.size<=X.heap.size:=Al tH hg.size
 have hX:∀(kk:Nat) (o:Obj),Z1.heap[kk]? =some o->(Value.slice va pre.length vc).ownBlock≠some kk->X.heap[kk]? =some o:=fun kk o hk hn=>
  (hg.block kk (by have:=Ay hk;simp;omega) (fun e=>hn e.symm)).trans ((Below.heap_alloc _ _ _ (Ay hk)).trans hk)
 have hnt:∀(kk:Nat) (o:Obj),V.heap[kk]? =some o->(∀cs fz,o≠ .cells cs 63 fz)->(Value.slice va pre.length vc).ownBlock≠some kk:=fun kk o hk hn e=>by
  rcases hrow.2 with ⟨h1,_⟩|⟨g,cap,cur,h1,_,hg',_⟩
  ·rw[h1] at e;cases e
  rw[h1] at e;simp only[Value.ownBlock,Option.some.injEq] at e;subst e;rw[hg'] at hk;cases hk;exact hn _ _ rfl
 have key0:∀(kk:Nat) (o:Obj),V.heap[kk]? =some o->kk≠x.ptr->(∀cs fz,o≠ .cells cs 63 fz)->X.heap[kk]? =some o:=fun kk o hk h1 h2=>
  hX kk o ((hO.block kk (Ay hk) vY).trans hk) (hnt kk o hk h2)
 have key:∀(kk:Nat) (o:Obj),V.heap[kk]? =some o->kk≠x.ptr->kk≠w.heap.size+1->(∀cs fz,o≠ .cells cs 63 fz)->(X.setCell ⟨w.heap.size+1,0,none⟩ v3).heap[kk]? =some o:=fun kk o hk h1 h3 h2=>
  (Below.heap_setCell _ _ _ _ (by simpa using h3)).trans (key0 kk o hk h1 h2)
 have hpx:(X.setCell ⟨w.heap.size+1,0,none⟩ v3).heap[x.ptr]? =some (.cells #[.int .i64 (m:Nat)] 3 (0,0)):=
  (Below.heap_setCell _ _ _ _ tL).trans (hX _ _ hbox (hnt _ _ hof.box (fun cs fz e=>by injection e with _ e;exact absurd e tG)))
 have hvX:=key0 _ _ hv tE (fun cs fz e=>by injection e with _ e;exact absurd e tG)
 have hbl:Below w.heap.size w (X.setCell ⟨w.heap.size+1,0,none⟩ v3):=
  ((((Bv hI.below hO tL hI.below.size).alloc (Al hI.below.size hO.size) tmp).grown hg (by have:=hI.below.size;have:=hO.size;simp;omega) (fun kk e=>C9 hrow kk e)).setCell tH _)
 refine⟨hvX,⟨?_,fun kk o hB hk hc=>?_⟩,⟨fun kk cs t' fz hB hne ht hk=>?_,fun cs fz hk=>?_,⟨_,_,hw,hpx⟩⟩,⟨hbl,?_,⟨v3,?_,?_⟩,?_,?_⟩⟩
 ·have:=hO.size
  simp [World.setCell];omega
 ·refine key kk o hk ?_ tE (fun cs fz e=>by rw[e] at hc;cases hc);rintro rfl;rw[hof.box] at hk;cases hk;cases hc
 ·refine key kk _ hk hne tE (fun cs' fz' e=>?_);injection e with _ e;subst e;rcases ht with e|e<;>exact absurd e tG
 ·exact key _ _ hk tE tE (fun cs' fz' e=>by injection e with _ e;exact absurd e tG)
 ·exact key _ _ hI.sbox tE tE (fun cs' fz' e=>by injection e with _ e;exact absurd e tG)
 ·rw[A2 hvX];rfl
 ·rw[Ab,List.map_append,List.map_singleton,dQ hw,Py]
  exact Bm hrow3 ((Bc.refl [w.heap.size+1] X).setCell (.inl tH) v3) (fun kk e hm=>by
   simp only[List.mem_singleton] at hm;subst hm
   exact Bi hrow3 hvX tG e)
 ·exact key _ _ hI.pl tE tE (fun cs' fz' e=>by injection e with _ e;exact absurd e tG)
 exact key _ _ hI.er tE tE (fun cs' fz' e=>by injection e with _ e;exact absurd e tG)
theorem Bl.place {w:World}{b:Nat}{k:Int}{t:ByteArray}{vk vn:Int}{vs:ByteArray}{line col:Int}(h:Bl w b k t vk vn vs line col)(line' col':Int):
 Bl ((w.setCell ⟨b,5,none⟩ (.int .i64 line')).setCell ⟨b,6,none⟩ (.int .i64 col')) b k t vk vn vs line' col':=by
 have H:=h.isSome;refine⟨?_,?_,?_,?_,?_,?_,?_,fun i=>?_⟩
 ·exact cell_far 6 _ _ tG (cell_far 5 _ _ tG h.c0)
 ·exact cell_far 6 _ _ tG (cell_far 5 _ _ tG h.c1)
 ·exact cell_far 6 _ _ tG (cell_far 5 _ _ tG h.c2)
 ·exact cell_far 6 _ _ tG (cell_far 5 _ _ tG h.c3)
 ·exact cell_far 6 _ _ tG (cell_far 5 _ _ tG h.c4)
 ·exact cell_far 6 _ _ tG (World.cell?_setCell_same' _ _ _ (H 5 tG))
 ·exact World.cell?_setCell_same' _ _ _ (Fo (i:=6) 5 _ (H 6 tG))
 simpa using h.fz i
theorem Bl.kept {w w':World}{b:Nat}{k:Int}{t:ByteArray}{vk vn:Int}{vs:ByteArray}{line col:Int}(h:Bl w b k t vk vn vs line col)(e:w'.heap[b]? =w.heap[b]?):Bl w' b k t vk vn vs line col:=by
 exact zyj
theorem lR {s:ByteArray}{w V wc:World}{pre:List It}{x:It}{q:Int}{v:Value}(hI:Below w.heap.size w V)(hof:Wm s (w.heap.size+5) pre x V)(hw:Bh ((dl s).drop x.i)= .error q)(hX:Below V.heap.size V wc)
 (h1:wc.heap[w.heap.size+1]? =some (.cells #[v] 59 (0,0))) (h2:wc.heap[w.heap.size+1+1]? =some (.cells #[.int .i64 0,.int .i64 0] 26 (0,0))) (h3:wc.heap[w.heap.size+1+1+1]? =some (.cells #[.int .i64 0] 27 (0,0))):
 KeepsFrom (w.heap.size+5) V ((((wc.setCell ⟨w.heap.size+1,0,none⟩ (.slice none 0 0)).setCell ⟨w.heap.size+1+1,0,none⟩ (.int .i64 x.line)).setCell ⟨w.heap.size+1+1,1,none⟩ (.int .i64 x.col)).setCell ⟨w.heap.size+1+1+1,0,none⟩ (.int .i64 q)).drew/\
 mB s w (pre++[x]) ((((wc.setCell ⟨w.heap.size+1,0,none⟩ (.slice none 0 0)).setCell ⟨w.heap.size+1+1,0,none⟩ (.int .i64 x.line)).setCell ⟨w.heap.size+1+1,1,none⟩ (.int .i64 x.col)).setCell ⟨w.heap.size+1+1+1,0,none⟩ (.int .i64 q)).drew:=by
 obtain⟨Z,hZ⟩:∃Z,((((wc.setCell ⟨w.heap.size+1,0,none⟩ (.slice none 0 0)).setCell ⟨w.heap.size+1+1,0,none⟩ (.int .i64 x.line)).setCell ⟨w.heap.size+1+1,1,none⟩ (.int .i64 x.col)).setCell ⟨w.heap.size+1+1+1,0,none⟩ (.int .i64 q)).drew=Z:=⟨_,rfl⟩;rw[hZ]
 have ho:Bc [w.heap.size+1,w.heap.size+1+1,w.heap.size+1+1+1] wc Z:=by
  rw[←hZ];exact(((((Bc.refl _ wc).setCell (.inl tH) _).setCell (.inl tH) _).setCell (.inl tH) _).setCell (.inl tH) _).drew
 have y1:Z.heap[w.heap.size+1]? =some (.cells #[.slice none 0 0] 59 (0,0)):=by
  rw[←hZ];refine(Below.heap_setCell _ _ _ _ tY).trans ((Below.heap_setCell _ _ _ _ tY).trans ((Below.heap_setCell _ _ _ _ tY).trans ?_));rw[A2 h1];rfl
 have y2:Z.heap[w.heap.size+1+1]? =some (.cells #[.int .i64 x.line,.int .i64 x.col] 26 (0,0)):=by
  rw[←hZ];have e0:(wc.setCell ⟨w.heap.size+1,0,none⟩ (.slice none 0 0)).heap[w.heap.size+1+1]? =some (.cells #[.int .i64 0,.int .i64 0] 26 (0,0)):=(Below.heap_setCell _ _ _ _ tY).trans h2;have e1:=A2 (i:=0) (u:= .int .i64 x.line) e0;have e2:=A2 (i:=1) (u:= .int .i64 x.col) e1;exact(Below.heap_setCell _ _ _ _ tY).trans e2
 have y3:Z.heap[w.heap.size+1+1+1]? =some (.cells #[.int .i64 q] 27 (0,0)):=by
  rw[←hZ];have e0:=(Below.heap_setCell ((wc.setCell ⟨w.heap.size+1,0,none⟩ (.slice none 0 0)).setCell ⟨w.heap.size+1+1,0,none⟩ (.int .i64 x.line)) ⟨w.heap.size+1+1,1,none⟩ (.int .i64 x.col) (w.heap.size+1+1+1) tH).trans ((Below.heap_setCell _ _ _ _ tY).trans ((Below.heap_setCell _ _ _ _ tY).trans h3));exact A2 (i:=0) (u:= .int .i64 q) e0
 have hlow:=hof.low;have hbc:Below w.heap.size w wc:=hI.trans (hX.mono hI.size);refine⟨⟨Al hX.size ho.size,fun kk o hB hk hc=>?_⟩,Bv hbc ho tL hbc.size,x.line,x.col,q,?_,y1,y2,y3⟩
 ·have hkl:=Ay hk;have hz:=hX.size;exact(ho.block kk tE tL).trans ((hX.block kk hkl).trans hk)
 have l1:x.i<(dl s).length:=by rw[A4];exact hof.lt
 have hd:(dl s).drop x.i=s[x.i]'hof.lt::(dl s).drop (x.i+1):=by
  rw[List.drop_eq_getElem_cons l1];rfl
 rw[hof.law];rw[hd] at hw ⊢;rw[L7 hof.beg hw];rfl
theorem dO {s:ByteArray}{w Y:World}{D:Nat}{v:Value}{a b q:Int}{ts:List Tkn}
 (h:(LX (dl s) 1 1= .ok ts/\Y.ownsRow w.heap.size 63 7 v ts.length (Ek ts)/\a=0/\b=0/\q=0)\/(LX (dl s) 1 1= .error (a,b,q)/\v= .slice none 0 0)) (hb:Below w.heap.size w Y)
 (h1:Y.heap[w.heap.size+1]? =some (.cells #[v] 59 (0,0))) (h2:Y.heap[w.heap.size+1+1]? =some (.cells #[.int .i64 a,.int .i64 b] 26 (0,0))) (h3:Y.heap[w.heap.size+1+1+1]? =some (.cells #[.int .i64 q] 27 (0,0)))
 (hD:Y.heap[D]? =some (.deferred (some []))) (hle:w.heap.size+4<=D):
 (Y.putObj D (.deferred none)).cell? ⟨w.heap.size+1,0,none⟩=some v/\(Y.putObj D (.deferred none)).cell? ⟨w.heap.size+1+1,0,none⟩=some (.int .i64 a)/\(Y.putObj D (.deferred none)).cell? ⟨w.heap.size+1+1,1,none⟩=some (.int .i64 b)/\
 (Y.putObj D (.deferred none)).cell? ⟨w.heap.size+1+1+1,0,none⟩=some (.int .i64 q)/\Sl w (Ev (dl s)) (.returned (.tuple #[v,.agg #[.int .i64 a,.int .i64 b],.int .i64 q])) (Y.putObj D (.deferred none)):=by
 have hne:∀(kk:Nat) (o:Obj),Y.heap[kk]? =some o->kk≠D->(Y.putObj D (.deferred none)).heap[kk]? =some o:=fun kk o h hkl=>(World.putObj_heap_other hkl).trans h
 have g1:=hne _ _ h1 tE;have g2:=hne _ _ h2 tE;have g3:=hne _ _ h3 tE;refine⟨by simp [World.cell?,g1],by simp [World.cell?,g2],by simp [World.cell?,g2],by simp [World.cell?,g3],hb.trans (belowK_b (w:=w) (Ak _) Y D _ _ tE hD rfl rfl),?_⟩;rw[Ns];rcases h with ⟨h,hr,rfl,rfl,rfl⟩|⟨h,rfl⟩
 ·rw[h];refine⟨v,rfl,?_⟩;obtain⟨r1,r2⟩:=hr;refine⟨r1,?_⟩;rcases r2 with r2|⟨g,cap,cur,e,hb',hg,h3',h4,h5,h6⟩
  ·exact .inl r2
  refine .inr ⟨g,cap,cur,e,hb',hne _ _ hg ?_,h3',h4,h5,h6⟩;rintro rfl;rw[hg] at hD;cases hD
 rw[h]
theorem mS:(Tryz.prog.info? 63).map (fun i=>(i.zero,i.size,i.bytes))=some (some (.agg Dw),7,72):=by kernel_rfl
theorem Vy:∃i,Tryz.prog.info? 63=some i/\i.zero=some (.agg Dw)/\i.size=7/\i.bytes=72:=by
 have h:=mS;cases hi:Tryz.prog.info? 63 with
 |none=>simp [hi] at h
 |some i=>
  exact zx4
theorem cW (s:ByteArray)(w:World):CallsIn Fence.wide 4 Tryz.prog 63 #[.string s] w fun e w'=>e= .returned (.func (.func 106) #[] #[.pointer (some ⟨w.heap.size,0,none⟩)])/\w'=w.alloc (.cells #[.string s] 9):=by
 refine callsIn_of_wp Tryz.func63 rfl trivial ?_ rfl;simp only[Tryz.ntmps63,List.size_toArray,Aa,List.length_nil,Nat.reduceAdd,Nat.reduceSub,Array.replicate_succ,Array.replicate_zero,List.push_toArray,List.append_toArray,List.nil_append,List.cons_append]
 gi_wp2
 exact zyr
def Za (s:ByteArray)(w:World):World:=
 ((((w.alloc (.cells #[.string s] 9)).alloc (.cells #[.slice none 0 0] 59)).alloc (.cells #[.int .i64 0,.int .i64 0] 26)).alloc (.cells #[.int .i64 0] 27)).alloc (.cells #[.string s] 9)
theorem dW (s:ByteArray)(w:World)(hs:s.size<=65536)(hR:Rd w):Calls Tryz.prog 30 #[.string s] w (Sl w (Ev (dl s))):=by
 have HR:=Ax hR;have i1:decide ((65536:Int)<(s.size:Int))=false:=by simp;omega
 refine(callsIn_wide (n:=5)).1 ?_;refine callsIn_of_wp_marks Tryz.func30 rfl trivial ?_ rfl;simp only[Tryz.ntmps30,List.size_toArray,Aa,List.length_nil,Nat.reduceAdd,Nat.reduceSub,Array.replicate_succ,Array.replicate_zero,List.push_toArray,List.append_toArray,List.nil_append,List.cons_append]
 gi_wp2
 refine⟨trivial,?_⟩;refine(cW s _).mono ?_;rintro e w' ⟨rfl,rfl⟩
 gi_wp2
 obtain⟨w0,hw0⟩:∃w0,Za s w=w0:=⟨_,rfl⟩;have hz0:w0.heap.size=w.heap.size+5:=by rw[←hw0];simp [Za]
 have hb0:Below w.heap.size w w0:=by
  rw[←hw0];exact(((((Aq _ w).alloc (Ak _) _).alloc tH _).alloc tL _).alloc tL _).alloc tL _
 have hn:∀(A:World) (o:Obj),(A.alloc o).heap[A.heap.size]? =some o:=fun A o=>(MapKept.heap_alloc A o).1
 have hk:∀(A:World) (o:Obj) (k:Nat),k<A.heap.size->(A.alloc o).heap[k]? =A.heap[k]?:=fun A o k h=>Below.heap_alloc _ _ _ h
 have x0:w0.heap[w.heap.size]? =some (.cells #[.string s] 9 (0,0)):=by
  rw[←hw0];unfold Za;rw[hk _ _ _ tY,hk _ _ _ tY,hk _ _ _ tY,hk _ _ _ tH];exact hn _ _
 have x1:w0.heap[w.heap.size+1]? =some (.cells #[.slice none 0 0] 59 (0,0)):=by
  rw[←hw0];unfold Za;rw[hk _ _ _ tY,hk _ _ _ tY,hk _ _ _ tH]
  have:=hn (w.alloc (.cells #[.string s] 9)) (.cells #[.slice none 0 0] 59)
  rwa [World.size_alloc] at this
 have x2:w0.heap[w.heap.size+1+1]? =some (.cells #[.int .i64 0,.int .i64 0] 26 (0,0)):=by
  rw[←hw0];unfold Za;rw[hk _ _ _ tY,hk _ _ _ tH]
  have:=hn ((w.alloc (.cells #[.string s] 9)).alloc (.cells #[.slice none 0 0] 59)) (.cells #[.int .i64 0,.int .i64 0] 26)
  rwa [World.size_alloc,World.size_alloc] at this
 have x3:w0.heap[w.heap.size+1+1+1]? =some (.cells #[.int .i64 0] 27 (0,0)):=by
  rw[←hw0];unfold Za;rw[hk _ _ _ tH]
  have:=hn (((w.alloc (.cells #[.string s] 9)).alloc (.cells #[.slice none 0 0] 59)).alloc (.cells #[.int .i64 0,.int .i64 0] 26)) (.cells #[.int .i64 0] 27)
  rwa [World.size_alloc,World.size_alloc,World.size_alloc] at this
 have x4:w0.heap[w.heap.size+1+1+1+1]? =some (.cells #[.string s] 9 (0,0)):=by
  rw[←hw0];unfold Za
  have:=hn ((((w.alloc (.cells #[.string s] 9)).alloc (.cells #[.slice none 0 0] 59)).alloc (.cells #[.int .i64 0,.int .i64 0] 26)).alloc (.cells #[.int .i64 0] 27)) (.cells #[.string s] 9)
  rwa [World.size_alloc,World.size_alloc,World.size_alloc,World.size_alloc] at this
 unfold Za at hw0;rw[hw0];have hI0:dA s w [] w0:=⟨hb0,x0,⟨_,x1,by simpa[Ek] using World.ownsRow_nil w0 w.heap.size 63 7⟩,x2,x3⟩;have HI0:=Ax hI0;clear hw0 hI0 x0 x1 x2 x3 hn hk hR
 refine bU rfl tE (gf:=106) (lb:= #[.pointer (some ⟨w.heap.size+1+1+1+1,0,none⟩)]) rfl trivial (enters_of Tryz.func106 tF rfl) (Xi 4 s hs (w.heap.size+1+1+1+1) w0 x4 tE) (fun _=>rfl) (dA s w) (mB s w)
  (fun _ _ _ h ht=>h.turn ht tE) (fun _ _ _ h ht=>h.turn ht tE) HI0.out (fun x=> .cells #[.int .i64 x.line,.int .i64 x.col] 26)
  (fun x W=>{tmps:= #[.string s,.pointer (some ⟨w.heap.size,0,none⟩),.pointer (some ⟨w.heap.size+1,0,none⟩),.pointer (some ⟨w.heap.size+1+1,0,none⟩),.pointer (some ⟨w.heap.size+1+1+1,0,none⟩),.pointer (some ⟨x.ptr,0,none⟩),.pointer (some ⟨W.heap.size,0,none⟩),undef,undef,undef,.string s,.int .i64 (s.size:Nat),.bool false,undef,.string s,.func (.func 106) #[] #[.pointer (some ⟨w.heap.size+1+1+1+1,0,none⟩)],.pointer (some ⟨x.ptr,0,none⟩),.agg #[.int .i64 x.line,.int .i64 x.col],undef,undef,undef,undef,undef,undef,undef,undef,undef,undef,undef,undef,undef,undef,undef,undef,undef,undef,undef,undef,undef,undef,undef,undef,undef],defers:=[]})
  ?offer ?kept ?assign ?body ?done ?stop
 case offer=>
  intro pre x W l o o' hof ho hc
  have hne:x.ptr≠l:=by
   rintro rfl;rw[hof.box] at ho;cases ho;cases hc
  exact⟨(World.putObj_heap_other hne).trans ((Below.heap_alloc _ _ _ (Ay hof.box)).trans hof.box),hof.low,hof.lt,hof.beg,hof.law,hof.cnt⟩
 case kept=>
  intro x W Y l o o' p p' ho hc hk hp hpc
  have hne:∀(kk:Nat) (cs:Array Value) (t:TypeId) (fz:Nat×Nat),W.heap[kk]? =some (.cells cs t fz)->((W.alloc (.cells #[.int .i64 x.line,.int .i64 x.col] 26)).putObj l o').heap[kk]? =some (.cells cs t fz):=fun kk cs t fz h=>by
   have hkl:kk≠l:=by
    rintro rfl;rw[h] at ho;cases ho;cases hc
   exact(World.putObj_heap_other hkl).trans ((Below.heap_alloc _ _ _ (Ay h)).trans h)
  have hne2:∀(kk:Nat) (cs:Array Value) (t:TypeId) (fz:Nat×Nat),Y.heap[kk]? =some (.cells cs t fz)->(Y.putObj l p').heap[kk]? =some (.cells cs t fz):=fun kk cs t fz h=>by
   have hkl:kk≠l:=by
    rintro rfl;rw[h] at hp;cases hp;cases hpc
   exact(World.putObj_heap_other hkl).trans h
  obtain⟨wd,m,h1,h2⟩:=hk.done;exact⟨fun kk cs t fz hB hx ht h=>hne2 _ _ _ _ (hk.same kk cs t fz hB hx ht (hne _ _ _ _ h)),fun cs fz h=>hne2 _ _ _ _ (hk.sbox cs fz (hne _ _ _ _ h)),wd,m,h1,hne2 _ _ _ _ h2⟩
 case assign=>
  intro l x W K hK;unfold itV
  gi_wp2
  exact hK
 case body=>
  intro l pre x W o o' hl ho hc hI hof;have hlW:=Ay ho
  have hpl:((W.alloc (.cells #[.int .i64 x.line,.int .i64 x.col] 26)).putObj l o').heap[W.heap.size]? =some (.cells #[.int .i64 x.line,.int .i64 x.col] 26 (0,0)):=
   (World.putObj_heap_other tE).trans (MapKept.heap_alloc W _).1
  obtain⟨V,hV⟩:∃V,(W.alloc (.cells #[.int .i64 x.line,.int .i64 x.col] 26)).putObj l o'=V:=⟨_,rfl⟩;rw[hV] at hI hof hpl ⊢;clear hV ho hc hl hlW;obtain⟨v,hv,hrow⟩:=hI.row;obtain⟨va,vc,rfl⟩:=Er hrow;have cs:V.cell? ⟨w.heap.size,0,none⟩=some (.string s):=by simp [World.cell?,hI.sbox]
  have cl:V.cell? ⟨w.heap.size+1,0,none⟩=some (.slice va pre.length vc):=by simp [World.cell?,hv]
  have fl:V.frozen? ⟨w.heap.size+1,0,none⟩=false:=by simp [World.frozen?,hv]
  have cx:V.cell? ⟨x.ptr,0,none⟩=some (.int .i64 (x.i:Nat)):=by simp [World.cell?,hof.box]
  have fx:V.frozen? ⟨x.ptr,0,none⟩=false:=by simp [World.frozen?,hof.box]
  have p0:V.cell? ⟨W.heap.size,0,none⟩=some (.int .i64 x.line):=by simp [World.cell?,hpl]
  have p1:V.cell? ⟨W.heap.size,1,none⟩=some (.int .i64 x.col):=by simp [World.cell?,hpl]
  have hxs:x.i<s.size:=hof.lt;have i2:(x.i:Int)<=(s.size:Int):=by omega
  have hsx:dl (s.extract x.i s.size)=(dl s).drop x.i:=Gd s x.i;have hsz:(s.extract x.i s.size).size=s.size - x.i:=by rw[←A4,hsx,List.length_drop,A4]
  have hcall:∀A,Below w.heap.size w A->CallsIn Fence.wide 2 Tryz.prog 64 #[.string (s.extract x.i s.size)] A (Rr A (Bh ((dl s).drop x.i))):=fun A hA=>by
   have:=gR (s.extract x.i s.size) A tE tE (HR.out.below hA)
   rw[hsx] at this;exact callsIn_wide.2 this
  obtain⟨r,hr⟩:∃r,Bh ((dl s).drop x.i)=r:=⟨_,rfl⟩;rw[hr] at hcall;have Hcall:=Ax hcall;have Hr:=Ax hr;have HI:=Ax hI;have Hof:=Ax hof;have Hrow:=Ax hrow;have Hpl:=Ax hpl;have Hv:=Ax hv;have hvz:w.heap.size+1<V.heap.size:=Ay hv;have hwz:w.heap.size<V.heap.size:=by omega
  have hpz:W.heap.size<V.heap.size:=Ay hpl;have hxz:x.ptr<V.heap.size:=Ay hof.box;clear hcall hr hI hof hrow hpl hv hsx hsz;cases r with
  |ok q=>
   obtain⟨⟨k,t,vk,vn,vs⟩,m⟩:=q;have hbV:=HI.out.below;have hbA:Below w.heap.size w (V.alloc (.cells Dw 63)):=hbV.alloc hbV.size _;have hca:=Hcall.out V.drew hbV.drew;have hcb:=Hcall.out _ hbA.drew;have Hca:=Ax hca;have Hcb:=Ax hcb;have hzb:V.heap.size<=(V.alloc (.cells Dw 63)).heap.size:=by simp
   unfold Dw at Hcb;clear hbV hbA hca hcb Hcall
   gi_wp2_with fail
   gi_cut [7,8,9] from 18 (fun u7 u8 u9 wx=>∃p:Nat,u7= .pointer (some ⟨p,0,none⟩)/\u8= .int .i64 (m:Nat)/\u9= .int .i64 0/\V.heap.size<=p/\Hid (Bl wx p k ⟨t.toArray⟩ vk vn ⟨vs.toArray⟩ 0 0/\Below V.heap.size V wx))
   case first=>
    refine Lk l rfl tF tF ?_;refine QI 1 (h:=?_);refine QI 2 (h:=?_);refine wpAnyIn_ready (rs:=[0,3,10]) tF tH ?_;refine Av rfl (fun K hK=>?_) ?_
    ·go_simp
     refine hK _ _ ?_;clear hK K;refine wpAnyIn_ready (rs:=[3,10]) tF tH ?_;refine Av rfl (fun K hK=>?_) ?_
     ·go_simp
      refine hK _ _ ?_;clear hK K;refine QI 4 (h:=?_);refine wpAnyIn_ready (rs:=[5,10]) tF tH ?_;refine Av rfl (fun K hK=>?_) ?_
      ·go_simp
       refine⟨trivial,?_⟩;refine(Hca.out).mono ?_;rintro e X ⟨hb',he⟩;simp only[Gb] at he;subst he;have hb:Below V.heap.size V X:=(Aq V.heap.size V).drew.trans hb';have hXz:=hb.size;have h7:=Bl.newc X k ⟨t.toArray⟩ vk vn ⟨vs.toArray⟩ 0 0;have h8:=hb.alloc hXz (.cells #[.int .u8 k,.string ⟨t.toArray⟩,.int .u8 vk,.int .i64 vn,.string ⟨vs.toArray⟩,.int .i64 0,.int .i64 0] 63);have H7:=Ax h7;have H8:=Ax h8;clear hb hb' h7 h8;clear Hca Hcb cs cl fl cx fx p0 p1
       go_simp
       refine hK _ _ ?_;clear hK K;refine QI 6 (h:=?_);refine QI 7 (h:=?_);refine QI 8 (h:=?_);refine QI 9 (h:=?_);refine wpAnyIn_ready (rs:=[10]) tF tH ?_;refine Av rfl (fun K hK=>?_) ?_
       ·go_simp
        refine hK _ _ ?_;clear hK K;refine wpAnyIn_ready (rs:=[11]) tF tH ?_;refine Av rfl (fun K hK=>?_) ?_
        ·exact zxg
        exact zzi
       exact zzi
      refine Av rfl (fun K hK=>?_) ?_
      ·go_simp
       refine hK _ _ ?_;clear hK K;exact zz7
      exact zzi
     refine Av rfl (fun K hK=>?_) ?_
     ·go_simp
      refine hK _ _ ?_;clear hK K;refine wpAnyIn_ready (rs:=[3]) tF tH ?_;refine Av rfl (fun K hK=>?_) ?_
      ·go_simp
       refine hK _ _ ?_;clear hK K;refine QI 4 (h:=?_);exact zz7
      exact zzi
     exact zzi
    refine Av rfl (fun K hK=>?_) ?_
    ·go_simp
     refine hK _ _ ?_;clear hK K;refine wpAnyIn_ready (rs:=[0,10]) tF tH ?_;refine Av rfl (fun K hK=>?_) ?_
     ·go_simp
      refine hK _ _ ?_;clear hK K;refine QI 4 (h:=?_);refine wpAnyIn_ready (rs:=[5,10]) tF tH ?_;refine Av rfl (fun K hK=>?_) ?_
      ·go_simp
       refine⟨trivial,?_⟩;refine(Hca.out).mono ?_;rintro e X ⟨hb',he⟩;simp only[Gb] at he;subst he;have hb:Below V.heap.size V X:=(Aq V.heap.size V).drew.trans hb';have hXz:=hb.size;have h7:=Bl.newc X k ⟨t.toArray⟩ vk vn ⟨vs.toArray⟩ 0 0;have h8:=hb.alloc hXz (.cells #[.int .u8 k,.string ⟨t.toArray⟩,.int .u8 vk,.int .i64 vn,.string ⟨vs.toArray⟩,.int .i64 0,.int .i64 0] 63);have H7:=Ax h7;have H8:=Ax h8;clear hb hb' h7 h8;clear Hca Hcb cs cl fl cx fx p0 p1
       go_simp
       refine hK _ _ ?_;clear hK K;refine QI 6 (h:=?_);refine QI 7 (h:=?_);refine QI 8 (h:=?_);refine QI 9 (h:=?_);refine wpAnyIn_ready (rs:=[10]) tF tH ?_;refine Av rfl (fun K hK=>?_) ?_
       ·go_simp
        refine hK _ _ ?_;clear hK K;refine wpAnyIn_ready (rs:=[11]) tF tH ?_;refine Av rfl (fun K hK=>?_) ?_
        ·exact zxg
        exact zzi
       exact zzi
      refine Av rfl (fun K hK=>?_) ?_
      ·go_simp
       refine hK _ _ ?_;clear hK K;exact zz7
      exact zzi
     refine Av rfl (fun K hK=>?_) ?_
     ·go_simp
      refine hK _ _ ?_;clear hK K;refine wpAnyIn_ready (rs:=[0]) tF tH ?_;refine Av rfl (fun K hK=>?_) ?_
      ·go_simp
       refine hK _ _ ?_;clear hK K;refine QI 4 (h:=?_);exact zz7
      exact zzi
     exact zzi
    refine Av rfl (fun K hK=>?_) ?_
    ·go_simp
     refine hK _ _ ?_;clear hK K;refine wpAnyIn_ready (rs:=[0,3]) tF tH ?_;refine Av rfl (fun K hK=>?_) ?_
     ·go_simp
      refine hK _ _ ?_;clear hK K;refine wpAnyIn_ready (rs:=[3]) tF tH ?_;refine Av rfl (fun K hK=>?_) ?_
      ·go_simp
       refine hK _ _ ?_;clear hK K;refine QI 4 (h:=?_);exact zz7
      exact zzi
     refine Av rfl (fun K hK=>?_) ?_
     ·go_simp
      refine hK _ _ ?_;clear hK K;refine wpAnyIn_ready (rs:=[0]) tF tH ?_;refine Av rfl (fun K hK=>?_) ?_
      ·go_simp
       refine hK _ _ ?_;clear hK K;refine QI 4 (h:=?_);exact zz7
      exact zzi
     exact zzi
    exact zzi
   case rest=>
    obtain⟨p,rfl,rfl,rfl,hp,hq⟩:=hcut;have hX:=hq.out.2;have q0:=(World.cell?_of_block (w:=V) (w':=wc) (a:=⟨W.heap.size,0,none⟩) (hX.block W.heap.size hpz)).trans p0;have q1:=(World.cell?_of_block (w:=V) (w':=wc) (a:=⟨W.heap.size,1,none⟩) (hX.block W.heap.size hpz)).trans p1;have q2:=(World.cell?_of_block (w:=V) (w':=wc) (a:=⟨w.heap.size+1,0,none⟩) (hX.block _ hvz)).trans cl;have q3:=(World.frozen?_of_block (w:=V) (w':=wc) (a:=⟨w.heap.size+1,0,none⟩) (hX.block _ hvz)).trans fl;have q4:=(World.cell?_of_block (w:=V) (w':=wc) (a:=⟨x.ptr,0,none⟩) (hX.block _ hxz)).trans cx;have q5:=(World.frozen?_of_block (w:=V) (w':=wc) (a:=⟨x.ptr,0,none⟩) (hX.block _ hxz)).trans fx;have hxl:=Hof.out.low;have hcnt:=Hof.out.cnt;have hbxc:wc.heap[x.ptr]? =some (.cells #[.int .i64 (x.i:Nat)] 3 (0,0)):=(hX.block _ hxz).trans Hof.out.box;obtain⟨Z1,hZ1⟩:∃Z1,((wc.setCell ⟨p,5,none⟩ (.int .i64 x.line)).setCell ⟨p,6,none⟩ (.int .i64 x.col)).setCell ⟨x.ptr,0,none⟩ (.int .i64 (m:Nat))=Z1:=⟨_,rfl⟩
    have hT1:Bl Z1 p k ⟨t.toArray⟩ vk vn ⟨vs.toArray⟩ x.line x.col:=by
     rw[←hZ1];exact(hq.out.1.place x.line x.col).kept (Below.heap_setCell _ _ _ _ tL)
    have hO1:Bc [x.ptr] V Z1:=by
     rw[←hZ1];exact((((Bc.of_below hX _).setCell (.inr hp) _).setCell (.inr hp) _).setCell (.inl tH) _)
    have hbx1:Z1.heap[x.ptr]? =some (.cells #[.int .i64 (m:Nat)] 3 (0,0)):=by
     rw[←hZ1]
     have e1:((wc.setCell ⟨p,5,none⟩ (.int .i64 x.line)).setCell ⟨p,6,none⟩ (.int .i64 x.col)).heap[x.ptr]? =some (.cells #[.int .i64 (x.i:Nat)] 3 (0,0)):=
      (Below.heap_setCell _ _ _ _ tL).trans ((Below.heap_setCell _ _ _ _ tL).trans hbxc)
     rw[A2 e1];rfl
    have hl1:Z1.cell? ⟨w.heap.size+1,0,none⟩=some (.slice va pre.length vc):=(World.cell?_of_block (w:=V) (w':=Z1) (a:=⟨w.heap.size+1,0,none⟩) (hO1.block _ hvz tL)).trans cl
    have hrow1:Z1.ownsRow w.heap.size 63 7 (.slice va pre.length vc) pre.length (Ek (pre.map (R7 (dl s)))):=Bm Hrow.out hO1 (fun kk e hm=>by
     simp only[List.mem_singleton] at hm;subst hm
     exact Bi Hrow.out Hof.out.box tG e)
    have hz1:V.heap.size<=Z1.heap.size:=hO1.size;obtain⟨d0,d1,d2,d3,d4,d5,d6,fz⟩:=hq.out.1;have HT1:=Ax hT1;have HO1:=Ax hO1;have Hbx1:=Ax hbx1;have Hrow1:=Ax hrow1;have HZ1:=Ax hZ1;clear hX hq hT1 hO1 hbx1 hbxc hrow1 hZ1 cs cl fl cx fx p0 p1 Hca Hcb
    gi_upto_region 10 with fail
    rw[HZ1.out];obtain⟨d0,d1,d2,d3,d4,d5,d6,fz⟩:=HT1.out;have fl1:Z1.frozen? ⟨w.heap.size+1,0,none⟩=false:=by rw[←HZ1.out];simpa using q3
    obtain⟨i0,hi0,hy0,hy1,hy2⟩:=Vy;have Hi0:=Ax hi0;have Hy0:=Ax hy0;have Hy1:=Ax hy1;have Hy2:=Ax hy2;have hof5:Wm s (w.heap.size+5) pre x V:=by rw[←hz0];exact Hof.out
    have Hof5:=Ax hof5;have Hz0:=Ax hz0;have hwz1:w.heap.size<=Z1.heap.size:=by omega
    clear hi0 hy0 hy1 hy2 hof5 q0 q1 q2 q3 q4 q5 hz0
    gi_wp2_with (gi_at_builtin;refine Hid.out ?_)
    refine Ax ?_;refine wpListIn_append_own _ rfl (.tmp 37) (.tmp 39) _ rfl w.heap.size 63 i0 (.agg Dw) 7 72 Tryz.underlying59 Hi0.out Hy0.out Hy1.out Hy2.out rfl tG (.slice va pre.length vc) pre.length _ rfl (Di Hrow1.out (((Aq _ Z1).alloc (Ak _) (.cells #[.int .u8 k,.string ⟨t.toArray⟩,.int .u8 vk,.int .i64 vn,.string ⟨vs.toArray⟩,.int .i64 x.line,.int .i64 x.col] 63)))) ⟨Z1.heap.size,0,none⟩ 1 1 [.int .u8 k,.string ⟨t.toArray⟩,.int .u8 vk,.int .i64 vn,.string ⟨vs.toArray⟩,.int .i64 x.line,.int .i64 x.col] rfl rfl (World.news_of_block (cs:= #[.int .u8 k,.string ⟨t.toArray⟩,.int .u8 vk,.int .i64 vn,.string ⟨vs.toArray⟩,.int .i64 x.line,.int .i64 x.col]) (A1 Z1 _)) tS tQ tE tL ?_;intro v3 X ho3 hg3 _;have hf:=lX _ HI.out Hof5.out Hr.out Hv.out Hrow.out HO1.out Hbx1.out hg3 ho3;obtain⟨na,nc,rfl⟩:=Er ho3;have b0:X.cell? ⟨w.heap.size+1,0,none⟩=some (.slice va pre.length vc):=by(simp [World.cell?,hf.1])
    have bf:X.frozen? ⟨w.heap.size+1,0,none⟩=false:=by(simp [World.frozen?,hf.1])
    have HF:=Ax hf.2;clear hf ho3 hg3
    gi_wp2
    rw[Hz0.out];exact HF.out
  |error q=>
   have hq:=Qt Hr.out;have hbV:=HI.out.below;have hbA:Below w.heap.size w (V.alloc (.cells Dw 63)):=hbV.alloc hbV.size _;have hca:=Hcall.out V.drew hbV.drew;have hcb:=Hcall.out _ hbA.drew;have Hca:=Ax hca;have Hcb:=Ax hcb;have Hq:=Ax hq;have hzb:V.heap.size<=(V.alloc (.cells Dw 63)).heap.size:=by simp
   unfold Dw at Hcb;clear hbV hbA hca hcb Hcall hq
   gi_wp2_with fail
   gi_cut [7,8,9] from 18 (fun u7 u8 u9 wx=>∃(p:Nat) (m:Int),u7= .pointer (some ⟨p,0,none⟩)/\u8= .int .i64 m/\u9= .int .i64 q/\Hid (Below V.heap.size V wx))
   case first=>
    refine Lk l rfl tF tF ?_;refine QI 1 (h:=?_);refine QI 2 (h:=?_);refine wpAnyIn_ready (rs:=[0,3,10]) tF tH ?_;refine Av rfl (fun K hK=>?_) ?_
    ·go_simp
     refine hK _ _ ?_;clear hK K;refine wpAnyIn_ready (rs:=[3,10]) tF tH ?_;refine Av rfl (fun K hK=>?_) ?_
     ·go_simp
      refine hK _ _ ?_;clear hK K;refine QI 4 (h:=?_);refine wpAnyIn_ready (rs:=[5,10]) tF tH ?_;refine Av rfl (fun K hK=>?_) ?_
      ·go_simp
       refine⟨trivial,?_⟩;refine(Hca.out).mono ?_;rintro e X ⟨hb',⟨k,t,vk,vn,vs⟩,m,he⟩;simp only[Gb] at he;subst he;have hb:Below V.heap.size V X:=(Aq V.heap.size V).drew.trans hb';have hXz:=hb.size;have h8:=hb.alloc hXz (.cells #[.int .u8 k,.string ⟨t.toArray⟩,.int .u8 vk,.int .i64 vn,.string ⟨vs.toArray⟩,.int .i64 0,.int .i64 0] 63);have H8:=Ax h8;clear hb hb' h8;clear Hca Hcb cs cl fl cx fx p0 p1
       go_simp
       refine hK _ _ ?_;clear hK K;refine QI 6 (h:=?_);refine QI 7 (h:=?_);refine QI 8 (h:=?_);refine QI 9 (h:=?_);refine wpAnyIn_ready (rs:=[10]) tF tH ?_;refine Av rfl (fun K hK=>?_) ?_
       ·go_simp
        refine hK _ _ ?_;clear hK K;exact zzu
       exact zzi
      refine Av rfl (fun K hK=>?_) ?_
      ·go_simp
       refine hK _ _ ?_;clear hK K;exact zz6
      exact zzi
     refine Av rfl (fun K hK=>?_) ?_
     ·go_simp
      refine hK _ _ ?_;clear hK K;refine wpAnyIn_ready (rs:=[3]) tF tH ?_;refine Av rfl (fun K hK=>?_) ?_
      ·go_simp
       refine hK _ _ ?_;clear hK K;refine QI 4 (h:=?_);exact zz6
      exact zzi
     exact zzi
    refine Av rfl (fun K hK=>?_) ?_
    ·go_simp
     refine hK _ _ ?_;clear hK K;refine wpAnyIn_ready (rs:=[0,10]) tF tH ?_;refine Av rfl (fun K hK=>?_) ?_
     ·go_simp
      refine hK _ _ ?_;clear hK K;refine QI 4 (h:=?_);refine wpAnyIn_ready (rs:=[5,10]) tF tH ?_;refine Av rfl (fun K hK=>?_) ?_
      ·go_simp
       refine⟨trivial,?_⟩;refine(Hca.out).mono ?_;rintro e X ⟨hb',⟨k,t,vk,vn,vs⟩,m,he⟩;simp only[Gb] at he;subst he;have hb:Below V.heap.size V X:=(Aq V.heap.size V).drew.trans hb';have hXz:=hb.size;have h8:=hb.alloc hXz (.cells #[.int .u8 k,.string ⟨t.toArray⟩,.int .u8 vk,.int .i64 vn,.string ⟨vs.toArray⟩,.int .i64 0,.int .i64 0] 63);have H8:=Ax h8;clear hb hb' h8;clear Hca Hcb cs cl fl cx fx p0 p1
       go_simp
       refine hK _ _ ?_;clear hK K;refine QI 6 (h:=?_);refine QI 7 (h:=?_);refine QI 8 (h:=?_);refine QI 9 (h:=?_);refine wpAnyIn_ready (rs:=[10]) tF tH ?_;refine Av rfl (fun K hK=>?_) ?_
       ·go_simp
        refine hK _ _ ?_;clear hK K;exact zzu
       exact zzi
      refine Av rfl (fun K hK=>?_) ?_
      ·go_simp
       refine hK _ _ ?_;clear hK K;exact zz6
      exact zzi
     refine Av rfl (fun K hK=>?_) ?_
     ·go_simp
      refine hK _ _ ?_;clear hK K;refine wpAnyIn_ready (rs:=[0]) tF tH ?_;refine Av rfl (fun K hK=>?_) ?_
      ·go_simp
       refine hK _ _ ?_;clear hK K;refine QI 4 (h:=?_);exact zz6
      exact zzi
     exact zzi
    refine Av rfl (fun K hK=>?_) ?_
    ·go_simp
     refine hK _ _ ?_;clear hK K;refine wpAnyIn_ready (rs:=[0,3]) tF tH ?_;refine Av rfl (fun K hK=>?_) ?_
     ·go_simp
      refine hK _ _ ?_;clear hK K;refine wpAnyIn_ready (rs:=[3]) tF tH ?_;refine Av rfl (fun K hK=>?_) ?_
      ·go_simp
       refine hK _ _ ?_;clear hK K;refine QI 4 (h:=?_);exact zz6
      exact zzi
     refine Av rfl (fun K hK=>?_) ?_
     ·go_simp
      refine hK _ _ ?_;clear hK K;refine wpAnyIn_ready (rs:=[0]) tF tH ?_;refine Av rfl (fun K hK=>?_) ?_
      ·go_simp
       refine hK _ _ ?_;clear hK K;refine QI 4 (h:=?_);exact zz6
      exact zzi
     exact zzi
    exact zzi
   case rest=>
    obtain⟨p,m,rfl,rfl,rfl,hq⟩:=hcut;have hX:=hq.out;have hof5:Wm s (w.heap.size+5) pre x V:=by rw[←hz0];exact Hof.out
    have hzl:w.heap.size+1+1+1<V.heap.size:=Ay HI.out.er;have g1:wc.heap[w.heap.size+1]? =some (.cells #[.slice va pre.length vc] 59 (0,0)):=(hX.block _ hvz).trans Hv.out;have g2:wc.heap[w.heap.size+1+1]? =some (.cells #[.int .i64 0,.int .i64 0] 26 (0,0)):=(hX.block _ tE).trans HI.out.pl;have g3:wc.heap[w.heap.size+1+1+1]? =some (.cells #[.int .i64 0] 27 (0,0)):=(hX.block _ hzl).trans HI.out.er;have q0:=(World.cell?_of_block (w:=V) (w':=wc) (a:=⟨W.heap.size,0,none⟩) (hX.block W.heap.size hpz)).trans p0;have q1:=(World.cell?_of_block (w:=V) (w':=wc) (a:=⟨W.heap.size,1,none⟩) (hX.block W.heap.size hpz)).trans p1;have r1:wc.cell? ⟨w.heap.size+1,0,none⟩=some (.slice va pre.length vc):=by simp [World.cell?,g1]
    have s1:wc.frozen? ⟨w.heap.size+1,0,none⟩=false:=by simp [World.frozen?,g1]
    have r2:wc.cell? ⟨w.heap.size+1+1,0,none⟩=some (.int .i64 0):=by simp [World.cell?,g2]
    have r3:wc.cell? ⟨w.heap.size+1+1,1,none⟩=some (.int .i64 0):=by simp [World.cell?,g2]
    have s2:∀i,wc.frozen? ⟨w.heap.size+1+1,i,none⟩=false:=fun i=>by simp [World.frozen?,g2]
    have r4:wc.cell? ⟨w.heap.size+1+1+1,0,none⟩=some (.int .i64 0):=by simp [World.cell?,g3]
    have s3:wc.frozen? ⟨w.heap.size+1+1+1,0,none⟩=false:=by simp [World.frozen?,g3]
    have hf:=lR (wc:=wc) (pre:=pre) HI.out.below hof5 Hr.out hX g1 g2 g3;obtain⟨Z,hZ⟩:∃Z,((((wc.setCell ⟨w.heap.size+1,0,none⟩ (.slice none 0 0)).setCell ⟨w.heap.size+1+1,0,none⟩ (.int .i64 x.line)).setCell ⟨w.heap.size+1+1,1,none⟩ (.int .i64 x.col)).setCell ⟨w.heap.size+1+1+1,0,none⟩ (.int .i64 q)).drew=Z:=⟨_,rfl⟩;rw[hZ] at hf;have HF:=Ax hf;have HZ:=Ax hZ;have Hz0:=Ax hz0
    have hpl1:W.heap.size≠w.heap.size+1:=by
     intro e;have h1:=Hpl.out;rw[e,Hv.out] at h1;cases h1
    clear hof5 g1 g2 g3 hX hq hf hZ hz0 cs cl fl cx fx p0 p1 Hca Hcb;rcases Hq.out with rfl|rfl
    all_goals
     gi_wp2_with fail
     refine Lk l rfl tF tF ?_;refine QI 1 (h:=?_);refine wpAnyIn_ready (rs:=[0,2]) tF tH ?_;refine Av rfl (fun K hK=>?_) ?_
     ·go_simp
      refine hK _ _ ?_;clear hK K;refine wpAnyIn_ready (rs:=[2]) tF tH ?_;refine Av rfl (fun K hK=>?_) ?_
      ·go_simp
       refine hK _ _ ?_;clear hK K;refine wpAnyIn_ready (rs:=[3]) tF tH ?_;refine Av rfl (fun K hK=>?_) ?_
       ·go_simp
        refine hK _ _ ?_;clear hK K;refine wpAnyIn_ready (rs:=[4]) tF tH ?_;refine Av rfl (fun K hK=>?_) ?_
        ·go_simp
         refine hK _ _ ?_;clear hK K;refine wpAnyIn_done tF ?_ _
         gi_wp2
         rw[Hz0.out,HZ.out];exact HF.out
        exact zzi
       exact zzi
      exact zzi
     refine Av rfl (fun K hK=>?_) ?_
     ·go_simp
      refine hK _ _ ?_;clear hK K;refine wpAnyIn_ready (rs:=[0]) tF tH ?_;refine Av rfl (fun K hK=>?_) ?_
      ·go_simp
       refine hK _ _ ?_;clear hK K;refine wpAnyIn_ready (rs:=[3]) tF tH ?_;refine Av rfl (fun K hK=>?_) ?_
       ·go_simp
        refine hK _ _ ?_;clear hK K;refine wpAnyIn_ready (rs:=[4]) tF tH ?_;refine Av rfl (fun K hK=>?_) ?_
        ·go_simp
         refine hK _ _ ?_;clear hK K;refine wpAnyIn_done tF ?_ _
         gi_wp2
         rw[Hz0.out,HZ.out];exact HF.out
        exact zzi
       exact zzi
      exact zzi
     exact zzi
 case done=>
  intro D xs W hD hxs hI hdef;obtain⟨v,hv,hrow⟩:=hI.row;obtain⟨va,vc,rfl⟩:=Er hrow;have cl:W.cell? ⟨w.heap.size+1,0,none⟩=some (.slice va xs.length vc):=by simp [World.cell?,hv]
  have fl:W.frozen? ⟨w.heap.size+1,0,none⟩=false:=by simp [World.frozen?,hv]
  have p0:W.cell? ⟨w.heap.size+1+1,0,none⟩=some (.int .i64 0):=by simp [World.cell?,hI.pl]
  have p1:W.cell? ⟨w.heap.size+1+1,1,none⟩=some (.int .i64 0):=by simp [World.cell?,hI.pl]
  have pf:∀i,W.frozen? ⟨w.heap.size+1+1,i,none⟩=false:=fun i=>by simp [World.frozen?,hI.pl]
  have e0:W.cell? ⟨w.heap.size+1+1+1,0,none⟩=some (.int .i64 0):=by simp [World.cell?,hI.er]
  have ef:W.frozen? ⟨w.heap.size+1+1+1,0,none⟩=false:=by simp [World.frozen?,hI.er]
  obtain⟨Y,hY⟩:∃Y,((((W.setCell ⟨w.heap.size+1,0,none⟩ (.slice va xs.length vc)).setCell ⟨w.heap.size+1+1,0,none⟩ (.int .i64 0)).setCell ⟨w.heap.size+1+1,1,none⟩ (.int .i64 0)).setCell ⟨w.heap.size+1+1+1,0,none⟩ (.int .i64 0)).drew=Y:=⟨_,rfl⟩
  have ho:Bc [w.heap.size+1,w.heap.size+1+1,w.heap.size+1+1+1] W Y:=by
   rw[←hY];exact(((((Bc.refl _ W).setCell (.inl tH) _).setCell (.inl tH) _).setCell (.inl tH) _).setCell (.inl tH) _).drew
  have y1:Y.heap[w.heap.size+1]? =some (.cells #[.slice va xs.length vc] 59 (0,0)):=by
   rw[←hY];refine(Below.heap_setCell _ _ _ _ tY).trans ((Below.heap_setCell _ _ _ _ tY).trans ((Below.heap_setCell _ _ _ _ tY).trans ?_));rw[A2 hv];rfl
  have y2:Y.heap[w.heap.size+1+1]? =some (.cells #[.int .i64 0,.int .i64 0] 26 (0,0)):=by
   rw[←hY];have e0:(W.setCell ⟨w.heap.size+1,0,none⟩ (.slice va xs.length vc)).heap[w.heap.size+1+1]? =some (.cells #[.int .i64 0,.int .i64 0] 26 (0,0)):=(Below.heap_setCell _ _ _ _ tY).trans hI.pl;have e1:=A2 (i:=0) (u:= .int .i64 0) e0;have e2:=A2 (i:=1) (u:= .int .i64 0) e1;exact(Below.heap_setCell _ _ _ _ tY).trans e2
  have y3:Y.heap[w.heap.size+1+1+1]? =some (.cells #[.int .i64 0] 27 (0,0)):=by
   rw[←hY];have e0:=(Below.heap_setCell ((W.setCell ⟨w.heap.size+1,0,none⟩ (.slice va xs.length vc)).setCell ⟨w.heap.size+1+1,0,none⟩ (.int .i64 0)) ⟨w.heap.size+1+1,1,none⟩ (.int .i64 0) (w.heap.size+1+1+1) tH).trans ((Below.heap_setCell _ _ _ _ tY).trans ((Below.heap_setCell _ _ _ _ tY).trans hI.er));exact A2 (i:=0) (u:= .int .i64 0) e0
  have yD:Y.heap[D]? =some (.deferred (some [])):=(ho.block D (Ay hdef) tL).trans hdef
  have yrow:Y.ownsRow w.heap.size 63 7 (.slice va xs.length vc) xs.length (Ek (xs.map (R7 (dl s)))):=Bm hrow ho (fun kk e hm=>by
   simp only[List.mem_cons,List.not_mem_nil,or_false] at hm;rcases hm with rfl|rfl|rfl
   ·exact Bi hrow hv tG e
   ·exact Bi hrow hI.pl tG e
   exact Bi hrow hI.er tG e)
  have ybl:Below w.heap.size w Y:=Bv hI.below ho tL hI.below.size;have hZ:=dO (ts:=xs.map (R7 (dl s))) (Or.inl ⟨hxs,by rw[List.length_map];exact yrow,rfl,rfl,rfl⟩) ybl y1 y2 y3 yD tE;have HZ:=Ax hZ;have HY:=Ax hY;have YD:=Ax yD;clear hv hrow hI hxs hdef hY ho y1 y2 y3 yD yrow ybl hZ
  gi_wp2
  gi_region
  all_goals
   rw[HY.out]
   gi_wp2
   refine⟨by simp,.inl ⟨_,_,rfl,run_takeDeferred YD.out,?_⟩⟩;obtain⟨z1,z2,z3,z4,hpost⟩:=HZ.out;clear cl fl p0 p1 pf e0 ef;exact⟨.tuple #[.slice va xs.length vc,.agg #[.int .i64 0,.int .i64 0],.int .i64 0],by simp [results,Tryz.results30,go_sem,z1,z2,z3,z4],hpost⟩
 case stop=>
  intro D pre W hD hX hdef;obtain⟨line,col,q,hlx,h1,h2,h3⟩:=hX.err;have hZ:=dO (D:=D) (s:=s) (v:= .slice none 0 0) (a:=line) (b:=col) (q:=q) (ts:=[]) (Or.inr ⟨hlx,rfl⟩) hX.below h1 h2 h3 hdef tE;have HZ:=Ax hZ;have Hdef:=Ax hdef;clear hX hlx h1 h2 h3 hdef hZ
  gi_wp2
  refine⟨by simp,.inl ⟨_,_,rfl,run_takeDeferred Hdef.out,?_⟩⟩;obtain⟨z1,z2,z3,z4,hpost⟩:=HZ.out;exact⟨.tuple #[.slice none 0 0,.agg #[.int .i64 line,.int .i64 col],.int .i64 q],by simp [results,Tryz.results30,go_sem,z1,z2,z3,z4],hpost⟩
end Go.Proofs.YtmpfilddeglgbaaGreatDoor
