import Derived.Test.YtgfakdobajgnfaaGreatDoorQk10
set_option maxRecDepth 100000
set_option maxHeartbeats 16000000
namespace Go.Proofs.YtgfakdobajgnfaaGreatDoor
open Go Go.RowKit Go.Lib Go.Shelf
attribute [local go_sem] Oper.semAt_some
def Qt (w:World)(r:Except (Int×Int×Int) (List Tkn))(e:Ending)(w':World):Prop:=
 Below w.heap.size w w'/\match r with
  | .ok ts=>∃v,e= .returned (.tuple #[v,.agg #[.int .i64 0,.int .i64 0],.int .i64 0])/\w'.ownsRow w.heap.size 94 7 v ts.length (Eb ts)
  | .error q=>e= .returned (.tuple #[.slice none 0 0,.agg #[.int .i64 q.1,.int .i64 q.2.1],.int .i64 q.2.2])
structure aI (s:ByteArray)(w:World)(pre:List It)(W:World):Prop where
 below:Below w.heap.size w W
 sbox:W.heap[w.heap.size]? =some (.cells #[.string s] 9 (0,0))
 row:∃v,W.heap[w.heap.size+1]? =some (.cells #[v] 88 (0,0))/\W.ownsRow w.heap.size 94 7 v pre.length (Eb (pre.map (Qn (dl s))))
 pl:W.heap[w.heap.size+1+1]? =some (.cells #[.int .i64 0,.int .i64 0] 33 (0,0))
 er:W.heap[w.heap.size+1+1+1]? =some (.cells #[.int .i64 0] 27 (0,0))
structure gX (s:ByteArray)(w:World)(pre:List It)(W:World):Prop where
 below:Below w.heap.size w W
 err:∃line col q,LX (dl s) 1 1= .error (line,col,q)/\W.heap[w.heap.size+1]? =some (.cells #[.slice none 0 0] 88 (0,0))/\
  W.heap[w.heap.size+1+1]? =some (.cells #[.int .i64 line,.int .i64 col] 33 (0,0))/\W.heap[w.heap.size+1+1+1]? =some (.cells #[.int .i64 q] 27 (0,0))
theorem eF {T:TypeId->Prop}{B i:Nat}{A C:World}{t:TypeId}{j n:Nat}{v:Value}{k:List Value}(h:A.ownsRow i t j v n k)(m:E0 T B A C)(o:¬T t):C.ownsRow i t j v n k:=by
 obtain⟨p,c⟩:=h;refine⟨p,?_⟩;rcases c with c|⟨g,d,f,e,q,r,u,x,y,D⟩
 ·exact .inl c
 exact .inr ⟨g,d,f,e,q,m.keeps r (.inr ⟨_,_,_,rfl,o⟩),u,x,y,D⟩
theorem Sd {T:TypeId->Prop}{B:Nat}{w A C:World}(h:Below w.heap.size w A)(c:E0 T B A C)(g:w.heap.size<=B):Below w.heap.size w C:=by
 obtain⟨row,d,f⟩:=c;exact h.grown d h.size fun k e=>by have:=(f k e).1;omega
theorem aI.turn {s:ByteArray}{w A C:World}{pre:List It}{B:Nat}(h:aI s w pre A)(c:E0 itT B A C)(g:w.heap.size+4<=B):aI s w pre C:=by
 obtain⟨v,d,f⟩:=h.row;exact⟨Sd h.below c rF,c.keeps h.sbox (.inl rF),⟨v,c.keeps d (.inl rF),eF f c (by rintro (e|e)<;>exact absurd e rH)⟩,c.keeps h.pl (.inl rF),c.keeps h.er (.inl rF)⟩
theorem gX.turn {s:ByteArray}{w A C:World}{pre:List It}{B:Nat}(h:gX s w pre A)(c:E0 itT B A C)(i:w.heap.size+4<=B):gX s w pre C:=by
 obtain⟨line,col,q,d,e,f,g⟩:=h.err;exact⟨Sd h.below c rF,line,col,q,d,c.keeps e (.inl rF),c.keeps f (.inl rF),c.keeps g (.inl rF)⟩
theorem iA {s:ByteArray}{w V D X:World}{pre:List It}{x:It}{k:Int}{t:List UInt8}{vk vn:Int}{vs:List UInt8}{m:Nat}{A:Option Addr}{C:Nat}{v3:Value}(E:Obj)
 (u:aI s w pre V) (v:T7 s (w.heap.size+5) pre x V) (Y:B2 ((dl s).drop x.i)= .ok (⟨k,t,(vk,vn,vs)⟩,m)) (hv:V.heap[w.heap.size+1]? =some (.cells #[.slice A pre.length C] 88 (0,0)))
 (q:V.ownsRow w.heap.size 94 7 (.slice A pre.length C) pre.length (Eb (pre.map (Qn (dl s))))) (F:Bb [x.ptr] V D) (G:D.heap[x.ptr]? =some (.cells #[.int .i64 (m:Nat)] 3 (0,0)))
 (L:(D.alloc E).grownBy X (Value.slice A pre.length C).ownBlock)
 (h:X.ownsRow w.heap.size 94 7 v3 (pre.length+1) (Eb (pre.map (Qn (dl s)))++[.int .u8 k,.string ⟨t.toArray⟩,.int .u8 vk,.int .i64 vn,.string ⟨vs.toArray⟩,.int .i64 x.line,.int .i64 x.col])):
 X.heap[w.heap.size+1]? =some (.cells #[.slice A pre.length C] 88 (0,0))/\KeepsFrom (w.heap.size+5) V (X.setCell ⟨w.heap.size+1,0,none⟩ v3)/\qH s (w.heap.size+5) (w.heap.size+1+1+1+1) x V (X.setCell ⟨w.heap.size+1,0,none⟩ v3)/\aI s w (pre++[x]) (X.setCell ⟨w.heap.size+1,0,none⟩ v3):=by
 have Z:=v.low;have a8:D.heap.size<=X.heap.size:=Al rI L.size
 have hX:∀(c:Nat) (o:Obj),D.heap[c]? =some o->(Value.slice A pre.length C).ownBlock≠some c->X.heap[c]? =some o:=fun c o d M=>
  (L.block c (by have:=Ay d;simp;omega) (fun e=>M e.symm)).trans ((Below.heap_alloc _ _ _ (Ay d)).trans d)
 have I:∀(c:Nat) (o:Obj),V.heap[c]? =some o->(∀cs j,o≠ .cells cs 94 j)->(Value.slice A pre.length C).ownBlock≠some c:=fun c o d M e=>by
  rcases q.2 with ⟨h1,_⟩|⟨g,b7,b8,h1,_,N,_⟩
  ·rw[h1] at e;cases e
  rw[h1] at e;simp only[Value.ownBlock,Option.some.injEq] at e;subst e;rw[N] at d;cases d;exact M _ _ rfl
 have r:∀(c:Nat) (o:Obj),V.heap[c]? =some o->c≠x.ptr->(∀cs j,o≠ .cells cs 94 j)->X.heap[c]? =some o:=fun c o d h1 O=>
  hX c o ((F.block c (Ay d) sU).trans d) (I c o d O)
 have f:∀(c:Nat) (o:Obj),V.heap[c]? =some o->c≠x.ptr->c≠w.heap.size+1->(∀cs j,o≠ .cells cs 94 j)->(X.setCell ⟨w.heap.size+1,0,none⟩ v3).heap[c]? =some o:=fun c o d h1 h3 O=>
  (Below.heap_setCell _ _ _ _ (by simpa using h3)).trans (r c o d h1 O)
 have R:(X.setCell ⟨w.heap.size+1,0,none⟩ v3).heap[x.ptr]? =some (.cells #[.int .i64 (m:Nat)] 3 (0,0)):=
  (Below.heap_setCell _ _ _ _ rM).trans (hX _ _ G (I _ _ v.box (fun cs j e=>by injection e with _ e;exact absurd e rH)))
 have y:=r _ _ hv rF (fun cs j e=>by injection e with _ e;exact absurd e rH)
 have T:Below w.heap.size w (X.setCell ⟨w.heap.size+1,0,none⟩ v3):=
  ((((Bq u.below F rM u.below.size).alloc (Al u.below.size F.size) E).grown L (by have:=u.below.size;have:=F.size;simp;omega) (fun c e=>Co q c e)).setCell rI _)
 refine⟨y,⟨?_,fun c o hB d U=>?_⟩,⟨fun c cs t' j hB W ht d=>?_,fun cs j d=>?_,⟨_,_,Y,R⟩⟩,⟨T,?_,⟨v3,?_,?_⟩,?_,?_⟩⟩
 ·have:=F.size
  simp [World.setCell];omega
 ·refine f c o d ?_ rF (fun cs j e=>by rw[e] at U;cases U);rintro rfl;rw[v.box] at d;cases d;cases U
 ·refine f c _ d W rF (fun n p e=>?_);injection e with _ e;subst e;rcases ht with e|e<;>exact absurd e rH
 ·exact f _ _ d rF rF (fun n p e=>by injection e with _ e;exact absurd e rH)
 ·exact f _ _ u.sbox rF rF (fun n p e=>by injection e with _ e;exact absurd e rH)
 ·rw[A2 y];rfl
 ·rw[Ab,List.map_append,List.map_singleton,bZ Y,N6]
  exact Bj h ((Bb.refl [w.heap.size+1] X).setCell (.inl rI) v3) (fun c e hm=>by
   simp only[List.mem_singleton] at hm;subst hm
   exact Bh h y rH e)
 ·exact f _ _ u.pl rF rF (fun n p e=>by injection e with _ e;exact absurd e rH)
 exact f _ _ u.er rF rF (fun n p e=>by injection e with _ e;exact absurd e rH)
theorem Bi.place {w:World}{b:Nat}{k:Int}{t:ByteArray}{vk vn:Int}{vs:ByteArray}{line col:Int}(h:Bi w b k t vk vn vs line col)(c d:Int):
 Bi ((w.setCell ⟨b,5,none⟩ (.int .i64 c)).setCell ⟨b,6,none⟩ (.int .i64 d)) b k t vk vn vs c d:=by
 have H:=h.isSome;refine⟨?_,?_,?_,?_,?_,?_,?_,fun i=>?_⟩
 ·exact cell_far 6 _ _ rH (cell_far 5 _ _ rH h.c0)
 ·exact cell_far 6 _ _ rH (cell_far 5 _ _ rH h.c1)
 ·exact cell_far 6 _ _ rH (cell_far 5 _ _ rH h.c2)
 ·exact cell_far 6 _ _ rH (cell_far 5 _ _ rH h.c3)
 ·exact cell_far 6 _ _ rH (cell_far 5 _ _ rH h.c4)
 ·exact cell_far 6 _ _ rH (World.cell?_setCell_same' _ _ _ (H 5 rH))
 ·exact World.cell?_setCell_same' _ _ _ (E6 (i:=6) 5 _ (H 6 rH))
 simpa using h.fz i
theorem Bi.kept {w w':World}{b:Nat}{k:Int}{t:ByteArray}{vk vn:Int}{vs:ByteArray}{line col:Int}(h:Bi w b k t vk vn vs line col)(e:w'.heap[b]? =w.heap[b]?):Bi w' b k t vk vn vs line col:=by
 exact zx7
theorem jZ {s:ByteArray}{w V wc:World}{pre:List It}{x:It}{q:Int}{v:Value}(k:Below w.heap.size w V)(c:T7 s (w.heap.size+5) pre x V)(m:B2 ((dl s).drop x.i)= .error q)(f:Below V.heap.size V wc)
 (y:wc.heap[w.heap.size+1]? =some (.cells #[v] 88 (0,0))) (A:wc.heap[w.heap.size+1+1]? =some (.cells #[.int .i64 0,.int .i64 0] 33 (0,0))) (C:wc.heap[w.heap.size+1+1+1]? =some (.cells #[.int .i64 0] 27 (0,0))):
 KeepsFrom (w.heap.size+5) V ((((wc.setCell ⟨w.heap.size+1,0,none⟩ (.slice none 0 0)).setCell ⟨w.heap.size+1+1,0,none⟩ (.int .i64 x.line)).setCell ⟨w.heap.size+1+1,1,none⟩ (.int .i64 x.col)).setCell ⟨w.heap.size+1+1+1,0,none⟩ (.int .i64 q)).drew/\
 gX s w (pre++[x]) ((((wc.setCell ⟨w.heap.size+1,0,none⟩ (.slice none 0 0)).setCell ⟨w.heap.size+1+1,0,none⟩ (.int .i64 x.line)).setCell ⟨w.heap.size+1+1,1,none⟩ (.int .i64 x.col)).setCell ⟨w.heap.size+1+1+1,0,none⟩ (.int .i64 q)).drew:=by
 obtain⟨Z,d⟩:∃Z,((((wc.setCell ⟨w.heap.size+1,0,none⟩ (.slice none 0 0)).setCell ⟨w.heap.size+1+1,0,none⟩ (.int .i64 x.line)).setCell ⟨w.heap.size+1+1,1,none⟩ (.int .i64 x.col)).setCell ⟨w.heap.size+1+1+1,0,none⟩ (.int .i64 q)).drew=Z:=⟨_,rfl⟩;rw[d]
 have g:Bb [w.heap.size+1,w.heap.size+1+1,w.heap.size+1+1+1] wc Z:=by
  rw[←d];exact(((((Bb.refl _ wc).setCell (.inl rI) _).setCell (.inl rI) _).setCell (.inl rI) _).setCell (.inl rI) _).drew
 have D:Z.heap[w.heap.size+1]? =some (.cells #[.slice none 0 0] 88 (0,0)):=by
  rw[←d];refine(Below.heap_setCell _ _ _ _ rY).trans ((Below.heap_setCell _ _ _ _ rY).trans ((Below.heap_setCell _ _ _ _ rY).trans ?_));rw[A2 y];rfl
 have E:Z.heap[w.heap.size+1+1]? =some (.cells #[.int .i64 x.line,.int .i64 x.col] 33 (0,0)):=by
  rw[←d];have h:(wc.setCell ⟨w.heap.size+1,0,none⟩ (.slice none 0 0)).heap[w.heap.size+1+1]? =some (.cells #[.int .i64 0,.int .i64 0] 33 (0,0)):=(Below.heap_setCell _ _ _ _ rY).trans A;have F:=A2 (i:=0) (u:= .int .i64 x.line) h;have G:=A2 (i:=1) (u:= .int .i64 x.col) F;exact(Below.heap_setCell _ _ _ _ rY).trans G
 have I:Z.heap[w.heap.size+1+1+1]? =some (.cells #[.int .i64 q] 27 (0,0)):=by
  rw[←d];have h:=(Below.heap_setCell ((wc.setCell ⟨w.heap.size+1,0,none⟩ (.slice none 0 0)).setCell ⟨w.heap.size+1+1,0,none⟩ (.int .i64 x.line)) ⟨w.heap.size+1+1,1,none⟩ (.int .i64 x.col) (w.heap.size+1+1+1) rI).trans ((Below.heap_setCell _ _ _ _ rY).trans ((Below.heap_setCell _ _ _ _ rY).trans C));exact A2 (i:=0) (u:= .int .i64 q) h
 have n:=c.low;have e:Below w.heap.size w wc:=k.trans (f.mono k.size);refine⟨⟨Al f.size g.size,fun p o M r N=>?_⟩,Bq e g rM e.size,x.line,x.col,q,?_,D,E,I⟩
 ·have j:=Ay r;have O:=f.size;exact(g.block p rF rM).trans ((f.block p j).trans r)
 have L:x.i<(dl s).length:=by rw[A5];exact c.lt
 have hd:(dl s).drop x.i=s[x.i]'c.lt::(dl s).drop (x.i+1):=by
  rw[List.drop_eq_getElem_cons L];rfl
 rw[c.law];rw[hd] at m ⊢;rw[Pg c.beg m];rfl
theorem bV {s:ByteArray}{w Y:World}{D:Nat}{v:Value}{a b q:Int}{ts:List Tkn}
 (h:(LX (dl s) 1 1= .ok ts/\Y.ownsRow w.heap.size 94 7 v ts.length (Eb ts)/\a=0/\b=0/\q=0)\/(LX (dl s) 1 1= .error (a,b,q)/\v= .slice none 0 0)) (x:Below w.heap.size w Y)
 (y:Y.heap[w.heap.size+1]? =some (.cells #[v] 88 (0,0))) (A:Y.heap[w.heap.size+1+1]? =some (.cells #[.int .i64 a,.int .i64 b] 33 (0,0))) (C:Y.heap[w.heap.size+1+1+1]? =some (.cells #[.int .i64 q] 27 (0,0)))
 (f:Y.heap[D]? =some (.deferred (some []))) (E:w.heap.size+4<=D):
 (Y.putObj D (.deferred none)).cell? ⟨w.heap.size+1,0,none⟩=some v/\(Y.putObj D (.deferred none)).cell? ⟨w.heap.size+1+1,0,none⟩=some (.int .i64 a)/\(Y.putObj D (.deferred none)).cell? ⟨w.heap.size+1+1,1,none⟩=some (.int .i64 b)/\
 (Y.putObj D (.deferred none)).cell? ⟨w.heap.size+1+1+1,0,none⟩=some (.int .i64 q)/\Qt w (Fq (dl s)) (.returned (.tuple #[v,.agg #[.int .i64 a,.int .i64 b],.int .i64 q])) (Y.putObj D (.deferred none)):=by
 have c:∀(d:Nat) (o:Obj),Y.heap[d]? =some o->d≠D->(Y.putObj D (.deferred none)).heap[d]? =some o:=fun d o h i=>(World.putObj_heap_other i).trans h
 have F:=c _ _ y rF;have r:=c _ _ A rF;have G:=c _ _ C rF;refine⟨by simp [World.cell?,F],by simp [World.cell?,r],by simp [World.cell?,r],by simp [World.cell?,G],x.trans (belowK_b (w:=w) (Ak _) Y D _ _ rF f rfl rfl),?_⟩;rw[bL];rcases h with ⟨h,I,rfl,rfl,rfl⟩|⟨h,rfl⟩
 ·rw[h];refine⟨v,rfl,?_⟩;obtain⟨L,j⟩:=I;refine⟨L,?_⟩;rcases j with j|⟨g,k,m,e,n,u,p,M,N,O⟩
  ·exact .inl j
  refine .inr ⟨g,k,m,e,n,c _ _ u ?_,p,M,N,O⟩;rintro rfl;rw[u] at f;cases f
 rw[h]
theorem gW:(Tryz.prog.info? 94).map (fun i=>(i.zero,i.size,i.bytes))=some (some (.agg Dp),7,72):=by kernel_rfl
theorem Ud:∃i,Tryz.prog.info? 94=some i/\i.zero=some (.agg Dp)/\i.size=7/\i.bytes=72:=by
 have h:=gW;cases hi:Tryz.prog.info? 94 with
 |none=>simp [hi] at h
 |some i=>
  exact zxn
theorem aR (s:ByteArray)(w:World):CallsIn Fence.wide 4 Tryz.prog 86 #[.string s] w fun e w'=>e= .returned (.func (.func 138) #[] #[.pointer (some ⟨w.heap.size,0,none⟩)])/\w'=w.alloc (.cells #[.string s] 9):=by
 refine callsIn_of_wp Tryz.func86 rfl trivial ?_ rfl;simp only[Tryz.ntmps86,List.size_toArray,Aa,List.length_nil,Nat.reduceAdd,Nat.reduceSub,Array.replicate_succ,Array.replicate_zero,List.push_toArray,List.append_toArray,List.nil_append,List.cons_append]
 gi_wp2
 exact zyn
def Xv (s:ByteArray)(w:World):World:=
 ((((w.alloc (.cells #[.string s] 9)).alloc (.cells #[.slice none 0 0] 88)).alloc (.cells #[.int .i64 0,.int .i64 0] 33)).alloc (.cells #[.int .i64 0] 27)).alloc (.cells #[.string s] 9)
theorem bR (s:ByteArray)(w:World)(hs:s.size<=65536)(hR:Rd w):Calls Tryz.prog 52 #[.string s] w (Qt w (Fq (dl s))):=by
 have HR:=Ax hR;have i1:decide ((65536:Int)<(s.size:Int))=false:=by simp;omega
 refine(callsIn_wide (n:=5)).1 ?_;refine callsIn_of_wp_marks Tryz.func52 rfl trivial ?_ rfl;simp only[Tryz.ntmps52,List.size_toArray,Aa,List.length_nil,Nat.reduceAdd,Nat.reduceSub,Array.replicate_succ,Array.replicate_zero,List.push_toArray,List.append_toArray,List.nil_append,List.cons_append]
 gi_wp2
 refine⟨trivial,?_⟩;refine(aR s _).mono ?_;rintro e w' ⟨rfl,rfl⟩
 gi_wp2
 obtain⟨w0,y⟩:∃w0,Xv s w=w0:=⟨_,rfl⟩;have T:w0.heap.size=w.heap.size+5:=by rw[←y];simp [Xv]
 have uZ:Below w.heap.size w w0:=by
  rw[←y];exact(((((Aq _ w).alloc (Ak _) _).alloc rI _).alloc rM _).alloc rM _).alloc rM _
 have hn:∀(A:World) (o:Obj),(A.alloc o).heap[A.heap.size]? =some o:=fun A o=>(MapKept.heap_alloc A o).1
 have I:∀(A:World) (o:Obj) (k:Nat),k<A.heap.size->(A.alloc o).heap[k]? =A.heap[k]?:=fun A o k h=>Below.heap_alloc _ _ _ h
 have x0:w0.heap[w.heap.size]? =some (.cells #[.string s] 9 (0,0)):=by
  rw[←y];unfold Xv;rw[I _ _ _ rY,I _ _ _ rY,I _ _ _ rY,I _ _ _ rI];exact hn _ _
 have x1:w0.heap[w.heap.size+1]? =some (.cells #[.slice none 0 0] 88 (0,0)):=by
  rw[←y];unfold Xv;rw[I _ _ _ rY,I _ _ _ rY,I _ _ _ rI]
  have:=hn (w.alloc (.cells #[.string s] 9)) (.cells #[.slice none 0 0] 88)
  rwa [World.size_alloc] at this
 have x2:w0.heap[w.heap.size+1+1]? =some (.cells #[.int .i64 0,.int .i64 0] 33 (0,0)):=by
  rw[←y];unfold Xv;rw[I _ _ _ rY,I _ _ _ rI]
  have:=hn ((w.alloc (.cells #[.string s] 9)).alloc (.cells #[.slice none 0 0] 88)) (.cells #[.int .i64 0,.int .i64 0] 33)
  rwa [World.size_alloc,World.size_alloc] at this
 have x3:w0.heap[w.heap.size+1+1+1]? =some (.cells #[.int .i64 0] 27 (0,0)):=by
  rw[←y];unfold Xv;rw[I _ _ _ rI]
  have:=hn (((w.alloc (.cells #[.string s] 9)).alloc (.cells #[.slice none 0 0] 88)).alloc (.cells #[.int .i64 0,.int .i64 0] 33)) (.cells #[.int .i64 0] 27)
  rwa [World.size_alloc,World.size_alloc,World.size_alloc] at this
 have x4:w0.heap[w.heap.size+1+1+1+1]? =some (.cells #[.string s] 9 (0,0)):=by
  rw[←y];unfold Xv
  have:=hn ((((w.alloc (.cells #[.string s] 9)).alloc (.cells #[.slice none 0 0] 88)).alloc (.cells #[.int .i64 0,.int .i64 0] 33)).alloc (.cells #[.int .i64 0] 27)) (.cells #[.string s] 9)
  rwa [World.size_alloc,World.size_alloc,World.size_alloc,World.size_alloc] at this
 unfold Xv at y;rw[y];have w9:aI s w [] w0:=⟨uZ,x0,⟨_,x1,by simpa[Eb] using World.ownsRow_nil w0 w.heap.size 94 7⟩,x2,x3⟩;have vA:=Ax w9;clear y w9 x0 x1 x2 x3 hn I hR
 refine Zk rfl rF (gf:=138) (lb:= #[.pointer (some ⟨w.heap.size+1+1+1+1,0,none⟩)]) rfl trivial (enters_of Tryz.func138 rG rfl) (Vm 4 s hs (w.heap.size+1+1+1+1) w0 x4 rF) (fun _=>rfl) (aI s w) (gX s w)
  (fun _ _ _ h ht=>h.turn ht rF) (fun _ _ _ h ht=>h.turn ht rF) vA.out (fun x=> .cells #[.int .i64 x.line,.int .i64 x.col] 33)
  (fun x W=>{tmps:= #[.string s,.pointer (some ⟨w.heap.size,0,none⟩),.pointer (some ⟨w.heap.size+1,0,none⟩),.pointer (some ⟨w.heap.size+1+1,0,none⟩),.pointer (some ⟨w.heap.size+1+1+1,0,none⟩),.pointer (some ⟨x.ptr,0,none⟩),.pointer (some ⟨W.heap.size,0,none⟩),undef,undef,undef,.string s,.int .i64 (s.size:Nat),.bool false,undef,.string s,.func (.func 138) #[] #[.pointer (some ⟨w.heap.size+1+1+1+1,0,none⟩)],.pointer (some ⟨x.ptr,0,none⟩),.agg #[.int .i64 x.line,.int .i64 x.col],undef,undef,undef,undef,undef,undef,undef,undef,undef,undef,undef,undef,undef,undef,undef,undef,undef,undef,undef,undef,undef,undef,undef,undef,undef],defers:=[]})
  ?offer ?kept ?assign ?body ?done ?stop
 case offer=>
  intro pre x W l o o' c U hc
  have j9:x.ptr≠l:=by
   rintro rfl;rw[c.box] at U;cases U;cases hc
  exact⟨(World.putObj_heap_other j9).trans ((Below.heap_alloc _ _ _ (Ay c.box)).trans c.box),c.low,c.lt,c.beg,c.law,c.cnt⟩
 case kept=>
  intro x W Y l o o' p p' U hc I hp vB
  have j9:∀(kk:Nat) (cs:Array Value) (t:TypeId) (fz:Nat×Nat),W.heap[kk]? =some (.cells cs t fz)->((W.alloc (.cells #[.int .i64 x.line,.int .i64 x.col] 33)).putObj l o').heap[kk]? =some (.cells cs t fz):=fun kk cs t fz h=>by
   have r9:kk≠l:=by
    rintro rfl;rw[h] at U;cases U;cases hc
   exact(World.putObj_heap_other r9).trans ((Below.heap_alloc _ _ _ (Ay h)).trans h)
  have b8:∀(kk:Nat) (cs:Array Value) (t:TypeId) (fz:Nat×Nat),Y.heap[kk]? =some (.cells cs t fz)->(Y.putObj l p').heap[kk]? =some (.cells cs t fz):=fun kk cs t fz h=>by
   have r9:kk≠l:=by
    rintro rfl;rw[h] at hp;cases hp;cases vB
   exact(World.putObj_heap_other r9).trans h
  obtain⟨wd,m,h1,h2⟩:=I.done;exact⟨fun kk cs t fz hB hx ht h=>b8 _ _ _ _ (I.same kk cs t fz hB hx ht (j9 _ _ _ _ h)),fun cs fz h=>b8 _ _ _ _ (I.sbox cs fz (j9 _ _ _ _ h)),wd,m,h1,b8 _ _ _ _ h2⟩
 case assign=>
  intro l x W K hK;unfold itV
  gi_wp2
  exact hK
 case body=>
  intro l pre x W o o' hl U hc E c;have vC:=Ay U
  have a8:((W.alloc (.cells #[.int .i64 x.line,.int .i64 x.col] 33)).putObj l o').heap[W.heap.size]? =some (.cells #[.int .i64 x.line,.int .i64 x.col] 33 (0,0)):=
   (World.putObj_heap_other rF).trans (MapKept.heap_alloc W _).1
  obtain⟨V,hV⟩:∃V,(W.alloc (.cells #[.int .i64 x.line,.int .i64 x.col] 33)).putObj l o'=V:=⟨_,rfl⟩;rw[hV] at E c a8 ⊢;clear hV U hc hl vC;obtain⟨v,hv,d⟩:=E.row;obtain⟨L,M,rfl⟩:=D8 d;have cs:V.cell? ⟨w.heap.size,0,none⟩=some (.string s):=by simp [World.cell?,E.sbox]
  have cl:V.cell? ⟨w.heap.size+1,0,none⟩=some (.slice L pre.length M):=by simp [World.cell?,hv]
  have fl:V.frozen? ⟨w.heap.size+1,0,none⟩=false:=by simp [World.frozen?,hv]
  have cx:V.cell? ⟨x.ptr,0,none⟩=some (.int .i64 (x.i:Nat)):=by simp [World.cell?,c.box]
  have fx:V.frozen? ⟨x.ptr,0,none⟩=false:=by simp [World.frozen?,c.box]
  have p0:V.cell? ⟨W.heap.size,0,none⟩=some (.int .i64 x.line):=by simp [World.cell?,a8]
  have p1:V.cell? ⟨W.heap.size,1,none⟩=some (.int .i64 x.col):=by simp [World.cell?,a8]
  have s7:x.i<s.size:=c.lt;have i2:(x.i:Int)<=(s.size:Int):=by omega
  have s8:dl (s.extract x.i s.size)=(dl s).drop x.i:=Ft s x.i;have vD:(s.extract x.i s.size).size=s.size - x.i:=by rw[←A5,s8,List.length_drop,A5]
  have N:∀A,Below w.heap.size w A->CallsIn Fence.wide 2 Tryz.prog 87 #[.string (s.extract x.i s.size)] A (Qa A (B2 ((dl s).drop x.i))):=fun A hA=>by
   have:=fS (s.extract x.i s.size) A rF rF (HR.out.below hA)
   rw[s8] at this;exact callsIn_wide.2 this
  obtain⟨r,hr⟩:∃r,B2 ((dl s).drop x.i)=r:=⟨_,rfl⟩;rw[hr] at N;have f:=Ax N;have Hr:=Ax hr;have HI:=Ax E;have b7:=Ax c;have d8:=Ax d;have vE:=Ax a8;have Hv:=Ax hv;have k8:w.heap.size+1<V.heap.size:=Ay hv;have vP:w.heap.size<V.heap.size:=by omega
  have l7:W.heap.size<V.heap.size:=Ay a8;have s9:x.ptr<V.heap.size:=Ay c.box;clear N hr E c d a8 hv s8 vD;cases r with
  |ok q=>
   obtain⟨⟨k,t,vk,vn,vs⟩,m⟩:=q;have F:=HI.out.below;have f7:Below w.heap.size w (V.alloc (.cells Dp 94)):=F.alloc F.size _;have f8:=f.out V.drew F.drew;have f9:=f.out _ f7.drew;have Hca:=Ax f8;have Hcb:=Ax f9;have hzb:V.heap.size<=(V.alloc (.cells Dp 94)).heap.size:=by simp
   unfold Dp at Hcb;clear F f7 f8 f9 f
   gi_wp2_with fail
   gi_cut [7,8,9] from 18 (fun u7 u8 u9 wx=>∃p:Nat,u7= .pointer (some ⟨p,0,none⟩)/\u8= .int .i64 (m:Nat)/\u9= .int .i64 0/\V.heap.size<=p/\Hid (Bi wx p k ⟨t.toArray⟩ vk vn ⟨vs.toArray⟩ 0 0/\Below V.heap.size V wx))
   case first=>
    refine Kn l rfl rG rG ?_;refine QI 1 (h:=?_);refine QI 2 (h:=?_);refine wpAnyIn_ready (rs:=[0,3,10]) rG rI ?_;refine Av rfl (fun K hK=>?_) ?_
    ·go_simp
     refine hK _ _ ?_;clear hK K;refine wpAnyIn_ready (rs:=[3,10]) rG rI ?_;refine Av rfl (fun K hK=>?_) ?_
     ·go_simp
      refine hK _ _ ?_;clear hK K;refine QI 4 (h:=?_);refine wpAnyIn_ready (rs:=[5,10]) rG rI ?_;refine Av rfl (fun K hK=>?_) ?_
      ·go_simp
       refine⟨trivial,?_⟩;refine(Hca.out).mono ?_;rintro e X ⟨g,he⟩;simp only[Fu] at he;subst he;have hb:Below V.heap.size V X:=(Aq V.heap.size V).drew.trans g;have hXz:=hb.size;have h7:=Bi.newc X k ⟨t.toArray⟩ vk vn ⟨vs.toArray⟩ 0 0;have h8:=hb.alloc hXz (.cells #[.int .u8 k,.string ⟨t.toArray⟩,.int .u8 vk,.int .i64 vn,.string ⟨vs.toArray⟩,.int .i64 0,.int .i64 0] 94);have H7:=Ax h7;have H8:=Ax h8;clear hb g h7 h8;clear Hca Hcb cs cl fl cx fx p0 p1
       go_simp
       refine hK _ _ ?_;clear hK K;refine QI 6 (h:=?_);refine QI 7 (h:=?_);refine QI 8 (h:=?_);refine QI 9 (h:=?_);refine wpAnyIn_ready (rs:=[10]) rG rI ?_;refine Av rfl (fun K hK=>?_) ?_
       ·go_simp
        refine hK _ _ ?_;clear hK K;refine wpAnyIn_ready (rs:=[11]) rG rI ?_;refine Av rfl (fun K hK=>?_) ?_
        ·exact zwz
        exact zzg
       exact zzg
      refine Av rfl (fun K hK=>?_) ?_
      ·go_simp
       refine hK _ _ ?_;clear hK K;exact zz7
      exact zzg
     refine Av rfl (fun K hK=>?_) ?_
     ·go_simp
      refine hK _ _ ?_;clear hK K;refine wpAnyIn_ready (rs:=[3]) rG rI ?_;refine Av rfl (fun K hK=>?_) ?_
      ·go_simp
       refine hK _ _ ?_;clear hK K;refine QI 4 (h:=?_);exact zz7
      exact zzg
     exact zzg
    refine Av rfl (fun K hK=>?_) ?_
    ·go_simp
     refine hK _ _ ?_;clear hK K;refine wpAnyIn_ready (rs:=[0,10]) rG rI ?_;refine Av rfl (fun K hK=>?_) ?_
     ·go_simp
      refine hK _ _ ?_;clear hK K;refine QI 4 (h:=?_);refine wpAnyIn_ready (rs:=[5,10]) rG rI ?_;refine Av rfl (fun K hK=>?_) ?_
      ·go_simp
       refine⟨trivial,?_⟩;refine(Hca.out).mono ?_;rintro e X ⟨g,he⟩;simp only[Fu] at he;subst he;have hb:Below V.heap.size V X:=(Aq V.heap.size V).drew.trans g;have hXz:=hb.size;have h7:=Bi.newc X k ⟨t.toArray⟩ vk vn ⟨vs.toArray⟩ 0 0;have h8:=hb.alloc hXz (.cells #[.int .u8 k,.string ⟨t.toArray⟩,.int .u8 vk,.int .i64 vn,.string ⟨vs.toArray⟩,.int .i64 0,.int .i64 0] 94);have H7:=Ax h7;have H8:=Ax h8;clear hb g h7 h8;clear Hca Hcb cs cl fl cx fx p0 p1
       go_simp
       refine hK _ _ ?_;clear hK K;refine QI 6 (h:=?_);refine QI 7 (h:=?_);refine QI 8 (h:=?_);refine QI 9 (h:=?_);refine wpAnyIn_ready (rs:=[10]) rG rI ?_;refine Av rfl (fun K hK=>?_) ?_
       ·go_simp
        refine hK _ _ ?_;clear hK K;refine wpAnyIn_ready (rs:=[11]) rG rI ?_;refine Av rfl (fun K hK=>?_) ?_
        ·exact zwz
        exact zzg
       exact zzg
      refine Av rfl (fun K hK=>?_) ?_
      ·go_simp
       refine hK _ _ ?_;clear hK K;exact zz7
      exact zzg
     refine Av rfl (fun K hK=>?_) ?_
     ·go_simp
      refine hK _ _ ?_;clear hK K;refine wpAnyIn_ready (rs:=[0]) rG rI ?_;refine Av rfl (fun K hK=>?_) ?_
      ·go_simp
       refine hK _ _ ?_;clear hK K;refine QI 4 (h:=?_);exact zz7
      exact zzg
     exact zzg
    refine Av rfl (fun K hK=>?_) ?_
    ·go_simp
     refine hK _ _ ?_;clear hK K;refine wpAnyIn_ready (rs:=[0,3]) rG rI ?_;refine Av rfl (fun K hK=>?_) ?_
     ·go_simp
      refine hK _ _ ?_;clear hK K;refine wpAnyIn_ready (rs:=[3]) rG rI ?_;refine Av rfl (fun K hK=>?_) ?_
      ·go_simp
       refine hK _ _ ?_;clear hK K;refine QI 4 (h:=?_);exact zz7
      exact zzg
     refine Av rfl (fun K hK=>?_) ?_
     ·go_simp
      refine hK _ _ ?_;clear hK K;refine wpAnyIn_ready (rs:=[0]) rG rI ?_;refine Av rfl (fun K hK=>?_) ?_
      ·go_simp
       refine hK _ _ ?_;clear hK K;refine QI 4 (h:=?_);exact zz7
      exact zzg
     exact zzg
    exact zzg
   case rest=>
    obtain⟨p,rfl,rfl,rfl,hp,hq⟩:=hcut;have C:=hq.out.2;have q0:=(World.cell?_of_block (w:=V) (w':=wc) (a:=⟨W.heap.size,0,none⟩) (C.block W.heap.size l7)).trans p0;have q1:=(World.cell?_of_block (w:=V) (w':=wc) (a:=⟨W.heap.size,1,none⟩) (C.block W.heap.size l7)).trans p1;have q2:=(World.cell?_of_block (w:=V) (w':=wc) (a:=⟨w.heap.size+1,0,none⟩) (C.block _ k8)).trans cl;have q3:=(World.frozen?_of_block (w:=V) (w':=wc) (a:=⟨w.heap.size+1,0,none⟩) (C.block _ k8)).trans fl;have q4:=(World.cell?_of_block (w:=V) (w':=wc) (a:=⟨x.ptr,0,none⟩) (C.block _ s9)).trans cx;have q5:=(World.frozen?_of_block (w:=V) (w':=wc) (a:=⟨x.ptr,0,none⟩) (C.block _ s9)).trans fx;have vQ:=b7.out.low;have vM:=b7.out.cnt;have p8:wc.heap[x.ptr]? =some (.cells #[.int .i64 (x.i:Nat)] 3 (0,0)):=(C.block _ s9).trans b7.out.box;obtain⟨R,i6⟩:∃R,((wc.setCell ⟨p,5,none⟩ (.int .i64 x.line)).setCell ⟨p,6,none⟩ (.int .i64 x.col)).setCell ⟨x.ptr,0,none⟩ (.int .i64 (m:Nat))=R:=⟨_,rfl⟩
    have x8:Bi R p k ⟨t.toArray⟩ vk vn ⟨vs.toArray⟩ x.line x.col:=by
     rw[←i6];exact(hq.out.1.place x.line x.col).kept (Below.heap_setCell _ _ _ _ rM)
    have i7:Bb [x.ptr] V R:=by
     rw[←i6];exact((((Bb.of_below C _).setCell (.inr hp) _).setCell (.inr hp) _).setCell (.inl rI) _)
    have r7:R.heap[x.ptr]? =some (.cells #[.int .i64 (m:Nat)] 3 (0,0)):=by
     rw[←i6]
     have e1:((wc.setCell ⟨p,5,none⟩ (.int .i64 x.line)).setCell ⟨p,6,none⟩ (.int .i64 x.col)).heap[x.ptr]? =some (.cells #[.int .i64 (x.i:Nat)] 3 (0,0)):=
      (Below.heap_setCell _ _ _ _ rM).trans ((Below.heap_setCell _ _ _ _ rM).trans p8)
     rw[A2 e1];rfl
    have vR:R.cell? ⟨w.heap.size+1,0,none⟩=some (.slice L pre.length M):=(World.cell?_of_block (w:=V) (w':=R) (a:=⟨w.heap.size+1,0,none⟩) (i7.block _ k8 rM)).trans cl
    have j8:R.ownsRow w.heap.size 94 7 (.slice L pre.length M) pre.length (Eb (pre.map (Qn (dl s)))):=Bj d8.out i7 (fun kk e hm=>by
     simp only[List.mem_singleton] at hm;subst hm
     exact Bh d8.out b7.out.box rH e)
    have vS:V.heap.size<=R.heap.size:=i7.size;obtain⟨d0,d1,d2,d3,d4,d5,d6,fz⟩:=hq.out.1;have vF:=Ax x8;have vG:=Ax i7;have x9:=Ax r7;have w7:=Ax j8;have y8:=Ax i6;clear C hq x8 i7 r7 p8 j8 i6 cs cl fl cx fx p0 p1 Hca Hcb
    gi_upto_region 10 with fail
    rw[y8.out];obtain⟨d0,d1,d2,d3,d4,d5,d6,fz⟩:=vF.out;have vT:R.frozen? ⟨w.heap.size+1,0,none⟩=false:=by rw[←y8.out];simpa using q3
    obtain⟨i0,y9,uR,uS,uT⟩:=Ud;have vH:=Ax y9;have vI:=Ax uR;have vJ:=Ax uS;have vK:=Ax uT;have G:T7 s (w.heap.size+5) pre x V:=by rw[←T];exact b7.out
    have uU:=Ax G;have n9:=Ax T;have vN:w.heap.size<=R.heap.size:=by omega
    clear y9 uR uS uT G q0 q1 q2 q3 q4 q5 T
    gi_wp2_with (gi_at_builtin;refine Hid.out ?_)
    refine Ax ?_;refine wpListIn_append_own _ rfl (.tmp 37) (.tmp 39) _ rfl w.heap.size 94 i0 (.agg Dp) 7 72 Tryz.underlying88 vH.out vI.out vJ.out vK.out rfl rH (.slice L pre.length M) pre.length _ rfl (Cg w7.out (((Aq _ R).alloc (Ak _) (.cells #[.int .u8 k,.string ⟨t.toArray⟩,.int .u8 vk,.int .i64 vn,.string ⟨vs.toArray⟩,.int .i64 x.line,.int .i64 x.col] 94)))) ⟨R.heap.size,0,none⟩ 1 1 [.int .u8 k,.string ⟨t.toArray⟩,.int .u8 vk,.int .i64 vn,.string ⟨vs.toArray⟩,.int .i64 x.line,.int .i64 x.col] rfl rfl (World.news_of_block (cs:= #[.int .u8 k,.string ⟨t.toArray⟩,.int .u8 vk,.int .i64 vn,.string ⟨vs.toArray⟩,.int .i64 x.line,.int .i64 x.col]) (Az R _)) rS rP rF rM ?_;intro v3 X w8 uV _;have hf:=iA _ HI.out uU.out Hr.out Hv.out d8.out vG.out x9.out uV w8;obtain⟨na,nc,rfl⟩:=D8 w8;have b0:X.cell? ⟨w.heap.size+1,0,none⟩=some (.slice L pre.length M):=by(simp [World.cell?,hf.1])
    have bf:X.frozen? ⟨w.heap.size+1,0,none⟩=false:=by(simp [World.frozen?,hf.1])
    have HF:=Ax hf.2;clear hf w8 uV
    gi_wp2
    rw[n9.out];exact HF.out
  |error q=>
   have hq:=Pq Hr.out;have F:=HI.out.below;have f7:Below w.heap.size w (V.alloc (.cells Dp 94)):=F.alloc F.size _;have f8:=f.out V.drew F.drew;have f9:=f.out _ f7.drew;have Hca:=Ax f8;have Hcb:=Ax f9;have Hq:=Ax hq;have hzb:V.heap.size<=(V.alloc (.cells Dp 94)).heap.size:=by simp
   unfold Dp at Hcb;clear F f7 f8 f9 f hq
   gi_wp2_with fail
   gi_cut [7,8,9] from 18 (fun u7 u8 u9 wx=>∃(p:Nat) (m:Int),u7= .pointer (some ⟨p,0,none⟩)/\u8= .int .i64 m/\u9= .int .i64 q/\Hid (Below V.heap.size V wx))
   case first=>
    refine Kn l rfl rG rG ?_;refine QI 1 (h:=?_);refine QI 2 (h:=?_);refine wpAnyIn_ready (rs:=[0,3,10]) rG rI ?_;refine Av rfl (fun K hK=>?_) ?_
    ·go_simp
     refine hK _ _ ?_;clear hK K;refine wpAnyIn_ready (rs:=[3,10]) rG rI ?_;refine Av rfl (fun K hK=>?_) ?_
     ·go_simp
      refine hK _ _ ?_;clear hK K;refine QI 4 (h:=?_);refine wpAnyIn_ready (rs:=[5,10]) rG rI ?_;refine Av rfl (fun K hK=>?_) ?_
      ·go_simp
       refine⟨trivial,?_⟩;refine(Hca.out).mono ?_;rintro e X ⟨g,⟨k,t,vk,vn,vs⟩,m,he⟩;simp only[Fu] at he;subst he;have hb:Below V.heap.size V X:=(Aq V.heap.size V).drew.trans g;have hXz:=hb.size;have h8:=hb.alloc hXz (.cells #[.int .u8 k,.string ⟨t.toArray⟩,.int .u8 vk,.int .i64 vn,.string ⟨vs.toArray⟩,.int .i64 0,.int .i64 0] 94);have H8:=Ax h8;clear hb g h8;clear Hca Hcb cs cl fl cx fx p0 p1
       go_simp
       refine hK _ _ ?_;clear hK K;refine QI 6 (h:=?_);refine QI 7 (h:=?_);refine QI 8 (h:=?_);refine QI 9 (h:=?_);refine wpAnyIn_ready (rs:=[10]) rG rI ?_;refine Av rfl (fun K hK=>?_) ?_
       ·go_simp
        refine hK _ _ ?_;clear hK K;exact zzs
       exact zzg
      refine Av rfl (fun K hK=>?_) ?_
      ·go_simp
       refine hK _ _ ?_;clear hK K;exact zz6
      exact zzg
     refine Av rfl (fun K hK=>?_) ?_
     ·go_simp
      refine hK _ _ ?_;clear hK K;refine wpAnyIn_ready (rs:=[3]) rG rI ?_;refine Av rfl (fun K hK=>?_) ?_
      ·go_simp
       refine hK _ _ ?_;clear hK K;refine QI 4 (h:=?_);exact zz6
      exact zzg
     exact zzg
    refine Av rfl (fun K hK=>?_) ?_
    ·go_simp
     refine hK _ _ ?_;clear hK K;refine wpAnyIn_ready (rs:=[0,10]) rG rI ?_;refine Av rfl (fun K hK=>?_) ?_
     ·go_simp
      refine hK _ _ ?_;clear hK K;refine QI 4 (h:=?_);refine wpAnyIn_ready (rs:=[5,10]) rG rI ?_;refine Av rfl (fun K hK=>?_) ?_
      ·go_simp
       refine⟨trivial,?_⟩;refine(Hca.out).mono ?_;rintro e X ⟨g,⟨k,t,vk,vn,vs⟩,m,he⟩;simp only[Fu] at he;subst he;have hb:Below V.heap.size V X:=(Aq V.heap.size V).drew.trans g;have hXz:=hb.size;have h8:=hb.alloc hXz (.cells #[.int .u8 k,.string ⟨t.toArray⟩,.int .u8 vk,.int .i64 vn,.string ⟨vs.toArray⟩,.int .i64 0,.int .i64 0] 94);have H8:=Ax h8;clear hb g h8;clear Hca Hcb cs cl fl cx fx p0 p1
       go_simp
       refine hK _ _ ?_;clear hK K;refine QI 6 (h:=?_);refine QI 7 (h:=?_);refine QI 8 (h:=?_);refine QI 9 (h:=?_);refine wpAnyIn_ready (rs:=[10]) rG rI ?_;refine Av rfl (fun K hK=>?_) ?_
       ·go_simp
        refine hK _ _ ?_;clear hK K;exact zzs
       exact zzg
      refine Av rfl (fun K hK=>?_) ?_
      ·go_simp
       refine hK _ _ ?_;clear hK K;exact zz6
      exact zzg
     refine Av rfl (fun K hK=>?_) ?_
     ·go_simp
      refine hK _ _ ?_;clear hK K;refine wpAnyIn_ready (rs:=[0]) rG rI ?_;refine Av rfl (fun K hK=>?_) ?_
      ·go_simp
       refine hK _ _ ?_;clear hK K;refine QI 4 (h:=?_);exact zz6
      exact zzg
     exact zzg
    refine Av rfl (fun K hK=>?_) ?_
    ·go_simp
     refine hK _ _ ?_;clear hK K;refine wpAnyIn_ready (rs:=[0,3]) rG rI ?_;refine Av rfl (fun K hK=>?_) ?_
     ·go_simp
      refine hK _ _ ?_;clear hK K;refine wpAnyIn_ready (rs:=[3]) rG rI ?_;refine Av rfl (fun K hK=>?_) ?_
      ·go_simp
       refine hK _ _ ?_;clear hK K;refine QI 4 (h:=?_);exact zz6
      exact zzg
     refine Av rfl (fun K hK=>?_) ?_
     ·go_simp
      refine hK _ _ ?_;clear hK K;refine wpAnyIn_ready (rs:=[0]) rG rI ?_;refine Av rfl (fun K hK=>?_) ?_
      ·go_simp
       refine hK _ _ ?_;clear hK K;refine QI 4 (h:=?_);exact zz6
      exact zzg
     exact zzg
    exact zzg
   case rest=>
    obtain⟨p,m,rfl,rfl,rfl,hq⟩:=hcut;have C:=hq.out;have G:T7 s (w.heap.size+5) pre x V:=by rw[←T];exact b7.out
    have vL:w.heap.size+1+1+1<V.heap.size:=Ay HI.out.er;have g1:wc.heap[w.heap.size+1]? =some (.cells #[.slice L pre.length M] 88 (0,0)):=(C.block _ k8).trans Hv.out;have g2:wc.heap[w.heap.size+1+1]? =some (.cells #[.int .i64 0,.int .i64 0] 33 (0,0)):=(C.block _ rF).trans HI.out.pl;have g3:wc.heap[w.heap.size+1+1+1]? =some (.cells #[.int .i64 0] 27 (0,0)):=(C.block _ vL).trans HI.out.er;have q0:=(World.cell?_of_block (w:=V) (w':=wc) (a:=⟨W.heap.size,0,none⟩) (C.block W.heap.size l7)).trans p0;have q1:=(World.cell?_of_block (w:=V) (w':=wc) (a:=⟨W.heap.size,1,none⟩) (C.block W.heap.size l7)).trans p1;have r1:wc.cell? ⟨w.heap.size+1,0,none⟩=some (.slice L pre.length M):=by simp [World.cell?,g1]
    have s1:wc.frozen? ⟨w.heap.size+1,0,none⟩=false:=by simp [World.frozen?,g1]
    have r2:wc.cell? ⟨w.heap.size+1+1,0,none⟩=some (.int .i64 0):=by simp [World.cell?,g2]
    have r3:wc.cell? ⟨w.heap.size+1+1,1,none⟩=some (.int .i64 0):=by simp [World.cell?,g2]
    have s2:∀i,wc.frozen? ⟨w.heap.size+1+1,i,none⟩=false:=fun i=>by simp [World.frozen?,g2]
    have r4:wc.cell? ⟨w.heap.size+1+1+1,0,none⟩=some (.int .i64 0):=by simp [World.cell?,g3]
    have s3:wc.frozen? ⟨w.heap.size+1+1+1,0,none⟩=false:=by simp [World.frozen?,g3]
    have hf:=jZ (wc:=wc) (pre:=pre) HI.out.below G Hr.out C g1 g2 g3;obtain⟨Z,hZ⟩:∃Z,((((wc.setCell ⟨w.heap.size+1,0,none⟩ (.slice none 0 0)).setCell ⟨w.heap.size+1+1,0,none⟩ (.int .i64 x.line)).setCell ⟨w.heap.size+1+1,1,none⟩ (.int .i64 x.col)).setCell ⟨w.heap.size+1+1+1,0,none⟩ (.int .i64 q)).drew=Z:=⟨_,rfl⟩;rw[hZ] at hf;have HF:=Ax hf;have HZ:=Ax hZ;have n9:=Ax T
    have vO:W.heap.size≠w.heap.size+1:=by
     intro e;have h1:=vE.out;rw[e,Hv.out] at h1;cases h1
    clear G g1 g2 g3 C hq hf hZ T cs cl fl cx fx p0 p1 Hca Hcb;rcases Hq.out with rfl|rfl
    all_goals
     gi_wp2_with fail
     refine Kn l rfl rG rG ?_;refine QI 1 (h:=?_);refine wpAnyIn_ready (rs:=[0,2]) rG rI ?_;refine Av rfl (fun K hK=>?_) ?_
     ·go_simp
      refine hK _ _ ?_;clear hK K;refine wpAnyIn_ready (rs:=[2]) rG rI ?_;refine Av rfl (fun K hK=>?_) ?_
      ·go_simp
       refine hK _ _ ?_;clear hK K;refine wpAnyIn_ready (rs:=[3]) rG rI ?_;refine Av rfl (fun K hK=>?_) ?_
       ·go_simp
        refine hK _ _ ?_;clear hK K;refine wpAnyIn_ready (rs:=[4]) rG rI ?_;refine Av rfl (fun K hK=>?_) ?_
        ·go_simp
         refine hK _ _ ?_;clear hK K;refine wpAnyIn_done rG ?_ _
         gi_wp2
         rw[n9.out,HZ.out];exact HF.out
        exact zzg
       exact zzg
      exact zzg
     refine Av rfl (fun K hK=>?_) ?_
     ·go_simp
      refine hK _ _ ?_;clear hK K;refine wpAnyIn_ready (rs:=[0]) rG rI ?_;refine Av rfl (fun K hK=>?_) ?_
      ·go_simp
       refine hK _ _ ?_;clear hK K;refine wpAnyIn_ready (rs:=[3]) rG rI ?_;refine Av rfl (fun K hK=>?_) ?_
       ·go_simp
        refine hK _ _ ?_;clear hK K;refine wpAnyIn_ready (rs:=[4]) rG rI ?_;refine Av rfl (fun K hK=>?_) ?_
        ·go_simp
         refine hK _ _ ?_;clear hK K;refine wpAnyIn_done rG ?_ _
         gi_wp2
         rw[n9.out,HZ.out];exact HF.out
        exact zzg
       exact zzg
      exact zzg
     exact zzg
 case done=>
  intro D xs W hD s7 E j;obtain⟨v,hv,d⟩:=E.row;obtain⟨L,M,rfl⟩:=D8 d;have cl:W.cell? ⟨w.heap.size+1,0,none⟩=some (.slice L xs.length M):=by simp [World.cell?,hv]
  have fl:W.frozen? ⟨w.heap.size+1,0,none⟩=false:=by simp [World.frozen?,hv]
  have p0:W.cell? ⟨w.heap.size+1+1,0,none⟩=some (.int .i64 0):=by simp [World.cell?,E.pl]
  have p1:W.cell? ⟨w.heap.size+1+1,1,none⟩=some (.int .i64 0):=by simp [World.cell?,E.pl]
  have pf:∀i,W.frozen? ⟨w.heap.size+1+1,i,none⟩=false:=fun i=>by simp [World.frozen?,E.pl]
  have e0:W.cell? ⟨w.heap.size+1+1+1,0,none⟩=some (.int .i64 0):=by simp [World.cell?,E.er]
  have ef:W.frozen? ⟨w.heap.size+1+1+1,0,none⟩=false:=by simp [World.frozen?,E.er]
  obtain⟨Y,hY⟩:∃Y,((((W.setCell ⟨w.heap.size+1,0,none⟩ (.slice L xs.length M)).setCell ⟨w.heap.size+1+1,0,none⟩ (.int .i64 0)).setCell ⟨w.heap.size+1+1,1,none⟩ (.int .i64 0)).setCell ⟨w.heap.size+1+1+1,0,none⟩ (.int .i64 0)).drew=Y:=⟨_,rfl⟩
  have U:Bb [w.heap.size+1,w.heap.size+1+1,w.heap.size+1+1+1] W Y:=by
   rw[←hY];exact(((((Bb.refl _ W).setCell (.inl rI) _).setCell (.inl rI) _).setCell (.inl rI) _).setCell (.inl rI) _).drew
  have y1:Y.heap[w.heap.size+1]? =some (.cells #[.slice L xs.length M] 88 (0,0)):=by
   rw[←hY];refine(Below.heap_setCell _ _ _ _ rY).trans ((Below.heap_setCell _ _ _ _ rY).trans ((Below.heap_setCell _ _ _ _ rY).trans ?_));rw[A2 hv];rfl
  have y2:Y.heap[w.heap.size+1+1]? =some (.cells #[.int .i64 0,.int .i64 0] 33 (0,0)):=by
   rw[←hY];have e0:(W.setCell ⟨w.heap.size+1,0,none⟩ (.slice L xs.length M)).heap[w.heap.size+1+1]? =some (.cells #[.int .i64 0,.int .i64 0] 33 (0,0)):=(Below.heap_setCell _ _ _ _ rY).trans E.pl;have e1:=A2 (i:=0) (u:= .int .i64 0) e0;have e2:=A2 (i:=1) (u:= .int .i64 0) e1;exact(Below.heap_setCell _ _ _ _ rY).trans e2
  have y3:Y.heap[w.heap.size+1+1+1]? =some (.cells #[.int .i64 0] 27 (0,0)):=by
   rw[←hY];have e0:=(Below.heap_setCell ((W.setCell ⟨w.heap.size+1,0,none⟩ (.slice L xs.length M)).setCell ⟨w.heap.size+1+1,0,none⟩ (.int .i64 0)) ⟨w.heap.size+1+1,1,none⟩ (.int .i64 0) (w.heap.size+1+1+1) rI).trans ((Below.heap_setCell _ _ _ _ rY).trans ((Below.heap_setCell _ _ _ _ rY).trans E.er));exact A2 (i:=0) (u:= .int .i64 0) e0
  have yD:Y.heap[D]? =some (.deferred (some [])):=(U.block D (Ay j) rM).trans j
  have r8:Y.ownsRow w.heap.size 94 7 (.slice L xs.length M) xs.length (Eb (xs.map (Qn (dl s)))):=Bj d U (fun kk e hm=>by
   simp only[List.mem_cons,List.not_mem_nil,or_false] at hm;rcases hm with rfl|rfl|rfl
   ·exact Bh d hv rH e
   ·exact Bh d E.pl rH e
   exact Bh d E.er rH e)
  have uW:Below w.heap.size w Y:=Bq E.below U rM E.below.size;have hZ:=bV (ts:=xs.map (Qn (dl s))) (Or.inl ⟨s7,by rw[List.length_map];exact r8,rfl,rfl,rfl⟩) uW y1 y2 y3 yD rF;have HZ:=Ax hZ;have HY:=Ax hY;have YD:=Ax yD;clear hv d E s7 j hY U y1 y2 y3 yD r8 uW hZ
  gi_wp2
  gi_region
  all_goals
   rw[HY.out]
   gi_wp2
   refine⟨by simp,.inl ⟨_,_,rfl,run_takeDeferred YD.out,?_⟩⟩;obtain⟨z1,z2,z3,z4,O⟩:=HZ.out;clear cl fl p0 p1 pf e0 ef;exact⟨.tuple #[.slice L xs.length M,.agg #[.int .i64 0,.int .i64 0],.int .i64 0],by simp [results,Tryz.results52,go_sem,z1,z2,z3,z4],O⟩
 case stop=>
  intro D pre W hD C j;obtain⟨line,col,q,uX,h1,h2,h3⟩:=C.err;have hZ:=bV (D:=D) (s:=s) (v:= .slice none 0 0) (a:=line) (b:=col) (q:=q) (ts:=[]) (Or.inr ⟨uX,rfl⟩) C.below h1 h2 h3 j rF;have HZ:=Ax hZ;have uY:=Ax j;clear C uX h1 h2 h3 j hZ
  gi_wp2
  refine⟨by simp,.inl ⟨_,_,rfl,run_takeDeferred uY.out,?_⟩⟩;obtain⟨z1,z2,z3,z4,O⟩:=HZ.out;exact⟨.tuple #[.slice none 0 0,.agg #[.int .i64 line,.int .i64 col],.int .i64 q],by simp [results,Tryz.results52,go_sem,z1,z2,z3,z4],O⟩
end Go.Proofs.YtgfakdobajgnfaaGreatDoor
