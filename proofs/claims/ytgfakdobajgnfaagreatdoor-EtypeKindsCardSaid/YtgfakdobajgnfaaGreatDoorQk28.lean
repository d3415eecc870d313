import Derived.Test.YtgfakdobajgnfaaGreatDoorQk27
import Derived.Test.YtgfakdobajgnfaaGreatDoorQk11
set_option maxRecDepth 100000
set_option maxHeartbeats 16000000
namespace Go.Proofs.YtgfakdobajgnfaaGreatDoor
open Go Go.RowKit Go.Lib
theorem bA (ts:List Tkn)(t:Tkn)(x:Except (Int×Int×Int) (List Tkn)):Js (.ok ts) (cQ t x)=Js (.ok (ts++[t])) x:=by
 cases x with
 |error e=>rfl
 |ok us=>show Except.ok (ts++t::us)=Except.ok (ts++[t]++us);rw[List.append_assoc];rfl
theorem Yz (ts:List Tkn):Js (.ok ts) (.ok [])= .ok ts:=by show Except.ok (ts++[])=_;rw[List.append_nil]
structure Qo (w V:World)(ts:List Tkn)(v:Value):Prop where
 r:V.heap[w.heap.size]? =some (.cells #[.int .i64 0,.int .i64 0] 33 (0,0))
 n:V.heap[w.heap.size+1]? =some (.cells #[.int .i64 0,.int .i64 0] 33 (0,0))
 bel:Below w.heap.size w V
 row:V.ownsRow w.heap.size 94 7 v ts.length (Eb ts)
theorem Qo.below {w V d:World}{ts:List Tkn}{v:Value}(h:Qo w V ts v)(c:Below V.heap.size V d):Qo w d ts v:=
 ⟨(c.block _ (Bp h.r)).trans h.r,(c.block _ (Bp h.n)).trans h.n,h.bel.trans (c.mono h.bel.size),Cg h.row c⟩
theorem iQ (w:World):Qo w ((w.alloc (Obj.cells #[.int .i64 0,.int .i64 0] 33)).alloc (Obj.cells #[.int .i64 0,.int .i64 0] 33)) [] (.slice none 0 0):=by
 refine⟨?_,?_,((Aq _ _).alloc (Ak _) _).alloc rI _,World.ownsRow_nil _ _ _ _⟩
 ·rw[Below.heap_alloc _ _ _ rI];exact Az _ _
 have:=Az (w.alloc (.cells #[.int .i64 0,.int .i64 0] 33)) (.cells #[.int .i64 0,.int .i64 0] 33)
 simpa using this
theorem dQ (ts:List Tkn)(t:Tkn):Eb (ts++[t])=Eb ts++[.int .u8 t.w.k,.string ⟨t.w.t.toArray⟩,.int .u8 t.w.v.1,.int .i64 t.w.v.2.1,.string ⟨t.w.v.2.2.toArray⟩,.int .i64 t.line,.int .i64 t.col]:=by
 rw[N6];rfl
theorem oR {w V X:World}{ts:List Tkn}{v v3:Value}{t:Tkn}(h:Qo w V ts v)(g:X.ownsRow w.heap.size 94 7 v3 (ts.length+1) (Eb ts++[.int .u8 t.w.k,.string ⟨t.w.t.toArray⟩,.int .u8 t.w.v.1,.int .i64 t.w.v.2.1,.string ⟨t.w.v.2.2.toArray⟩,.int .i64 t.line,.int .i64 t.col]))(j:V.grownBy X v.ownBlock):Qo w X (ts++[t]) v3:=by
 have d:∀k,v.ownBlock=some k->V.heap[k]?≠some (.cells #[.int .i64 0,.int .i64 0] 33 (0,0)):=fun k e m=>Bh h.row m rH e
 have c:Bb v.ownBlock.toList V X:=Bb.of_grown j _ (fun k e=>by rw[e];simp)
 have far:∀b,V.heap[b]? =some (Obj.cells #[.int .i64 0,.int .i64 0] 33 (0,0))->X.heap[b]? =some (Obj.cells #[.int .i64 0,.int .i64 0] 33 (0,0)):=fun b f=>by
  refine(c.block b (Bp f) ?_).trans f;intro o;have e:v.ownBlock=some b:=by simpa using o
  exact d b e f
 refine⟨far _ h.r,far _ h.n,?_,?_⟩
 ·exact Bq h.bel c (fun i hi=>Co h.row i tM) h.bel.size
 rw[dQ,Ab];exact g
theorem Wc {V:World}{b:Nat}{k vk vn:Int}{t vs:ByteArray}(h:Bi V b k t vk vn vs 0 0)(line col:Int):Bi ((V.setCell ⟨b,5,none⟩ (.int .i64 line)).setCell ⟨b,6,none⟩ (.int .i64 col)) b k t vk vn vs line col:=by
 have H:=h.isSome;refine⟨?_,?_,?_,?_,?_,?_,?_,?_⟩
 ·exact cell_far 6 _ _ rH (cell_far 5 _ _ rH h.c0)
 ·exact cell_far 6 _ _ rH (cell_far 5 _ _ rH h.c1)
 ·exact cell_far 6 _ _ rH (cell_far 5 _ _ rH h.c2)
 ·exact cell_far 6 _ _ rH (cell_far 5 _ _ rH h.c3)
 ·exact cell_far 6 _ _ rH (cell_far 5 _ _ rH h.c4)
 ·exact cell_far 6 _ _ rH (World.cell?_setCell_same' _ _ _ (H 5 rH))
 ·exact World.cell?_setCell_same' _ _ _ (E6 5 _ (H 6 rH))
 intro i
 have:=h.fz i
 simpa using this
theorem pS {w V:World}{ts:List Tkn}{v:Value}{k vk vn:Int}{t vs:ByteArray}(h:Qo w V ts v)(line col:Int):
 Qo w (((V.alloc (.cells #[.int .u8 k,.string t,.int .u8 vk,.int .i64 vn,.string vs,.int .i64 0,.int .i64 0] 94)).setCell ⟨V.heap.size,5,none⟩ (.int .i64 line)).setCell ⟨V.heap.size,6,none⟩ (.int .i64 col)) ts v:=by
 have c:Below V.heap.size V (((V.alloc (.cells #[.int .u8 k,.string t,.int .u8 vk,.int .i64 vn,.string vs,.int .i64 0,.int .i64 0] 94)).setCell ⟨V.heap.size,5,none⟩ (.int .i64 line)).setCell ⟨V.heap.size,6,none⟩ (.int .i64 col)):=
  ((((Aq _ V).alloc (Ak _) _).setCell (Ak _) _).setCell (Ak _) _)
 exact h.below c
theorem nT {w V:World}{ts:List Tkn}{d:Option Addr}{c f:Nat}{u g:Value}{x:Except (Int×Int×Int) (List Tkn)}(h:Qo w V ts (.slice d c f))(_:ts.length=c)(j:x= .ok ts):
 Qt w x (.returned (.tuple #[.slice d c f,.agg #[.int .i64 0,.int .i64 0],.int .i64 0])) ((V.drew.setCell ⟨w.heap.size,0,none⟩ u).setCell ⟨w.heap.size,1,none⟩ g):=by
 refine⟨(h.bel.drew.setCell (Ak _) _).setCell (Ak _) _,?_⟩;rw[j];refine⟨_,rfl,?_⟩;have m:Bb [w.heap.size] V ((V.drew.setCell ⟨w.heap.size,0,none⟩ u).setCell ⟨w.heap.size,1,none⟩ g):=(((Bb.refl _ V).drew).setCell (.inl rI) _).setCell (.inl rI) _;refine Bj h.row m fun k e i=>?_
 simp at i;subst i;exact Bh h.row h.r rH e
theorem Xz (s:ByteArray)(w:World)(hs:s.size<=65536):Calls Tryz.prog 55 #[.string s] w (Qt w (Fq (dl s))):=by
 have HS:=Ax (iQ w);obtain⟨W1,W⟩:∃W1,(w.alloc (.cells #[.int .i64 0,.int .i64 0] 33)).alloc (.cells #[.int .i64 0,.int .i64 0] 33)=W1:=⟨_,rfl⟩;rw[W] at HS;have w7:=Ax W;clear W;have w8:decide ((65536:Int)<(s.size:Int))=false:=An rF;have vF:(s.size:Int)<=65536:=by omega
 go_enter Tryz.func55,Tryz.ntmps55;go_upto_region 3 with fail
 change Code.wp _ _ _ _ ((w.alloc (.cells #[.int .i64 0,.int .i64 0] 33)).alloc (.cells #[.int .i64 0,.int .i64 0] 33));rw[w7.out];go_wp2_with fail;clear w8
 go_loopw [5,7,8,9] (fun v5 v7 v8 v9 wr=>∃(p ln bg:Nat) (ts:List Tkn) (va:Option Addr) (vc:Nat),v5= .slice va ts.length vc/\v7= .int .i64 (ln:Int)/\v8= .int .i64 (bg:Int)/\v9= .int .i64 (p:Int)/\bg<=p/\p<=s.size/\ln<=p+1/\ts.length<=p/\Hid (Qo w wr ts (.slice va ts.length vc)/\Fq (dl s)=Js (.ok ts) (LX ((dl s).drop p) (ln:Int) ((p:Int) - (bg:Int)+1)))) (fun _ _ _ v9 _=>s.size - (intOf v9).toNat)
 case atStart=>exact⟨0,1,0,[],none,0,rfl,rfl,rfl,rfl,Ak _,Nat.zero_le _,by decide,Ak _,Ax ⟨HS.out,by rw[bL,List.drop_zero];show _=Js (.ok []) (LX (dl s) 1 1);cases LX (dl s) 1 1<;>rfl⟩⟩
 clear HS;obtain⟨i,rfl⟩:∃i:World,i=wr:=⟨_,rfl⟩;obtain⟨p,ln,bg,ts,va,vc,rfl,rfl,rfl,rfl,vG,w9,vH,x8,j⟩:=hrel;have HA:Hid (Qo w i ts (.slice va ts.length vc)):=Ax j.out.1;have HX:=Ax j.out.2;clear j;obtain⟨tn,A⟩:∃tn,ts.length=tn:=⟨_,rfl⟩;have HTN:=Ax A;rw[A] at x8 ⊢;have f8:Hid (Qo w i ts (.slice va tn vc)):=Ax (by rw[←A];exact HA.out);clear A HA;have HA:=f8;clear f8;by_cases hgo:p<s.size
 ·have d0:decide (p<s.size)=true:=Am hgo;have q0:(0:Int)<=(p:Int):=by omega
  have q1:(p:Int)<(s.size:Int):=by omega
  have e1:=Ju hgo;obtain⟨c,hc⟩:∃c,s[p]=c:=⟨_,rfl⟩;rw[hc] at e1;have ix:∀w:World,(Instr.index 9 (.string s) (.int .i64 (p:Int))).run Tryz.prog w= .ok (.int .u8 (c.toNat:Int)) w:=fun w=>by have:=Xi hgo w;rw[hc] at this;exact this
  have C:=Ax e1;have HC:=Ax hc;clear e1 hc;by_cases h32:c.toNat=32
  ·have d1:((c.toNat:Int)==32)=true:=beq_iff_eq.2 rF;have D:=Ax (show Fq (dl s)=Js (.ok ts) (LX ((dl s).drop (p+1)) (ln:Int) (((p+1:Nat):Int) - (bg:Int)+1)) by rw[HX.out,C.out,Cd (n:=32) h32,show UInt8.ofNat 32=32 from rfl,N4,show((p+1:Nat):Int) - (bg:Int)+1=(p:Int) - (bg:Int)+1+1 by omega]);clear h32;go_wp2_with fail;go_roundw
   case rel=>exact⟨p+1,ln,bg,ts,va,vc,by rw[HTN.out],rfl,rfl,by go_num,by omega,by omega,by omega,by rw[HTN.out];omega,Ax ⟨by rw[HTN.out];exact HA.out,D.out⟩⟩
   case measure=>simp [intOf]<;>omega
  have d1:((c.toNat:Int)==32)=false:=Af.2 rF;by_cases h10:c.toNat=10
  ·have d2:((c.toNat:Int)==10)=true:=beq_iff_eq.2 rF;have D:=Ax (show Fq (dl s)=Js (.ok ts) (LX ((dl s).drop (p+1)) ((ln+1:Nat):Int) (((p+1:Nat):Int) - ((p+1:Nat):Int)+1)) by rw[HX.out,C.out,Cd (n:=10) h10,show UInt8.ofNat 10=10 from rfl,Q9,show((p+1:Nat):Int) - ((p+1:Nat):Int)+1=1 by omega,show((ln+1:Nat):Int)=(ln:Int)+1 by omega]);clear h10 h32;go_wp2_with fail;go_roundw
   case rel=>exact⟨p+1,ln+1,p+1,ts,va,vc,by rw[HTN.out],by go_num,by go_num,by go_num,by omega,by omega,by omega,by rw[HTN.out];omega,Ax ⟨by rw[HTN.out];exact HA.out,D.out⟩⟩
   case measure=>simp [intOf]<;>omega
  have d2:((c.toNat:Int)==10)=false:=Af.2 rF;by_cases h59:c.toNat=59
  ·have d3:((c.toNat:Int)==59)=true:=beq_iff_eq.2 rF
   have D:Hid (∀q,q+Ba Fc ((dl s).drop q)=p+Ba Fc ((dl s).drop p)->Ba Fc ((dl s).drop q)=0->Fq (dl s)=Js (.ok ts) (LX ((dl s).drop q) (ln:Int) ((q:Int) - (bg:Int)+1))):=Ax fun q h h0=>by
    have j:q=p+Ba Fc ((dl s).drop p):=by omega
    have hl:(dl s).drop q=((dl s).drop p).drop (Ba Fc ((dl s).drop p)):=by rw[List.drop_drop,←j]
    have f9:(dl s).drop p=59::(dl s).drop (p+1):=by rw[C.out,Cd (n:=59) h59];rfl
    rw[HX.out,hl]
    conv=>lhs;rw[f9,Pt]
    rw[←f9,show(q:Int) - (bg:Int)+1=(p:Int) - (bg:Int)+1+((Ba Fc ((dl s).drop p):Nat):Int) by omega]
   have i6:1<=Ba Fc ((dl s).drop p):=by rw[C.out,Fw (by unfold Fc;rw[Cd (n:=59) h59];decide)];omega
   have i7:=Ax i6;clear h59 h10 h32 i6;go_wp2_with fail;clear d0 d1 d2 d3 ix
   go_loop [9] (fun v9=>∃q:Nat,v9= .int .i64 (q:Int)/\p<=q/\q<=s.size/\Hid (q+Ba Fc ((dl s).drop q)=p+Ba Fc ((dl s).drop p))) (fun v9=>s.size - (intOf v9).toNat)
   case atStart=>exact⟨p,rfl,Ak _,w9,Ax rfl⟩
   obtain⟨q,rfl,vI,vJ,j⟩:=hrel;by_cases hgq:q<s.size
   ·have d4:decide (q<s.size)=true:=Am hgq;have q2:(0:Int)<=(q:Int):=by omega
    have q3:(q:Int)<(s.size:Int):=by omega
    have e2:=Ju hgq;by_cases O:s[q].toNat=10
    ·have d5:((s[q].toNat:Int)==10)=true:=beq_iff_eq.2 rF;have x9:((s[q].toNat:Int) !=10)=false:=by rw[bne,d5];rfl
     have h0:Ba Fc ((dl s).drop q)=0:=by rw[e2];exact O4 (by unfold Fc;rw[Cd (n:=10) O];decide)
     have HM:=Ax (D.out q j.out h0);have HPQ:=Ax (show p<q by have:=j.out;have:=i7.out;omega);clear e2 O h0 j;exact zxm
    have d5:((s[q].toNat:Int)==10)=false:=Af.2 rF;have x9:((s[q].toNat:Int) !=10)=true:=by rw[bne,d5];rfl
    have HM:=Ax (show q+1+Ba Fc ((dl s).drop (q+1))=p+Ba Fc ((dl s).drop p) by rw[←j.out,e2,Fw (show Fc s[q]=true by unfold Fc;exact bne_iff_ne.2 (fun e=>O rU))];omega);clear e2 O j;go_wp2_with fail
    go_round
    case rel=>exact⟨q+1,by go_num,by omega,by omega,HM⟩
    case measure=>simp [intOf]<;>omega
   have d4:decide (q<s.size)=false:=An hgq;have h0:Ba Fc ((dl s).drop q)=0:=by rw[G2 rF];rfl
   have HM:=Ax (D.out q j.out h0);have HPQ:=Ax (show p<q by have:=j.out;have:=i7.out;omega);clear h0 j;exact zxm
  have d3:((c.toNat:Int)==59)=false:=Af.2 rF;have j8:=Ax (show Vx c from⟨fun e=>h10 rU,fun e=>h59 rU,fun e=>h32 rU⟩);clear h10 h59 h32;have y8:=Ax (show w.heap.size<i.heap.size from Bp HA.out.r);have d:=(Aq i.heap.size i).alloc (Ak _) (.cells #[.int .i64 (ln:Int),.int .i64 ((p:Int) - (bg:Int)+1)] 33);have Y:=Ax (HA.out.below d);have Z:=Az i (.cells #[.int .i64 (ln:Int),.int .i64 ((p:Int) - (bg:Int)+1)] 33);obtain⟨W2,F⟩:∃W2,i.alloc (.cells #[.int .i64 (ln:Int),.int .i64 ((p:Int) - (bg:Int)+1)] 33)=W2:=⟨_,rfl⟩;rw[F] at Y Z d;have vK:=Ax (show W2.heap.size=i.heap.size+1 by rw[←F];simp);have j9:=Ax Z;have y9:=Ax F;have k8:=Ax (dB s p W2 rF hgo);clear d Z F;go_upto_region 19 with fail
  rw[y9.out];go_wp2_with fail;refine k8.out.mono ?_;rintro e V ⟨a8,R⟩;rw[C.out] at R;have G:=Ax (Y.out.below a8);have u:=Ax ((a8.block _ (Bp j9.out)).trans j9.out);have uR:=Ax (show i.heap.size<V.heap.size from Bp u.out);clear a8 Y HA k8;unfold Pm at R;cases hw:B2 (c::(dl s).drop (p+1)) with
  |error q=>
   rw[hw] at R;simp only at R;obtain⟨wd,wn,rfl⟩:=R;have HE:=Ax (show Fq (dl s)= .error ((ln:Int),(p:Int) - (bg:Int)+1,q) by rw[HX.out,C.out,Pg j8.out hw];rfl);have dq:(q==0)=false:=Af.2 (by rcases Pq hw with h|h<;>omega);have vL:(q !=0)=true:=by rw[bne,dq];rfl
   unfold Fu;obtain⟨y,wt,f,g,m⟩:=wd;simp only;have d:=(Aq V.heap.size V).alloc (Ak _) (.cells #[.int .u8 y,.string ⟨wt.toArray⟩,.int .u8 f,.int .i64 g,.string ⟨m.toArray⟩,.int .i64 0,.int .i64 0] 94);have HA:=Ax (G.out.below d);obtain⟨b0,b1,_⟩:=A1 ((d.block _ (Bp u.out)).trans u.out);have I:¬w.heap.size=i.heap.size:=by have:=y8.out;omega
   have l7:¬i.heap.size=w.heap.size:=fun h=>I h.symm
   clear d hw;obtain⟨r0,r1,rz⟩:=A1 HA.out.r;obtain⟨n0,n1,_⟩:=A1 HA.out.n;have uS:=rz 0;have uT:=rz 1;clear rz;go_wp2_with fail;refine wp_region_noPanic ?_;refine wp_region_held_drew (S:=fun X=>X.cell? ⟨i.heap.size,0,none⟩=some (.int .i64 (ln:Int))/\X.cell? ⟨i.heap.size,1,none⟩=some (.int .i64 ((p:Int) - (bg:Int)+1))) rG ?_ (fun hHeld=>?_)
   ·(try dsimp only);go_keep
   refine QH 0 ⟨some 66,_,_,_,_,_⟩ (h:=?_)
   try simp only[Act.put,Ac,Ad,Ae]
   refine QH 1 ⟨some 67,_,_,_,_,_⟩ (h:=?_)
   try simp only[Act.put,Ac,Ad,Ae]
   refine QH 2 ⟨some 2,_,_,_,_,_⟩ (h:=?_)
   try simp only[Act.put,Ac,Ad,Ae]
   refine wpAnyH_ready (rs:=[3]) rG rI ?_;refine AllReadyH.cons (o:=⟨none,_,_,_,_,_⟩) (rs:=[]) rfl (fun K hK=>?_) AllReadyH.nil
   go_simp
   try go_wp2_with fail
   clear hHeld;refine hK.out _ _ ?_ (fun hHeld=>?_)
   ·(try dsimp only);go_keep
   clear hK K
   try simp only[Act.put,Ac,Ad,Ae]
   refine QH 4 ⟨some 4,_,_,_,_,_⟩ (h:=?_)
   try simp only[Act.put,Ac,Ad,Ae]
   refine wpAnyH_done rG ?_ _;refine NoPanic.normal ?_;go_wp2_with fail;exact Au (v:= .tuple #[.slice none 0 0,.agg #[.int .i64 (ln:Int),.int .i64 ((p:Int) - (bg:Int)+1)],.int .i64 q]) (by simp [results,Tryz.results55,go_sem, *]) rfl ⟨((HA.out.bel.drew).setCell (Ak _) _).setCell (Ak _) _,by rw[HE.out]⟩
  |ok x=>
   rw[hw] at R;simp only at R;subst R;obtain⟨⟨y,wt,f,g,m⟩,n⟩:=x;simp only;have O:=Fg hw;have uU:p+n<=s.size:=by have:=O.2;rw[←C.out,List.length_drop,A5] at this;omega
   have vM:=O.1;have D:=Ax (show Fq (dl s)=Js (.ok (ts++[⟨⟨y,wt,(f,g,m)⟩,(ln:Int),(p:Int) - (bg:Int)+1⟩])) (LX ((dl s).drop (p+n)) (ln:Int) (((p+n:Nat):Int) - (bg:Int)+1)) by rw[HX.out,C.out,L0 j8.out hw,bA,←C.out,List.drop_drop,show((p+n:Nat):Int) - (bg:Int)+1=(p:Int) - (bg:Int)+1+((n:Nat):Int) by omega]);unfold Fu;simp only;obtain⟨T,b7⟩:∃T:ByteArray,⟨wt.toArray⟩=T:=⟨_,rfl⟩;obtain⟨U,b8⟩:∃U:ByteArray,⟨m.toArray⟩=U:=⟨_,rfl⟩;rw[b7,b8];obtain⟨E,hE⟩:∃E,p+n=E:=⟨_,rfl⟩;rw[hE] at uU D ⊢;have L:=Ax (show p<E by omega);have uV:=Ax b7;have uW:=Ax b8;have d:=(Aq V.heap.size V).alloc (Ak _) (.cells #[.int .u8 y,.string T,.int .u8 f,.int .i64 g,.string U,.int .i64 0,.int .i64 0] 94);have n9:=Ax (G.out.below d);have hT:=Bi.newc V y T f g U 0 0;obtain⟨W3,M⟩:∃W3,V.alloc (.cells #[.int .u8 y,.string T,.int .u8 f,.int .i64 g,.string U,.int .i64 0,.int .i64 0] 94)=W3:=⟨_,rfl⟩;obtain⟨b0,b1,_⟩:=A1 ((d.block _ (Bp u.out)).trans u.out);rw[M] at d hT n9 b0 b1;have p8:=Ax (Wc hT (ln:Int) ((p:Int) - (bg:Int)+1));have d8:=pS (k:=y) (t:=T) (vk:=f) (vn:=g) (vs:=U) G.out (ln:Int) ((p:Int) - (bg:Int)+1);rw[M] at d8;have N:=Ax d8;clear d8;obtain⟨c0,c1,c2,c3,c4,c5,c6,cz⟩:=hT;have uX:=cz 5;have uY:=cz 6;have uZ:=Ax M;have I:¬V.heap.size=i.heap.size:=by have:=uR.out;omega
   have l7:¬i.heap.size=V.heap.size:=fun h=>I h.symm
   clear d cz M hw O b7 b8 hE G n9;go_upto_region 22 with fail
   rw[uZ.out];go_upto_region 23 with fail
   obtain⟨W4,r7⟩:∃W4,(W3.setCell ⟨V.heap.size,5,none⟩ (.int .i64 (ln:Int))).setCell ⟨V.heap.size,6,none⟩ (.int .i64 ((p:Int) - (bg:Int)+1))=W4:=⟨_,rfl⟩;rw[r7] at p8 N ⊢;clear c0 c1 c2 c3 c4 c5 c6 uX uY b0 b1 r7;obtain⟨c0,c1,c2,c3,c4,c5,c6,_⟩:=p8.out;obtain⟨i0,r8,r9,s7,s8⟩:=Ud;have vA:=Ax r8;have vB:=Ax r9;have vC:=Ax s7;have vD:=Ax s8;have vE:=Ax N.out.bel.size;clear r8 r9 s7 s8;go_wp2_with (at_builtin;refine Hid.out ?_);refine Ax ?_;refine wpList_append_own _ rfl (.tmp 70) (.tmp 72) _ rfl w.heap.size 94 i0 (.agg Dp) 7 72 Tryz.underlying88 vA.out vB.out vC.out vD.out rfl rH (.slice va tn vc) tn (Eb ts) rfl (by have:=N.out.row;rw[HTN.out] at this;exact Cg this ((Aq _ W4).alloc (Ak _) _)) ⟨W4.heap.size,0,none⟩ 1 1 [.int .u8 y,.string T,.int .u8 f,.int .i64 g,.string U,.int .i64 (ln:Int),.int .i64 ((p:Int) - (bg:Int)+1)] rfl rfl (World.news_of_block (cs:= #[.int .u8 y,.string T,.int .u8 f,.int .i64 g,.string U,.int .i64 (ln:Int),.int .i64 ((p:Int) - (bg:Int)+1)]) (Az W4 _)) rS rP rF (by have:=vE.out;simp;omega) ?_;intro v3 X f7 s9 _;have hF:=oR (t:=⟨⟨y,wt,(f,g,m)⟩,(ln:Int),(p:Int) - (bg:Int)+1⟩) (N.out.below ((Aq _ W4).alloc (Ak _) _)) (by rw[HTN.out];simp only;rw[uV.out,uW.out];exact f7) s9;obtain⟨na,nc,rfl⟩:=D8 f7;have HF:=Ax hF;clear hF f7 s9 c0 c1 c2 c3 c4 c5 c6;go_wp2_with fail;go_roundw
   case rel=>exact⟨E,ln,bg,ts++[⟨⟨y,wt,(f,g,m)⟩,(ln:Int),(p:Int) - (bg:Int)+1⟩],na,nc,by rw[Ab,HTN.out];rfl,rfl,rfl,rfl,by have:=L.out;omega,by omega,by have:=L.out;omega,by rw[Ab,HTN.out];have:=L.out;simp;omega,Ax ⟨by have:=HF.out;rw[Ab,HTN.out];exact this,D.out⟩⟩
   case measure=>have:=L.out;simp [intOf]<;>omega
 obtain rfl:p=s.size:=by omega
 have d0:decide (s.size<s.size)=false:=An rF;have HE:=Ax (show Fq (dl s)= .ok ts by rw[HX.out,G2 (Ak _),Np,Yz]);clear hgo;obtain⟨r0,r1,rz⟩:=A1 HA.out.r;obtain⟨n0,n1,_⟩:=A1 HA.out.n;have uS:=rz 0;have uT:=rz 1;clear rz;have I:¬w.heap.size=w.heap.size+1:=by omega
 go_wp2_with fail;refine wp_region_noPanic ?_;refine wp_region_held_drew (S:=fun X=>X.cell? ⟨w.heap.size+1,0,none⟩=some (.int .i64 0)/\X.cell? ⟨w.heap.size+1,1,none⟩=some (.int .i64 0)) rG ?_ (fun hHeld=>?_)
 ·(try dsimp only);go_keep
 refine QH 0 ⟨some 75,_,_,_,_,_⟩ (h:=?_)
 try simp only[Act.put,Ac,Ad,Ae]
 refine QH 1 ⟨some 76,_,_,_,_,_⟩ (h:=?_)
 try simp only[Act.put,Ac,Ad,Ae]
 refine QH 2 ⟨some 2,_,_,_,_,_⟩ (h:=?_)
 try simp only[Act.put,Ac,Ad,Ae]
 refine wpAnyH_ready (rs:=[3]) rG rI ?_;refine AllReadyH.cons (o:=⟨none,_,_,_,_,_⟩) (rs:=[]) rfl (fun K hK=>?_) AllReadyH.nil
 go_simp
 try go_wp2_with fail
 clear hHeld;refine hK.out _ _ ?_ (fun hHeld=>?_)
 ·(try dsimp only);go_keep
 clear hK K
 try simp only[Act.put,Ac,Ad,Ae]
 refine QH 4 ⟨some 4,_,_,_,_,_⟩ (h:=?_)
 try simp only[Act.put,Ac,Ad,Ae]
 refine wpAnyH_done rG ?_ _;refine NoPanic.normal ?_;go_wp2_with fail;exact Au (v:= .tuple #[.slice va tn vc,.agg #[.int .i64 0,.int .i64 0],.int .i64 0]) (by simp [results,Tryz.results55,go_sem, *]) rfl (nT HA.out HTN.out HE.out)
open Go Go.RowKit
structure Cs (w:World)(B:Nat)(X:List Nat)(b:Nat)(vl:Value)(ts r:List Tkn)(d:Nat)(vt:Value)(nds:List Nd):Prop where
 suf:Suf r ts
 toks:Ih w vl ts
 nam:∀t∈ts,t.w.k=1->t.w.t≠[40]
 tl:∀g,vl.ownBlock=some g->g<B
 hB:B<=b
 xl:∀x∈X,x<w.heap.size
 hd:d<=12
 big:ts.length<=1000000
 few:nds.length+r.length<=1000000
 blk:w.heap[b]? =some (.cells #[vl,.int .i64 ((ts.length - r.length:Nat):Int),.int .i64 (d:Int),vt,.int .i64 0,.int .i64 0] 136 (0,0))
 tree:Hh w B X vt nds
theorem Cs.below {w w':World}{B b d:Nat}{X:List Nat}{f g:Value}{ts r:List Tkn}{c:List Nd}(h:Cs w B X b f ts r d g c)(e:Below w.heap.size w w'):Cs w' B X b f ts r d g c:=
 ⟨h.suf,h.toks.below e,h.nam,h.tl,h.hB,fun x i=>Nat.lt_of_lt_of_le (h.xl x i) e.size,h.hd,h.big,h.few,(e.block b (Ay h.blk)).trans h.blk,h.tree.below e⟩
theorem Cs.turn {w w':World}{B b d d':Nat}{X:List Nat}{f i:Value}{ts r r':List Tkn}{c:List Nd}(h:Cs w B X b f ts r d i c)(ho:Bb [b] w w')(hs:Suf r' r)(hd:d'<=12)
 (hb:w'.heap[b]? =some (.cells #[f,.int .i64 ((ts.length - r'.length:Nat):Int),.int .i64 (d':Int),i,.int .i64 0,.int .i64 0] 136 (0,0))):Cs w' B X b f ts r' d' i c:=by
 exact zyj
theorem Cs.step {w:World}{B b d:Nat}{X:List Nat}{e f:Value}{ts q:List Tkn}{t:Tkn}{c:List Nd}(h:Cs w B X b e ts (t::q) d f c):
 Cs (w.setCell ⟨b,1,none⟩ (.int .i64 (((ts.length - (q.length+1):Nat):Int)+1))) B X b e ts q d f c:=by
 exact zxb
theorem Cs.deep {w:World}{B b d d':Nat}{X:List Nat}{e f:Value}{ts r:List Tkn}{c:List Nd}(h:Cs w B X b e ts r d f c)(hd:d'<=12):Cs (w.setCell ⟨b,2,none⟩ (.int .i64 (d':Int))) B X b e ts r d' f c:=by
 refine h.turn (A3 _ _ _ _) (Suf.refl _) hd ?_;rw[A2 h.blk];rfl
theorem Cs.head {w:World}{B b d:Nat}{X:List Nat}{i j:Value}{ts q:List Tkn}{t:Tkn}{f:List Nd}(h:Cs w B X b i ts (t::q) d j f):∃g c,i= .slice (some ⟨g,0,none⟩) ts.length c/\g<w.heap.size/\ts.length - (t::q).length<ts.length/\
 w.cell? ⟨g,(ts.length - (t::q).length)*7,none⟩=some (.int .u8 t.w.k)/\w.cell? ⟨g,(ts.length - (t::q).length)*7+1,none⟩=some (.string ⟨t.w.t.toArray⟩)/\w.cell? ⟨g,(ts.length - (t::q).length)*7+2,none⟩=some (.int .u8 t.w.v.1)/\
 w.cell? ⟨g,(ts.length - (t::q).length)*7+3,none⟩=some (.int .i64 t.w.v.2.1)/\w.cell? ⟨g,(ts.length - (t::q).length)*7+4,none⟩=some (.string ⟨t.w.v.2.2.toArray⟩)/\w.cell? ⟨g,(ts.length - (t::q).length)*7+5,none⟩=some (.int .i64 t.line)/\w.cell? ⟨g,(ts.length - (t::q).length)*7+6,none⟩=some (.int .i64 t.col):=by
 exact zyf
theorem Cs.lay {w W Z:World}{B b d:Nat}{X:List Nat}{m vt f kv:Value}{ts r:List Tkn}{c:List Nd}{kvs:List Value}{n:Nd}(h:Cs w B X b m ts r d vt c)(hk1:w.ownsRow B 43 8 vt c.length (En kvs c))(hk2:C8 w B X kvs c)
 (hkv:w.ownsRow B 3 1 kv n.kids.length (Ea n.kids)) (hkx:∀g,kv.ownBlock=some g->g∉X) (o:Below w.heap.size w W) (hg:W.grownBy Z vt.ownBlock) (hown:Z.ownsRow B 43 8 f (c.length+1) (En kvs c++En [kv] [n])) (hv:∀g,f.ownBlock=some g->vt.ownBlock=some g\/w.heap.size<=g)
 (hroom:c.length+1+r.length<=1000000):Cs (Z.setCell ⟨b,3,none⟩ f) B X b m ts r d f (c++[n])/\Rch b w vt (Z.setCell ⟨b,3,none⟩ f) f:=by
 have p:Bb vt.ownBlock.toList w Z:=(Bb.of_below o _).trans (Bb.of_grown hg _ fun k y=>by simp [y]);have u:vt.ownBlock≠some b:=h.tree.not h.blk rH;have j:Z.heap[b]? =some (.cells #[m,.int .i64 ((ts.length - r.length:Nat):Int),.int .i64 (d:Int),vt,.int .i64 0,.int .i64 0] 136 (0,0)):=(p.block b (Ay h.blk) (by simpa using u)).trans h.blk
 have hb2:(Z.setCell ⟨b,3,none⟩ f).heap[b]? =some (.cells #[m,.int .i64 ((ts.length - r.length:Nat):Int),.int .i64 (d:Int),f,.int .i64 0,.int .i64 0] 136 (0,0)):=by
  rw[A2 j];rfl
 have hO:Bb (b::vt.ownBlock.toList) w (Z.setCell ⟨b,3,none⟩ f):=(p.mono fun i A=>Aj _ A).setCell (.inl rI) _
 have hint:∀v k xs,w.ownsRow B 3 1 v k xs->Z.ownsRow B 3 1 v k xs:=fun v k xs q=>Bj q p fun g e hm=>by
  exact zxa
 have hset:∀{t:TypeId} {sz:Nat} v k xs,t≠136->Z.ownsRow B t sz v k xs->(Z.setCell ⟨b,3,none⟩ f).ownsRow B t sz v k xs:=fun v k xs C q=>Bj q (A3 Z b 3 f) fun g e hm=>by
  simp at hm;subst hm;exact Bh q j C e
 exact zyu
def Fx (r:List Tkn):List UInt8:=match r with
 |t::_=>if t.w.k=1\/t.w.k=7 then t.w.t else[]
 |[]=>[]
theorem I4 {r:List Tkn}{s:List UInt8}(c:s≠[]):decide (Fx r=s)=isH s r:=by
 cases r with
 |nil=>show decide ([]=s)=false;exact An (fun e=>c e.symm)
 |cons t q=>
  show decide ((if t.w.k=1\/t.w.k=7 then t.w.t else[])=s)=(decide (t.w.t=s) && (decide (t.w.k=1)||decide (t.w.k=7)));by_cases h:t.w.k=1\/t.w.k=7
  ·rw[Ap h]
   have:(decide (t.w.k=1)||decide (t.w.k=7))=true:=by rcases h with h|h<;>simp [h]
   rw[this,Bool.and_true]
  rw[Ao h,An (fun e=>c e.symm)]
  have:(decide (t.w.k=1)||decide (t.w.k=7))=false:=by simp only[not_or] at h;simp [h.1,h.2]
  rw[this,Bool.and_false]
theorem Be {w:World}{b:Nat}{x y z u v t:Value}{c:TypeId}(h:w.heap[b]? =some (.cells #[x,y,z,u,v,t] c (0,0))):
 w.cell? ⟨b,0,none⟩=some x/\w.cell? ⟨b,1,none⟩=some y/\w.cell? ⟨b,2,none⟩=some z/\w.cell? ⟨b,3,none⟩=some u/\w.cell? ⟨b,4,none⟩=some v/\w.cell? ⟨b,5,none⟩=some t/\∀i,w.frozen? ⟨b,i,none⟩=false:=
 ⟨by simp only[World.cell?,h];rfl,by simp only[World.cell?,h];rfl,by simp only[World.cell?,h];rfl,by simp only[World.cell?,h];rfl,by simp only[World.cell?,h];rfl,by simp only[World.cell?,h];rfl,fun i=>by simp only[World.frozen?,h];simp⟩
structure Ec (w:World)(B b:Nat)(vl:Value)(ts:List Tkn)(vt:Value)(e:Int)(bad cap:Nat):Prop where
 toks:Ih w vl ts
 tl:∀g,vl.ownBlock=some g->g<B
 hB:B<=b
 big:ts.length<=1000000
 room:cap<=1000000
 ne:e≠0
 blk:∃(at':Nat) (dd:Int),w.heap[b]? =some (.cells #[vl,.int .i64 (at':Int),.int .i64 dd,vt,.int .i64 e,.int .i64 (bad:Int)] 136 (0,0))
 row:∃m xs,m<=cap/\w.ownsRow B 43 8 vt m xs
theorem Ec.below {w w':World}{B b bad c:Nat}{f g:Value}{ts:List Tkn}{e:Int}(h:Ec w B b f ts g e bad c)(d:Below w.heap.size w w'):Ec w' B b f ts g e bad c:=by
 obtain⟨a,j,i⟩:=h.blk;obtain⟨m,k,n,o⟩:=h.row;exact⟨h.toks.below d,h.tl,h.hB,h.big,h.room,h.ne,⟨a,j,(d.block b (Ay i)).trans i⟩,m,k,n,Cg o d⟩
theorem Ec.mono {w:World}{B b bad c cap':Nat}{d f:Value}{ts:List Tkn}{e:Int}(h:Ec w B b d ts f e bad c)(g:c<=cap')(i:cap'<=1000000):Ec w B b d ts f e bad cap':=by
 obtain⟨m,j,k,n⟩:=h.row;exact⟨h.toks,h.tl,h.hB,h.big,i,h.ne,h.blk,m,j,Al k g,n⟩
open Go Go.RowKit Go.Lib
theorem iX {ts:List Tkn}{n:Nat}(h:n<ts.length):Fx (ts.drop n)=if ts[n].w.k=1\/ts[n].w.k=7 then ts[n].w.t else[]:=by rw[List.drop_eq_getElem_cons h];rfl
theorem aF {ts:List Tkn}{n:Nat}(h:ts.length<=n):Fx (ts.drop n)=[]:=by rw[List.drop_eq_nil_of_le h];rfl
theorem Ul {w:World}{b n:Nat}{i:Value}{ts:List Tkn}(d:Ih w i ts)(u:w.cell? ⟨b,0,none⟩=some i)(v:w.cell? ⟨b,1,none⟩=some (.int .i64 (n:Int)))(_:ts.length<=1000000):
 Calls Tryz.prog 164 #[.pointer (some ⟨b,0,none⟩)] w fun e w'=>e= .returned (.string ⟨(Fx (ts.drop n)).toArray⟩)/\Below w.heap.size w w':=by
 by_cases hlt:n<ts.length
 ·obtain⟨g,c,rfl,x,m,o,f⟩:=d.at hlt;clear f;rw[iX hlt];have p:(n:Int)<(ts.length:Int):=by omega
  have q:decide ((n:Int)<(ts.length:Int))=true:=by simp;omega
  have r:(0:Int)<=(n:Int):=by omega
  obtain⟨k,j⟩:∃k,ts[n].w.k=k:=⟨_,rfl⟩;obtain⟨tt,h⟩:∃tt,ts[n].w.t=tt:=⟨_,rfl⟩;rw[j] at m ⊢;rw[h] at o ⊢;clear j h d hlt;by_cases k1:k=1
  ·subst k1;rw[Ap (.inl rfl)];exact zwm
  have y:(k==1)=false:=by simpa using k1
  by_cases k7:k=7
  ·subst k7;rw[Ap (.inr rfl)];exact zwm
  have A:(k==7)=false:=by simpa using k7
  rw[Ao (by simp [k1,k7])];go_enter Tryz.func164,Tryz.ntmps164;exact zyq
 rw[aF rF];obtain⟨C,D,rfl⟩:=d.form;have p:¬((n:Int)<(ts.length:Int)):=by omega
 have q:decide ((n:Int)<(ts.length:Int))=false:=by simp;omega
 have r:decide (n<ts.length)=false:=An hlt;clear d hlt;go_enter Tryz.func164,Tryz.ntmps164;exact zyq
theorem Cs.drop {w:World}{B b d:Nat}{X:List Nat}{e f:Value}{ts r:List Tkn}{c:List Nd}(h:Cs w B X b e ts r d f c):ts.drop (ts.length - r.length)=r:=h.suf.at_drop.symm
theorem Fe {w:World}{B b d:Nat}{X:List Nat}{f g:Value}{ts r:List Tkn}{c:List Nd}(h:Cs w B X b f ts r d g c):
 Calls Tryz.prog 164 #[.pointer (some ⟨b,0,none⟩)] w fun e w'=>e= .returned (.string ⟨(Fx r).toArray⟩)/\Below w.heap.size w w':=by
 obtain⟨i,j,_⟩:=Be h.blk
 have:=Ul h.toks i j h.big
 rwa [h.drop] at this
theorem fB {w:World}{B b bad c:Nat}{d f:Value}{ts:List Tkn}{e:Int}(h:Ec w B b d ts f e bad c):
 Calls Tryz.prog 164 #[.pointer (some ⟨b,0,none⟩)] w fun e w'=>(∃S:ByteArray,e= .returned (.string S))/\Below w.heap.size w w':=by
 obtain⟨a,n,g⟩:=h.blk;obtain⟨i,j,_⟩:=Be g;exact(Ul h.toks i j h.big).mono fun e w' ⟨k,m⟩=>⟨⟨_,k⟩,m⟩
theorem fJ (w:World)(n:Nat)(o:Obj)(a b x y:Value)(T:TypeId)(c:o= .cells #[a,b] T):
 ((((w.alloc o).drewN n).setCell ⟨w.heap.size,0,none⟩ x).setCell ⟨w.heap.size,1,none⟩ y).heap[w.heap.size]? =some (.cells #[x,y] T (0,0)):=by
 subst c;have d:((w.alloc (.cells #[a,b] T)).drewN n).heap[w.heap.size]? =some (.cells #[a,b] T (0,0)):=Az w _;rw[A2 (A2 d)];rfl
theorem Nb {w:World}{B b d:Nat}{X:List Nat}{D E:Value}{ts r:List Tkn}{f:List Nd}(h:Cs w B X b D ts r d E f):
 Calls Tryz.prog 163 #[.pointer (some ⟨b,0,none⟩)] w fun e w'=>e= .returned (.agg #[.int .i64 (plH r).1,.int .i64 (plH r).2])/\Below w.heap.size w w':=by
 obtain⟨U,F,W,Y,_⟩:=Be h.blk;have j:=h.suf.len;have k:=h.big;have Z:=Ay h.blk;cases r with
 |nil=>
  obtain⟨va,vc,rfl⟩:=h.toks.form;have G:¬(((ts.length - ([]:List Tkn).length:Nat):Int)<(ts.length:Int)):=by simp
  have I:decide (((ts.length - ([]:List Tkn).length:Nat):Int)<(ts.length:Int))=false:=by simp
  clear h j;go_enter Tryz.func163,Tryz.ntmps163;go_wp2_with fail;go_quiet (fail);go_wp2_with fail;refine Au (v:= .agg #[.int .i64 0,.int .i64 0]) (by simp [results,Tryz.results163,go_sem, *]) rfl ?_;exact zwq
 |cons t q=>
  obtain⟨g,c,rfl,hg,i,m,p,u,x,y,L,M⟩:=h.head;obtain⟨n,A⟩:∃n,ts.length - (t::q).length=n:=⟨_,rfl⟩;rw[A] at F i m p u x y L M;have G:(n:Int)<(ts.length:Int):=by omega
  have I:decide ((n:Int)<(ts.length:Int))=true:=by simp;omega
  have i2:(0:Int)<=(n:Int):=by omega
  clear h j A;go_enter Tryz.func163,Tryz.ntmps163;go_wp2_with fail;go_quiet (fail);go_wp2_with fail;have N:¬w.heap.size=g:=by omega
  have O:¬w.heap.size=b:=by omega
  clear m p u x y;refine wp_region_noPanic ?_;refine wp_region_held_drew (S:=fun V=>V.cell? ⟨b,0,none⟩=some (.slice (some ⟨g,0,none⟩) ts.length c)/\V.cell? ⟨b,1,none⟩=some (.int .i64 (n:Int))/\V.cell? ⟨g,n*7+5,none⟩=some (.int .i64 t.line)/\V.cell? ⟨g,n*7+6,none⟩=some (.int .i64 t.col)) rG ?_ (fun hHeld=>?_)
  ·(try dsimp only);go_keep
  refine QH 0 ⟨some 13,_,_,_,_,_⟩ (h:=?_)
  try simp only[Act.put,Ac,Ad,Ae]
  refine QH 1 ⟨some 14,_,_,_,_,_⟩ (h:=?_)
  try simp only[Act.put,Ac,Ad,Ae]
  refine QH 2 ⟨some 15,_,_,_,_,_⟩ (h:=?_)
  try simp only[Act.put,Ac,Ad,Ae]
  refine QH 3 ⟨some 16,_,_,_,_,_⟩ (h:=?_)
  try simp only[Act.put,Ac,Ad,Ae]
  refine QH 4 ⟨some 17,_,_,_,_,_⟩ (h:=?_)
  try simp only[Act.put,Ac,Ad,Ae]
  refine QH 5 ⟨some 18,_,_,_,_,_⟩ (h:=?_)
  try simp only[Act.put,Ac,Ad,Ae]
  refine QH 6 ⟨some 19,_,_,_,_,_⟩ (h:=?_)
  try simp only[Act.put,Ac,Ad,Ae]
  refine QH 7 ⟨some 20,_,_,_,_,_⟩ (h:=?_)
  try simp only[Act.put,Ac,Ad,Ae]
  refine QH 8 ⟨some 21,_,_,_,_,_⟩ (h:=?_)
  try simp only[Act.put,Ac,Ad,Ae]
  refine QH 9 ⟨some 22,_,_,_,_,_⟩ (h:=?_)
  try simp only[Act.put,Ac,Ad,Ae]
  refine QH 10 ⟨some 23,_,_,_,_,_⟩ (h:=?_)
  try simp only[Act.put,Ac,Ad,Ae]
  refine wpAnyH_ready (rs:=[11]) rG rI ?_;refine AllReadyH.cons (o:=⟨none,_,_,_,_,_⟩) (rs:=[]) rfl (fun K C=>?_) AllReadyH.nil
  go_simp
  try go_wp2_with fail
  clear hHeld;refine C.out _ _ ?_ (fun hHeld=>?_)
  ·(try dsimp only);go_keep
  clear C K
  try simp only[Act.put,Ac,Ad,Ae]
  refine wpAnyH_done rG ?_ _;refine NoPanic.normal ?_;go_wp2_with fail;obtain⟨R,T,_⟩:=Bf (fJ w (nq+1) (.cells #[.int .i64 0,.int .i64 0] 33) _ _ (.int .i64 t.line) (.int .i64 t.col) _ rfl);refine Au (v:= .agg #[.int .i64 t.line,.int .i64 t.col]) (by simp [results,Tryz.results163,go_sem,R,T]) rfl ?_;exact zwq
theorem Cs.stop {w w':World}{B b d:Nat}{X:List Nat}{i j:Value}{ts r:List Tkn}{c:List Nd}(h:Cs w B X b i ts r d j c){e:Int}(p:e≠0){n:Int}(k:Bb [b] w w')
 (q:w'.heap[b]? =some (.cells #[i,.int .i64 ((ts.length - r.length:Nat):Int),.int .i64 n,j,.int .i64 e,.int .i64 ((ts.length - r.length:Nat):Int)] 136 (0,0))):Ec w' B b i ts j e (ts.length - r.length) (c.length+r.length):=by
 have x:=h.turn (w':=w.setCell ⟨b,2,none⟩ (.int .i64 (d:Int))) (A3 _ _ _ _) (Suf.refl _) h.hd (by rw[A2 h.blk];rfl);refine⟨h.toks.kept k.size fun g u m=>k.block g m ?_,h.tl,h.hB,h.big,by have:=h.few;omega,p,⟨_,n,q⟩,c.length,?_⟩
 ·have:=h.tl g u
  have:=h.hB
  simp;omega
 obtain⟨v,f,_⟩:=h.tree;refine⟨_,by omega,Bj f k fun g e o=>?_⟩;simp at o;subst o;exact Bh f h.blk rH e
theorem Ip {w:World}{B b d:Nat}{X:List Nat}{k m:Value}{ts r:List Tkn}{f:List Nd}(h:Cs w B X b k ts r d m f)(e:Int)(n:e≠0):
 Calls Tryz.prog 215 #[.pointer (some ⟨b,0,none⟩),.int .i64 e] w fun en w'=>en= .returned (.tuple #[])/\Ec w' B b k ts m e (ts.length - r.length) (f.length+r.length)/\Bb [b] w w'/\w'.cell? ⟨b,2,none⟩=some (.int .i64 (d:Int)):=by
 obtain⟨y,A,C,D,E,F,g⟩:=Be h.blk;have o:=g 4;have p:=g 5;have c:=A2 (i:=5) (u:= .int .i64 ((ts.length - r.length:Nat):Int)) (A2 (i:=4) (u:= .int .i64 e) h.blk);have j:Bb [b] w ((w.setCell ⟨b,4,none⟩ (.int .i64 e)).setCell ⟨b,5,none⟩ (.int .i64 ((ts.length - r.length:Nat):Int))):=(A3 w b 4 _).trans (A3 _ b 5 _);have q:=Ax (h.stop n j c);have v:=Ax j;have x:Hid (((w.setCell ⟨b,4,none⟩ (.int .i64 e)).setCell ⟨b,5,none⟩ (.int .i64 ((ts.length - r.length:Nat):Int))).cell? ⟨b,2,none⟩=some (.int .i64 (d:Int))):=Ax (by simp only[World.cell?,c];rfl);clear h c j g;go_enter Tryz.func215,Tryz.ntmps215;go_wp2_with fail
 go_end0
 exact⟨rfl,q.out,v.out,x.out⟩
open Go Go.RowKit
def hdK (h:Hd)(kv:Value):Value:= .agg #[.int .u8 h.op,.int .u8 h.v.1,.int .i64 h.v.2.1,.string ⟨h.v.2.2.toArray⟩,.string ⟨h.name.toArray⟩,kv,.int .i64 h.line,.int .i64 h.col]
theorem Lf {w:World}{B b d:Nat}{X:List Nat}{vl vt:Value}{ts r:List Tkn}{c:List Nd}(h:Cs w B X b vl ts r d vt c)(k:c.length+1+r.length<=1000000)(hB:B<=w.heap.size)(hd:Hd)(kids:List Nat)(ka:Option Addr)(kc:Nat)(hk:w.ownsRow B 3 1 (.slice ka kids.length kc) kids.length (Ea kids))(o:∀g,(Value.slice ka kids.length kc).ownBlock=some g->g∉X):
 Calls Tryz.prog 166 #[.pointer (some ⟨b,0,none⟩),hdK hd (.slice ka kids.length kc)] w fun e w'=>e= .returned (.int .i64 (c.length:Int))/\∃u,Cs w' B X b vl ts r d u (c++[⟨hd,kids⟩])/\Rch b w vt w' u:=by
 obtain⟨v,j,y⟩:=h.tree;obtain⟨N,O,rfl⟩:=D8 j;obtain⟨c0,c1,c2,R,c4,c5,cf⟩:=Be h.blk;have T:=cf 3;obtain⟨i0,hi,A,C,D⟩:=I0;have hb:=Ay h.blk;obtain⟨op,⟨vk,vn,vs⟩,nm,ln,cl⟩:=hd;have Ow:Hid (((w.alloc (.cells #[.int .u8 op,.int .u8 vk,.int .i64 vn,.string ⟨vs.toArray⟩,.string ⟨nm.toArray⟩,.slice ka kids.length kc,.int .i64 ln,.int .i64 cl] 43)).alloc (.cells #[.int .u8 op,.int .u8 vk,.int .i64 vn,.string ⟨vs.toArray⟩,.string ⟨nm.toArray⟩,.slice ka kids.length kc,.int .i64 ln,.int .i64 cl] 43)).drew.ownsRow B 43 8 (.slice N c.length O) c.length (En v c)):=Ax (Cg j (Bb.drew (((Bb.refl [] w).alloc _).alloc _)).below);have L:Hid (Below w.heap.size w ((w.alloc (.cells #[.int .u8 op,.int .u8 vk,.int .i64 vn,.string ⟨vs.toArray⟩,.string ⟨nm.toArray⟩,.slice ka kids.length kc,.int .i64 ln,.int .i64 cl] 43)).alloc (.cells #[.int .u8 op,.int .u8 vk,.int .i64 vn,.string ⟨vs.toArray⟩,.string ⟨nm.toArray⟩,.slice ka kids.length kc,.int .i64 ln,.int .i64 cl] 43)).drew):=Ax (Bb.drew (((Bb.refl [] w).alloc _).alloc _)).below;have HS:Hid (((w.alloc (.cells #[.int .u8 op,.int .u8 vk,.int .i64 vn,.string ⟨vs.toArray⟩,.string ⟨nm.toArray⟩,.slice ka kids.length kc,.int .i64 ln,.int .i64 cl] 43)).alloc (.cells #[.int .u8 op,.int .u8 vk,.int .i64 vn,.string ⟨vs.toArray⟩,.string ⟨nm.toArray⟩,.slice ka kids.length kc,.int .i64 ln,.int .i64 cl] 43)).drew.heap.size=w.heap.size+2):=Ax tT;have m:Hid (Value.ownBlock (.slice N c.length O)≠some b):=Ax (h.tree.not h.blk rH)
 have HN:Hid (((w.alloc (.cells #[.int .u8 op,.int .u8 vk,.int .i64 vn,.string ⟨vs.toArray⟩,.string ⟨nm.toArray⟩,.slice ka kids.length kc,.int .i64 ln,.int .i64 cl] 43)).alloc (.cells #[.int .u8 op,.int .u8 vk,.int .i64 vn,.string ⟨vs.toArray⟩,.string ⟨nm.toArray⟩,.slice ka kids.length kc,.int .i64 ln,.int .i64 cl] 43)).drew.heap[w.heap.size+1]? =some (.cells #[.int .u8 op,.int .u8 vk,.int .i64 vn,.string ⟨vs.toArray⟩,.string ⟨nm.toArray⟩,.slice ka kids.length kc,.int .i64 ln,.int .i64 cl] 43)):=Ax (by
  exact zyw)
 have p3:=A4 L.out R;have pf:((w.alloc (.cells #[.int .u8 op,.int .u8 vk,.int .i64 vn,.string ⟨vs.toArray⟩,.string ⟨nm.toArray⟩,.slice ka kids.length kc,.int .i64 ln,.int .i64 cl] 43)).alloc (.cells #[.int .u8 op,.int .u8 vk,.int .i64 vn,.string ⟨vs.toArray⟩,.string ⟨nm.toArray⟩,.slice ka kids.length kc,.int .i64 ln,.int .i64 cl] 43)).drew.frozen? ⟨b,3,none⟩=false:=(L.out.frozen (p:=⟨b,3,none⟩) hb).trans T;have E:=Ax j;have F:=Ax y;have HK:=Ax hk;have U:=Ax o;have H:=Ax h;have Hi:=Ax hi;have V:=Ax A;have W:=Ax C;have Y:=Ax D;clear h j y hk o hi A C D cf;unfold hdK;clear c0 c1 c2 c4 c5;go_enter Tryz.func166,Tryz.ntmps166;go_wp2_with fail
 go_region_law
  ((refine step_append_lies _ tI _ _ _ tI B 43 i0 (.agg #[.int .u8 0,.int .u8 0,.int .i64 0,.string ⟨#[]⟩,.string ⟨#[]⟩,.slice none 0 0,.int .i64 0,.int .i64 0]) 8 96 Tryz.underlying31 Hi.out V.out W.out Y.out rfl rH (.slice N c.length O) c.length (En v c) tI Ow.out ⟨w.heap.size+1,0,none⟩ 1 1 [.int .u8 op,.int .u8 vk,.int .i64 vn,.string ⟨vs.toArray⟩,.string ⟨nm.toArray⟩,.slice ka kids.length kc,.int .i64 ln,.int .i64 cl] tI tI (World.news_of_block (cs:= #[.int .u8 op,.int .u8 vk,.int .i64 vn,.string ⟨vs.toArray⟩,.string ⟨nm.toArray⟩,.slice ka kids.length kc,.int .i64 ln,.int .i64 cl]) (t:=43) (fr:=(0,0)) HN.out) rS rH rP rF (by rw[HS.out];omega) (w.heap.size+2) HS.out ?_;intro g Z w3 i f G a8;have r0:=(f.cell_far ⟨b,3,none⟩ sT (Ne.symm m.out)).trans p3;have rf:=(f.frozen_far ⟨b,3,none⟩ sT (Ne.symm m.out)).trans pf))
 all_goals
  have M:=H.out.lay (n:=⟨⟨op,(vk,vn,vs),nm,ln,cl⟩,kids⟩) E.out F.out HK.out U.out L.out f i (fun x hx=>by
   simp only[Value.ownBlock,Option.some.injEq] at hx;subst hx;rcases G with q|q
   ·exact .inl q
   exact .inr rF) k
  clear i f G a8 r0 rf p3 pf R Ow L HS m HN E F HK;obtain⟨W1,I⟩:∃W1,w3.setCell ⟨b,3,none⟩ (.slice (some ⟨g,0,none⟩) (c.length+1) Z)=W1:=⟨_,rfl⟩;rw[I] at M ⊢;clear I;obtain⟨_,_,_,R,_⟩:=Be M.1.blk;have HG:=Ax M;clear M;go_wp2_with fail;go_ret;refine⟨?_,_,HG.out.1,HG.out.2⟩
  first|rfl|(simp;done)
theorem Ec.deep {w:World}{B b bad c:Nat}{i j:Value}{ts:List Tkn}{e:Int}(h:Ec w B b i ts j e bad c)(x:Int):Ec (w.setCell ⟨b,2,none⟩ (.int .i64 x)) B b i ts j e bad c:=by
 obtain⟨a,u,k⟩:=h.blk;obtain⟨m,p,q,n⟩:=h.row;have d:=A3 w b 2 (.int .i64 x);refine⟨h.toks.kept d.size fun g r f=>d.block g f ?_,h.tl,h.hB,h.big,h.room,h.ne,⟨a,x,?_⟩,m,p,q,Bj n d fun g e o=>?_⟩
 ·have:=h.tl g r
  have:=h.hB
  simp;omega
 ·rw[A2 k];rfl
 simp at o;subst o;exact Bh n k rH e
def kX (w:World)(B:Nat)(X:List Nat)(b:Nat)(f:Value)(ts r:List Tkn)(d:Nat)(g:Value)(c:List Nd)(e:Ending)(w':World):Prop:=
 e= .returned (.tuple #[])/\Bb [b] w w'/\if d=12 then Ec w' B b f ts g 12 (ts.length - r.length) (c.length+r.length) else Cs w' B X b f ts r (d+1) g c
theorem Jm {w:World}{B b d:Nat}{X:List Nat}{n o:Value}{ts r:List Tkn}{c:List Nd}(h:Cs w B X b n ts r d o c):
 Calls Tryz.prog 165 #[.pointer (some ⟨b,0,none⟩)] w (kX w B X b n ts r d o c):=by
 obtain⟨C,D,p,E,F,G,g⟩:=Be h.blk;have i:=g 2;have f:=h.hd;by_cases hd:d=12
 ·subst hd;have u:=Ax (Ip h 12 rH);have j:w.cell? ⟨b,2,none⟩=some (.int .i64 12):=p;clear h g f p;go_enter Tryz.func165,Tryz.ntmps165;go_wp2_with fail;refine u.out.mono ?_;rintro e V ⟨rfl,k,v,x⟩;have I:V.cell? ⟨b,2,none⟩=some (.int .i64 12):=x
  have L:V.frozen? ⟨b,2,none⟩=false:=by
   obtain⟨_,_,M⟩:=k.blk;obtain⟨_,_,_,_,_,_,q⟩:=Be M;exact q 2
  have N:=Ax (k.deep 13);have m:=Ax (v.trans (A3 V b 2 (.int .i64 13)));clear k v x C D j E F G i u;go_wp2_with fail
  go_end0
  exact⟨rfl,m.out,by rw[Ap rfl];exact N.out⟩
 have O:(d:Int)<12:=by omega
 have y:decide ((12:Int)<=(d:Int))=false:=An rF;have A:decide (12<=d)=false:=An rF;have R:=Ax (h.deep (d':=d+1) rF);have m:=Ax (A3 w b 2 (.int .i64 ((d+1:Nat):Int)));have T:=Ax hd;clear h g hd;go_enter Tryz.func165,Tryz.ntmps165;go_wp2_with fail
 go_end0
 exact⟨rfl,m.out,by rw[Ao T.out];exact R.out⟩
def lT (w:World)(B:Nat)(X:List Nat)(b:Nat)(f:Value)(ts r:List Tkn)(d:Nat)(g:Value)(c:List Nd)(s:List UInt8)(e:Ending)(w':World):Prop:=
 e= .returned (.tuple #[])/\Bb [b] w w'/\if isH s r=true then Cs w' B X b f ts r.tail d g c else Ec w' B b f ts g 4 (ts.length - r.length) (c.length+r.length)
theorem Gl {w:World}{B b d:Nat}{X:List Nat}{G I:Value}{ts r:List Tkn}{g:List Nd}(h:Cs w B X b G ts r d I g)(s:List UInt8)(O:s≠[]):
 Calls Tryz.prog 217 #[.pointer (some ⟨b,0,none⟩),.string ⟨s.toArray⟩] w (lT w B X b G ts r d I g s):=by
 have o:=Ax (Fe h);have H:=Ax h;obtain⟨p,u,v,x,y,A,i⟩:=Be h.blk;have C:=I4 (r:=r) O;obtain⟨S,k⟩:∃S:ByteArray,⟨(Fx r).toArray⟩=S:=⟨_,rfl⟩;obtain⟨Z,m⟩:∃Z:ByteArray,⟨s.toArray⟩=Z:=⟨_,rfl⟩
 have j:(S.toList==Z.toList)=isH s r:=by
  rw[←C,←k,←m,A0,A0,Da,Da];by_cases q:Fx r=s<;>simp [q]
 rw[k] at o;rw[m];by_cases e:isH s r=true
 ·rw[e] at j;obtain⟨t,q,rfl⟩:=C6 e;have D:=Ax e;clear h C k m e i;go_enter Tryz.func217,Tryz.ntmps217;go_wp2_with fail;refine o.out.mono ?_;rintro e V ⟨rfl,c⟩;have f:=H.out.below c;clear p u v x y A;obtain⟨p,u,v,x,y,A,i⟩:=Be f.blk;have R:=i 1;have L:=f.big;have E:=Ax f.step;have n:=Ax ((Bb.of_below c [b]).trans (A3 V b 1 (.int .i64 (((ts.length - (t::q).length:Nat):Int)+1))));clear i f H c;go_wp2_with fail
  go_end0
  exact⟨rfl,n.out,by rw[Ap D.out];exact E.out⟩
 have M:isH s r=false:=by simpa using e
 rw[M] at j;have D:=Ax e;clear h C k m e M i;go_enter Tryz.func217,Tryz.ntmps217;go_wp2_with fail;refine o.out.mono ?_;rintro e V ⟨rfl,c⟩;have f:=H.out.below c;have T:=Ax c;have U:=Ax (Ip f 4 rH);clear p u v x y A f H c;go_wp2_with fail;refine U.out.mono ?_;rintro e V2 ⟨rfl,F,n,_⟩;obtain⟨a,dd,N⟩:=F.blk;obtain⟨k0,k1,k2,k3,k4,k5,_⟩:=Be N;have W:=Ax F;have Y:=Ax ((Bb.of_below T.out [b]).trans n);clear F n N;go_wp2_with fail
 go_end0
 exact⟨rfl,Y.out,by rw[Ao D.out];exact W.out⟩
theorem Dh {w:World}{B b bad c:Nat}{f g:Value}{ts:List Tkn}{e:Int}(h:Ec w B b f ts g e bad c)(Z:ByteArray):
 Calls Tryz.prog 217 #[.pointer (some ⟨b,0,none⟩),.string Z] w fun en w'=>en= .returned (.tuple #[])/\w=w':=by
 obtain⟨a,i,d⟩:=h.blk;obtain⟨j,k,m,n,o,p,_⟩:=Be d;have q:(e==0)=false:=Af.2 h.ne;clear h d;go_enter Tryz.func217,Tryz.ntmps217;go_wp2_with fail
 go_end0
 exact⟨rfl,rfl⟩
end Go.Proofs.YtgfakdobajgnfaaGreatDoor
