import Derived.Test.YtgfakdobajgnfaaGreatDoorQk24
import Derived.Test.YtgfakdobajgnfaaGreatDoorQk9
set_option maxRecDepth 100000
set_option maxHeartbeats 16000000
namespace Go.Proofs.YtgfakdobajgnfaaGreatDoor
open Go Go.RowKit Go.Lib
theorem R0 (b:Bool)(w:World):Calls Tryz.prog 212 #[.bool b] w fun e w'=>e= .returned (.agg #[.int .u8 4,.int .i64 (if b=true then 1 else 0),.string ⟨#[]⟩])/\Below w.heap.size w w':=by
 cases b with
 |false=>
  go_enter Tryz.func212,Tryz.ntmps212;go_wp2_with fail;exact Au (v:= .agg #[.int .u8 4,.int .i64 0,.string ⟨#[]⟩]) (by simp [results,Tryz.results212,go_sem, *]) rfl ⟨rfl,by first|exact(((Aq _ _).alloc (Ak _) _).alloc rI _)|exact((((Aq _ _).alloc (Ak _) _).alloc rI _).setCell rI _)|exact(((((Aq _ _).alloc (Ak _) _).alloc rI _).setCell rI _).setCell rI _).setCell rI _|exact((((((Aq _ _).alloc (Ak _) _).alloc rI _).setCell rI _).setCell rI _).setCell rI _).setCell rI _⟩
 |true=>
  go_enter Tryz.func212,Tryz.ntmps212;go_wp2_with fail;exact Au (v:= .agg #[.int .u8 4,.int .i64 1,.string ⟨#[]⟩]) (by simp [results,Tryz.results212,go_sem, *]) rfl ⟨rfl,by first|exact(((Aq _ _).alloc (Ak _) _).alloc rI _)|exact((((Aq _ _).alloc (Ak _) _).alloc rI _).setCell rI _)|exact(((((Aq _ _).alloc (Ak _) _).alloc rI _).setCell rI _).setCell rI _).setCell rI _|exact((((((Aq _ _).alloc (Ak _) _).alloc rI _).setCell rI _).setCell rI _).setCell rI _).setCell rI _⟩
theorem Pi {c:UInt8}{r:List UInt8}(e:Bg c=false)(d:c≠45):E4 (c::r)=none:=by
 have f:(if(c::r).head? =some 45 then(c::r).tail else c::r)=c::r:=Ao (by simpa using d);exact C9.bad f (C9.start (c::r) 0) rI (by simpa using e) (fun h=>by have:=h.2.2;omega)
theorem eZ {l:List UInt8}(h:l.head? =some 35):Eg l= .ok (5,0,l.tail):=by
 match l,h with
 |c::r,h=>simp at h;subst h;rfl
theorem dI {l:List UInt8}(h:l.head? =some 34):Eg l= .ok (3,0,B8 l.tail):=by
 match l,h with
 |c::r,h=>simp at h;subst h;rfl
theorem Y8 {l:List UInt8}(d:l≠[116,114,117,101])(f:l≠[102,97,108,115,101])(g:l≠[110,117,108,108])(h:l.head?≠some 35)(i:l.head?≠some 34)(j:l≠[]):
 Eg l=match E4 l with|none=> .error 4|some z=>if inR z.1 then .ok (if z.2 then 2 else 1,z.1,[]) else .error 9:=by
 match l,j with
 |c::r,_=>
  by_cases c1:c=116
  ·subst c1;rw[Pi rH rH]
   show(if r=[114,117,101] then _ else _)=_
   rw[Ao fun e=>d (by rw[e])]
  by_cases c2:c=102
  ·subst c2;rw[Pi rH rH]
   show(if r=[97,108,115,101] then _ else _)=_
   rw[Ao fun e=>f (by rw[e])]
  by_cases c3:c=110
  ·subst c3;rw[Pi rH rH]
   show(if r=[117,108,108] then _ else _)=_
   rw[Ao fun e=>g (by rw[e])]
  rw[Tq ⟨fun e=>i rU,fun e=>h rU,c1,c2,c3⟩,gF];cases E4 (c::r) with
  |none=>rfl
  |some z=>
   simp only
   split<;>rfl
theorem kI {l:List UInt8}{z:Int×Bool}(h:E4 l=some z)(e:l.length<=402):Br z.1.natAbs<=102:=by
 unfold E4 at h;simp only at h;generalize hc:cut (if l.head? =some 45 then l.tail else l) [46]=c at h;obtain⟨a,r,f⟩:=c;simp only at h;by_cases hbad:((!F3 a||(decide (1<a.length) && a.head? ==some 48))||(f && (!F3 r||decide (4<r.length))))=true
 ·rw[Ap hbad] at h;cases h
 rw[Ao hbad] at h;simp only[Bool.or_eq_true,Bool.and_eq_true,not_or,not_and,Bool.not_eq_true',Bool.not_eq_true,decide_eq_false_iff_not,Bool.not_eq_false] at hbad;obtain⟨⟨g,_⟩,h2⟩:=hbad;obtain⟨m,had⟩:=Fr g;injection h with h;subst h
 have i:a.length<=402:=by
  have hx:(if l.head? =some 45 then l.tail else l).length<=402:=by
   split
   ·rw[List.length_tail];omega
   exact e
  rcases Mb 46 (if l.head? =some 45 then l.tail else l) with q|⟨j,r',q,k⟩
  ·rw[Kv q] at hc;injection hc with hc _;rw[←hc];exact hx
  rw[q,Ik j r' k] at hc;injection hc with hc _;rw[←hc];rw[q] at hx;simp at hx;omega
 have:∀(b:Bool) (d:List UInt8),(Jj b (val d 0)).natAbs=val d 0:=fun b d=>by unfold Jj;split<;>simp
 simp only[this];refine Vj ?_ ?_
 ·exact zxt
 split
 ·rw[Ab,List.length_take];omega
 omega
theorem B7.may {w w':World}{l S:List UInt8}{k n:Int}(c:Below w.heap.size w w')(d:l≠[])(g:l.length<=402)(e:Eg l= .ok (k,n,S))(f:C3 k n S=l):B7 w (Dy l) (.returned (.tuple #[.agg #[.int .u8 k,.int .i64 n,.string ⟨S.toArray⟩],.int .i64 0])) w':=by
 refine⟨c,?_⟩;unfold Dy;rw[Ao rF,Ao d,e];simp only;rw[Ap f]
theorem B7.bad {w w':World}{l S:List UInt8}{k n:Int}(c:Below w.heap.size w w')(d:l≠[])(g:l.length<=402)(e:Eg l= .ok (k,n,S))(f:C3 k n S≠l):B7 w (Dy l) (.returned (.tuple #[.agg #[.int .u8 0,.int .i64 0,.string ⟨#[]⟩],.int .i64 4])) w':=by
 refine⟨c,?_⟩;unfold Dy;rw[Ao rF,Ao d,e];simp only;rw[Ao f]
theorem B7.err {w w':World}{l:List UInt8}{e:Int}(c:Below w.heap.size w w')(h:Dy l= .error e):B7 w (Dy l) (.returned (.tuple #[.agg #[.int .u8 0,.int .i64 0,.string ⟨#[]⟩],.int .i64 e])) w':=by
 refine⟨c,?_⟩;rw[h]
theorem Uf {l:List UInt8}{e:Int}(d:l.length<=402)(h:l=[]/\e=4\/l≠[]/\Eg l= .error e):Dy l= .error e:=by
 unfold Dy;rw[Ao rF];rcases h with ⟨rfl,rfl⟩|⟨h,c⟩
 ·rw[Ap rfl]
 rw[Ao h,c]
structure Dw (w wr:World)(k n:Int)(S:ByteArray):Prop where
 r:wr.heap[w.heap.size]? =some (.cells #[.int .u8 0,.int .i64 0,.string ⟨#[]⟩] 23 (0,0))
 x:wr.heap[w.heap.size+1]? =some (.cells #[.int .u8 k,.int .i64 n,.string S] 23 (0,0))
 bel:Below w.heap.size w wr
theorem Dw.below {w wr V:World}{k n:Int}{S:ByteArray}(h:Dw w wr k n S)(c:Below wr.heap.size wr V):Dw w V k n S:=
 ⟨(c.block _ (Bp h.r)).trans h.r,(c.block _ (Bp h.x)).trans h.x,h.bel.trans (c.mono h.bel.size)⟩
theorem lZ (w:World):Dw w ((w.alloc (.cells #[.int .u8 0,.int .i64 0,.string ⟨#[]⟩] 23)).alloc (.cells #[.int .u8 0,.int .i64 0,.string ⟨#[]⟩] 23)) 0 0 ⟨#[]⟩:=by
 refine⟨?_,?_,((Aq _ _).alloc (Ak _) _).alloc rI _⟩
 ·rw[Below.heap_alloc _ _ _ rI];exact Az _ _
 have:=Az (w.alloc (.cells #[.int .u8 0,.int .i64 0,.string ⟨#[]⟩] 23)) (.cells #[.int .u8 0,.int .i64 0,.string ⟨#[]⟩] 23)
 simpa using this
theorem Dw.cells {w wr:World}{k n:Int}{S:ByteArray}(h:Dw w wr k n S):(wr.cell? ⟨w.heap.size+1,0,none⟩=some (.int .u8 k)/\wr.cell? ⟨w.heap.size+1,1,none⟩=some (.int .i64 n)/\wr.cell? ⟨w.heap.size+1,2,none⟩=some (.string S)/\∀i,wr.frozen? ⟨w.heap.size+1,i,none⟩=false)/\
 wr.cell? ⟨w.heap.size,0,none⟩=some (.int .u8 0)/\wr.cell? ⟨w.heap.size,1,none⟩=some (.int .i64 0)/\wr.cell? ⟨w.heap.size,2,none⟩=some (.string ⟨#[]⟩)/\∀i,wr.frozen? ⟨w.heap.size,i,none⟩=false:=
 ⟨⟨by simp only[World.cell?,h.x];rfl,by simp only[World.cell?,h.x];rfl,by simp only[World.cell?,h.x];rfl,fun i=>by simp only[World.frozen?,h.x];simp⟩,
  by simp only[World.cell?,h.r];rfl,by simp only[World.cell?,h.r];rfl,by simp only[World.cell?,h.r];rfl,fun i=>by simp only[World.frozen?,h.r];simp⟩
theorem Dw.set {w wr:World}{k n:Int}{S:ByteArray}(h:Dw w wr k n S)(c d:Int)(e:ByteArray):Dw w (((wr.setCell ⟨w.heap.size+1,0,none⟩ (.int .u8 c)).setCell ⟨w.heap.size+1,1,none⟩ (.int .i64 d)).setCell ⟨w.heap.size+1,2,none⟩ (.string e)) c d e:=by
 have f:=A2 (i:=2) (u:= .string e) (A2 (i:=1) (u:= .int .i64 d) (A2 (i:=0) (u:= .int .u8 c) h.x));have g:Bb [w.heap.size+1] wr (((wr.setCell ⟨w.heap.size+1,0,none⟩ (.int .u8 c)).setCell ⟨w.heap.size+1,1,none⟩ (.int .i64 d)).setCell ⟨w.heap.size+1,2,none⟩ (.string e)):=(((Bb.refl _ _).setCell (.inl rI) _).setCell (.inl rI) _).setCell (.inl rI) _;exact⟨(g.block _ (Bp h.r) rI).trans h.r,f,((h.bel.setCell rI _).setCell rI _).setCell rI _⟩
theorem Dw.set0 {w wr:World}{k n:Int}{S:ByteArray}(h:Dw w wr k n S)(c:Int):Dw w (wr.setCell ⟨w.heap.size+1,0,none⟩ (.int .u8 c)) c n S:=by
 have d:=A2 (i:=0) (u:= .int .u8 c) h.x;have e:Bb [w.heap.size+1] wr (wr.setCell ⟨w.heap.size+1,0,none⟩ (.int .u8 c)):=(Bb.refl _ _).setCell (.inl rI) _;exact⟨(e.block _ (Bp h.r) rI).trans h.r,d,h.bel.setCell rI _⟩
theorem Dw.ret {w wr:World}{k n:Int}{S:ByteArray}(h:Dw w wr k n S)(u0 u1 u2:Value):Below w.heap.size w (((wr.setCell ⟨w.heap.size,0,none⟩ u0).setCell ⟨w.heap.size,1,none⟩ u1).setCell ⟨w.heap.size,2,none⟩ u2):=
 ((h.bel.setCell (Ak _) _).setCell (Ak _) _).setCell (Ak _) _
theorem aP (s:ByteArray)(i:Int)(c:0<=i)(d:i<=(s.size:Int))(W:World):(Instr.slice 9 (.string s) (some (.int .i64 i)) none none).run Tryz.prog W= .ok (.string (s.extract i.toNat s.size)) W:=
 run_slice_string_l W 9 s Tryz.underlying9 .i64 i c d
theorem Ps:∀(k:Nat) (l:List UInt8),l.length<=k->(B8 l).length<=l.length
 |0,l,h=>by
  have:l=[]:=List.eq_nil_of_length_eq_zero rF
  subst this;exact Ak _
 |k+1,[],_=>Ak _
 |k+1,[c],_=>by simp [B8]
 |k+1,c::y::r,h=>by
  rw[B8]
  split
  ·have:=Ps k r (by simp at h;omega)
   simp;omega
  have:=Ps k (y::r) (by simp at h ⊢;omega)
  simp at this ⊢;omega
theorem fF {s:ByteArray}(h:s.size<=402):(B8 (dl s).tail).length<=402:=by
 have:=Ps _ (dl s).tail (Ak _)
 rw[List.length_tail,A5] at this;omega
theorem Sr (s:ByteArray)(w:World)(hs:s.size<=9223372036854775807):Calls Tryz.prog 159 #[.string s] w (B7 w (Dy (dl s))):=by
 by_cases hbig:402<s.size
 ·have p0:(402:Int)<(s.size:Int):=by omega
  have HE:=Ax (show Dy (dl s)= .error 3 by unfold Dy;rw[Ap (by rw[A5];exact hbig)]);clear hbig;go_enter Tryz.func159,Tryz.ntmps159;go_wp2_with fail;exact Au (v:= .tuple #[.agg #[.int .u8 0,.int .i64 0,.string ⟨#[]⟩],.int .i64 3]) rK rfl (B7.err ((Aq _ _).alloc (Ak _) _) HE.out)
 have m:s.size<=402:=by omega
 have p0:decide (402<s.size)=false:=An hbig;have p1:decide ((402:Int)<(s.size:Int))=false:=An rF;have H4:Hid ((dl s).length<=402):=Ax (by rw[A5];exact m);have N:=Ax (lZ w);obtain⟨W1,O⟩:∃W1,(w.alloc (.cells #[.int .u8 0,.int .i64 0,.string ⟨#[]⟩] 23)).alloc (.cells #[.int .u8 0,.int .i64 0,.string ⟨#[]⟩] 23)=W1:=⟨_,rfl⟩;rw[O] at N;have a8:=Ax O;have b7:=Ax (Xp (w:=W1) s m);clear O hbig hs;go_enter Tryz.func159,Tryz.ntmps159;go_upto_region 4 with fail
 rw[a8.out];go_wp2_with fail;refine b7.out.mono ?_;rintro e V1 ⟨b8,R,na,nn,nc,pt,ok,rfl,F⟩;have r8:=Ax (N.out.below b8);have r9:=Ax F;have T:=(Aq V1.heap.size V1).alloc (Ak _) (.cells #[.bool R,.slice na nn nc] 79);have HP:=Ax (r8.out.below T);have d8:=Ax T;have f7:=Ax (Az V1 (.cells #[.bool R,.slice na nn nc] 79));clear b8 F T b7 N a8;go_upto_region 6 with fail
 obtain⟨⟨y0,y1,y2,yf⟩,z0,z1,z2,zf⟩:=Dw.cells HP.out;have yf0:=yf 0;have yf1:=yf 1;have yf2:=yf 2;have zf0:=zf 0;have zf1:=zf 1;have zf2:=zf 2;clear yf zf;obtain⟨G,f8⟩:∃G,(V1.alloc (.cells #[.bool R,.slice na nn nc] 79))=G:=⟨_,rfl⟩;rw[f8] at HP d8 f7 y0 y1 y2 z0 z1 z2 yf0 yf1 yf2 zf0 zf1 zf2 ⊢;clear f8;by_cases hw:s=⟨#[116,114,117,101]⟩
 ·have H0:Hid (dl s≠[]):=Ax (by rw[hw];decide);have HR:=Ax (show Eg (dl s)= .ok (4,1,dl (⟨#[]⟩:ByteArray)) by rw[hw];rfl);have tb:(s.toList==[116,114,117,101])=true:=by rw[A0,hw];rfl
  have fb:(s.toList==[102,97,108,115,101])=false:=by rw[A0,hw];rfl
  have R:(s.toList==[110,117,108,108])=false:=by rw[A0,hw];rfl
  clear m hw;have HT:=Ax (R0 true G);go_wp2_with fail;refine HT.out.mono ?_;rintro e C ⟨rfl,f⟩;have d:=Ax (HP.out.below f);clear y0 y1 y2 z0 z1 z2 yf0 yf1 yf2 zf0 zf1 zf2;obtain⟨⟨y0,y1,y2,yf⟩,z0,z1,z2,zf⟩:=Dw.cells d.out;have yf0:=yf 0;have yf1:=yf 1;have yf2:=yf 2;have zf0:=zf 0;have zf1:=zf 1;have zf2:=zf 2;clear yf zf;clear f HP;have HP:=Ax (d.out.set 4 1 ⟨#[]⟩);clear d;go_upto_region 20 with fail
  obtain⟨W,j⟩:∃W,(((C.setCell ⟨w.heap.size+1,0,none⟩ (.int .u8 4)).setCell ⟨w.heap.size+1,1,none⟩ (.int .i64 1)).setCell ⟨w.heap.size+1,2,none⟩ (.string ⟨#[]⟩))=W:=⟨_,rfl⟩
  (try simp only[if_true,if_false,Bool.false_eq_true])
  rw[j] at HP ⊢;clear j;clear y0 y1 y2 z0 z1 z2 yf0 yf1 yf2 zf0 zf1 zf2;obtain⟨⟨y0,y1,y2,yf⟩,z0,z1,z2,zf⟩:=Dw.cells HP.out;have yf0:=yf 0;have yf1:=yf 1;have yf2:=yf 2;have zf0:=zf 0;have zf1:=zf 1;have zf2:=zf 2;clear yf zf;have hfit:(⟨4,1,⟨#[]⟩⟩:Vl).fit:=⟨by show ByteArray.size ⟨#[]⟩<=_;first|decide|omega,by show _<=(1:Int);decide,by show(1:Int)<=_;decide⟩;have HMY:=Ax (Hy ⟨4,1,⟨#[]⟩⟩ hfit.1 W);rw[Kt] at HMY;have HTX:Hid (∀V,_):=Ax fun V=>Fy ⟨4,1,⟨#[]⟩⟩ V hfit
  obtain⟨X,g⟩:∃X,Nu ⟨4,1,⟨#[]⟩⟩=X:=⟨_,rfl⟩;have hXl:dl X=C3 4 1 (dl ⟨#[]⟩):=by rw[←g];rfl
  rw[g] at HTX;clear g;cases hmy:Fl 4 1 (dl ⟨#[]⟩) with
  |false=>
   rw[show Fl (⟨4,1,⟨#[]⟩⟩:Vl).k (⟨4,1,⟨#[]⟩⟩:Vl).n (dl (⟨4,1,⟨#[]⟩⟩:Vl).s)=false from hmy] at HMY;have HBD:=Ax (show C3 4 1 (dl ⟨#[]⟩)≠dl s from fun e=>H0.out sK);exact zz0
  |true=>
   rw[show Fl (⟨4,1,⟨#[]⟩⟩:Vl).k (⟨4,1,⟨#[]⟩⟩:Vl).n (dl (⟨4,1,⟨#[]⟩⟩:Vl).s)=true from hmy] at HMY;clear hmy hfit;have HXL:=Ax hXl;clear hXl;go_wp2_with fail;refine HMY.out.mono ?_;rintro e V6 ⟨rfl,hb6⟩;have HP6:=Ax (HP.out.below hb6);clear y0 y1 y2 z0 z1 z2 yf0 yf1 yf2 zf0 zf1 zf2;obtain⟨⟨y0,y1,y2,yf⟩,z0,z1,z2,zf⟩:=Dw.cells HP6.out;have yf0:=yf 0;have yf1:=yf 1;have yf2:=yf 2;have zf0:=zf 0;have zf1:=zf 1;have zf2:=zf 2;clear yf zf;clear hb6;go_wp2_with fail;refine(HTX.out V6).mono ?_;rintro e V7 ⟨rfl,c⟩;have HP7:=Ax (HP6.out.below c);clear y0 y1 y2 z0 z1 z2 yf0 yf1 yf2 zf0 zf1 zf2;obtain⟨⟨y0,y1,y2,yf⟩,z0,z1,z2,zf⟩:=Dw.cells HP7.out;have yf0:=yf 0;have yf1:=yf 1;have yf2:=yf 2;have zf0:=zf 0;have zf1:=zf 1;have zf2:=zf 2;clear yf zf;clear c;by_cases hXs:X=s
   ·have i:=Ax (show C3 4 1 (dl ⟨#[]⟩)=dl s from by rw[←HXL.out,hXs]);subst hXs;go_wp2_with fail;exact Au (v:= .tuple #[.agg #[.int .u8 4,.int .i64 1,.string ⟨#[]⟩],.int .i64 0]) rK rfl (by have:=B7.may (HP7.out.ret (.int .u8 4) (.int .i64 1) (.string ⟨#[]⟩)) H0.out H4.out HR.out i.out;rw[J9] at this;exact this)
   have HBD:=Ax (show C3 4 1 (dl ⟨#[]⟩)≠dl s from fun e=>hXs (Ch tS));exact zzn
 have tb:(s.toList==[116,114,117,101])=false:=by rw[A0];exact Af.2 (fun e=>hw (Ch e))
 have tc:dl s≠[116,114,117,101]:=fun e=>hw (Ch e)
 have td:=Ax tc;clear tc hw;by_cases hw:s=⟨#[102,97,108,115,101]⟩
 ·clear tb td;have H0:Hid (dl s≠[]):=Ax (by rw[hw];decide);have HR:=Ax (show Eg (dl s)= .ok (4,0,dl (⟨#[]⟩:ByteArray)) by rw[hw];rfl);have tb:(s.toList==[116,114,117,101])=false:=by rw[A0,hw];rfl
  have fb:(s.toList==[102,97,108,115,101])=true:=by rw[A0,hw];rfl
  have R:(s.toList==[110,117,108,108])=false:=by rw[A0,hw];rfl
  clear m hw;have HT:=Ax (R0 false G);go_wp2_with fail;refine HT.out.mono ?_;rintro e C ⟨rfl,f⟩;have d:=Ax (HP.out.below f);clear y0 y1 y2 z0 z1 z2 yf0 yf1 yf2 zf0 zf1 zf2;obtain⟨⟨y0,y1,y2,yf⟩,z0,z1,z2,zf⟩:=Dw.cells d.out;have yf0:=yf 0;have yf1:=yf 1;have yf2:=yf 2;have zf0:=zf 0;have zf1:=zf 1;have zf2:=zf 2;clear yf zf;clear f HP;have HP:=Ax (d.out.set 4 0 ⟨#[]⟩);clear d;go_upto_region 20 with fail
  obtain⟨W,j⟩:∃W,(((C.setCell ⟨w.heap.size+1,0,none⟩ (.int .u8 4)).setCell ⟨w.heap.size+1,1,none⟩ (.int .i64 0)).setCell ⟨w.heap.size+1,2,none⟩ (.string ⟨#[]⟩))=W:=⟨_,rfl⟩
  (try simp only[if_true,if_false,Bool.false_eq_true])
  rw[j] at HP ⊢;clear j;clear y0 y1 y2 z0 z1 z2 yf0 yf1 yf2 zf0 zf1 zf2;obtain⟨⟨y0,y1,y2,yf⟩,z0,z1,z2,zf⟩:=Dw.cells HP.out;have yf0:=yf 0;have yf1:=yf 1;have yf2:=yf 2;have zf0:=zf 0;have zf1:=zf 1;have zf2:=zf 2;clear yf zf;have hfit:(⟨4,0,⟨#[]⟩⟩:Vl).fit:=⟨by show ByteArray.size ⟨#[]⟩<=_;first|decide|omega,by show _<=(0:Int);decide,by show(0:Int)<=_;decide⟩;have HMY:=Ax (Hy ⟨4,0,⟨#[]⟩⟩ hfit.1 W);rw[Kt] at HMY;have HTX:Hid (∀V,_):=Ax fun V=>Fy ⟨4,0,⟨#[]⟩⟩ V hfit
  obtain⟨X,g⟩:∃X,Nu ⟨4,0,⟨#[]⟩⟩=X:=⟨_,rfl⟩;have hXl:dl X=C3 4 0 (dl ⟨#[]⟩):=by rw[←g];rfl
  rw[g] at HTX;clear g;cases hmy:Fl 4 0 (dl ⟨#[]⟩) with
  |false=>
   rw[show Fl (⟨4,0,⟨#[]⟩⟩:Vl).k (⟨4,0,⟨#[]⟩⟩:Vl).n (dl (⟨4,0,⟨#[]⟩⟩:Vl).s)=false from hmy] at HMY;have HBD:=Ax (show C3 4 0 (dl ⟨#[]⟩)≠dl s from fun e=>H0.out sK);exact zz0
  |true=>
   rw[show Fl (⟨4,0,⟨#[]⟩⟩:Vl).k (⟨4,0,⟨#[]⟩⟩:Vl).n (dl (⟨4,0,⟨#[]⟩⟩:Vl).s)=true from hmy] at HMY;clear hmy hfit;have HXL:=Ax hXl;clear hXl;go_wp2_with fail;refine HMY.out.mono ?_;rintro e V6 ⟨rfl,hb6⟩;have HP6:=Ax (HP.out.below hb6);clear y0 y1 y2 z0 z1 z2 yf0 yf1 yf2 zf0 zf1 zf2;obtain⟨⟨y0,y1,y2,yf⟩,z0,z1,z2,zf⟩:=Dw.cells HP6.out;have yf0:=yf 0;have yf1:=yf 1;have yf2:=yf 2;have zf0:=zf 0;have zf1:=zf 1;have zf2:=zf 2;clear yf zf;clear hb6;go_wp2_with fail;refine(HTX.out V6).mono ?_;rintro e V7 ⟨rfl,c⟩;have HP7:=Ax (HP6.out.below c);clear y0 y1 y2 z0 z1 z2 yf0 yf1 yf2 zf0 zf1 zf2;obtain⟨⟨y0,y1,y2,yf⟩,z0,z1,z2,zf⟩:=Dw.cells HP7.out;have yf0:=yf 0;have yf1:=yf 1;have yf2:=yf 2;have zf0:=zf 0;have zf1:=zf 1;have zf2:=zf 2;clear yf zf;clear c;by_cases hXs:X=s
   ·have i:=Ax (show C3 4 0 (dl ⟨#[]⟩)=dl s from by rw[←HXL.out,hXs]);subst hXs;go_wp2_with fail;exact Au (v:= .tuple #[.agg #[.int .u8 4,.int .i64 0,.string ⟨#[]⟩],.int .i64 0]) rK rfl (by have:=B7.may (HP7.out.ret (.int .u8 4) (.int .i64 0) (.string ⟨#[]⟩)) H0.out H4.out HR.out i.out;rw[J9] at this;exact this)
   have HBD:=Ax (show C3 4 0 (dl ⟨#[]⟩)≠dl s from fun e=>hXs (Ch tS));exact zzn
 have fb:(s.toList==[102,97,108,115,101])=false:=by rw[A0];exact Af.2 (fun e=>hw (Ch e))
 have fc:dl s≠[102,97,108,115,101]:=fun e=>hw (Ch e)
 have fd:=Ax fc;clear fc hw;by_cases hw:s=⟨#[110,117,108,108]⟩
 ·clear tb td fb fd;have H0:Hid (dl s≠[]):=Ax (by rw[hw];decide);have HR:=Ax (show Eg (dl s)= .ok (0,0,dl (⟨#[]⟩:ByteArray)) by rw[hw];rfl);have tb:(s.toList==[116,114,117,101])=false:=by rw[A0,hw];rfl
  have fb:(s.toList==[102,97,108,115,101])=false:=by rw[A0,hw];rfl
  have R:(s.toList==[110,117,108,108])=true:=by rw[A0,hw];rfl
  clear m hw;go_upto_region 20 with fail
  have hfit:(⟨0,0,⟨#[]⟩⟩:Vl).fit:=⟨by show ByteArray.size ⟨#[]⟩<=_;first|decide|omega,by show _<=(0:Int);decide,by show(0:Int)<=_;decide⟩;have HMY:=Ax (Hy ⟨0,0,⟨#[]⟩⟩ hfit.1 G);rw[Kt] at HMY;have HTX:Hid (∀V,_):=Ax fun V=>Fy ⟨0,0,⟨#[]⟩⟩ V hfit
  obtain⟨X,g⟩:∃X,Nu ⟨0,0,⟨#[]⟩⟩=X:=⟨_,rfl⟩;have hXl:dl X=C3 0 0 (dl ⟨#[]⟩):=by rw[←g];rfl
  rw[g] at HTX;clear g;cases hmy:Fl 0 0 (dl ⟨#[]⟩) with
  |false=>
   rw[show Fl (⟨0,0,⟨#[]⟩⟩:Vl).k (⟨0,0,⟨#[]⟩⟩:Vl).n (dl (⟨0,0,⟨#[]⟩⟩:Vl).s)=false from hmy] at HMY;have HBD:=Ax (show C3 0 0 (dl ⟨#[]⟩)≠dl s from fun e=>H0.out sK);exact zz0
  |true=>
   rw[show Fl (⟨0,0,⟨#[]⟩⟩:Vl).k (⟨0,0,⟨#[]⟩⟩:Vl).n (dl (⟨0,0,⟨#[]⟩⟩:Vl).s)=true from hmy] at HMY;clear hmy hfit;have HXL:=Ax hXl;clear hXl;go_wp2_with fail;refine HMY.out.mono ?_;rintro e V6 ⟨rfl,hb6⟩;have HP6:=Ax (HP.out.below hb6);clear y0 y1 y2 z0 z1 z2 yf0 yf1 yf2 zf0 zf1 zf2;obtain⟨⟨y0,y1,y2,yf⟩,z0,z1,z2,zf⟩:=Dw.cells HP6.out;have yf0:=yf 0;have yf1:=yf 1;have yf2:=yf 2;have zf0:=zf 0;have zf1:=zf 1;have zf2:=zf 2;clear yf zf;clear hb6;go_wp2_with fail;refine(HTX.out V6).mono ?_;rintro e V7 ⟨rfl,c⟩;have HP7:=Ax (HP6.out.below c);clear y0 y1 y2 z0 z1 z2 yf0 yf1 yf2 zf0 zf1 zf2;obtain⟨⟨y0,y1,y2,yf⟩,z0,z1,z2,zf⟩:=Dw.cells HP7.out;have yf0:=yf 0;have yf1:=yf 1;have yf2:=yf 2;have zf0:=zf 0;have zf1:=zf 1;have zf2:=zf 2;clear yf zf;clear c;by_cases hXs:X=s
   ·have i:=Ax (show C3 0 0 (dl ⟨#[]⟩)=dl s from by rw[←HXL.out,hXs]);subst hXs;go_wp2_with fail;exact Au (v:= .tuple #[.agg #[.int .u8 0,.int .i64 0,.string ⟨#[]⟩],.int .i64 0]) rK rfl (by have:=B7.may (HP7.out.ret (.int .u8 0) (.int .i64 0) (.string ⟨#[]⟩)) H0.out H4.out HR.out i.out;rw[J9] at this;exact this)
   have HBD:=Ax (show C3 0 0 (dl ⟨#[]⟩)≠dl s from fun e=>hXs (Ch tS));exact zzn
 have R:(s.toList==[110,117,108,108])=false:=by rw[A0];exact Af.2 (fun e=>hw (Ch e))
 have nc:dl s≠[110,117,108,108]:=fun e=>hw (Ch e)
 have nd:=Ax nc;clear nc hw;by_cases h35:(dl s).head? =some 35
 ·have y:0<s.size:=by rcases Nat.eq_zero_or_pos s.size with h|h;(have:=A5 s;rw[h] at this;rw[List.eq_nil_of_length_eq_zero this] at h35;cases h35);exact h
  have H0:Hid (dl s≠[]):=Ax (fun e=>by rw[e] at h35;cases h35);have c0:s[0]=35:=by rw[Ku y] at h35;exact Option.some.inj h35
  have d0:((s[0].toNat:Int)==35)=true:=by rw[c0];rfl
  have HR:=Ax (show Eg (dl s)= .ok (5,0,dl (s.extract 1 s.size)) by rw[Ft,List.drop_one];exact eZ h35);have f9:=aP s 1 rF rF;rw[show((1:Int)).toNat=1 from rfl] at f9;obtain⟨S,I⟩:∃S,s.extract 1 s.size=S:=⟨_,rfl⟩;have s7:S.size<=402:=by rw[←I,ByteArray.size_extract];omega
  rw[I] at HR f9;clear c0 h35 I;have o:=Ax (HP.out.set 5 0 S);clear HP;have HP:=o;clear o;go_upto_region 20 with fail
  obtain⟨W,j⟩:∃W,(((G.setCell ⟨w.heap.size+1,0,none⟩ (.int .u8 5)).setCell ⟨w.heap.size+1,1,none⟩ (.int .i64 0)).setCell ⟨w.heap.size+1,2,none⟩ (.string S))=W:=⟨_,rfl⟩;rw[j] at HP ⊢;clear j;clear y0 y1 y2 z0 z1 z2 yf0 yf1 yf2 zf0 zf1 zf2;obtain⟨⟨y0,y1,y2,yf⟩,z0,z1,z2,zf⟩:=Dw.cells HP.out;have yf0:=yf 0;have yf1:=yf 1;have yf2:=yf 2;have zf0:=zf 0;have zf1:=zf 1;have zf2:=zf 2;clear yf zf;have hfit:(⟨5,0,S⟩:Vl).fit:=⟨by show ByteArray.size S<=_;first|decide|omega,by show _<=(0:Int);decide,by show(0:Int)<=_;decide⟩;have HMY:=Ax (Hy ⟨5,0,S⟩ hfit.1 W);rw[Kt] at HMY;have HTX:Hid (∀V,_):=Ax fun V=>Fy ⟨5,0,S⟩ V hfit
  obtain⟨X,g⟩:∃X,Nu ⟨5,0,S⟩=X:=⟨_,rfl⟩;have hXl:dl X=C3 5 0 (dl S):=by rw[←g];rfl
  rw[g] at HTX;clear g;cases hmy:Fl 5 0 (dl S) with
  |false=>
   rw[show Fl (⟨5,0,S⟩:Vl).k (⟨5,0,S⟩:Vl).n (dl (⟨5,0,S⟩:Vl).s)=false from hmy] at HMY;have HBD:=Ax (show C3 5 0 (dl S)≠dl s from fun e=>H0.out sK);exact zz0
  |true=>
   rw[show Fl (⟨5,0,S⟩:Vl).k (⟨5,0,S⟩:Vl).n (dl (⟨5,0,S⟩:Vl).s)=true from hmy] at HMY;clear hmy hfit;have HXL:=Ax hXl;clear hXl;go_wp2_with fail;refine HMY.out.mono ?_;rintro e V6 ⟨rfl,hb6⟩;have HP6:=Ax (HP.out.below hb6);clear y0 y1 y2 z0 z1 z2 yf0 yf1 yf2 zf0 zf1 zf2;obtain⟨⟨y0,y1,y2,yf⟩,z0,z1,z2,zf⟩:=Dw.cells HP6.out;have yf0:=yf 0;have yf1:=yf 1;have yf2:=yf 2;have zf0:=zf 0;have zf1:=zf 1;have zf2:=zf 2;clear yf zf;clear hb6;go_wp2_with fail;refine(HTX.out V6).mono ?_;rintro e V7 ⟨rfl,c⟩;have HP7:=Ax (HP6.out.below c);clear y0 y1 y2 z0 z1 z2 yf0 yf1 yf2 zf0 zf1 zf2;obtain⟨⟨y0,y1,y2,yf⟩,z0,z1,z2,zf⟩:=Dw.cells HP7.out;have yf0:=yf 0;have yf1:=yf 1;have yf2:=yf 2;have zf0:=zf 0;have zf1:=zf 1;have zf2:=zf 2;clear yf zf;clear c;by_cases hXs:X=s
   ·have i:=Ax (show C3 5 0 (dl S)=dl s from by rw[←HXL.out,hXs]);subst hXs;go_wp2_with fail;exact Au (v:= .tuple #[.agg #[.int .u8 5,.int .i64 0,.string S],.int .i64 0]) rK rfl (by have:=B7.may (HP7.out.ret (.int .u8 5) (.int .i64 0) (.string S)) H0.out H4.out HR.out i.out;rw[J9] at this;exact this)
   have HBD:=Ax (show C3 5 0 (dl S)≠dl s from fun e=>hXs (Ch tS));exact zzn
 by_cases h34:(dl s).head? =some 34
 ·have y:0<s.size:=by rcases Nat.eq_zero_or_pos s.size with h|h;(have:=A5 s;rw[h] at this;rw[List.eq_nil_of_length_eq_zero this] at h34;cases h34);exact h
  have H0:Hid (dl s≠[]):=Ax (fun e=>by rw[e] at h34;cases h34);have c0:s[0]=34:=by rw[Ku y] at h34;exact Option.some.inj h34
  have d0:((s[0].toNat:Int)==34)=true:=by rw[c0];rfl
  have d1:((s[0].toNat:Int)==35)=false:=by rw[c0];rfl
  obtain⟨S,I⟩:∃S:ByteArray,⟨(B8 (dl s).tail).toArray⟩=S:=⟨_,rfl⟩;have HR:=Ax (show Eg (dl s)= .ok (3,0,dl S) by rw[←I,Da];exact dI h34);have HI:=Ax (eD (w:=G) s rF);rw[I] at HI;have s7:S.size<=402:=by rw[←I,←A5,Da];exact fF m
  clear c0 h34 h35 I;have o:=Ax (HP.out.set 3 0 S);clear HP;have HP:=o;clear o;go_wp2_with fail;refine HI.out.mono ?_;rintro e C ⟨rfl,rfl⟩;go_upto_region 20 with fail
  obtain⟨W,j⟩:∃W,(((G.setCell ⟨w.heap.size+1,0,none⟩ (.int .u8 3)).setCell ⟨w.heap.size+1,1,none⟩ (.int .i64 0)).setCell ⟨w.heap.size+1,2,none⟩ (.string S))=W:=⟨_,rfl⟩;rw[j] at HP ⊢;clear j;clear y0 y1 y2 z0 z1 z2 yf0 yf1 yf2 zf0 zf1 zf2;obtain⟨⟨y0,y1,y2,yf⟩,z0,z1,z2,zf⟩:=Dw.cells HP.out;have yf0:=yf 0;have yf1:=yf 1;have yf2:=yf 2;have zf0:=zf 0;have zf1:=zf 1;have zf2:=zf 2;clear yf zf;have hfit:(⟨3,0,S⟩:Vl).fit:=⟨by show ByteArray.size S<=_;first|decide|omega,by show _<=(0:Int);decide,by show(0:Int)<=_;decide⟩;have HMY:=Ax (Hy ⟨3,0,S⟩ hfit.1 W);rw[Kt] at HMY;have HTX:Hid (∀V,_):=Ax fun V=>Fy ⟨3,0,S⟩ V hfit
  obtain⟨X,g⟩:∃X,Nu ⟨3,0,S⟩=X:=⟨_,rfl⟩;have hXl:dl X=C3 3 0 (dl S):=by rw[←g];rfl
  rw[g] at HTX;clear g;cases hmy:Fl 3 0 (dl S) with
  |false=>
   rw[show Fl (⟨3,0,S⟩:Vl).k (⟨3,0,S⟩:Vl).n (dl (⟨3,0,S⟩:Vl).s)=false from hmy] at HMY;have HBD:=Ax (show C3 3 0 (dl S)≠dl s from fun e=>H0.out sK);exact zz0
  |true=>
   rw[show Fl (⟨3,0,S⟩:Vl).k (⟨3,0,S⟩:Vl).n (dl (⟨3,0,S⟩:Vl).s)=true from hmy] at HMY;clear hmy hfit;have HXL:=Ax hXl;clear hXl;go_wp2_with fail;refine HMY.out.mono ?_;rintro e V6 ⟨rfl,hb6⟩;have HP6:=Ax (HP.out.below hb6);clear y0 y1 y2 z0 z1 z2 yf0 yf1 yf2 zf0 zf1 zf2;obtain⟨⟨y0,y1,y2,yf⟩,z0,z1,z2,zf⟩:=Dw.cells HP6.out;have yf0:=yf 0;have yf1:=yf 1;have yf2:=yf 2;have zf0:=zf 0;have zf1:=zf 1;have zf2:=zf 2;clear yf zf;clear hb6;go_wp2_with fail;refine(HTX.out V6).mono ?_;rintro e V7 ⟨rfl,c⟩;have HP7:=Ax (HP6.out.below c);clear y0 y1 y2 z0 z1 z2 yf0 yf1 yf2 zf0 zf1 zf2;obtain⟨⟨y0,y1,y2,yf⟩,z0,z1,z2,zf⟩:=Dw.cells HP7.out;have yf0:=yf 0;have yf1:=yf 1;have yf2:=yf 2;have zf0:=zf 0;have zf1:=zf 1;have zf2:=zf 2;clear yf zf;clear c;by_cases hXs:X=s
   ·have i:=Ax (show C3 3 0 (dl S)=dl s from by rw[←HXL.out,hXs]);subst hXs;go_wp2_with fail;exact Au (v:= .tuple #[.agg #[.int .u8 3,.int .i64 0,.string S],.int .i64 0]) rK rfl (by have:=B7.may (HP7.out.ret (.int .u8 3) (.int .i64 0) (.string S)) H0.out H4.out HR.out i.out;rw[J9] at this;exact this)
   have HBD:=Ax (show C3 3 0 (dl S)≠dl s from fun e=>hXs (Ch tS));exact zzn
 have i6:=Ax (fun A:dl s≠[]=>Y8 td.out fd.out nd.out h35 h34 A);have L:∀h:0<s.size,((s[0].toNat:Int)==35)=false:=fun h=>Af.2 (fun e=>h35 (by rw[Ku h];congr 1;exact Cd (n:=35) rF))
 have M:∀h:0<s.size,((s[0].toNat:Int)==34)=false:=fun h=>Af.2 (fun e=>h34 (by rw[Ku h];congr 1;exact Cd (n:=34) rF))
 have i7:=Ax L;have j8:=Ax M;clear h35 h34 L M;have D:=r9.out;cases hz:E4 (dl s) with
 |none=>
  rw[hz] at D;obtain rfl:=D;have HE:=Ax (show Dy (dl s)= .error 4 from Uf H4.out (by by_cases A:dl s=[];exact .inl ⟨A,rfl⟩;exact .inr ⟨A,by rw[i6.out A,hz]⟩));clear hz;by_cases y:0<s.size
  ·have d0:=i7.out y;have d1:=j8.out y;exact zwe
  have d0:decide (0<s.size)=false:=An y;exact zwe
 |some z=>
  rw[hz] at D;obtain⟨rfl,U,Y⟩:=D;obtain⟨z,p⟩:=z;simp only at U Y;have A:dl s≠[]:=fun e=>by rw[e] at hz;cases hz
  have H0:=Ax A;have q:=kI hz H4.out;have E:=i6.out A;rw[hz] at E;simp only at E q;have y:0<s.size:=by rcases Nat.eq_zero_or_pos s.size with h|h;exact absurd (List.eq_nil_of_length_eq_zero (by rw[A5];exact h)) A;exact h
  have d0:=i7.out y;have d1:=j8.out y;have Z:=Ax (nX (Y.below d8.out) (Al q rH));obtain⟨i0,i1,_⟩:=A1 f7.out;have r:=Ax E;have j9:=Ax U;clear hz Y E q A U;by_cases hin:inR z
  ·have k8:=hin;obtain⟨l7,n9⟩:=k8;have HZ:=Ax (And.intro l7 n9);clear l7 n9;cases p with
   |true=>
    have HR:=Ax (show Eg (dl s)= .ok (2,z,dl (⟨#[]⟩:ByteArray)) by have:=r.out;rw[Ap hin] at this;exact this);obtain rfl:pt=true:=j9.out;go_wp2_with fail;refine Z.out.mono ?_;rintro e C ⟨u,f⟩;unfold Gp at u;rw[Ap hin,Ap hin] at u;subst u;have d:=Ax (HP.out.below f);clear y0 y1 y2 z0 z1 z2 yf0 yf1 yf2 zf0 zf1 zf2;obtain⟨⟨y0,y1,y2,yf⟩,z0,z1,z2,zf⟩:=Dw.cells d.out;have yf0:=yf 0;have yf1:=yf 1;have yf2:=yf 2;have zf0:=zf 0;have zf1:=zf 1;have zf2:=zf 2;clear yf zf;clear f HP i0 i1;have HP:=Ax (d.out.set 1 z ⟨#[]⟩);clear d;have x:=hin;have s8:=Ax hin;clear hin x;go_upto_region 18 with fail
    obtain⟨W,j⟩:∃W,(((C.setCell ⟨w.heap.size+1,0,none⟩ (.int .u8 1)).setCell ⟨w.heap.size+1,1,none⟩ (.int .i64 z)).setCell ⟨w.heap.size+1,2,none⟩ (.string ⟨#[]⟩))=W:=⟨_,rfl⟩;rw[j] at HP ⊢;clear j;clear y0 y1 y2 z0 z1 z2 yf0 yf1 yf2 zf0 zf1 zf2;obtain⟨⟨y0,y1,y2,yf⟩,z0,z1,z2,zf⟩:=Dw.cells HP.out;have yf0:=yf 0;have yf1:=yf 1;have yf2:=yf 2;have zf0:=zf 0;have zf1:=zf 1;have zf2:=zf 2;clear yf zf;have p8:=Ax (HP.out.set0 2);clear HP;have HP:=p8;clear p8;go_upto_region 20 with fail
    obtain⟨W9,r7⟩:∃W9,W.setCell ⟨w.heap.size+1,0,none⟩ (.int .u8 2)=W9:=⟨_,rfl⟩;rw[r7] at HP ⊢;clear r7;clear y0 y1 y2 z0 z1 z2 yf0 yf1 yf2 zf0 zf1 zf2;obtain⟨⟨y0,y1,y2,yf⟩,z0,z1,z2,zf⟩:=Dw.cells HP.out;have yf0:=yf 0;have yf1:=yf 1;have yf2:=yf 2;have zf0:=zf 0;have zf1:=zf 1;have zf2:=zf 2;clear yf zf;have hfit:(⟨2,z,⟨#[]⟩⟩:Vl).fit:=⟨by show ByteArray.size ⟨#[]⟩<=_;first|decide|omega,by show _<=(z:Int);have:=HZ.out;omega,by show(z:Int)<=_;have:=HZ.out;omega⟩;have HMY:=Ax (Hy ⟨2,z,⟨#[]⟩⟩ hfit.1 W9);rw[Kt] at HMY;have HTX:Hid (∀V,_):=Ax fun V=>Fy ⟨2,z,⟨#[]⟩⟩ V hfit
    obtain⟨X,g⟩:∃X,Nu ⟨2,z,⟨#[]⟩⟩=X:=⟨_,rfl⟩;have hXl:dl X=C3 2 z (dl ⟨#[]⟩):=by rw[←g];rfl
    rw[g] at HTX;clear g;cases hmy:Fl 2 z (dl ⟨#[]⟩) with
    |false=>
     rw[show Fl (⟨2,z,⟨#[]⟩⟩:Vl).k (⟨2,z,⟨#[]⟩⟩:Vl).n (dl (⟨2,z,⟨#[]⟩⟩:Vl).s)=false from hmy] at HMY;have HBD:=Ax (show C3 2 z (dl ⟨#[]⟩)≠dl s from fun e=>H0.out sK);exact zz0
    |true=>
     rw[show Fl (⟨2,z,⟨#[]⟩⟩:Vl).k (⟨2,z,⟨#[]⟩⟩:Vl).n (dl (⟨2,z,⟨#[]⟩⟩:Vl).s)=true from hmy] at HMY;clear hmy hfit;have HXL:=Ax hXl;clear hXl;go_wp2_with fail;refine HMY.out.mono ?_;rintro e V6 ⟨rfl,hb6⟩;have HP6:=Ax (HP.out.below hb6);clear y0 y1 y2 z0 z1 z2 yf0 yf1 yf2 zf0 zf1 zf2;obtain⟨⟨y0,y1,y2,yf⟩,z0,z1,z2,zf⟩:=Dw.cells HP6.out;have yf0:=yf 0;have yf1:=yf 1;have yf2:=yf 2;have zf0:=zf 0;have zf1:=zf 1;have zf2:=zf 2;clear yf zf;clear hb6;go_wp2_with fail;refine(HTX.out V6).mono ?_;rintro e V7 ⟨rfl,c⟩;have HP7:=Ax (HP6.out.below c);clear y0 y1 y2 z0 z1 z2 yf0 yf1 yf2 zf0 zf1 zf2;obtain⟨⟨y0,y1,y2,yf⟩,z0,z1,z2,zf⟩:=Dw.cells HP7.out;have yf0:=yf 0;have yf1:=yf 1;have yf2:=yf 2;have zf0:=zf 0;have zf1:=zf 1;have zf2:=zf 2;clear yf zf;clear c;by_cases hXs:X=s
     ·have i:=Ax (show C3 2 z (dl ⟨#[]⟩)=dl s from by rw[←HXL.out,hXs]);subst hXs;go_wp2_with fail;exact Au (v:= .tuple #[.agg #[.int .u8 2,.int .i64 z,.string ⟨#[]⟩],.int .i64 0]) rK rfl (by have:=B7.may (HP7.out.ret (.int .u8 2) (.int .i64 z) (.string ⟨#[]⟩)) H0.out H4.out HR.out i.out;rw[J9] at this;exact this)
     have HBD:=Ax (show C3 2 z (dl ⟨#[]⟩)≠dl s from fun e=>hXs (Ch tS));exact zzn
   |false=>
    have HR:=Ax (show Eg (dl s)= .ok (1,z,dl (⟨#[]⟩:ByteArray)) by have:=r.out;rw[Ap hin] at this;exact this);obtain rfl:pt=false:=j9.out;go_wp2_with fail;refine Z.out.mono ?_;rintro e C ⟨u,f⟩;unfold Gp at u;rw[Ap hin,Ap hin] at u;subst u;have d:=Ax (HP.out.below f);clear y0 y1 y2 z0 z1 z2 yf0 yf1 yf2 zf0 zf1 zf2;obtain⟨⟨y0,y1,y2,yf⟩,z0,z1,z2,zf⟩:=Dw.cells d.out;have yf0:=yf 0;have yf1:=yf 1;have yf2:=yf 2;have zf0:=zf 0;have zf1:=zf 1;have zf2:=zf 2;clear yf zf;clear f HP i0 i1;have HP:=Ax (d.out.set 1 z ⟨#[]⟩);clear d;have x:=hin;have s8:=Ax hin;clear hin x;go_upto_region 18 with fail
    obtain⟨W,j⟩:∃W,(((C.setCell ⟨w.heap.size+1,0,none⟩ (.int .u8 1)).setCell ⟨w.heap.size+1,1,none⟩ (.int .i64 z)).setCell ⟨w.heap.size+1,2,none⟩ (.string ⟨#[]⟩))=W:=⟨_,rfl⟩;rw[j] at HP ⊢;clear j;clear y0 y1 y2 z0 z1 z2 yf0 yf1 yf2 zf0 zf1 zf2;obtain⟨⟨y0,y1,y2,yf⟩,z0,z1,z2,zf⟩:=Dw.cells HP.out;have yf0:=yf 0;have yf1:=yf 1;have yf2:=yf 2;have zf0:=zf 0;have zf1:=zf 1;have zf2:=zf 2;clear yf zf;go_upto_region 20 with fail
    have hfit:(⟨1,z,⟨#[]⟩⟩:Vl).fit:=⟨by show ByteArray.size ⟨#[]⟩<=_;first|decide|omega,by show _<=(z:Int);have:=HZ.out;omega,by show(z:Int)<=_;have:=HZ.out;omega⟩;have HMY:=Ax (Hy ⟨1,z,⟨#[]⟩⟩ hfit.1 W);rw[Kt] at HMY;have HTX:Hid (∀V,_):=Ax fun V=>Fy ⟨1,z,⟨#[]⟩⟩ V hfit
    obtain⟨X,g⟩:∃X,Nu ⟨1,z,⟨#[]⟩⟩=X:=⟨_,rfl⟩;have hXl:dl X=C3 1 z (dl ⟨#[]⟩):=by rw[←g];rfl
    rw[g] at HTX;clear g;cases hmy:Fl 1 z (dl ⟨#[]⟩) with
    |false=>
     rw[show Fl (⟨1,z,⟨#[]⟩⟩:Vl).k (⟨1,z,⟨#[]⟩⟩:Vl).n (dl (⟨1,z,⟨#[]⟩⟩:Vl).s)=false from hmy] at HMY;have HBD:=Ax (show C3 1 z (dl ⟨#[]⟩)≠dl s from fun e=>H0.out sK);exact zz0
    |true=>
     rw[show Fl (⟨1,z,⟨#[]⟩⟩:Vl).k (⟨1,z,⟨#[]⟩⟩:Vl).n (dl (⟨1,z,⟨#[]⟩⟩:Vl).s)=true from hmy] at HMY;clear hmy hfit;have HXL:=Ax hXl;clear hXl;go_wp2_with fail;refine HMY.out.mono ?_;rintro e V6 ⟨rfl,hb6⟩;have HP6:=Ax (HP.out.below hb6);clear y0 y1 y2 z0 z1 z2 yf0 yf1 yf2 zf0 zf1 zf2;obtain⟨⟨y0,y1,y2,yf⟩,z0,z1,z2,zf⟩:=Dw.cells HP6.out;have yf0:=yf 0;have yf1:=yf 1;have yf2:=yf 2;have zf0:=zf 0;have zf1:=zf 1;have zf2:=zf 2;clear yf zf;clear hb6;go_wp2_with fail;refine(HTX.out V6).mono ?_;rintro e V7 ⟨rfl,c⟩;have HP7:=Ax (HP6.out.below c);clear y0 y1 y2 z0 z1 z2 yf0 yf1 yf2 zf0 zf1 zf2;obtain⟨⟨y0,y1,y2,yf⟩,z0,z1,z2,zf⟩:=Dw.cells HP7.out;have yf0:=yf 0;have yf1:=yf 1;have yf2:=yf 2;have zf0:=zf 0;have zf1:=zf 1;have zf2:=zf 2;clear yf zf;clear c;by_cases hXs:X=s
     ·have i:=Ax (show C3 1 z (dl ⟨#[]⟩)=dl s from by rw[←HXL.out,hXs]);subst hXs;go_wp2_with fail;exact Au (v:= .tuple #[.agg #[.int .u8 1,.int .i64 z,.string ⟨#[]⟩],.int .i64 0]) rK rfl (by have:=B7.may (HP7.out.ret (.int .u8 1) (.int .i64 z) (.string ⟨#[]⟩)) H0.out H4.out HR.out i.out;rw[J9] at this;exact this)
     have HBD:=Ax (show C3 1 z (dl ⟨#[]⟩)≠dl s from fun e=>hXs (Ch tS));exact zzn
  have HE:=Ax (show Dy (dl s)= .error 9 from Uf H4.out (.inr ⟨H0.out,by rw[r.out,Ao hin]⟩));go_wp2_with fail;refine Z.out.mono ?_;rintro e C ⟨u,f⟩;unfold Gp at u;rw[Ao hin,Ao hin] at u;subst u;have d:=Ax (HP.out.below f);clear y0 y1 y2 z0 z1 z2 yf0 yf1 yf2 zf0 zf1 zf2;obtain⟨⟨y0,y1,y2,yf⟩,z0,z1,z2,zf⟩:=Dw.cells d.out;have yf0:=yf 0;have yf1:=yf 1;have yf2:=yf 2;have zf0:=zf 0;have zf1:=zf 1;have zf2:=zf 2;clear yf zf;clear f HP i0 i1 hin;go_wp2_with fail;exact Au (v:= .tuple #[.agg #[.int .u8 0,.int .i64 0,.string ⟨#[]⟩],.int .i64 9]) rK rfl (B7.err (d.out.ret _ _ _) HE.out)
open Go Go.RowKit Go.Lib
theorem Sh (c:UInt8)(w:World):Calls Tryz.prog 210 #[.int .u8 (c.toNat:Int)] w fun e w'=>e= .returned (.bool (D7 c))/\w=w':=by
 obtain⟨r,d⟩:∃r,D7 c=r:=⟨_,rfl⟩;rw[d];unfold D7 at d;by_cases h1:97<=c.toNat
 ·have f:decide ((97:Int)<=(c.toNat:Int))=true:=Am rF;rw[Am h1,Bool.true_and] at d;by_cases h2:c.toNat<=122
  ·have g:decide ((c.toNat:Int)<=122)=true:=Am rF;rw[Am h2] at d;subst d;go_enter Tryz.func210,Tryz.ntmps210;go_wp2_with fail;exact zyn
  have g:decide ((c.toNat:Int)<=122)=false:=An rF;rw[An h2] at d;subst d;go_enter Tryz.func210,Tryz.ntmps210;go_wp2_with fail;exact zyn
 have f:decide ((97:Int)<=(c.toNat:Int))=false:=An rF;rw[An h1,Bool.false_and] at d;subst d;go_enter Tryz.func210,Tryz.ntmps210;go_wp2_with fail;exact zyn
theorem Iy (c:UInt8)(w:World):Calls Tryz.prog 157 #[.int .u8 (c.toNat:Int)] w fun e w'=>e= .returned (.bool (Bg c))/\w=w':=by
 obtain⟨r,d⟩:∃r,Bg c=r:=⟨_,rfl⟩;rw[d];unfold Bg at d;by_cases h1:48<=c.toNat
 ·have f:decide ((48:Int)<=(c.toNat:Int))=true:=Am rF;rw[Am h1,Bool.true_and] at d;by_cases h2:c.toNat<=57
  ·have g:decide ((c.toNat:Int)<=57)=true:=Am rF;rw[Am h2] at d;subst d;go_enter Tryz.func157,Tryz.ntmps157;go_wp2_with fail;exact zyn
  have g:decide ((c.toNat:Int)<=57)=false:=An rF;rw[An h2] at d;subst d;go_enter Tryz.func157,Tryz.ntmps157;go_wp2_with fail;exact zyn
 have f:decide ((48:Int)<=(c.toNat:Int))=false:=An rF;rw[An h1,Bool.false_and] at d;subst d;go_enter Tryz.func157,Tryz.ntmps157;go_wp2_with fail;exact zyn
theorem Jo {a b:Nat}(h:a=b):Ending.returned (.int .i64 (a:Int))= .returned (.int .i64 (b:Int)):=by rw[h]
theorem Ju {s:ByteArray}{p:Nat}(h:p<s.size):(dl s).drop p=s[p]::(dl s).drop (p+1):=by
 have c:p<(dl s).length:=(A5 s).symm▸h
 have:=Gc h
 rw[Ag c] at this;rw[List.drop_eq_getElem_cons c,Option.some.inj this]
theorem G2 {s:ByteArray}{p:Nat}(h:s.size<=p):(dl s).drop p=[]:=List.drop_eq_nil_of_le (by rw[A5];exact h)
theorem O4 {q:UInt8->Bool}{c:UInt8}{r:List UInt8}(h:q c=false):Ba q (c::r)=0:=by
 unfold Ba;rw[List.takeWhile_cons,h];rfl
theorem Fw {q:UInt8->Bool}{c:UInt8}{r:List UInt8}(h:q c=true):Ba q (c::r)=1+Ba q r:=by
 unfold Ba;rw[List.takeWhile_cons,h];simp;omega
def Gi (l:List UInt8):Nat:=match l with
 |c::r=>if D7 c then Ba Cv (c::r) else 0
 |[]=>0
theorem Uy {c:UInt8}(h:D7 c=true):Cv c=true:=by unfold Cv;rw[h];rfl
theorem Uw (s:ByteArray)(p:Nat)(w:World)(r:s.size<=1000000)(u:p<=s.size+1):Calls Tryz.prog 156 #[.string s,.int .i64 (p:Int)] w fun e w'=>e= .returned (.int .i64 ((p+Gi ((dl s).drop p):Nat):Int))/\w=w':=by
 by_cases hlt:p<s.size
 ·have c:=Ju hlt;have k:(0:Int)<=(p:Int):=by omega
  have m:(p:Int)<(s.size:Int):=by omega
  have j:decide (s.size<=p)=false:=An rF;have d:=Ax (Sh s[p] w);cases hc:D7 s[p] with
  |false=>
   rw[hc] at d;have i:Hid (p+Gi ((dl s).drop p)=p):=Ax (by rw[c];unfold Gi;simp only;rw[Ao (by rw[hc];simp)];rfl);clear c hc;rw[i.out];go_enter Tryz.func156,Tryz.ntmps156;go_wp2_with fail;refine d.out.mono ?_;rintro e w' ⟨rfl,rfl⟩;go_wp2_with fail;exact zyn
  |true=>
   rw[hc] at d;have i:Hid (p+Gi ((dl s).drop p)=p+Ba Cv ((dl s).drop p)):=Ax (by rw[c];unfold Gi;simp only;rw[Ap hc]);clear c hc;rw[i.out];go_enter Tryz.func156,Tryz.ntmps156;go_wp2_with fail;refine d.out.mono ?_;rintro e w' ⟨rfl,rfl⟩;clear d j i;go_wp2_with fail
   go_loop [1] (fun v1=>∃q:Nat,v1= .int .i64 (q:Int)/\p<=q/\q<=s.size/\Hid (q+Ba Cv ((dl s).drop q)=p+Ba Cv ((dl s).drop p))) (fun v1=>s.size - (intOf v1).toNat)
   case atStart=>exact⟨p,rfl,Ak _,Nat.le_of_lt hlt,Ax rfl⟩
   obtain⟨q,rfl,n,o,h⟩:=hrel;by_cases hgo:q<s.size
   ·have j:decide ((q:Int)<(s.size:Int))=true:=Am rF;have k:(0:Int)<=(q:Int):=by omega
    have m:(q:Int)<(s.size:Int):=by omega
    have f:=Ax (Sh s[q] w);have g:=Ax (Iy s[q] w);have c:=Ju hgo;cases hl:D7 s[q] with
    |true=>
     rw[hl] at f;have HN:=Ax (show q+1+Ba Cv ((dl s).drop (q+1))=p+Ba Cv ((dl s).drop p) by rw[←h.out,c,Fw (Uy hl)];omega);clear hl c h g;go_wp2_with fail;refine f.out.mono ?_;exact zxv
    |false=>
     rw[hl] at f;cases hd:Bg s[q] with
     |true=>
      rw[hd] at g;have HN:=Ax (show q+1+Ba Cv ((dl s).drop (q+1))=p+Ba Cv ((dl s).drop p) by rw[←h.out,c,Fw (by unfold Cv;rw[hd,Bool.or_true])];omega);clear hl hd c h;go_wp2_with fail;refine f.out.mono ?_;rintro e w' ⟨rfl,rfl⟩;go_wp2_with fail;refine g.out.mono ?_;exact zxv
     |false=>
      rw[hd] at g;have HN:=Ax (show q=p+Ba Cv ((dl s).drop p) by rw[←h.out,c,O4 (by unfold Cv;rw[hl,hd];rfl)];omega);clear hl hd c h;go_wp2_with fail;refine f.out.mono ?_;rintro e w' ⟨rfl,rfl⟩;go_wp2_with fail;refine g.out.mono ?_;rintro e w' ⟨rfl,rfl⟩;go_wp2_with fail;go_ret;exact⟨Jo HN.out,rfl⟩
   have j:decide ((q:Int)<(s.size:Int))=false:=An rF;have HN:=Ax (show q=p+Ba Cv ((dl s).drop p) by rw[←h.out,G2 rF];rfl);clear h;go_wp2_with fail;go_ret;exact⟨Jo HN.out,rfl⟩
 have j:decide ((s.size:Int)<=(p:Int))=true:=Am rF;have i:Hid (p+Gi ((dl s).drop p)=p):=Ax (by rw[G2 rF];rfl);rw[i.out];go_enter Tryz.func156,Tryz.ntmps156;go_wp2_with fail;exact zyn
end Go.Proofs.YtgfakdobajgnfaaGreatDoor
