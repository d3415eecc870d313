import Derived.Test.YtmpfilddeglgbaaGreatDoorQj24
import Derived.Test.YtmpfilddeglgbaaGreatDoorQj9
set_option maxRecDepth 100000
set_option maxHeartbeats 16000000
namespace Go.Proofs.YtmpfilddeglgbaaGreatDoor
open Go Go.RowKit Go.Lib
theorem Uc (b:Bool)(w:World):Calls Tryz.prog 148 #[.bool b] w fun e w'=>e= .returned (.agg #[.int .u8 4,.int .i64 (if b=true then 1 else 0),.string ⟨#[]⟩])/\Below w.heap.size w w':=by
 cases b with
 |false=>
  go_enter Tryz.func148,Tryz.ntmps148;go_wp2_with fail;exact Au (v:= .agg #[.int .u8 4,.int .i64 0,.string ⟨#[]⟩]) (by simp [results,Tryz.results148,go_sem, *]) rfl ⟨rfl,by first|exact(((Aq _ _).alloc (Ak _) _).alloc tH _)|exact((((Aq _ _).alloc (Ak _) _).alloc tH _).setCell tH _)|exact(((((Aq _ _).alloc (Ak _) _).alloc tH _).setCell tH _).setCell tH _).setCell tH _|exact((((((Aq _ _).alloc (Ak _) _).alloc tH _).setCell tH _).setCell tH _).setCell tH _).setCell tH _⟩
 |true=>
  go_enter Tryz.func148,Tryz.ntmps148;go_wp2_with fail;exact Au (v:= .agg #[.int .u8 4,.int .i64 1,.string ⟨#[]⟩]) (by simp [results,Tryz.results148,go_sem, *]) rfl ⟨rfl,by first|exact(((Aq _ _).alloc (Ak _) _).alloc tH _)|exact((((Aq _ _).alloc (Ak _) _).alloc tH _).setCell tH _)|exact(((((Aq _ _).alloc (Ak _) _).alloc tH _).setCell tH _).setCell tH _).setCell tH _|exact((((((Aq _ _).alloc (Ak _) _).alloc tH _).setCell tH _).setCell tH _).setCell tH _).setCell tH _⟩
theorem Qq {c:UInt8}{r:List UInt8}(hc:Bb c=false)(h45:c≠45):Fk (c::r)=none:=by
 have hb:(if(c::r).head? =some 45 then(c::r).tail else c::r)=c::r:=Ao (by simpa using h45);exact Db.bad hb (Db.start (c::r) 0) tH (by simpa using hc) (fun h=>by have:=h.2.2;omega)
theorem iK {l:List UInt8}(h:l.head? =some 35):Eu l= .ok (5,0,l.tail):=by
 match l,h with
 |c::r,h=>simp at h;subst h;rfl
theorem gJ {l:List UInt8}(h:l.head? =some 34):Eu l= .ok (3,0,Cb l.tail):=by
 match l,h with
 |c::r,h=>simp at h;subst h;rfl
theorem cG {l:List UInt8}(h1:l≠[116,114,117,101])(h2:l≠[102,97,108,115,101])(h3:l≠[110,117,108,108])(h4:l.head?≠some 35)(h5:l.head?≠some 34)(h6:l≠[]):
 Eu l=match Fk l with|none=> .error 4|some z=>if inR z.1 then .ok (if z.2 then 2 else 1,z.1,[]) else .error 9:=by
 match l,h6 with
 |c::r,_=>
  by_cases c1:c=116
  ·subst c1;rw[Qq tG tG]
   show(if r=[114,117,101] then _ else _)=_
   rw[Ao fun e=>h1 (by rw[e])]
  by_cases c2:c=102
  ·subst c2;rw[Qq tG tG]
   show(if r=[97,108,115,101] then _ else _)=_
   rw[Ao fun e=>h2 (by rw[e])]
  by_cases c3:c=110
  ·subst c3;rw[Qq tG tG]
   show(if r=[117,108,108] then _ else _)=_
   rw[Ao fun e=>h3 (by rw[e])]
  rw[Wj ⟨fun e=>h5 tU,fun e=>h4 tU,c1,c2,c3⟩,iN];cases Fk (c::r) with
  |none=>rfl
  |some z=>
   simp only
   split<;>rfl
theorem nG {l:List UInt8}{z:Int×Bool}(h:Fk l=some z)(h4:l.length<=402):Bw z.1.natAbs<=102:=by
 unfold Fk at h;simp only at h;generalize hc:cut (if l.head? =some 45 then l.tail else l) [46]=c at h;obtain⟨a,r,f⟩:=c;simp only at h;by_cases hbad:((!Gn a||(decide (1<a.length) && a.head? ==some 48))||(f && (!Gn r||decide (4<r.length))))=true
 ·rw[Ap hbad] at h;cases h
 rw[Ao hbad] at h;simp only[Bool.or_eq_true,Bool.and_eq_true,not_or,not_and,Bool.not_eq_true',Bool.not_eq_true,decide_eq_false_iff_not,Bool.not_eq_false] at hbad;obtain⟨⟨h1,_⟩,h2⟩:=hbad;obtain⟨ha,had⟩:=Ga h1;injection h with h;subst h
 have hal:a.length<=402:=by
  have hx:(if l.head? =some 45 then l.tail else l).length<=402:=by
   split
   ·rw[List.length_tail];omega
   exact h4
  rcases Nx 46 (if l.head? =some 45 then l.tail else l) with q|⟨a',r',q,q2⟩
  ·rw[Lm q] at hc;injection hc with hc _;rw[←hc];exact hx
  rw[q,I4 a' r' q2] at hc;injection hc with hc _;rw[←hc];rw[q] at hx;simp at hx;omega
 have:∀(b:Bool) (d:List UInt8),(Ka b (val d 0)).natAbs=val d 0:=fun b d=>by unfold Ka;split<;>simp
 simp only[this];refine Ya ?_ ?_
 ·exact zx9
 split
 ·rw[Ab,List.length_take];omega
 omega
theorem B9.may {w w':World}{l S:List UInt8}{k n:Int}(hb:Below w.heap.size w w')(h0:l≠[])(h4:l.length<=402)(hr:Eu l= .ok (k,n,S))(hm:Da k n S=l):B9 w (D2 l) (.returned (.tuple #[.agg #[.int .u8 k,.int .i64 n,.string ⟨S.toArray⟩],.int .i64 0])) w':=by
 refine⟨hb,?_⟩;unfold D2;rw[Ao tE,Ao h0,hr];simp only;rw[Ap hm]
theorem B9.bad {w w':World}{l S:List UInt8}{k n:Int}(hb:Below w.heap.size w w')(h0:l≠[])(h4:l.length<=402)(hr:Eu l= .ok (k,n,S))(hm:Da k n S≠l):B9 w (D2 l) (.returned (.tuple #[.agg #[.int .u8 0,.int .i64 0,.string ⟨#[]⟩],.int .i64 4])) w':=by
 refine⟨hb,?_⟩;unfold D2;rw[Ao tE,Ao h0,hr];simp only;rw[Ao hm]
theorem B9.err {w w':World}{l:List UInt8}{e:Int}(hb:Below w.heap.size w w')(h:D2 l= .error e):B9 w (D2 l) (.returned (.tuple #[.agg #[.int .u8 0,.int .i64 0,.string ⟨#[]⟩],.int .i64 e])) w':=by
 refine⟨hb,?_⟩;rw[h]
theorem Wf {l:List UInt8}{e:Int}(h4:l.length<=402)(h:l=[]/\e=4\/l≠[]/\Eu l= .error e):D2 l= .error e:=by
 unfold D2;rw[Ao tE];rcases h with ⟨rfl,rfl⟩|⟨h,hr⟩
 ·rw[Ap rfl]
 rw[Ao h,hr]
structure D5 (w wr:World)(k n:Int)(S:ByteArray):Prop where
 r:wr.heap[w.heap.size]? =some (.cells #[.int .u8 0,.int .i64 0,.string ⟨#[]⟩] 35 (0,0))
 x:wr.heap[w.heap.size+1]? =some (.cells #[.int .u8 k,.int .i64 n,.string S] 35 (0,0))
 bel:Below w.heap.size w wr
theorem D5.below {w wr V:World}{k n:Int}{S:ByteArray}(h:D5 w wr k n S)(hb:Below wr.heap.size wr V):D5 w V k n S:=
 ⟨(hb.block _ (Bu h.r)).trans h.r,(hb.block _ (Bu h.x)).trans h.x,h.bel.trans (hb.mono h.bel.size)⟩
theorem jU (w:World):D5 w ((w.alloc (.cells #[.int .u8 0,.int .i64 0,.string ⟨#[]⟩] 35)).alloc (.cells #[.int .u8 0,.int .i64 0,.string ⟨#[]⟩] 35)) 0 0 ⟨#[]⟩:=by
 refine⟨?_,?_,((Aq _ _).alloc (Ak _) _).alloc tH _⟩
 ·rw[Below.heap_alloc _ _ _ tH];exact A1 _ _
 have:=A1 (w.alloc (.cells #[.int .u8 0,.int .i64 0,.string ⟨#[]⟩] 35)) (.cells #[.int .u8 0,.int .i64 0,.string ⟨#[]⟩] 35)
 simpa using this
theorem D5.cells {w wr:World}{k n:Int}{S:ByteArray}(h:D5 w wr k n S):(wr.cell? ⟨w.heap.size+1,0,none⟩=some (.int .u8 k)/\wr.cell? ⟨w.heap.size+1,1,none⟩=some (.int .i64 n)/\wr.cell? ⟨w.heap.size+1,2,none⟩=some (.string S)/\∀i,wr.frozen? ⟨w.heap.size+1,i,none⟩=false)/\
 wr.cell? ⟨w.heap.size,0,none⟩=some (.int .u8 0)/\wr.cell? ⟨w.heap.size,1,none⟩=some (.int .i64 0)/\wr.cell? ⟨w.heap.size,2,none⟩=some (.string ⟨#[]⟩)/\∀i,wr.frozen? ⟨w.heap.size,i,none⟩=false:=
 ⟨⟨by simp only[World.cell?,h.x];rfl,by simp only[World.cell?,h.x];rfl,by simp only[World.cell?,h.x];rfl,fun i=>by simp only[World.frozen?,h.x];simp⟩,
  by simp only[World.cell?,h.r];rfl,by simp only[World.cell?,h.r];rfl,by simp only[World.cell?,h.r];rfl,fun i=>by simp only[World.frozen?,h.r];simp⟩
theorem D5.set {w wr:World}{k n:Int}{S:ByteArray}(h:D5 w wr k n S)(k' n':Int)(S':ByteArray):D5 w (((wr.setCell ⟨w.heap.size+1,0,none⟩ (.int .u8 k')).setCell ⟨w.heap.size+1,1,none⟩ (.int .i64 n')).setCell ⟨w.heap.size+1,2,none⟩ (.string S')) k' n' S':=by
 have h1:=A2 (i:=2) (u:= .string S') (A2 (i:=1) (u:= .int .i64 n') (A2 (i:=0) (u:= .int .u8 k') h.x));have o1:Bc [w.heap.size+1] wr (((wr.setCell ⟨w.heap.size+1,0,none⟩ (.int .u8 k')).setCell ⟨w.heap.size+1,1,none⟩ (.int .i64 n')).setCell ⟨w.heap.size+1,2,none⟩ (.string S')):=(((Bc.refl _ _).setCell (.inl tH) _).setCell (.inl tH) _).setCell (.inl tH) _;exact⟨(o1.block _ (Bu h.r) tH).trans h.r,h1,((h.bel.setCell tH _).setCell tH _).setCell tH _⟩
theorem D5.set0 {w wr:World}{k n:Int}{S:ByteArray}(h:D5 w wr k n S)(k':Int):D5 w (wr.setCell ⟨w.heap.size+1,0,none⟩ (.int .u8 k')) k' n S:=by
 have h1:=A2 (i:=0) (u:= .int .u8 k') h.x;have o1:Bc [w.heap.size+1] wr (wr.setCell ⟨w.heap.size+1,0,none⟩ (.int .u8 k')):=(Bc.refl _ _).setCell (.inl tH) _;exact⟨(o1.block _ (Bu h.r) tH).trans h.r,h1,h.bel.setCell tH _⟩
theorem D5.ret {w wr:World}{k n:Int}{S:ByteArray}(h:D5 w wr k n S)(u0 u1 u2:Value):Below w.heap.size w (((wr.setCell ⟨w.heap.size,0,none⟩ u0).setCell ⟨w.heap.size,1,none⟩ u1).setCell ⟨w.heap.size,2,none⟩ u2):=
 ((h.bel.setCell (Ak _) _).setCell (Ak _) _).setCell (Ak _) _
theorem cV (s:ByteArray)(i:Int)(h0:0<=i)(h1:i<=(s.size:Int))(W:World):(Instr.slice 9 (.string s) (some (.int .i64 i)) none none).run Tryz.prog W= .ok (.string (s.extract i.toNat s.size)) W:=
 run_slice_string_l W 9 s Tryz.underlying9 .i64 i h0 h1
theorem Qo:∀(k:Nat) (l:List UInt8),l.length<=k->(Cb l).length<=l.length
 |0,l,h=>by
  have:l=[]:=List.eq_nil_of_length_eq_zero tE
  subst this;exact Ak _
 |k+1,[],_=>Ak _
 |k+1,[c],_=>by simp [Cb]
 |k+1,c::y::r,h=>by
  rw[Cb]
  split
  ·have:=Qo k r (by simp at h;omega)
   simp;omega
  have:=Qo k (y::r) (by simp at h ⊢;omega)
  simp at this ⊢;omega
theorem eV {s:ByteArray}(h:s.size<=402):(Cb (dl s).tail).length<=402:=by
 have:=Qo _ (dl s).tail (Ak _)
 rw[List.length_tail,A4] at this;omega
theorem S8 (s:ByteArray)(w:World)(hs:s.size<=9223372036854775807):Calls Tryz.prog 93 #[.string s] w (B9 w (D2 (dl s))):=by
 by_cases hbig:402<s.size
 ·have p0:(402:Int)<(s.size:Int):=by omega
  have HE:=Ax (show D2 (dl s)= .error 3 by unfold D2;rw[Ap (by rw[A4];exact hbig)]);clear hbig;go_enter Tryz.func93,Tryz.ntmps93;go_wp2_with fail;exact Au (v:= .tuple #[.agg #[.int .u8 0,.int .i64 0,.string ⟨#[]⟩],.int .i64 3]) tJ rfl (B9.err ((Aq _ _).alloc (Ak _) _) HE.out)
 have hsm:s.size<=402:=by omega
 have p0:decide (402<s.size)=false:=An hbig;have p1:decide ((402:Int)<(s.size:Int))=false:=An tE;have H4:Hid ((dl s).length<=402):=Ax (by rw[A4];exact hsm);have HPS:=Ax (jU w);obtain⟨W1,hW1⟩:∃W1,(w.alloc (.cells #[.int .u8 0,.int .i64 0,.string ⟨#[]⟩] 35)).alloc (.cells #[.int .u8 0,.int .i64 0,.string ⟨#[]⟩] 35)=W1:=⟨_,rfl⟩;rw[hW1] at HPS;have HW1:=Ax hW1;have HNM:=Ax (Zi (w:=W1) s hsm);clear hW1 hbig hs;go_enter Tryz.func93,Tryz.ntmps93;go_upto_region 4 with fail
 rw[HW1.out];go_wp2_with fail;refine HNM.out.mono ?_;rintro e V1 ⟨hb1,nb,na,nn,nc,pt,ok,rfl,hnum⟩;have HP1:=Ax (HPS.out.below hb1);have HNU:=Ax hnum;have hal:=(Aq V1.heap.size V1).alloc (Ak _) (.cells #[.bool nb,.slice na nn nc] 208);have HP:=Ax (HP1.out.below hal);have HAL:=Ax hal;have HBX:=Ax (A1 V1 (.cells #[.bool nb,.slice na nn nc] 208));clear hb1 hnum hal HNM HPS HW1;go_upto_region 6 with fail
 obtain⟨⟨y0,y1,y2,yf⟩,z0,z1,z2,zf⟩:=D5.cells HP.out;have yf0:=yf 0;have yf1:=yf 1;have yf2:=yf 2;have zf0:=zf 0;have zf1:=zf 1;have zf2:=zf 2;clear yf zf;obtain⟨Wn,hWn⟩:∃Wn,(V1.alloc (.cells #[.bool nb,.slice na nn nc] 208))=Wn:=⟨_,rfl⟩;rw[hWn] at HP HAL HBX y0 y1 y2 z0 z1 z2 yf0 yf1 yf2 zf0 zf1 zf2 ⊢;clear hWn;by_cases hw:s=⟨#[116,114,117,101]⟩
 ·have H0:Hid (dl s≠[]):=Ax (by rw[hw];decide);have HR:=Ax (show Eu (dl s)= .ok (4,1,dl (⟨#[]⟩:ByteArray)) by rw[hw];rfl);have tb:(s.toList==[116,114,117,101])=true:=by rw[Az,hw];rfl
  have fb:(s.toList==[102,97,108,115,101])=false:=by rw[Az,hw];rfl
  have nb:(s.toList==[110,117,108,108])=false:=by rw[Az,hw];rfl
  clear hsm hw;have HT:=Ax (Uc true Wn);go_wp2_with fail;refine HT.out.mono ?_;rintro e V2 ⟨rfl,hb2⟩;have HP2:=Ax (HP.out.below hb2);clear y0 y1 y2 z0 z1 z2 yf0 yf1 yf2 zf0 zf1 zf2;obtain⟨⟨y0,y1,y2,yf⟩,z0,z1,z2,zf⟩:=D5.cells HP2.out;have yf0:=yf 0;have yf1:=yf 1;have yf2:=yf 2;have zf0:=zf 0;have zf1:=zf 1;have zf2:=zf 2;clear yf zf;clear hb2 HP;have HP:=Ax (HP2.out.set 4 1 ⟨#[]⟩);clear HP2;go_upto_region 20 with fail
  obtain⟨W,hW⟩:∃W,(((V2.setCell ⟨w.heap.size+1,0,none⟩ (.int .u8 4)).setCell ⟨w.heap.size+1,1,none⟩ (.int .i64 1)).setCell ⟨w.heap.size+1,2,none⟩ (.string ⟨#[]⟩))=W:=⟨_,rfl⟩
  (try simp only[if_true,if_false,Bool.false_eq_true])
  rw[hW] at HP ⊢;clear hW;clear y0 y1 y2 z0 z1 z2 yf0 yf1 yf2 zf0 zf1 zf2;obtain⟨⟨y0,y1,y2,yf⟩,z0,z1,z2,zf⟩:=D5.cells HP.out;have yf0:=yf 0;have yf1:=yf 1;have yf2:=yf 2;have zf0:=zf 0;have zf1:=zf 1;have zf2:=zf 2;clear yf zf;have hfit:(⟨4,1,⟨#[]⟩⟩:Vl).fit:=⟨by show ByteArray.size ⟨#[]⟩<=_;first|decide|omega,by show _<=(1:Int);decide,by show(1:Int)<=_;decide⟩;have HMY:=Ax (Ij ⟨4,1,⟨#[]⟩⟩ hfit.1 W);rw[L0] at HMY;have HTX:Hid (∀V,_):=Ax fun V=>Hu ⟨4,1,⟨#[]⟩⟩ V hfit
  obtain⟨X,hX⟩:∃X,O1 ⟨4,1,⟨#[]⟩⟩=X:=⟨_,rfl⟩;have hXl:dl X=Da 4 1 (dl ⟨#[]⟩):=by rw[←hX];rfl
  rw[hX] at HTX;clear hX;cases hmy:Gi 4 1 (dl ⟨#[]⟩) with
  |false=>
   rw[show Gi (⟨4,1,⟨#[]⟩⟩:Vl).k (⟨4,1,⟨#[]⟩⟩:Vl).n (dl (⟨4,1,⟨#[]⟩⟩:Vl).s)=false from hmy] at HMY;have HBD:=Ax (show Da 4 1 (dl ⟨#[]⟩)≠dl s from fun e=>H0.out uK);exact zz1
  |true=>
   rw[show Gi (⟨4,1,⟨#[]⟩⟩:Vl).k (⟨4,1,⟨#[]⟩⟩:Vl).n (dl (⟨4,1,⟨#[]⟩⟩:Vl).s)=true from hmy] at HMY;clear hmy hfit;have HXL:=Ax hXl;clear hXl;go_wp2_with fail;refine HMY.out.mono ?_;rintro e V6 ⟨rfl,hb6⟩;have HP6:=Ax (HP.out.below hb6);clear y0 y1 y2 z0 z1 z2 yf0 yf1 yf2 zf0 zf1 zf2;obtain⟨⟨y0,y1,y2,yf⟩,z0,z1,z2,zf⟩:=D5.cells HP6.out;have yf0:=yf 0;have yf1:=yf 1;have yf2:=yf 2;have zf0:=zf 0;have zf1:=zf 1;have zf2:=zf 2;clear yf zf;clear hb6;go_wp2_with fail;refine(HTX.out V6).mono ?_;rintro e V7 ⟨rfl,hb7⟩;have HP7:=Ax (HP6.out.below hb7);clear y0 y1 y2 z0 z1 z2 yf0 yf1 yf2 zf0 zf1 zf2;obtain⟨⟨y0,y1,y2,yf⟩,z0,z1,z2,zf⟩:=D5.cells HP7.out;have yf0:=yf 0;have yf1:=yf 1;have yf2:=yf 2;have zf0:=zf 0;have zf1:=zf 1;have zf2:=zf 2;clear yf zf;clear hb7;by_cases hXs:X=s
   ·have HOK:=Ax (show Da 4 1 (dl ⟨#[]⟩)=dl s from by rw[←HXL.out,hXs]);subst hXs;go_wp2_with fail;exact Au (v:= .tuple #[.agg #[.int .u8 4,.int .i64 1,.string ⟨#[]⟩],.int .i64 0]) tJ rfl (by have:=B9.may (HP7.out.ret (.int .u8 4) (.int .i64 1) (.string ⟨#[]⟩)) H0.out H4.out HR.out HOK.out;rw[Lj] at this;exact this)
   have HBD:=Ax (show Da 4 1 (dl ⟨#[]⟩)≠dl s from fun e=>hXs (Cn vP));exact zzq
 have tb:(s.toList==[116,114,117,101])=false:=by rw[Az];exact Af.2 (fun e=>hw (Cn e))
 have tc:dl s≠[116,114,117,101]:=fun e=>hw (Cn e)
 have td:=Ax tc;clear tc hw;by_cases hw:s=⟨#[102,97,108,115,101]⟩
 ·clear tb td;have H0:Hid (dl s≠[]):=Ax (by rw[hw];decide);have HR:=Ax (show Eu (dl s)= .ok (4,0,dl (⟨#[]⟩:ByteArray)) by rw[hw];rfl);have tb:(s.toList==[116,114,117,101])=false:=by rw[Az,hw];rfl
  have fb:(s.toList==[102,97,108,115,101])=true:=by rw[Az,hw];rfl
  have nb:(s.toList==[110,117,108,108])=false:=by rw[Az,hw];rfl
  clear hsm hw;have HT:=Ax (Uc false Wn);go_wp2_with fail;refine HT.out.mono ?_;rintro e V2 ⟨rfl,hb2⟩;have HP2:=Ax (HP.out.below hb2);clear y0 y1 y2 z0 z1 z2 yf0 yf1 yf2 zf0 zf1 zf2;obtain⟨⟨y0,y1,y2,yf⟩,z0,z1,z2,zf⟩:=D5.cells HP2.out;have yf0:=yf 0;have yf1:=yf 1;have yf2:=yf 2;have zf0:=zf 0;have zf1:=zf 1;have zf2:=zf 2;clear yf zf;clear hb2 HP;have HP:=Ax (HP2.out.set 4 0 ⟨#[]⟩);clear HP2;go_upto_region 20 with fail
  obtain⟨W,hW⟩:∃W,(((V2.setCell ⟨w.heap.size+1,0,none⟩ (.int .u8 4)).setCell ⟨w.heap.size+1,1,none⟩ (.int .i64 0)).setCell ⟨w.heap.size+1,2,none⟩ (.string ⟨#[]⟩))=W:=⟨_,rfl⟩
  (try simp only[if_true,if_false,Bool.false_eq_true])
  rw[hW] at HP ⊢;clear hW;clear y0 y1 y2 z0 z1 z2 yf0 yf1 yf2 zf0 zf1 zf2;obtain⟨⟨y0,y1,y2,yf⟩,z0,z1,z2,zf⟩:=D5.cells HP.out;have yf0:=yf 0;have yf1:=yf 1;have yf2:=yf 2;have zf0:=zf 0;have zf1:=zf 1;have zf2:=zf 2;clear yf zf;have hfit:(⟨4,0,⟨#[]⟩⟩:Vl).fit:=⟨by show ByteArray.size ⟨#[]⟩<=_;first|decide|omega,by show _<=(0:Int);decide,by show(0:Int)<=_;decide⟩;have HMY:=Ax (Ij ⟨4,0,⟨#[]⟩⟩ hfit.1 W);rw[L0] at HMY;have HTX:Hid (∀V,_):=Ax fun V=>Hu ⟨4,0,⟨#[]⟩⟩ V hfit
  obtain⟨X,hX⟩:∃X,O1 ⟨4,0,⟨#[]⟩⟩=X:=⟨_,rfl⟩;have hXl:dl X=Da 4 0 (dl ⟨#[]⟩):=by rw[←hX];rfl
  rw[hX] at HTX;clear hX;cases hmy:Gi 4 0 (dl ⟨#[]⟩) with
  |false=>
   rw[show Gi (⟨4,0,⟨#[]⟩⟩:Vl).k (⟨4,0,⟨#[]⟩⟩:Vl).n (dl (⟨4,0,⟨#[]⟩⟩:Vl).s)=false from hmy] at HMY;have HBD:=Ax (show Da 4 0 (dl ⟨#[]⟩)≠dl s from fun e=>H0.out uK);exact zz1
  |true=>
   rw[show Gi (⟨4,0,⟨#[]⟩⟩:Vl).k (⟨4,0,⟨#[]⟩⟩:Vl).n (dl (⟨4,0,⟨#[]⟩⟩:Vl).s)=true from hmy] at HMY;clear hmy hfit;have HXL:=Ax hXl;clear hXl;go_wp2_with fail;refine HMY.out.mono ?_;rintro e V6 ⟨rfl,hb6⟩;have HP6:=Ax (HP.out.below hb6);clear y0 y1 y2 z0 z1 z2 yf0 yf1 yf2 zf0 zf1 zf2;obtain⟨⟨y0,y1,y2,yf⟩,z0,z1,z2,zf⟩:=D5.cells HP6.out;have yf0:=yf 0;have yf1:=yf 1;have yf2:=yf 2;have zf0:=zf 0;have zf1:=zf 1;have zf2:=zf 2;clear yf zf;clear hb6;go_wp2_with fail;refine(HTX.out V6).mono ?_;rintro e V7 ⟨rfl,hb7⟩;have HP7:=Ax (HP6.out.below hb7);clear y0 y1 y2 z0 z1 z2 yf0 yf1 yf2 zf0 zf1 zf2;obtain⟨⟨y0,y1,y2,yf⟩,z0,z1,z2,zf⟩:=D5.cells HP7.out;have yf0:=yf 0;have yf1:=yf 1;have yf2:=yf 2;have zf0:=zf 0;have zf1:=zf 1;have zf2:=zf 2;clear yf zf;clear hb7;by_cases hXs:X=s
   ·have HOK:=Ax (show Da 4 0 (dl ⟨#[]⟩)=dl s from by rw[←HXL.out,hXs]);subst hXs;go_wp2_with fail;exact Au (v:= .tuple #[.agg #[.int .u8 4,.int .i64 0,.string ⟨#[]⟩],.int .i64 0]) tJ rfl (by have:=B9.may (HP7.out.ret (.int .u8 4) (.int .i64 0) (.string ⟨#[]⟩)) H0.out H4.out HR.out HOK.out;rw[Lj] at this;exact this)
   have HBD:=Ax (show Da 4 0 (dl ⟨#[]⟩)≠dl s from fun e=>hXs (Cn vP));exact zzq
 have fb:(s.toList==[102,97,108,115,101])=false:=by rw[Az];exact Af.2 (fun e=>hw (Cn e))
 have fc:dl s≠[102,97,108,115,101]:=fun e=>hw (Cn e)
 have fd:=Ax fc;clear fc hw;by_cases hw:s=⟨#[110,117,108,108]⟩
 ·clear tb td fb fd;have H0:Hid (dl s≠[]):=Ax (by rw[hw];decide);have HR:=Ax (show Eu (dl s)= .ok (0,0,dl (⟨#[]⟩:ByteArray)) by rw[hw];rfl);have tb:(s.toList==[116,114,117,101])=false:=by rw[Az,hw];rfl
  have fb:(s.toList==[102,97,108,115,101])=false:=by rw[Az,hw];rfl
  have nb:(s.toList==[110,117,108,108])=true:=by rw[Az,hw];rfl
  clear hsm hw;go_upto_region 20 with fail
  have hfit:(⟨0,0,⟨#[]⟩⟩:Vl).fit:=⟨by show ByteArray.size ⟨#[]⟩<=_;first|decide|omega,by show _<=(0:Int);decide,by show(0:Int)<=_;decide⟩;have HMY:=Ax (Ij ⟨0,0,⟨#[]⟩⟩ hfit.1 Wn);rw[L0] at HMY;have HTX:Hid (∀V,_):=Ax fun V=>Hu ⟨0,0,⟨#[]⟩⟩ V hfit
  obtain⟨X,hX⟩:∃X,O1 ⟨0,0,⟨#[]⟩⟩=X:=⟨_,rfl⟩;have hXl:dl X=Da 0 0 (dl ⟨#[]⟩):=by rw[←hX];rfl
  rw[hX] at HTX;clear hX;cases hmy:Gi 0 0 (dl ⟨#[]⟩) with
  |false=>
   rw[show Gi (⟨0,0,⟨#[]⟩⟩:Vl).k (⟨0,0,⟨#[]⟩⟩:Vl).n (dl (⟨0,0,⟨#[]⟩⟩:Vl).s)=false from hmy] at HMY;have HBD:=Ax (show Da 0 0 (dl ⟨#[]⟩)≠dl s from fun e=>H0.out uK);exact zz1
  |true=>
   rw[show Gi (⟨0,0,⟨#[]⟩⟩:Vl).k (⟨0,0,⟨#[]⟩⟩:Vl).n (dl (⟨0,0,⟨#[]⟩⟩:Vl).s)=true from hmy] at HMY;clear hmy hfit;have HXL:=Ax hXl;clear hXl;go_wp2_with fail;refine HMY.out.mono ?_;rintro e V6 ⟨rfl,hb6⟩;have HP6:=Ax (HP.out.below hb6);clear y0 y1 y2 z0 z1 z2 yf0 yf1 yf2 zf0 zf1 zf2;obtain⟨⟨y0,y1,y2,yf⟩,z0,z1,z2,zf⟩:=D5.cells HP6.out;have yf0:=yf 0;have yf1:=yf 1;have yf2:=yf 2;have zf0:=zf 0;have zf1:=zf 1;have zf2:=zf 2;clear yf zf;clear hb6;go_wp2_with fail;refine(HTX.out V6).mono ?_;rintro e V7 ⟨rfl,hb7⟩;have HP7:=Ax (HP6.out.below hb7);clear y0 y1 y2 z0 z1 z2 yf0 yf1 yf2 zf0 zf1 zf2;obtain⟨⟨y0,y1,y2,yf⟩,z0,z1,z2,zf⟩:=D5.cells HP7.out;have yf0:=yf 0;have yf1:=yf 1;have yf2:=yf 2;have zf0:=zf 0;have zf1:=zf 1;have zf2:=zf 2;clear yf zf;clear hb7;by_cases hXs:X=s
   ·have HOK:=Ax (show Da 0 0 (dl ⟨#[]⟩)=dl s from by rw[←HXL.out,hXs]);subst hXs;go_wp2_with fail;exact Au (v:= .tuple #[.agg #[.int .u8 0,.int .i64 0,.string ⟨#[]⟩],.int .i64 0]) tJ rfl (by have:=B9.may (HP7.out.ret (.int .u8 0) (.int .i64 0) (.string ⟨#[]⟩)) H0.out H4.out HR.out HOK.out;rw[Lj] at this;exact this)
   have HBD:=Ax (show Da 0 0 (dl ⟨#[]⟩)≠dl s from fun e=>hXs (Cn vP));exact zzq
 have nb:(s.toList==[110,117,108,108])=false:=by rw[Az];exact Af.2 (fun e=>hw (Cn e))
 have nc:dl s≠[110,117,108,108]:=fun e=>hw (Cn e)
 have nd:=Ax nc;clear nc hw;by_cases h35:(dl s).head? =some 35
 ·have hp:0<s.size:=by rcases Nat.eq_zero_or_pos s.size with h|h;(have:=A4 s;rw[h] at this;rw[List.eq_nil_of_length_eq_zero this] at h35;cases h35);exact h
  have H0:Hid (dl s≠[]):=Ax (fun e=>by rw[e] at h35;cases h35);have c0:s[0]=35:=by rw[Lp hp] at h35;exact Option.some.inj h35
  have d0:((s[0].toNat:Int)==35)=true:=by rw[c0];rfl
  have HR:=Ax (show Eu (dl s)= .ok (5,0,dl (s.extract 1 s.size)) by rw[Gd,List.drop_one];exact iK h35);have hsl:=cV s 1 tE tE;rw[show((1:Int)).toNat=1 from rfl] at hsl;obtain⟨S,hS⟩:∃S,s.extract 1 s.size=S:=⟨_,rfl⟩;have hSs:S.size<=402:=by rw[←hS,ByteArray.size_extract];omega
  rw[hS] at HR hsl;clear c0 h35 hS;have HP5:=Ax (HP.out.set 5 0 S);clear HP;have HP:=HP5;clear HP5;go_upto_region 20 with fail
  obtain⟨W,hW⟩:∃W,(((Wn.setCell ⟨w.heap.size+1,0,none⟩ (.int .u8 5)).setCell ⟨w.heap.size+1,1,none⟩ (.int .i64 0)).setCell ⟨w.heap.size+1,2,none⟩ (.string S))=W:=⟨_,rfl⟩;rw[hW] at HP ⊢;clear hW;clear y0 y1 y2 z0 z1 z2 yf0 yf1 yf2 zf0 zf1 zf2;obtain⟨⟨y0,y1,y2,yf⟩,z0,z1,z2,zf⟩:=D5.cells HP.out;have yf0:=yf 0;have yf1:=yf 1;have yf2:=yf 2;have zf0:=zf 0;have zf1:=zf 1;have zf2:=zf 2;clear yf zf;have hfit:(⟨5,0,S⟩:Vl).fit:=⟨by show ByteArray.size S<=_;first|decide|omega,by show _<=(0:Int);decide,by show(0:Int)<=_;decide⟩;have HMY:=Ax (Ij ⟨5,0,S⟩ hfit.1 W);rw[L0] at HMY;have HTX:Hid (∀V,_):=Ax fun V=>Hu ⟨5,0,S⟩ V hfit
  obtain⟨X,hX⟩:∃X,O1 ⟨5,0,S⟩=X:=⟨_,rfl⟩;have hXl:dl X=Da 5 0 (dl S):=by rw[←hX];rfl
  rw[hX] at HTX;clear hX;cases hmy:Gi 5 0 (dl S) with
  |false=>
   rw[show Gi (⟨5,0,S⟩:Vl).k (⟨5,0,S⟩:Vl).n (dl (⟨5,0,S⟩:Vl).s)=false from hmy] at HMY;have HBD:=Ax (show Da 5 0 (dl S)≠dl s from fun e=>H0.out uK);exact zz1
  |true=>
   rw[show Gi (⟨5,0,S⟩:Vl).k (⟨5,0,S⟩:Vl).n (dl (⟨5,0,S⟩:Vl).s)=true from hmy] at HMY;clear hmy hfit;have HXL:=Ax hXl;clear hXl;go_wp2_with fail;refine HMY.out.mono ?_;rintro e V6 ⟨rfl,hb6⟩;have HP6:=Ax (HP.out.below hb6);clear y0 y1 y2 z0 z1 z2 yf0 yf1 yf2 zf0 zf1 zf2;obtain⟨⟨y0,y1,y2,yf⟩,z0,z1,z2,zf⟩:=D5.cells HP6.out;have yf0:=yf 0;have yf1:=yf 1;have yf2:=yf 2;have zf0:=zf 0;have zf1:=zf 1;have zf2:=zf 2;clear yf zf;clear hb6;go_wp2_with fail;refine(HTX.out V6).mono ?_;rintro e V7 ⟨rfl,hb7⟩;have HP7:=Ax (HP6.out.below hb7);clear y0 y1 y2 z0 z1 z2 yf0 yf1 yf2 zf0 zf1 zf2;obtain⟨⟨y0,y1,y2,yf⟩,z0,z1,z2,zf⟩:=D5.cells HP7.out;have yf0:=yf 0;have yf1:=yf 1;have yf2:=yf 2;have zf0:=zf 0;have zf1:=zf 1;have zf2:=zf 2;clear yf zf;clear hb7;by_cases hXs:X=s
   ·have HOK:=Ax (show Da 5 0 (dl S)=dl s from by rw[←HXL.out,hXs]);subst hXs;go_wp2_with fail;exact Au (v:= .tuple #[.agg #[.int .u8 5,.int .i64 0,.string S],.int .i64 0]) tJ rfl (by have:=B9.may (HP7.out.ret (.int .u8 5) (.int .i64 0) (.string S)) H0.out H4.out HR.out HOK.out;rw[Lj] at this;exact this)
   have HBD:=Ax (show Da 5 0 (dl S)≠dl s from fun e=>hXs (Cn vP));exact zzq
 by_cases h34:(dl s).head? =some 34
 ·have hp:0<s.size:=by rcases Nat.eq_zero_or_pos s.size with h|h;(have:=A4 s;rw[h] at this;rw[List.eq_nil_of_length_eq_zero this] at h34;cases h34);exact h
  have H0:Hid (dl s≠[]):=Ax (fun e=>by rw[e] at h34;cases h34);have c0:s[0]=34:=by rw[Lp hp] at h34;exact Option.some.inj h34
  have d0:((s[0].toNat:Int)==34)=true:=by rw[c0];rfl
  have d1:((s[0].toNat:Int)==35)=false:=by rw[c0];rfl
  obtain⟨S,hS⟩:∃S:ByteArray,⟨(Cb (dl s).tail).toArray⟩=S:=⟨_,rfl⟩;have HR:=Ax (show Eu (dl s)= .ok (3,0,dl S) by rw[←hS,Dj];exact gJ h34);have HI:=Ax (iV (w:=Wn) s tE);rw[hS] at HI;have hSs:S.size<=402:=by rw[←hS,←A4,Dj];exact eV hsm
  clear c0 h34 h35 hS;have HP5:=Ax (HP.out.set 3 0 S);clear HP;have HP:=HP5;clear HP5;go_wp2_with fail;refine HI.out.mono ?_;rintro e V2 ⟨rfl,rfl⟩;go_upto_region 20 with fail
  obtain⟨W,hW⟩:∃W,(((Wn.setCell ⟨w.heap.size+1,0,none⟩ (.int .u8 3)).setCell ⟨w.heap.size+1,1,none⟩ (.int .i64 0)).setCell ⟨w.heap.size+1,2,none⟩ (.string S))=W:=⟨_,rfl⟩;rw[hW] at HP ⊢;clear hW;clear y0 y1 y2 z0 z1 z2 yf0 yf1 yf2 zf0 zf1 zf2;obtain⟨⟨y0,y1,y2,yf⟩,z0,z1,z2,zf⟩:=D5.cells HP.out;have yf0:=yf 0;have yf1:=yf 1;have yf2:=yf 2;have zf0:=zf 0;have zf1:=zf 1;have zf2:=zf 2;clear yf zf;have hfit:(⟨3,0,S⟩:Vl).fit:=⟨by show ByteArray.size S<=_;first|decide|omega,by show _<=(0:Int);decide,by show(0:Int)<=_;decide⟩;have HMY:=Ax (Ij ⟨3,0,S⟩ hfit.1 W);rw[L0] at HMY;have HTX:Hid (∀V,_):=Ax fun V=>Hu ⟨3,0,S⟩ V hfit
  obtain⟨X,hX⟩:∃X,O1 ⟨3,0,S⟩=X:=⟨_,rfl⟩;have hXl:dl X=Da 3 0 (dl S):=by rw[←hX];rfl
  rw[hX] at HTX;clear hX;cases hmy:Gi 3 0 (dl S) with
  |false=>
   rw[show Gi (⟨3,0,S⟩:Vl).k (⟨3,0,S⟩:Vl).n (dl (⟨3,0,S⟩:Vl).s)=false from hmy] at HMY;have HBD:=Ax (show Da 3 0 (dl S)≠dl s from fun e=>H0.out uK);exact zz1
  |true=>
   rw[show Gi (⟨3,0,S⟩:Vl).k (⟨3,0,S⟩:Vl).n (dl (⟨3,0,S⟩:Vl).s)=true from hmy] at HMY;clear hmy hfit;have HXL:=Ax hXl;clear hXl;go_wp2_with fail;refine HMY.out.mono ?_;rintro e V6 ⟨rfl,hb6⟩;have HP6:=Ax (HP.out.below hb6);clear y0 y1 y2 z0 z1 z2 yf0 yf1 yf2 zf0 zf1 zf2;obtain⟨⟨y0,y1,y2,yf⟩,z0,z1,z2,zf⟩:=D5.cells HP6.out;have yf0:=yf 0;have yf1:=yf 1;have yf2:=yf 2;have zf0:=zf 0;have zf1:=zf 1;have zf2:=zf 2;clear yf zf;clear hb6;go_wp2_with fail;refine(HTX.out V6).mono ?_;rintro e V7 ⟨rfl,hb7⟩;have HP7:=Ax (HP6.out.below hb7);clear y0 y1 y2 z0 z1 z2 yf0 yf1 yf2 zf0 zf1 zf2;obtain⟨⟨y0,y1,y2,yf⟩,z0,z1,z2,zf⟩:=D5.cells HP7.out;have yf0:=yf 0;have yf1:=yf 1;have yf2:=yf 2;have zf0:=zf 0;have zf1:=zf 1;have zf2:=zf 2;clear yf zf;clear hb7;by_cases hXs:X=s
   ·have HOK:=Ax (show Da 3 0 (dl S)=dl s from by rw[←HXL.out,hXs]);subst hXs;go_wp2_with fail;exact Au (v:= .tuple #[.agg #[.int .u8 3,.int .i64 0,.string S],.int .i64 0]) tJ rfl (by have:=B9.may (HP7.out.ret (.int .u8 3) (.int .i64 0) (.string S)) H0.out H4.out HR.out HOK.out;rw[Lj] at this;exact this)
   have HBD:=Ax (show Da 3 0 (dl S)≠dl s from fun e=>hXs (Cn vP));exact zzq
 have HRE:=Ax (fun h6:dl s≠[]=>cG td.out fd.out nd.out h35 h34 h6);have hp35:∀h:0<s.size,((s[0].toNat:Int)==35)=false:=fun h=>Af.2 (fun e=>h35 (by rw[Lp h];congr 1;exact Ci (n:=35) tE))
 have hp34:∀h:0<s.size,((s[0].toNat:Int)==34)=false:=fun h=>Af.2 (fun e=>h34 (by rw[Lp h];congr 1;exact Ci (n:=34) tE))
 have H35:=Ax hp35;have H34:=Ax hp34;clear h35 h34 hp35 hp34;have hnu:=HNU.out;cases hz:Fk (dl s) with
 |none=>
  rw[hz] at hnu;obtain rfl:=hnu;have HE:=Ax (show D2 (dl s)= .error 4 from Wf H4.out (by by_cases h6:dl s=[];exact .inl ⟨h6,rfl⟩;exact .inr ⟨h6,by rw[HRE.out h6,hz]⟩));clear hz;by_cases hp:0<s.size
  ·have d0:=H35.out hp;have d1:=H34.out hp;exact zw1
  have d0:decide (0<s.size)=false:=An hp;exact zw1
 |some z=>
  rw[hz] at hnu;obtain⟨rfl,hpt,hni⟩:=hnu;obtain⟨z,p⟩:=z;simp only at hpt hni;have h6:dl s≠[]:=fun e=>by rw[e] at hz;cases hz
  have H0:=Ax h6;have hlen:=nG hz H4.out;have hre:=HRE.out h6;rw[hz] at hre;simp only at hre hlen;have hp:0<s.size:=by rcases Nat.eq_zero_or_pos s.size with h|h;exact absurd (List.eq_nil_of_length_eq_zero (by rw[A4];exact h)) h6;exact h
  have d0:=H35.out hp;have d1:=H34.out hp;have HIN:=Ax (qP (hni.below HAL.out) (Al hlen tG));obtain⟨i0,i1,_⟩:=A0 HBX.out;have HRE2:=Ax hre;have HPT:=Ax hpt;clear hz hni hre hlen h6 hpt;by_cases hin:inR z
  ·have hin3:=hin;obtain⟨hz1,hz2⟩:=hin3;have HZ:=Ax (And.intro hz1 hz2);clear hz1 hz2;cases p with
   |true=>
    have HR:=Ax (show Eu (dl s)= .ok (2,z,dl (⟨#[]⟩:ByteArray)) by have:=HRE2.out;rw[Ap hin] at this;exact this);obtain rfl:pt=true:=HPT.out;go_wp2_with fail;refine HIN.out.mono ?_;rintro e V2 ⟨he,hb2⟩;unfold Hh at he;rw[Ap hin,Ap hin] at he;subst he;have HP2:=Ax (HP.out.below hb2);clear y0 y1 y2 z0 z1 z2 yf0 yf1 yf2 zf0 zf1 zf2;obtain⟨⟨y0,y1,y2,yf⟩,z0,z1,z2,zf⟩:=D5.cells HP2.out;have yf0:=yf 0;have yf1:=yf 1;have yf2:=yf 2;have zf0:=zf 0;have zf1:=zf 1;have zf2:=zf 2;clear yf zf;clear hb2 HP i0 i1;have HP:=Ax (HP2.out.set 1 z ⟨#[]⟩);clear HP2;have hin2:=hin;have HIZ:=Ax hin;clear hin hin2;go_upto_region 18 with fail
    obtain⟨W,hW⟩:∃W,(((V2.setCell ⟨w.heap.size+1,0,none⟩ (.int .u8 1)).setCell ⟨w.heap.size+1,1,none⟩ (.int .i64 z)).setCell ⟨w.heap.size+1,2,none⟩ (.string ⟨#[]⟩))=W:=⟨_,rfl⟩;rw[hW] at HP ⊢;clear hW;clear y0 y1 y2 z0 z1 z2 yf0 yf1 yf2 zf0 zf1 zf2;obtain⟨⟨y0,y1,y2,yf⟩,z0,z1,z2,zf⟩:=D5.cells HP.out;have yf0:=yf 0;have yf1:=yf 1;have yf2:=yf 2;have zf0:=zf 0;have zf1:=zf 1;have zf2:=zf 2;clear yf zf;have HP9:=Ax (HP.out.set0 2);clear HP;have HP:=HP9;clear HP9;go_upto_region 20 with fail
    obtain⟨W9,hW9⟩:∃W9,W.setCell ⟨w.heap.size+1,0,none⟩ (.int .u8 2)=W9:=⟨_,rfl⟩;rw[hW9] at HP ⊢;clear hW9;clear y0 y1 y2 z0 z1 z2 yf0 yf1 yf2 zf0 zf1 zf2;obtain⟨⟨y0,y1,y2,yf⟩,z0,z1,z2,zf⟩:=D5.cells HP.out;have yf0:=yf 0;have yf1:=yf 1;have yf2:=yf 2;have zf0:=zf 0;have zf1:=zf 1;have zf2:=zf 2;clear yf zf;have hfit:(⟨2,z,⟨#[]⟩⟩:Vl).fit:=⟨by show ByteArray.size ⟨#[]⟩<=_;first|decide|omega,by show _<=(z:Int);have:=HZ.out;omega,by show(z:Int)<=_;have:=HZ.out;omega⟩;have HMY:=Ax (Ij ⟨2,z,⟨#[]⟩⟩ hfit.1 W9);rw[L0] at HMY;have HTX:Hid (∀V,_):=Ax fun V=>Hu ⟨2,z,⟨#[]⟩⟩ V hfit
    obtain⟨X,hX⟩:∃X,O1 ⟨2,z,⟨#[]⟩⟩=X:=⟨_,rfl⟩;have hXl:dl X=Da 2 z (dl ⟨#[]⟩):=by rw[←hX];rfl
    rw[hX] at HTX;clear hX;cases hmy:Gi 2 z (dl ⟨#[]⟩) with
    |false=>
     rw[show Gi (⟨2,z,⟨#[]⟩⟩:Vl).k (⟨2,z,⟨#[]⟩⟩:Vl).n (dl (⟨2,z,⟨#[]⟩⟩:Vl).s)=false from hmy] at HMY;have HBD:=Ax (show Da 2 z (dl ⟨#[]⟩)≠dl s from fun e=>H0.out uK);exact zz1
    |true=>
     rw[show Gi (⟨2,z,⟨#[]⟩⟩:Vl).k (⟨2,z,⟨#[]⟩⟩:Vl).n (dl (⟨2,z,⟨#[]⟩⟩:Vl).s)=true from hmy] at HMY;clear hmy hfit;have HXL:=Ax hXl;clear hXl;go_wp2_with fail;refine HMY.out.mono ?_;rintro e V6 ⟨rfl,hb6⟩;have HP6:=Ax (HP.out.below hb6);clear y0 y1 y2 z0 z1 z2 yf0 yf1 yf2 zf0 zf1 zf2;obtain⟨⟨y0,y1,y2,yf⟩,z0,z1,z2,zf⟩:=D5.cells HP6.out;have yf0:=yf 0;have yf1:=yf 1;have yf2:=yf 2;have zf0:=zf 0;have zf1:=zf 1;have zf2:=zf 2;clear yf zf;clear hb6;go_wp2_with fail;refine(HTX.out V6).mono ?_;rintro e V7 ⟨rfl,hb7⟩;have HP7:=Ax (HP6.out.below hb7);clear y0 y1 y2 z0 z1 z2 yf0 yf1 yf2 zf0 zf1 zf2;obtain⟨⟨y0,y1,y2,yf⟩,z0,z1,z2,zf⟩:=D5.cells HP7.out;have yf0:=yf 0;have yf1:=yf 1;have yf2:=yf 2;have zf0:=zf 0;have zf1:=zf 1;have zf2:=zf 2;clear yf zf;clear hb7;by_cases hXs:X=s
     ·have HOK:=Ax (show Da 2 z (dl ⟨#[]⟩)=dl s from by rw[←HXL.out,hXs]);subst hXs;go_wp2_with fail;exact Au (v:= .tuple #[.agg #[.int .u8 2,.int .i64 z,.string ⟨#[]⟩],.int .i64 0]) tJ rfl (by have:=B9.may (HP7.out.ret (.int .u8 2) (.int .i64 z) (.string ⟨#[]⟩)) H0.out H4.out HR.out HOK.out;rw[Lj] at this;exact this)
     have HBD:=Ax (show Da 2 z (dl ⟨#[]⟩)≠dl s from fun e=>hXs (Cn vP));exact zzq
   |false=>
    have HR:=Ax (show Eu (dl s)= .ok (1,z,dl (⟨#[]⟩:ByteArray)) by have:=HRE2.out;rw[Ap hin] at this;exact this);obtain rfl:pt=false:=HPT.out;go_wp2_with fail;refine HIN.out.mono ?_;rintro e V2 ⟨he,hb2⟩;unfold Hh at he;rw[Ap hin,Ap hin] at he;subst he;have HP2:=Ax (HP.out.below hb2);clear y0 y1 y2 z0 z1 z2 yf0 yf1 yf2 zf0 zf1 zf2;obtain⟨⟨y0,y1,y2,yf⟩,z0,z1,z2,zf⟩:=D5.cells HP2.out;have yf0:=yf 0;have yf1:=yf 1;have yf2:=yf 2;have zf0:=zf 0;have zf1:=zf 1;have zf2:=zf 2;clear yf zf;clear hb2 HP i0 i1;have HP:=Ax (HP2.out.set 1 z ⟨#[]⟩);clear HP2;have hin2:=hin;have HIZ:=Ax hin;clear hin hin2;go_upto_region 18 with fail
    obtain⟨W,hW⟩:∃W,(((V2.setCell ⟨w.heap.size+1,0,none⟩ (.int .u8 1)).setCell ⟨w.heap.size+1,1,none⟩ (.int .i64 z)).setCell ⟨w.heap.size+1,2,none⟩ (.string ⟨#[]⟩))=W:=⟨_,rfl⟩;rw[hW] at HP ⊢;clear hW;clear y0 y1 y2 z0 z1 z2 yf0 yf1 yf2 zf0 zf1 zf2;obtain⟨⟨y0,y1,y2,yf⟩,z0,z1,z2,zf⟩:=D5.cells HP.out;have yf0:=yf 0;have yf1:=yf 1;have yf2:=yf 2;have zf0:=zf 0;have zf1:=zf 1;have zf2:=zf 2;clear yf zf;go_upto_region 20 with fail
    have hfit:(⟨1,z,⟨#[]⟩⟩:Vl).fit:=⟨by show ByteArray.size ⟨#[]⟩<=_;first|decide|omega,by show _<=(z:Int);have:=HZ.out;omega,by show(z:Int)<=_;have:=HZ.out;omega⟩;have HMY:=Ax (Ij ⟨1,z,⟨#[]⟩⟩ hfit.1 W);rw[L0] at HMY;have HTX:Hid (∀V,_):=Ax fun V=>Hu ⟨1,z,⟨#[]⟩⟩ V hfit
    obtain⟨X,hX⟩:∃X,O1 ⟨1,z,⟨#[]⟩⟩=X:=⟨_,rfl⟩;have hXl:dl X=Da 1 z (dl ⟨#[]⟩):=by rw[←hX];rfl
    rw[hX] at HTX;clear hX;cases hmy:Gi 1 z (dl ⟨#[]⟩) with
    |false=>
     rw[show Gi (⟨1,z,⟨#[]⟩⟩:Vl).k (⟨1,z,⟨#[]⟩⟩:Vl).n (dl (⟨1,z,⟨#[]⟩⟩:Vl).s)=false from hmy] at HMY;have HBD:=Ax (show Da 1 z (dl ⟨#[]⟩)≠dl s from fun e=>H0.out uK);exact zz1
    |true=>
     rw[show Gi (⟨1,z,⟨#[]⟩⟩:Vl).k (⟨1,z,⟨#[]⟩⟩:Vl).n (dl (⟨1,z,⟨#[]⟩⟩:Vl).s)=true from hmy] at HMY;clear hmy hfit;have HXL:=Ax hXl;clear hXl;go_wp2_with fail;refine HMY.out.mono ?_;rintro e V6 ⟨rfl,hb6⟩;have HP6:=Ax (HP.out.below hb6);clear y0 y1 y2 z0 z1 z2 yf0 yf1 yf2 zf0 zf1 zf2;obtain⟨⟨y0,y1,y2,yf⟩,z0,z1,z2,zf⟩:=D5.cells HP6.out;have yf0:=yf 0;have yf1:=yf 1;have yf2:=yf 2;have zf0:=zf 0;have zf1:=zf 1;have zf2:=zf 2;clear yf zf;clear hb6;go_wp2_with fail;refine(HTX.out V6).mono ?_;rintro e V7 ⟨rfl,hb7⟩;have HP7:=Ax (HP6.out.below hb7);clear y0 y1 y2 z0 z1 z2 yf0 yf1 yf2 zf0 zf1 zf2;obtain⟨⟨y0,y1,y2,yf⟩,z0,z1,z2,zf⟩:=D5.cells HP7.out;have yf0:=yf 0;have yf1:=yf 1;have yf2:=yf 2;have zf0:=zf 0;have zf1:=zf 1;have zf2:=zf 2;clear yf zf;clear hb7;by_cases hXs:X=s
     ·have HOK:=Ax (show Da 1 z (dl ⟨#[]⟩)=dl s from by rw[←HXL.out,hXs]);subst hXs;go_wp2_with fail;exact Au (v:= .tuple #[.agg #[.int .u8 1,.int .i64 z,.string ⟨#[]⟩],.int .i64 0]) tJ rfl (by have:=B9.may (HP7.out.ret (.int .u8 1) (.int .i64 z) (.string ⟨#[]⟩)) H0.out H4.out HR.out HOK.out;rw[Lj] at this;exact this)
     have HBD:=Ax (show Da 1 z (dl ⟨#[]⟩)≠dl s from fun e=>hXs (Cn vP));exact zzq
  have HE:=Ax (show D2 (dl s)= .error 9 from Wf H4.out (.inr ⟨H0.out,by rw[HRE2.out,Ao hin]⟩));go_wp2_with fail;refine HIN.out.mono ?_;rintro e V2 ⟨he,hb2⟩;unfold Hh at he;rw[Ao hin,Ao hin] at he;subst he;have HP2:=Ax (HP.out.below hb2);clear y0 y1 y2 z0 z1 z2 yf0 yf1 yf2 zf0 zf1 zf2;obtain⟨⟨y0,y1,y2,yf⟩,z0,z1,z2,zf⟩:=D5.cells HP2.out;have yf0:=yf 0;have yf1:=yf 1;have yf2:=yf 2;have zf0:=zf 0;have zf1:=zf 1;have zf2:=zf 2;clear yf zf;clear hb2 HP i0 i1 hin;go_wp2_with fail;exact Au (v:= .tuple #[.agg #[.int .u8 0,.int .i64 0,.string ⟨#[]⟩],.int .i64 9]) tJ rfl (B9.err (HP2.out.ret _ _ _) HE.out)
open Go Go.RowKit Go.Lib
theorem Ss (c:UInt8)(w:World):Calls Tryz.prog 146 #[.int .u8 (c.toNat:Int)] w fun e w'=>e= .returned (.bool (Dm c))/\w=w':=by
 obtain⟨r,hr⟩:∃r,Dm c=r:=⟨_,rfl⟩;rw[hr];unfold Dm at hr;by_cases h1:97<=c.toNat
 ·have d1:decide ((97:Int)<=(c.toNat:Int))=true:=Am tE;rw[Am h1,Bool.true_and] at hr;by_cases h2:c.toNat<=122
  ·have d2:decide ((c.toNat:Int)<=122)=true:=Am tE;rw[Am h2] at hr;subst hr;go_enter Tryz.func146,Tryz.ntmps146;go_wp2_with fail;exact zyr
  have d2:decide ((c.toNat:Int)<=122)=false:=An tE;rw[An h2] at hr;subst hr;go_enter Tryz.func146,Tryz.ntmps146;go_wp2_with fail;exact zyr
 have d1:decide ((97:Int)<=(c.toNat:Int))=false:=An tE;rw[An h1,Bool.false_and] at hr;subst hr;go_enter Tryz.func146,Tryz.ntmps146;go_wp2_with fail;exact zyr
theorem J6 (c:UInt8)(w:World):Calls Tryz.prog 91 #[.int .u8 (c.toNat:Int)] w fun e w'=>e= .returned (.bool (Bb c))/\w=w':=by
 obtain⟨r,hr⟩:∃r,Bb c=r:=⟨_,rfl⟩;rw[hr];unfold Bb at hr;by_cases h1:48<=c.toNat
 ·have d1:decide ((48:Int)<=(c.toNat:Int))=true:=Am tE;rw[Am h1,Bool.true_and] at hr;by_cases h2:c.toNat<=57
  ·have d2:decide ((c.toNat:Int)<=57)=true:=Am tE;rw[Am h2] at hr;subst hr;go_enter Tryz.func91,Tryz.ntmps91;go_wp2_with fail;exact zyr
  have d2:decide ((c.toNat:Int)<=57)=false:=An tE;rw[An h2] at hr;subst hr;go_enter Tryz.func91,Tryz.ntmps91;go_wp2_with fail;exact zyr
 have d1:decide ((48:Int)<=(c.toNat:Int))=false:=An tE;rw[An h1,Bool.false_and] at hr;subst hr;go_enter Tryz.func91,Tryz.ntmps91;go_wp2_with fail;exact zyr
theorem Kn {a b:Nat}(h:a=b):Ending.returned (.int .i64 (a:Int))= .returned (.int .i64 (b:Int)):=by rw[h]
theorem Kq {s:ByteArray}{p:Nat}(h:p<s.size):(dl s).drop p=s[p]::(dl s).drop (p+1):=by
 have hl:p<(dl s).length:=(A4 s).symm▸h
 have:=Gw h
 rw[Ag hl] at this;rw[List.drop_eq_getElem_cons hl,Option.some.inj this]
theorem Ie {s:ByteArray}{p:Nat}(h:s.size<=p):(dl s).drop p=[]:=List.drop_eq_nil_of_le (by rw[A4];exact h)
theorem Pk {q:UInt8->Bool}{c:UInt8}{r:List UInt8}(h:q c=false):A5 q (c::r)=0:=by
 unfold A5;rw[List.takeWhile_cons,h];rfl
theorem Gm {q:UInt8->Bool}{c:UInt8}{r:List UInt8}(h:q c=true):A5 q (c::r)=1+A5 q r:=by
 unfold A5;rw[List.takeWhile_cons,h];simp;omega
def G3 (l:List UInt8):Nat:=match l with
 |c::r=>if Dm c then A5 Cg (c::r) else 0
 |[]=>0
theorem X7 {c:UInt8}(h:Dm c=true):Cg c=true:=by unfold Cg;rw[h];rfl
theorem X8 (s:ByteArray)(p:Nat)(w:World)(hs:s.size<=1000000)(hp:p<=s.size+1):Calls Tryz.prog 90 #[.string s,.int .i64 (p:Int)] w fun e w'=>e= .returned (.int .i64 ((p+G3 ((dl s).drop p):Nat):Int))/\w=w':=by
 by_cases hlt:p<s.size
 ·have e1:=Kq hlt;have q0:(0:Int)<=(p:Int):=by omega
  have q1:(p:Int)<(s.size:Int):=by omega
  have d0:decide (s.size<=p)=false:=An tE;have HSM:=Ax (Ss s[p] w);cases hc:Dm s[p] with
  |false=>
   rw[hc] at HSM;have HE:Hid (p+G3 ((dl s).drop p)=p):=Ax (by rw[e1];unfold G3;simp only;rw[Ao (by rw[hc];simp)];rfl);clear e1 hc;rw[HE.out];go_enter Tryz.func90,Tryz.ntmps90;go_wp2_with fail;refine HSM.out.mono ?_;rintro e w' ⟨rfl,rfl⟩;go_wp2_with fail;exact zyr
  |true=>
   rw[hc] at HSM;have HE:Hid (p+G3 ((dl s).drop p)=p+A5 Cg ((dl s).drop p)):=Ax (by rw[e1];unfold G3;simp only;rw[Ap hc]);clear e1 hc;rw[HE.out];go_enter Tryz.func90,Tryz.ntmps90;go_wp2_with fail;refine HSM.out.mono ?_;rintro e w' ⟨rfl,rfl⟩;clear HSM d0 HE;go_wp2_with fail
   go_loop [1] (fun v1=>∃q:Nat,v1= .int .i64 (q:Int)/\p<=q/\q<=s.size/\Hid (q+A5 Cg ((dl s).drop q)=p+A5 Cg ((dl s).drop p))) (fun v1=>s.size - (intOf v1).toNat)
   case atStart=>exact⟨p,rfl,Ak _,Nat.le_of_lt hlt,Ax rfl⟩
   obtain⟨q,rfl,hpq,hqs,hq⟩:=hrel;by_cases hgo:q<s.size
   ·have d0:decide ((q:Int)<(s.size:Int))=true:=Am tE;have q0:(0:Int)<=(q:Int):=by omega
    have q1:(q:Int)<(s.size:Int):=by omega
    have HS2:=Ax (Ss s[q] w);have HD2:=Ax (J6 s[q] w);have e1:=Kq hgo;cases hl:Dm s[q] with
    |true=>
     rw[hl] at HS2;have HN:=Ax (show q+1+A5 Cg ((dl s).drop (q+1))=p+A5 Cg ((dl s).drop p) by rw[←hq.out,e1,Gm (X7 hl)];omega);clear hl e1 hq HD2;go_wp2_with fail;refine HS2.out.mono ?_;exact zyc
    |false=>
     rw[hl] at HS2;cases hd:Bb s[q] with
     |true=>
      rw[hd] at HD2;have HN:=Ax (show q+1+A5 Cg ((dl s).drop (q+1))=p+A5 Cg ((dl s).drop p) by rw[←hq.out,e1,Gm (by unfold Cg;rw[hd,Bool.or_true])];omega);clear hl hd e1 hq;go_wp2_with fail;refine HS2.out.mono ?_;rintro e w' ⟨rfl,rfl⟩;go_wp2_with fail;refine HD2.out.mono ?_;exact zyc
     |false=>
      rw[hd] at HD2;have HN:=Ax (show q=p+A5 Cg ((dl s).drop p) by rw[←hq.out,e1,Pk (by unfold Cg;rw[hl,hd];rfl)];omega);clear hl hd e1 hq;go_wp2_with fail;refine HS2.out.mono ?_;rintro e w' ⟨rfl,rfl⟩;go_wp2_with fail;refine HD2.out.mono ?_;rintro e w' ⟨rfl,rfl⟩;go_wp2_with fail;go_ret;exact⟨Kn HN.out,rfl⟩
   have d0:decide ((q:Int)<(s.size:Int))=false:=An tE;have HN:=Ax (show q=p+A5 Cg ((dl s).drop p) by rw[←hq.out,Ie tE];rfl);clear hq;go_wp2_with fail;go_ret;exact⟨Kn HN.out,rfl⟩
 have d0:decide ((s.size:Int)<=(p:Int))=true:=Am tE;have HE:Hid (p+G3 ((dl s).drop p)=p):=Ax (by rw[Ie tE];rfl);rw[HE.out];go_enter Tryz.func90,Tryz.ntmps90;go_wp2_with fail;exact zyr
end Go.Proofs.YtmpfilddeglgbaaGreatDoor
