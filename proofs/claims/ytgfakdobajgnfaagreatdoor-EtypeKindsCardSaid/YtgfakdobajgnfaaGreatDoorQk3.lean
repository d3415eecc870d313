import Derived.Deep.CutBlock
import Derived.Carry
import Derived.Test.YtgfakdobajgnfaaGreatDoorQk2
set_option maxRecDepth 100000
set_option maxHeartbeats 16000000
namespace Go.Proofs.YtgfakdobajgnfaaGreatDoor
open Go Go.RowKit
def mJ (v:Int×Int×List UInt8):Value:= .agg #[.int .u8 v.1,.int .i64 v.2.1,.string ⟨v.2.2.toArray⟩]
theorem qX (w:World):(zeroValue 23).run Tryz.prog w= .ok (.agg #[.int .u8 0,.int .i64 0,.string ⟨#[]⟩]) w:=by kernel_rfl
theorem qV (w:World):(zeroValue 233).run Tryz.prog w= .ok (.agg #[.int .u8 0,.int .i64 0,.int .i64 0]) w:=by kernel_rfl
theorem Dq (a k:List UInt8)(v:Value)(l:List (List UInt8×Value)):O7 ((a,v)::l) k=if k=a then some v else O7 l k:=by
 unfold O7;by_cases h:k=a
 ·subst h;simp
 have:(a==k)=false:=by simpa using fun e=>h e.symm
 simp [h,this]
theorem T4 (k:List UInt8):O7 [] k=none:=rfl
theorem Km {w:World}{b:Nat}{x y z:Value}{t:TypeId}(h:w.heap[b]? =some (.cells #[x,y,z] t (0,0))):w.cell? ⟨b,0,none⟩=some x/\w.cell? ⟨b,1,none⟩=some y/\w.cell? ⟨b,2,none⟩=some z/\∀i,w.frozen? ⟨b,i,none⟩=false:=
 ⟨by simp only[World.cell?,h];rfl,by simp only[World.cell?,h];rfl,by simp only[World.cell?,h];rfl,fun i=>by simp only[World.frozen?,h];simp⟩
def cT (c:Int×Nat×Nat):Value:= .agg #[.int .u8 c.1,.int .i64 (c.2.1:Int),.int .i64 (c.2.2:Int)]
def pQ:List (List UInt8×Value):=[([116,114,117,101],.agg #[.int .u8 4,.int .i64 1,.string ⟨#[]⟩]),([102,97,108,115,101],.agg #[.int .u8 4,.int .i64 0,.string ⟨#[]⟩]),([110,117,108,108],.agg #[.int .u8 0,.int .i64 0,.string ⟨#[]⟩])]
theorem dV (s:List UInt8):O7 pQ s=(K7 s).map mJ:=by
 unfold pQ K7;rw[Dq,Dq,Dq,T4]
 repeat' split
 all_goals rfl
theorem Yf (s:List UInt8)(w:World):Calls Tryz.prog 203 #[.string ⟨s.toArray⟩] w fun e w'=>e= .returned (.tuple #[mJ ((K7 s).getD v0),.bool (K7 s).isSome])/\Below w.heap.size w w':=by
 obtain⟨d,f⟩:∃d,w.alloc (.cells #[.int .u8 0,.int .i64 0,.string ⟨#[]⟩] 23)=d:=⟨_,rfl⟩;have j:Below w.heap.size w d:=by rw[←f];exact(Aq w.heap.size w).alloc (Ak _) _
 have h:=Az w (.cells #[.int .u8 0,.int .i64 0,.string ⟨#[]⟩] 23);have u:d.heap.size=w.heap.size+1:=by rw[←f];simp
 rw[f] at h;have x:=Qq.new d;have q:Below d.heap.size d (d.alloc (.map #[] 0)):=(Aq _ _).alloc (Ak _) _;have k:(d.alloc (.map #[] 0)).heap.size=d.heap.size+1:=by simp
 obtain⟨y,m⟩:∃y,d.alloc (.map #[] 0)=y:=⟨_,rfl⟩;rw[m,u] at x;rw[m] at q k;obtain⟨W,X,C,D,L⟩:=Eo (P:=Tryz.prog) (t:=262) Tryz.underlying262 Tryz.underlying9 x [116,114,117,101] (.agg #[.int .u8 4,.int .i64 1,.string ⟨#[]⟩]) rH;obtain⟨Y,Z,E,F,M⟩:=Eo (P:=Tryz.prog) (t:=262) Tryz.underlying262 Tryz.underlying9 C [102,97,108,115,101] (.agg #[.int .u8 4,.int .i64 0,.string ⟨#[]⟩]) rH;obtain⟨r,e3,G,I,N⟩:=Eo (P:=Tryz.prog) (t:=262) Tryz.underlying262 Tryz.underlying9 E [110,117,108,108] (.agg #[.int .u8 0,.int .i64 0,.string ⟨#[]⟩]) rH;have c:=Qc (P:=Tryz.prog) (t:=262) Tryz.underlying262 Tryz.underlying9 G (qX r) s;rw[show([]:List (List UInt8×Value))++[([116,114,117,101],.agg #[.int .u8 4,.int .i64 1,.string ⟨#[]⟩])]++[([102,97,108,115,101],.agg #[.int .u8 4,.int .i64 0,.string ⟨#[]⟩])]++[([110,117,108,108],.agg #[.int .u8 0,.int .i64 0,.string ⟨#[]⟩])]=pQ from rfl,dV] at c;have A:Bb [w.heap.size+1] y r:=((D.trans F).trans I);have n:Below w.heap.size w r:=Bq (j.trans (q.mono rF)) A rI rF;have i:r.heap[w.heap.size]? =some (.cells #[.int .u8 0,.int .i64 0,.string ⟨#[]⟩] 23 (0,0)):=(A.block _ rF rI).trans ((q.block _ rF).trans h);have o:=Ax f;have HB3:=Ax n;have p:=Ax i;have g:=Ax c;have O:=Ay i;have R:= @run_makeMap Tryz.prog;clear f j h q k x C E G D L F M I N A n i c;go_enter Tryz.func203,Tryz.ntmps203;go_upto_region 1 with fail
 rw[o.out];clear o;cases hl:K7 s with
 |none=>
  have c:=g.out;rw[hl] at c;simp only[Option.map_none,Gd] at c;obtain⟨T,U,V⟩:=Km p.out;have Hl:=Ax hl;clear hl g;go_wp2_with fail;refine Au (v:= .tuple #[.agg #[.int .u8 0,.int .i64 0,.string ⟨#[]⟩],.bool false]) (by simp [results,Tryz.results203,go_sem, *]) rfl ?_;exact zx5
 |some v=>
  have c:=g.out;rw[hl] at c;simp only[Option.map_some,Gd] at c;obtain⟨vk,vn,vs⟩:=v;simp only[mJ] at c;obtain⟨T,U,V⟩:=Km p.out;have Hl:=Ax hl;clear hl g;go_wp2_with fail;refine Au (v:= .tuple #[.agg #[.int .u8 vk,.int .i64 vn,.string ⟨vs.toArray⟩],.bool true]) (by simp [results,Tryz.results203,go_sem, *]) rfl ?_;exact zx5
def iE:List (List UInt8×Value):=[([97,98,115],.agg #[.int .u8 18,.int .i64 1,.int .i64 1]),([109,105,110],.agg #[.int .u8 19,.int .i64 1,.int .i64 8]),([109,97,120],.agg #[.int .u8 20,.int .i64 1,.int .i64 8]),([109,111,100],.agg #[.int .u8 21,.int .i64 2,.int .i64 2]),([108,101,110,103,116,104],.agg #[.int .u8 22,.int .i64 1,.int .i64 1]),([117,112,112,101,114],.agg #[.int .u8 23,.int .i64 1,.int .i64 1]),([99,111,110,116,97,105,110,115],.agg #[.int .u8 24,.int .i64 2,.int .i64 2]),([115,116,97,114,116,115],.agg #[.int .u8 25,.int .i64 2,.int .i64 2]),([105,102],.agg #[.int .u8 26,.int .i64 3,.int .i64 3])]
theorem aN (s:List UInt8):O7 iE s=(Di s).map cT:=by
 unfold iE Di;rw[Dq,Dq,Dq,Dq,Dq,Dq,Dq,Dq,Dq,T4]
 repeat' split
 all_goals rfl
theorem fR (s:List UInt8)(w:World):Calls Tryz.prog 204 #[.string ⟨s.toArray⟩] w fun e w'=>e= .returned (.tuple #[cT ((Di s).getD (0,0,0)),.bool (Di s).isSome])/\Below w.heap.size w w':=by
 obtain⟨d,f⟩:∃d,w.alloc (.cells #[.int .u8 0,.int .i64 0,.int .i64 0] 233)=d:=⟨_,rfl⟩;have j:Below w.heap.size w d:=by rw[←f];exact(Aq w.heap.size w).alloc (Ak _) _
 have h:=Az w (.cells #[.int .u8 0,.int .i64 0,.int .i64 0] 233);have u:d.heap.size=w.heap.size+1:=by rw[←f];simp
 rw[f] at h;have x:=Qq.new d;have q:Below d.heap.size d (d.alloc (.map #[] 0)):=(Aq _ _).alloc (Ak _) _;have k:(d.alloc (.map #[] 0)).heap.size=d.heap.size+1:=by simp
 obtain⟨y,m⟩:∃y,d.alloc (.map #[] 0)=y:=⟨_,rfl⟩;rw[m,u] at x;rw[m] at q k;obtain⟨M1,e1,C,D,z1⟩:=Eo (P:=Tryz.prog) (t:=263) Tryz.underlying263 Tryz.underlying9 x [97,98,115] (.agg #[.int .u8 18,.int .i64 1,.int .i64 1]) rH;obtain⟨M2,e2,E,F,z2⟩:=Eo (P:=Tryz.prog) (t:=263) Tryz.underlying263 Tryz.underlying9 C [109,105,110] (.agg #[.int .u8 19,.int .i64 1,.int .i64 8]) rH;obtain⟨M3,e3,G,I,z3⟩:=Eo (P:=Tryz.prog) (t:=263) Tryz.underlying263 Tryz.underlying9 E [109,97,120] (.agg #[.int .u8 20,.int .i64 1,.int .i64 8]) rH;obtain⟨M4,e4,L,M,z4⟩:=Eo (P:=Tryz.prog) (t:=263) Tryz.underlying263 Tryz.underlying9 G [109,111,100] (.agg #[.int .u8 21,.int .i64 2,.int .i64 2]) rH;obtain⟨M5,e5,N,O,z5⟩:=Eo (P:=Tryz.prog) (t:=263) Tryz.underlying263 Tryz.underlying9 L [108,101,110,103,116,104] (.agg #[.int .u8 22,.int .i64 1,.int .i64 1]) rH;obtain⟨M6,e6,R,T,z6⟩:=Eo (P:=Tryz.prog) (t:=263) Tryz.underlying263 Tryz.underlying9 N [117,112,112,101,114] (.agg #[.int .u8 23,.int .i64 1,.int .i64 1]) rH;obtain⟨M7,e7,U,V,z7⟩:=Eo (P:=Tryz.prog) (t:=263) Tryz.underlying263 Tryz.underlying9 R [99,111,110,116,97,105,110,115] (.agg #[.int .u8 24,.int .i64 2,.int .i64 2]) rH;obtain⟨M8,e8,W,X,z8⟩:=Eo (P:=Tryz.prog) (t:=263) Tryz.underlying263 Tryz.underlying9 U [115,116,97,114,116,115] (.agg #[.int .u8 25,.int .i64 2,.int .i64 2]) rH;obtain⟨r,e9,Y,Z,z9⟩:=Eo (P:=Tryz.prog) (t:=263) Tryz.underlying263 Tryz.underlying9 W [105,102] (.agg #[.int .u8 26,.int .i64 3,.int .i64 3]) rH;have c:=Qc (P:=Tryz.prog) (t:=263) Tryz.underlying263 Tryz.underlying9 Y (qV r) s;rw[show([]:List (List UInt8×Value))++[([97,98,115],.agg #[.int .u8 18,.int .i64 1,.int .i64 1])]++[([109,105,110],.agg #[.int .u8 19,.int .i64 1,.int .i64 8])]++[([109,97,120],.agg #[.int .u8 20,.int .i64 1,.int .i64 8])]++[([109,111,100],.agg #[.int .u8 21,.int .i64 2,.int .i64 2])]++[([108,101,110,103,116,104],.agg #[.int .u8 22,.int .i64 1,.int .i64 1])]++[([117,112,112,101,114],.agg #[.int .u8 23,.int .i64 1,.int .i64 1])]++[([99,111,110,116,97,105,110,115],.agg #[.int .u8 24,.int .i64 2,.int .i64 2])]++[([115,116,97,114,116,115],.agg #[.int .u8 25,.int .i64 2,.int .i64 2])]++[([105,102],.agg #[.int .u8 26,.int .i64 3,.int .i64 3])]=iE from rfl,aN] at c;have A:Bb [w.heap.size+1] y r:=((((((((D.trans F).trans I).trans M).trans O).trans T).trans V).trans X).trans Z);have n:Below w.heap.size w r:=Bq (j.trans (q.mono rF)) A rI rF;have i:r.heap[w.heap.size]? =some (.cells #[.int .u8 0,.int .i64 0,.int .i64 0] 233 (0,0)):=(A.block _ rF rI).trans ((q.block _ rF).trans h);have o:=Ax f;have HB3:=Ax n;have p:=Ax i;have g:=Ax c;have a8:=Ay i;have b7:= @run_makeMap Tryz.prog;clear f j h q k x C E G L N R U W Y D z1 F z2 I z3 M z4 O z5 T z6 V z7 X z8 Z z9 A n i c;go_enter Tryz.func204,Tryz.ntmps204;go_upto_region 1 with fail
 rw[o.out];clear o;cases hl:Di s with
 |none=>
  have c:=g.out;rw[hl] at c;simp only[Option.map_none,Gd] at c;obtain⟨f0,f1,f2⟩:=Km p.out;have Hl:=Ax hl;clear hl g;go_wp2_with fail;refine Au (v:= .tuple #[.agg #[.int .u8 0,.int .i64 0,.int .i64 0],.bool false]) (by simp [results,Tryz.results204,go_sem, *]) rfl ?_;exact zx5
 |some v=>
  have c:=g.out;rw[hl] at c;simp only[Option.map_some,Gd] at c;obtain⟨c1,c2,c3⟩:=v;simp only[cT] at c;obtain⟨f0,f1,f2⟩:=Km p.out;have Hl:=Ax hl;clear hl g;go_wp2_with fail;refine Au (v:= .tuple #[.agg #[.int .u8 c1,.int .i64 (c2:Int),.int .i64 (c3:Int)],.bool true]) (by simp [results,Tryz.results204,go_sem, *]) rfl ?_;exact zx5
open Go Go.RowKit
def B5 (w:World)(B:Nat)(X:List Nat)(b:Nat)(g:Value)(ts:List Tkn)(d:Nat)(h:Value)(c:List Nd)(x:ExR)(e:Ending)(w':World):Prop:=
 match x with
 | .ok p=>e= .returned (.int .i64 ((c.length+p.1.size - 1:Nat):Int))/\∃f,Cy w' B X b g ts p.2 d f (c++p.1.flat c.length)/\Rch b w h w' f
 | .error p=>e=D2 p.1/\kF w' b g (ts.length - p.2.length)/\Bb (b::h.ownBlock.toList) w w'
def K5 (k B b:Nat)(c:Value)(ts:List Tkn):Prop:=∀(X:List Nat) (n d:Nat) (r:List Tkn) (w:World) (vt:Value) (nds:List Nd),n<=7->Bu (.lvl n) r<k->Cy w B X b c ts r d vt nds->B<=w.heap.size->
 Calls Tryz.prog 89 #[.pointer (some ⟨b,0,none⟩),.int .i64 (n:Int)] w (B5 w B X b c ts d vt nds (Bc n d r))
theorem B5.pre {w f w':World}{B b d:Nat}{X:List Nat}{g i v1:Value}{ts:List Tkn}{c:List Nd}{j:Int}{q:List Tkn}{e:Ending}(h:B5 f B X b g ts d v1 c (.error (j,q)) e w')(k:Rch b w i f v1):
 e=D2 j/\kF w' b g (ts.length - q.length)/\Bb (b::i.ownBlock.toList) w w':=⟨h.1,h.2.1,k.err h.2.2⟩
theorem Cy.err {w:World}{B b d:Nat}{X:List Nat}{e f:Value}{ts r:List Tkn}{c:List Nd}(h:Cy w B X b e ts r d f c):kF w b e (ts.length - r.length):=⟨_,_,h.blk⟩
theorem Bb.cells_of {S:List Nat}{w w':World}{p:Nat}{o:Obj}(h:Bb S w w')(c:w.heap[p]? =some o)(d:p∉S):w'.heap[p]? =some o:=(h.block p (Ay c) d).trans c
theorem Cy.apart {w:World}{B b d p:Nat}{X:List Nat}{f e:Value}{ts r:List Tkn}{c:List Nd}{cs:Array Value}{t:TypeId}(h:Cy w B X b f ts r d e c)(hp:w.heap[p]? =some (.cells cs t (0,0)))(h1:130≠t)(h2:43≠t):p∉b::e.ownBlock.toList:=by
 exact zwk
def I1 (b:Nat)(w:World):Nat:=match w.cell? ⟨b,1,none⟩ with|some v=>(intOf v).toNat|none=>0
theorem Cy.left {w:World}{B b d:Nat}{X:List Nat}{e f:Value}{ts r:List Tkn}{c:List Nd}(h:Cy w B X b e ts r d f c):ts.length - I1 b w=r.length:=by
 obtain⟨_,g,_⟩:=Dn h.blk
 have:=h.suf.len
 unfold I1;rw[g];simp only[intOf];omega
theorem Fm {n d:Nat}{r:List Tkn}{a:Ex}{q:List Tkn}(c:n<=7)(h:Bc n d r= .ok (a,q)):a.size+q.length<=r.length:=iD (.lvl n) d r c a q h
theorem Yp (h:Hd)(a b:Ex)(k:Nat):(Ex.mk h [a,b]).flat k=a.flat k++b.flat (k+a.size)++[⟨h,[k+a.size - 1,k+a.size+b.size - 1]⟩]:=by
 simp [Ex.flat,Bz,Db]
theorem R9 (h:Hd)(a:Ex)(k:Nat):(Ex.mk h [a]).flat k=a.flat k++[⟨h,[k+a.size - 1]⟩]:=by
 simp [Ex.flat,Bz,Db]
theorem P7 (w:World)(B i j:Nat)(c:B<=w.heap.size):(w.alloc (.cells #[.int .i64 (i:Int),.int .i64 (j:Int)] 3)).ownsRow B 3 1 (.slice (some ⟨w.heap.size,0,none⟩) [i,j].length 2) [i,j].length (Ea [i,j]):=
 ⟨rfl,.inr ⟨w.heap.size,2,_,rfl,c,Az w _,Ak _,by decide,rfl,rfl⟩⟩
theorem Oa {k B b:Nat}{X:List Nat}{Y:Value}{ts:List Tkn}(ih:K5 k B b Y ts){n d:Nat}{r:List Tkn}{w:World}{N:Value}{c:List Nd}(h5:n<=5)(uY:n≠2)(hk:Bu (.lvl n) r<=k)(h:Cy w B X b Y ts r d N c)(hB:B<=w.heap.size)
 {g m:Nat} {l:List (List UInt8×Int)} (hl:l=Bt n) (uZ:l.length=m) (hm:m<=6) (ho:Mm w g l) (D:Bool) (O:Hid (D=decide (n≠3))):
 Calls Tryz.prog 201 #[.pointer (some ⟨b,0,none⟩),.int .i64 (n:Int),.bool D,.slice (some ⟨g,0,none⟩) m m] w (B5 w B X b Y ts d N c (Bc n d r)):=by
 have hc:=ih X (n+1) d r w N c rF sY h hB;rw[Int.natCast_succ] at hc;have hx:=Lb (d:=d) (r:=r) h5 uY;have Hx:=Ax hx;have Hc:=Ax hc;have H:=Ax h;have Ho:=Ax ho;have HI:=Ax ih;have vM:(n:Int)<=5:=by omega
 have hg:=Ay ho;have vA:=Ax (h.apart ho rH rH);clear hc h ho hx ih;go_enter Tryz.func201,Tryz.ntmps201;go_wp2_with fail;refine Hc.out.mono ?_;rintro e V1 hp;cases hq1:Bc (n+1) d r with
 |error p=>
  obtain⟨er,q⟩:=p;rw[hq1] at hp;obtain⟨rfl,R,T⟩:=hp
  have HE:Hid (B5 w B X b Y ts d N c (Bc n d r) (D2 er) V1):=Ax (by
   rw[Hx.out,hq1]
   exact⟨rfl,R,T⟩)
  clear R T hq1 Hx;exact zzh
 |ok p=>
  obtain⟨a,q⟩:=p;rw[hq1] at hp;obtain⟨rfl,v1,R,T⟩:=hp;have x8:=Fm (n:=n+1) rF hq1;have i7:=(Dt (n:=n+1) rF hq1).2;have vJ:=H.out.few
  have HS:Hid (∃(f:Ex) (j:List Tkn) (y:Value),(Value.int .i64 ((c.length+a.size - 1:Nat):Int))= .int .i64 ((c.length+f.size - 1:Nat):Int)/\j.length<r.length/\f.size+j.length<=r.length/\Cy V1 B X b Y ts j d y (c++f.flat c.length)/\Rch b w N V1 y/\Sy n f d j=Bc n d r):=
   Ax ⟨a,q,v1,rfl,i7,x8,R,T,by rw[Hx.out,hq1];rfl⟩
  clear R T hq1 Hx Hc x8 i7;go_wp2_with fail
  go_loopw [9] (fun v9 wr=>Hid (∃(f:Ex) (j:List Tkn) (y:Value),v9= .int .i64 ((c.length+f.size - 1:Nat):Int)/\j.length<r.length/\f.size+j.length<=r.length/\Cy wr B X b Y ts j d y (c++f.flat c.length)/\Rch b w N wr y/\Sy n f d j=Bc n d r)) (fun _ wr=>ts.length - I1 b wr)
  case atStart=>exact HS
  obtain⟨f,j,y,rfl,x9,vB,Z,a8,y8⟩:=hrel.out;have vN:=Al hB a8.only.size;have y9:=Ax (Uq Z);have U:=Ax Z;have b7:=Ax a8;have u:=Ax y8;have l7:=Ax (a8.only.cells_of Ho.out vA.out);have vO:=f.size_pos;have n9:=Z.left;clear hrel HS Z a8 y8;go_wp2_with fail;refine y9.out.mono ?_;rintro e V2 ⟨rfl,b8⟩;have p8:=dG (U.out.below b8) (l:=l) (Mm.below l7.out b8) rF;rw[uZ] at p8;have uR:=Ax p8;have r7:=Ax b8;clear p8 b8 y9;go_wp2_with fail;refine uR.out.mono ?_;rintro e V3 ⟨rfl,uS⟩;have j8:=r7.out.trans (uS.mono r7.out.size);have F:=Ax j8;obtain⟨o,d8⟩:∃o,B6 j l=o:=⟨_,rfl⟩;rw[d8];have A:=Il n f d j;rw[←hl,d8] at A;clear uS j8 uR r7;by_cases ho0:o=0
  ·subst ho0
   have HP:Hid (B5 w B X b Y ts d N c (Bc n d r) (.returned (.int .i64 ((c.length+f.size - 1:Nat):Int))) (V3.alloc (.cells #[.int .i64 (plH j).1,.int .i64 (plH j).2] 33))):=Ax (by
    rw[←u.out,A,Ap rfl];have C:=(F.out.trans ((Aq V3.heap.size V3).alloc (Ak _) (.cells #[.int .i64 (plH j).1,.int .i64 (plH j).2] 33)|>.mono F.out.size))
    exact⟨rfl,y,U.out.below C,b7.out.trans (Rch.of_below y C)⟩)
   clear A d8 U b7 u F l7;go_wp2_with fail;go_ret;exact HP.out
  have vP:(o==0)=false:=by simpa using ho0
  obtain⟨t,q,rfl⟩:∃t q,j=t::q:=Fz (l:=l) (by rw[d8];exact ho0);rw[Ao ho0] at A;simp only[List.tail_cons] at A;have f7:=F.out.trans ((Aq V3.heap.size V3).alloc (Ak _) (.cells #[.int .i64 (plH (t::q)).1,.int .i64 (plH (t::q)).2] 33)|>.mono F.out.size);have f8:=Az V3 (.cells #[.int .i64 (plH (t::q)).1,.int .i64 (plH (t::q)).2] 33);obtain⟨V4,uT⟩:∃V4,V3.alloc (.cells #[.int .i64 (plH (t::q)).1,.int .i64 (plH (t::q)).2] 33)=V4:=⟨_,rfl⟩;rw[uT] at f7 f8;have G:=U.out.below f7;obtain⟨c0,c1,c2,c3,cf⟩:=Dn G.blk;have vC:=cf 1;have vK:=G.big;have f9:=G.step;have r8:=A3 V4 b 1 (.int .i64 (((ts.length - (q.length+1):Nat):Int)+1));have V:Rch b w N (V4.setCell ⟨b,1,none⟩ (.int .i64 (((ts.length - (q.length+1):Nat):Int)+1))) y:=(b7.out.trans (Rch.of_below y f7)).trans (Rch.of_only y r8);have r9:=HI.out X (n+1) d q _ y _ rF (by simp only[Bu,Aa] at hk x9 ⊢;omega) f9 (Al hB V.only.size);rw[Int.natCast_succ] at r9
  have s7:=(r8.cells_of f8 (by
   have h1:=Ay G.blk;intro hm;simp at hm;have h2:=G.apart f8 rH rH
   exact h2 (by simp [hm])))
  have s8:=Ax (f9.apart s7 rH rH);have s9:=Ax s7;have vD:=Ax r9;have W:=Ax V;have vQ:=Ax f9;have I:=Ax A;have vE:=HI.out;clear cf G f9 r8 V r9 f8 f7 s7 A U b7 F l7 vE;go_wp2_with fail;refine vD.out.mono ?_;rintro e V6 i;cases hq6:Bc (n+1) d q with
  |error p=>
   obtain⟨er,q6⟩:=p;rw[hq6] at i
   have HE:Hid (B5 w B X b Y ts d N c (Bc n d r) (D2 er) V6):=Ax (by
    rw[←u.out,I.out,hq6];obtain⟨_,h2,h3⟩:=B5.pre i W.out
    exact⟨rfl,h2,h3⟩)
   obtain⟨rfl,_,_⟩:=i;clear hq6 I u W s9 s8;exact zzh
  |ok p=>
   obtain⟨L,q6⟩:=p;rw[hq6] at i;obtain⟨rfl,v6,i,v⟩:=i;have vL:=Fm (n:=n+1) rF hq6;have vR:=L.size_pos;have vF:=(Dt (n:=n+1) rF hq6).2;have w7:=i.few;simp only[Ab,Ex.flat_len] at w7 i v ⊢;simp only[Aa] at x9 vB;have uU:=Al (Al hB W.out.only.size) v.only.size;have j9:=v.only.cells_of s9.out s8.out;obtain⟨z0,z1,_⟩:=Bf j9;have uV:=P7 V6 B (c.length+f.size - 1) (c.length+f.size+L.size - 1) uU;have C:Below V6.heap.size V6 (V6.alloc (.cells #[.int .i64 ((c.length+f.size - 1:Nat):Int),.int .i64 ((c.length+f.size+L.size - 1:Nat):Int)] 3)):=(Aq _ _).alloc (Ak _) _
   have w8:Calls Tryz.prog 209 #[.pointer (some ⟨b,0,none⟩),.agg #[.int .u8 o,.int .u8 0,.int .i64 0,.string ⟨#[]⟩,.string ⟨#[]⟩,.slice none 0 0,.int .i64 (plH (t::q)).1,.int .i64 (plH (t::q)).2],.slice (some ⟨V6.heap.size,0,none⟩) 2 2]
    (V6.alloc (.cells #[.int .i64 ((c.length+f.size - 1:Nat):Int),.int .i64 ((c.length+f.size+L.size - 1:Nat):Int)] 3)) _:=N9 (i.below C) (by simp only[Ab,Ex.flat_len];omega) (Al uU C.size) ⟨o,v0,[],(plH (t::q)).1,(plH (t::q)).2⟩ [c.length+f.size - 1,c.length+f.size+L.size - 1] (some ⟨V6.heap.size,0,none⟩) 2 uV (fun x hx hm=>by
    simp only[Value.ownBlock,Option.some.injEq] at hx;have h1:=i.xl x hm
    omega)
   obtain⟨z,hz⟩:∃z:Nat,(c++f.flat c.length++L.flat (c.length+f.size)).length=z:=⟨_,rfl⟩;rw[hz] at w8;have vG:Hid (z=c.length+f.size+L.size):=Ax (by rw[←hz];simp only[Ab,Ex.flat_len]);have HN:=Ax w8;clear hz;have uW:=Ax ((W.out.trans v).trans (Rch.of_below v6 C));clear j9 C w8 i v uV s9 s8 W;go_wp2_with fail;refine HN.out.mono ?_;rintro e V7 ⟨rfl,v7,M,k8⟩
   have uX:c++f.flat c.length++L.flat (c.length+f.size)++[⟨⟨o,v0,[],(plH (t::q)).1,(plH (t::q)).2⟩,[c.length+f.size - 1,c.length+f.size+L.size - 1]⟩]=c++(Ex.mk ⟨o,v0,[],(plH (t::q)).1,(plH (t::q)).2⟩ [f,L]).flat c.length:=by
    rw[Yp,List.append_assoc,List.append_assoc,List.append_assoc]
   have vS:(Ex.mk ⟨o,v0,[],(plH (t::q)).1,(plH (t::q)).2⟩ [f,L]).size=f.size+L.size+1:=by simp [Ex.size,Bs]
   have E:z=c.length+(Ex.mk ⟨o,v0,[],(plH (t::q)).1,(plH (t::q)).2⟩ [f,L]).size - 1:=by have:=vG.out;omega
   rw[uX] at M;have i6:=uW.out.trans k8;have w9:=M.left;have vT:=H.out.suf.len;clear uT c0 c1 c2 c3 vC z0 z1 k8 uW HN uX;by_cases hn3:n=3
   ·subst hn3;have vH:(!D)=true:=by rw[O.out];rfl
    have HP:Hid (B5 w B X b Y ts d N c (Bc 3 d r) (.returned (.int .i64 (z:Int))) V7):=Ax (by
     rw[←u.out,I.out,hq6];simp only[ExR.next,if_true]
     exact⟨by rw[E],v7,M,i6⟩)
    clear M i6 I u hq6 E w9 n9;go_wp2_with fail;go_ret;exact HP.out
   have HP:Hid (∃(ak:Ex) (j:List Tkn) (y:Value),(Value.int .i64 (z:Int))= .int .i64 ((c.length+ak.size - 1:Nat):Int)/\j.length<r.length/\ak.size+j.length<=r.length/\Cy V7 B X b Y ts j d y (c++ak.flat c.length)/\Rch b w N V7 y/\Sy n ak d j=Bc n d r):=Ax ⟨_,q6,v7,by rw[E],by omega,by omega,M,i6,by
    rw[←u.out,I.out,hq6]
    simp only[ExR.next,Ao hn3]⟩
   have vI:ts.length - I1 b V7<ts.length - I1 b wr:=by
    rw[w9,n9];simp only[Aa];omega
   have vH:(!D)=false:=by rw[O.out];simp [hn3]
   clear M i6 I u hq6 E w9 n9;go_wp2_with fail;go_roundw
   case rel=>exact HP
   case measure=>exact vI
theorem Lx (w:World)(B i:Nat)(c:B<=w.heap.size):(w.alloc (.cells #[.int .i64 (i:Int)] 3)).ownsRow B 3 1 (.slice (some ⟨w.heap.size,0,none⟩) [i].length 1) [i].length (Ea [i]):=
 ⟨rfl,.inr ⟨w.heap.size,1,_,rfl,c,Az w _,Ak _,by decide,rfl,rfl⟩⟩
theorem Tg {k B b:Nat}{X:List Nat}{Y:Value}{ts:List Tkn}(ih:K5 k B b Y ts){n d:Nat}{r:List Tkn}{w:World}{j:Value}{c:List Nd}(j9:n=2\/n=6)(hk:Bu (.lvl n) r<=k)(h:Cy w B X b Y ts r d j c)(hB:B<=w.heap.size)
 (s:List UInt8) (hs:s=Kf n) (o:Int) (ho:o=Li n):
 Calls Tryz.prog 202 #[.pointer (some ⟨b,0,none⟩),.int .i64 (n:Int),.string ⟨s.toArray⟩,.int .u8 o] w (B5 w B X b Y ts d j c (Bc n d r)):=by
 have hi:=Ax (Lp h s);have uR:(n:Int)<=6:=by omega
 have Hx:=Ax (Kj (d:=d) (r:=r) j9);have H:=Ax h;have HI:=Ax ih;have Hs:=Ax hs;have Ho:=Ax ho;have uS:n<=6:=by omega
 clear h ih hs ho j9;by_cases hp:isH (Kf n) r=true
 ·have v:=Hx.out;rw[Ap hp] at v;obtain⟨t,q,rfl⟩:=C6 hp;rw[←Hs.out] at hp;rw[hp] at hi;have y:=Ax v;clear Hx v;go_enter Tryz.func202,Tryz.ntmps202;go_wp2_with fail;refine hi.out.mono ?_;rintro e V1 ⟨rfl,g⟩;have k8:=Ax (Uq (H.out.below g));have m:=Ax g;clear g hi hp;go_wp2_with fail;refine k8.out.mono ?_;rintro e V2 ⟨rfl,b7⟩;have N:=(m.out.trans (b7.mono m.out.size)).trans ((Aq V2.heap.size V2).alloc (Ak _) (.cells #[.int .i64 (plH (t::q)).1,.int .i64 (plH (t::q)).2] 33)|>.mono (Al m.out.size b7.size));have O:=Az V2 (.cells #[.int .i64 (plH (t::q)).1,.int .i64 (plH (t::q)).2] 33);obtain⟨V3,l7⟩:∃V3,V2.alloc (.cells #[.int .i64 (plH (t::q)).1,.int .i64 (plH (t::q)).2] 33)=V3:=⟨_,rfl⟩;rw[l7] at N O;have A:=H.out.below N;have n9:=Ax (A.apart O rH rH);have p8:=Ax O;have R:=Ax N;clear O N b7 m k8;by_cases hd:d=12
  ·have C:=Ax (Px (hd▸A))
   have HE:Hid (B5 w B X b Y ts d j c (Bc n d (t::q)) (D2 12) V3):=Ax (by
    rw[y.out,Ap hd]
    exact⟨rfl,A.err,Bb.of_below R.out _⟩)
   clear A y R hd;go_wp2_with fail;refine C.out.mono ?_;rintro e V4 ⟨rfl,rfl⟩;clear C;exact zzh
  have C:=Ax (Re A hd);have v:=y.out;rw[Ao hd,List.tail_cons] at v;have y:=Ax v;clear A v;go_wp2_with fail;refine C.out.mono ?_;rintro e V4 ⟨rfl,T,b8⟩;obtain⟨c0,c1,c2,c3,cf⟩:=Dn T.blk;have uT:=cf 1;have x9:=T.big;have d8:=T.step;have f7:=A3 V4 b 1 (.int .i64 (((ts.length - (q.length+1):Nat):Int)+1));have D:Rch b w j (V4.setCell ⟨b,1,none⟩ (.int .i64 (((ts.length - (q.length+1):Nat):Int)+1))) j:=(Rch.of_below j R.out).trans (Rch.of_only j (b8.trans f7));have f8:=(b8.trans f7).cells_of p8.out (fun hm=>n9.out (by simp at hm;simp [hm]));have r7:=HI.out X n (d+1) q _ j c rF sN d8 (Al hB D.only.size);have E:=Ax (d8.apart f8 rH rH);have r8:=Ax r7;have f9:=Ax f8;have F:=Ax D;clear T d8 b8 f7 D f8 r7 cf C n9 p8 R;go_wp2_with fail;refine r8.out.mono ?_;rintro e V6 f;cases hq6:Bc n (d+1) q with
  |error p=>
   obtain⟨er,q6⟩:=p;rw[hq6] at f
   have HE:Hid (B5 w B X b Y ts d j c (Bc n d (t::q)) (D2 er) V6):=Ax (by
    rw[y.out,hq6];obtain⟨_,h2,h3⟩:=B5.pre f F.out
    exact⟨rfl,h2,h3⟩)
   obtain⟨rfl,_,_⟩:=f;clear hq6 y F f9 E;exact zzh
  |ok p=>
   obtain⟨M,q6⟩:=p;rw[hq6] at f;obtain⟨rfl,v6,f,u⟩:=f;have y8:=Fm (n:=n) rF hq6;have uU:=M.size_pos;have i6:=f.few;simp only[Ab,Ex.flat_len] at i6;have w8:=Al (Al hB F.out.only.size) u.only.size;have G:=u.only.cells_of f9.out E.out;obtain⟨e0,e1,e2,e3,ef⟩:=Dn f.blk;have uV:=ef 2;have y9:=H.out.hd;have w9:=H.out.few;simp only[Aa] at w9;have U:=f.deep (d':=d) rF;have I:=A3 V6 b 2 (.int .i64 (d:Int))
   have L:=I.cells_of G (fun hm=>by
    have h2:=f.apart G rH rH
    exact h2 (by simp at hm;simp [hm]))
   obtain⟨V,r9⟩:∃V,V6.setCell ⟨b,2,none⟩ (.int .i64 (d:Int))=V:=⟨_,rfl⟩;rw[r9] at U I L;obtain⟨z0,z1,_⟩:=Bf L;have s7:=Al w8 I.size;have s8:=Lx V B (c.length+M.size - 1) s7;have W:Below V.heap.size V (V.alloc (.cells #[.int .i64 ((c.length+M.size - 1:Nat):Int)] 3)):=(Aq _ _).alloc (Ak _) _
   have i7:Calls Tryz.prog 209 #[.pointer (some ⟨b,0,none⟩),.agg #[.int .u8 o,.int .u8 0,.int .i64 0,.string ⟨#[]⟩,.string ⟨#[]⟩,.slice none 0 0,.int .i64 (plH (t::q)).1,.int .i64 (plH (t::q)).2],.slice (some ⟨V.heap.size,0,none⟩) 1 1]
    (V.alloc (.cells #[.int .i64 ((c.length+M.size - 1:Nat):Int)] 3)) _:=N9 (U.below W) (by simp only[Ab,Ex.flat_len];omega) (Al s7 W.size) ⟨o,v0,[],(plH (t::q)).1,(plH (t::q)).2⟩ [c.length+M.size - 1] (some ⟨V.heap.size,0,none⟩) 1 s8 (fun x v hm=>by
    simp only[Value.ownBlock,Option.some.injEq] at v;have h1:=U.xl x hm
    omega)
   obtain⟨z,hz⟩:∃z:Nat,(c++M.flat c.length).length=z:=⟨_,rfl⟩;rw[hz] at i7;have x8:Hid (z=c.length+M.size):=Ax (by rw[←hz];simp only[Ab,Ex.flat_len]);have HN:=Ax i7;have s9:=Ax (((F.out.trans u).trans (Rch.of_only v6 I)).trans (Rch.of_below v6 W));have uW:((d+1:Nat):Int) - 1=(d:Int):=by omega
   clear hz i7 s8 W L G U I f u f9 E F ef r8;go_wp2_with fail;refine HN.out.mono ?_;rintro e V8 ⟨rfl,v8,w7,Z⟩
   have HE:Hid (B5 w B X b Y ts d j c (Bc n d (t::q)) (.returned (.int .i64 (z:Int))) V8):=Ax (by
    rw[y.out,hq6];have hz:=x8.out;refine⟨?_,v8,?_,s9.out.trans Z⟩
    ·rw[show z=c.length+(Ex.mk ⟨Li n,v0,[],(plH (t::q)).1,(plH (t::q)).2⟩ [M]).size - 1 by simp [Ex.size,Bs];omega]
    rw[R9,←List.append_assoc,←Ho.out]
    exact w7)
   clear w7 Z y HN s9 hq6 l7 r9 z0 z1;exact zy9
 have j8:isH (Kf n) r=false:=by simpa using hp
 have v:=Hx.out;rw[Ao hp] at v;rw[←Hs.out] at j8;rw[j8] at hi;have y:=Ax v;clear Hx v;go_enter Tryz.func202,Tryz.ntmps202;go_wp2_with fail;refine hi.out.mono ?_;rintro e V1 ⟨rfl,g⟩;have hc:=HI.out X (n+1) d r V1 j c rF sY (H.out.below g) (Al hB g.size);rw[Int.natCast_succ] at hc;have Hc:=Ax hc;have m:=Ax g;clear hc g hi hp j8;go_wp2_with fail;refine Hc.out.mono ?_;rintro e V2 i;cases hq2:Bc (n+1) d r with
 |error p=>
  obtain⟨er,q2⟩:=p;rw[hq2] at i
  have HE:Hid (B5 w B X b Y ts d j c (Bc n d r) (D2 er) V2):=Ax (by
   rw[y.out,hq2];obtain⟨_,h2,h3⟩:=B5.pre i (Rch.of_below j m.out)
   exact⟨rfl,h2,h3⟩)
  obtain⟨rfl,_,_⟩:=i;clear hq2 y;exact zzh
 |ok p=>
  obtain⟨M,q2⟩:=p;rw[hq2] at i;obtain⟨rfl,v2,i,a8⟩:=i
  have HE:Hid (B5 w B X b Y ts d j c (Bc n d r) (.returned (.int .i64 ((c.length+M.size - 1:Nat):Int))) V2):=Ax (by
   rw[y.out,hq2]
   exact⟨rfl,v2,i,(Rch.of_below j m.out).trans a8⟩)
  clear hq2 y i a8;exact zy9
open Go Go.RowKit
theorem mM:(Tryz.prog.info? 3).map (fun i=>(i.zero,i.size,i.bytes))=some (some (.int .i64 0),1,8):=by kernel_rfl
theorem J4:∃i,Tryz.prog.info? 3=some i/\i.zero=some (.int .i64 0)/\i.size=1/\i.bytes=8:=by
 have h:=mM;cases hi:Tryz.prog.info? 3 with
 |none=>simp [hi] at h
 |some i=>
  exact zxn
theorem Cy.grow {w f w2:World}{B b d m:Nat}{X:List Nat}{i j vk o:Value}{ts r:List Tkn}{c:List Nd}{xs:List Value}(h:Cy w B (vk.ownBlock.toList++X) b i ts r d j c)(hk:w.ownsRow B 3 1 vk m xs)(hb:Below w.heap.size w f)(hg:f.grownBy w2 vk.ownBlock)
 (hv:∀g,o.ownBlock=some g->vk.ownBlock=some g\/w.heap.size<=g/\g<w2.heap.size):Cy w2 B (o.ownBlock.toList++X) b i ts r d j c:=by
 exact zzk
theorem Cy.free {w:World}{B b d:Nat}{X Y:List Nat}{i j:Value}{ts r:List Tkn}{c:List Nd}(h:Cy w B Y b i ts r d j c)(f:∀x∈X,x∈Y):Cy w B X b i ts r d j c:=
 ⟨h.suf,h.toks,h.nam,h.tl,h.hB,fun x k=>h.xl x (f x k),h.hd,h.big,h.few,h.blk,h.tree.imp (fun _ q=>q) fun _ _ _ m q=>⟨q,fun g e n=>m g e (f g n)⟩⟩
structure Ie (w:World)(B:Nat)(X:List Nat)(b:Nat)(vl:Value)(ts:List Tkn)(d:Nat)(vt:Value)(nds:List Nd)(c:Cl)(pc pp:Nat)(wr:World)(ks:List Ex)(rj:List Tkn)(vj vk:Value):Prop where
 rd:Cy wr B (vk.ownBlock.toList++X) b vl ts rj (d+1) vj (nds++Bz ks nds.length)
 row:wr.ownsRow B 3 1 vk ks.length (Ea (Db ks nds.length))
 new:∀g,vk.ownBlock=some g->w.heap.size<=g
 rch:Rch b w vt wr vj
 hc:wr.heap[pc]? =some (.cells #[.int .u8 c.op,.int .i64 (c.least:Int),.int .i64 (c.most:Int)] 233 (0,0))
 hp:wr.heap[pp]? =some (.cells #[.int .i64 c.line,.int .i64 c.col] 33 (0,0))
theorem Ie.below {w wr V:World}{B b d i j:Nat}{X:List Nat}{k m g vk:Value}{ts n:List Tkn}{e:List Nd}{c:Cl}{ks:List Ex}(h:Ie w B X b k ts d m e c i j wr ks n g vk)(f:Below wr.heap.size wr V):Ie w B X b k ts d m e c i j V ks n g vk:=
 ⟨h.rd.below f,Cg h.row f,h.new,h.rch.trans (Rch.of_below g f),(f.block _ (Ay h.hc)).trans h.hc,(f.block _ (Ay h.hp)).trans h.hp⟩
theorem Ie.turn {w wr V:World}{B b d n o:Nat}{X:List Nat}{m q j vk:Value}{ts r r':List Tkn}{f:List Nd}{c:Cl}{ks:List Ex}(h:Ie w B X b m ts d q f c n o wr ks r j vk)(k:Bb [b] wr V)
 (u:Cy V B (vk.ownBlock.toList++X) b m ts r' (d+1) j (f++Bz ks f.length)):Ie w B X b m ts d q f c n o V ks r' j vk:=by
 have i:∀{p:Nat} {cs:Array Value} {T:TypeId},wr.heap[p]? =some (.cells cs T (0,0))->130≠T->p∉[b]:=fun hp hT hm=>by
  simp at hm;subst hm;rw[h.rd.blk] at hp;exact zwp
 exact⟨u,Bj h.row k fun g e hm=>Bh h.row h.rd.blk rH tB,h.new,h.rch.trans (Rch.of_only j k),k.cells_of h.hc (i h.hc rH),k.cells_of h.hp (i h.hp rH)⟩
theorem Ie.more {w wr m x o:World}{B b d y A g n cap:Nat}{X:List Nat}{r C D vk v4:Value}{ts F E:List Tkn}{f:List Nd}{c:Cl}{ks:List Ex}{a:Ex}{z:Nat}(h:Ie w B X b r ts d C f c y A wr ks F D vk)
 (hr:Cy m B (vk.ownBlock.toList++X) b r ts E (d+1) v4 (f++Bz ks f.length++a.flat (f++Bz ks f.length).length)) (hch:Rch b wr D m v4) (G:z=f.length+Bs ks+a.size - 1) (hb:Below m.heap.size m x) (hg:x.grownBy o vk.ownBlock)
 (j:o.ownsRow B 3 1 (.slice (some ⟨g,0,none⟩) n cap) n (Ea (Db ks f.length)++[.int .i64 (z:Int)])) (I:n=ks.length+1) (hat:vk.ownBlock=some g\/m.heap.size<=g) (hlt:g<o.heap.size):
 Ie w B X b r ts d C f c y A o (ks++[a]) E v4 (.slice (some ⟨g,0,none⟩) n cap):=by
 have hrow4:m.ownsRow B 3 1 vk ks.length (Ea (Db ks f.length)):=Bj h.row hch.only fun g e hm=>by
  exact zw1
 have p:=hch.only.cells_of h.hc (h.rd.apart h.hc rH rH);have q:=hch.only.cells_of h.hp (h.rd.apart h.hp rH rH);have u:Bb vk.ownBlock.toList m o:=(Bb.of_below hb _).trans (Bb.of_grown hg _ fun k L=>by simp [L])
 have hfl:f++Bz ks f.length++a.flat (f++Bz ks f.length).length=f++Bz (ks++[a]) f.length:=by
  rw[Pz,List.append_assoc,Ab,Cx];simp [Bz]
 have v:Ea (Db ks f.length)++[.int .i64 (z:Int)]=Ea (Db (ks++[a]) f.length):=by
  rw[Rh,G];simp [Ea,Db]
 subst I;rw[v] at j;refine⟨?_,by simpa using j,fun g' e=>?_,⟨(h.rch.trans hch).only.step u fun i hi=> .inr (h.new i tM),(h.rch.trans hch).own⟩,u.cells_of p fun hm=>Bh hrow4 p rH sE,u.cells_of q fun hm=>Bh hrow4 q rH sE⟩
 ·exact zwu
 exact zwb
theorem Ys {s s':List UInt8}{r:List Tkn}(h:isH s r=true)(c:s≠s'):isH s' r=false:=by
 cases r with
 |nil=>cases h
 |cons t q=>
  simp only[isH,Bool.and_eq_true,decide_eq_true_eq] at h
  have:t.w.t≠s':=fun e=>c (h.1.symm.trans e)
  simp [isH,this]
theorem Tb (h:Hd)(ks:List Ex)(k:Nat):(Ex.mk h ks).flat k=Bz ks k++[⟨h,Db ks k⟩]:=by rw[Ex.flat]
theorem jX {k B b:Nat}{X:List Nat}{V:Value}{ts:List Tkn}(ih:K5 k B b V ts){d:Nat}{t:Tkn}{q:List Tkn}{w:World}{I:Value}{f:List Nd}(hk:Bu (.lvl 7) (t::q)<=k)(h:Cy w B X b V ts (t::q) d I f)(hB:B<=w.heap.size)
 (c:Cl) (wP:1<=c.most) (xL:c.most<=8):
 Calls Tryz.prog 205 #[.pointer (some ⟨b,0,none⟩),.agg #[.int .u8 c.op,.int .i64 (c.least:Int),.int .i64 (c.most:Int)],.agg #[.int .i64 c.line,.int .i64 c.col]] w (B5 w B X b V ts d I f (Cc d q fun N=>Gj c [] (d+1) N)):=by
 obtain⟨Wa,Z⟩:∃Wa,w.alloc (.cells #[.int .u8 c.op,.int .i64 (c.least:Int),.int .i64 (c.most:Int)] 233)=Wa:=⟨_,rfl⟩;have wQ:Wa.heap.size=w.heap.size+1:=by rw[←Z];simp
 obtain⟨Wb,a8⟩:∃Wb,Wa.alloc (.cells #[.int .i64 c.line,.int .i64 c.col] 33)=Wb:=⟨_,rfl⟩;have w9:=Az w (.cells #[.int .u8 c.op,.int .i64 (c.least:Int),.int .i64 (c.most:Int)] 233);have x8:=Az Wa (.cells #[.int .i64 c.line,.int .i64 c.col] 33);have uZ:Below w.heap.size w Wb:=by rw[←a8,←Z];exact((Aq _ w).alloc (Ak _) _).alloc rI _
 have vM:Below Wa.heap.size Wa Wb:=by rw[←a8];exact(Aq _ _).alloc (Ak _) _
 rw[Z] at w9;rw[a8,wQ] at x8;have vA:=(vM.block _ (Ay w9)).trans w9;have f8:=h.below uZ;obtain⟨c0,c1,c2,c3,cf⟩:=Dn f8.blk;have xM:=cf 1;have xF:=f8.big;have x9:=f8.step;have f9:=A3 Wb b 1 (.int .i64 (((ts.length - (q.length+1):Nat):Int)+1))
 have O:∀{p:Nat} {cs:Array Value} {T:TypeId},Wb.heap[p]? =some (.cells cs T (0,0))->130≠T->p∉[b]:=fun hp hT hm=>by
  simp at hm;subst hm;rw[f8.blk] at hp;exact zwp
 have vB:=f9.cells_of vA (O vA rH);have vC:=f9.cells_of x8 (O x8 rH);obtain⟨W1,i6⟩:∃W1,Wb.setCell ⟨b,1,none⟩ (.int .i64 (((ts.length - (q.length+1):Nat):Int)+1))=W1:=⟨_,rfl⟩;rw[i6] at x9 f9 vB vC;have uU:Rch b w I W1 I:=(Rch.of_below I uZ).trans (Rch.of_only I f9);have L:=Ax (Lp x9 [40]);have b7:=Ax x9;have vN:=Ax vB;have vO:=Ax vC;have vD:=Ax uU;have HI:=Ax ih;have H:=Ax h;clear h ih x9 f9 vB vC uU O f8 w9 x8 uZ vM vA cf;by_cases ho:isH [40] q=true
 ·obtain⟨t',N,rfl⟩:=C6 ho;rw[ho] at L;simp only[Aa] at i6;by_cases hd:d=12
  ·have HO:=Ax ho;have HD:=Ax hd;clear ho hd;go_enter Tryz.func205,Tryz.ntmps205;go_wp2_with fail;refine L.out.mono ?_;rintro e V1 ⟨rfl,v⟩;have hr:=b7.out.below v;have i7:=Ax (Px (HD.out▸hr))
   have HE:Hid (B5 w B X b V ts d I f (Cc d (t'::N) fun N=>Gj c [] (d+1) N) (D2 12) V1):=Ax (by
    unfold Cc;rw[Ap HO.out,Ap HD.out]
    exact⟨rfl,hr.err,vD.out.err (Bb.of_below v _)⟩)
   clear hr v L b7 Z a8 i6;go_wp2_with fail;refine i7.out.mono ?_;rintro e V4 ⟨rfl,rfl⟩;clear i7;exact zzh
  have HO:=Ax ho;have HD:=Ax hd;clear ho hd
  have hx:Cc d (t'::N) (fun N=>Gj c [] (d+1) N)=Gj c [] (d+1) N:=by
   unfold Cc;rw[Ap HO.out,Ao HD.out];rfl
  rw[hx];clear hx;obtain⟨xx,vE⟩:∃xx,Gj c [] (d+1) N=xx:=⟨_,rfl⟩;rw[vE];have HX:=Ax vE;clear vE;go_enter Tryz.func205,Tryz.ntmps205;go_wp2_with fail;refine L.out.mono ?_;rintro e V1 ⟨rfl,v⟩;have hr:=b7.out.below v;have i7:=Ax (Re hr HD.out);have y8:=Ax v;clear hr v L Z a8 i6;go_wp2_with fail;refine i7.out.mono ?_;rintro e V2 ⟨rfl,vP,vQ⟩;have i:=I3 vP [40];rw[HO.out] at i;simp only[if_true,List.tail_cons] at i;have y:=Ax i;have vR:=Ax vQ;clear i vQ vP i7;go_wp2_with fail;refine y.out.mono ?_;rintro e V3 ⟨rfl,vS,vT⟩
  have j8:∀{p:Nat} {cs:Array Value} {T:TypeId},W1.heap[p]? =some (.cells cs T (0,0))->130≠T->p∉[b]:=fun hp hT hm=>by
   simp at hm;subst hm;rw[b7.out.blk] at hp;exact zwp
  have y9:Bb [b] W1 V3:=((Bb.of_below y8.out _).trans vR.out).trans vT
  have HS:Hid (∃(ks:List Ex) (R:List Tkn) (vj vk:Value),(Value.slice none 0 0)=vk/\R.length<=N.length/\ks.length<c.most/\Gj c ks (d+1) R=xx/\Ie w B X b V ts d I f c w.heap.size (w.heap.size+1) V3 ks R vj vk):=Ax
   ⟨[],N,I,.slice none 0 0,rfl,Ak _,wP,HX.out,by simpa[Value.ownBlock,Bz] using vS,World.ownsRow_nil _ _ _ _,fun g e=>(by cases e),vD.out.trans (Rch.of_only I y9),
     y9.cells_of vN.out (j8 vN.out rH),y9.cells_of vO.out (j8 vO.out rH)⟩
  have vU:=H.out.few;simp only[Aa] at vU;clear j8 y9 vS vT y vR y8;go_wp2_with fail;obtain⟨i0,vV,vW,vX,vY⟩:=J4;have wR:=Ax vV;have wS:=Ax vW;have wT:=Ax vX;have wU:=Ax vY;clear vV vW vX vY
  go_loopw [7] (fun v7 wr=>Hid (∃(ks:List Ex) (R:List Tkn) (vj vk:Value),v7=vk/\R.length<=N.length/\ks.length<c.most/\Gj c ks (d+1) R=xx/\Ie w B X b V ts d I f c w.heap.size (w.heap.size+1) wr ks R vj vk)) (fun _ wr=>ts.length - I1 b wr)
  case atStart=>exact HS
  obtain⟨ks,R,vj,vk,rfl,xG,xN,j9,hC⟩:=hrel.out;obtain⟨ka,kc,rfl⟩:=D8 hC.row;have vZ:=Al hB hC.rch.only.size;have wA:Calls Tryz.prog 89 #[.pointer (some ⟨b,0,none⟩),.int .i64 0] wr _:=HI.out _ 0 (d+1) R wr vj (f++Bz ks f.length) rF sN hC.rd vZ;have wB:=Ax wA;have A:=Ax j9;have wV:=hC.rd.left;have HC:=Ax hC;clear hrel HS wA hC j9;go_wp2_with fail;refine wB.out.mono ?_;rintro e V4 b8;have hC:=HC.out;cases hq4:Bc 0 (d+1) R with
  |error p=>
   obtain⟨er,q4⟩:=p;rw[hq4] at b8
   have HE:Hid (B5 w B X b V ts d I f xx (D2 er) V4):=Ax (by
    rw[←A.out,Ji,hq4]
    exact⟨rfl,b8.2.1,hC.rch.err b8.2.2⟩)
   obtain⟨rfl,_,_⟩:=b8;clear hq4 hC HC;exact zzh
  |ok p=>
   obtain⟨a,q4⟩:=p;rw[hq4] at b8;obtain⟨rfl,v4,vF,W⟩:=b8;have xH:=Fm (n:=0) rF hq4;have xO:=a.size_pos;have wC:=(Dt (n:=0) rF hq4).2;have vG:=vF.few;simp only[Ab,Ex.flat_len,Cx] at vG
   have k8:V4.ownsRow B 3 1 (.slice ka ks.length kc) ks.length (Ea (Db ks f.length)):=Bj hC.row W.only fun g e hm=>by
    rcases hC.row.2 with ⟨e2,_⟩|⟨g',uR,xP,e2,_,wW,_⟩
    ·rw[e2] at e;cases e
    rw[e2] at e;simp only[Value.ownBlock,Option.some.injEq] at e;subst e;exact hC.rd.apart wW rH rH hm
   obtain⟨z,hz⟩:∃z:Nat,(f++Bz ks f.length).length+a.size - 1=z:=⟨_,rfl⟩;have wX:Hid (z=f.length+Bs ks+a.size - 1):=Ax (by rw[←hz];simp only[Ab,Cx]);rw[hz];have l7:=Ax (k8.alloc (.cells #[.int .i64 (z:Int)] 3));have wD:=Ax (Az V4 (.cells #[.int .i64 (z:Int)] 3));have xQ:=Al vZ W.only.size;have vH:Hid ((V4.alloc (.cells #[.int .i64 (z:Int)] 3)).heap.size=V4.heap.size+1):=Ax rI;have wE:=Ax vF;have n9:=Ax W;have wF:=(Aq V4.heap.size V4).alloc (Ak _) (.cells #[.int .i64 (z:Int)] 3);have wG:=Ax wF;have r:=Ji c ks (d+1) R;rw[hq4,A.out] at r;have p8:=Ax r;clear hz hC vF W k8 hq4 wF r;go_wp2_with ((refine wpList_append_lies _ rfl (.tmp 22) (.tmp 25) _ rfl B 3 i0 (.int .i64 0) 1 8 Tryz.underlying41 wR.out wS.out wT.out wU.out rfl rH (.slice ka ks.length kc) ks.length (Ea (Db ks f.length)) rfl l7.out ⟨V4.heap.size,0,none⟩ 1 1 [.int .i64 (z:Int)] rfl rfl (World.news_of_block (cs:= #[.int .i64 (z:Int)]) wD.out) rS rH rP rF (by rw[vH.out];omega) (V4.heap.size+1) vH.out ?_;intro g uR w6 r7 Y uV uW))
   have hM:=HC.out.more wE.out n9.out wX.out wG.out Y r7 rfl (by
    rcases uV with e|e
    ·exact .inl e
    exact .inr rF) uW
   have xR:=n9.out.only.size;clear Y r7 uV uW wE n9 wG l7 wD vH HC wB;have G:=Ax (Lp hM.rd [44]);have HM:=Ax hM;have xS:=hM.rch.only.size;clear hM;go_wp2_with fail;refine G.out.mono ?_;rintro e V7 ⟨rfl,wH⟩;have C:=HM.out.below wH;clear wH HM G;obtain⟨m1,M⟩:∃m1,isH [44] q4=m1:=⟨_,rfl⟩;rw[M];obtain⟨z0,z1,z2,_⟩:=Km C.hc;cases m1 with
   |true=>
    have uS:=Ys (s':=[41]) M rH;have r:=p8.out;simp only[ExR.next,M,uS,Bool.true_and,Bool.false_and,Bool.or_false,if_true] at r;by_cases hmost:ks.length+1=c.most
    ·rw[Ap (by simpa using hmost)] at r
     have HE:Hid (B5 w B X b V ts d I f xx (D2 14) V7):=Ax (by
      rw[r]
      exact⟨rfl,C.rd.err,C.rch.only⟩)
     have f1:((((ks.length+1:Nat):Int))==(c.most:Int))=true:=by simp;omega
     have f2:(((ks.length:Int)+1)==(c.most:Int))=true:=by simp;omega
     have d8:=Ax C;clear C r M uS p8 HX A hmost;exact zzh
    rw[Ao (by simpa using hmost)] at r;have xT:ks.length+1<c.most:=by omega
    obtain⟨t4,q5,rfl⟩:=C6 M;have f1:((((ks.length+1:Nat):Int))==(c.most:Int))=false:=by simp;omega
    have f2:(((ks.length:Int)+1)==(c.most:Int))=false:=by simp;omega
    have G:=Ax (Lp C.rd [41]);rw[uS] at G;have d8:=Ax C;have D:=Ax r;clear C r M uS p8 HX A hmost;go_wp2_with fail;refine G.out.mono ?_;rintro e V8 ⟨rfl,r8⟩;have j:=d8.out.below r8;obtain⟨wY,wZ,xA,xB,r9⟩:=Dn j.rd.blk;have xI:=r9 1;have vI:=j.turn (A3 V8 b 1 (.int .i64 (((ts.length - (q5.length+1):Nat):Int)+1))) j.rd.step;simp only[Aa] at wC
    have HP:Hid (∃(kt:List Ex) (R:List Tkn) (vj vk:Value),(Value.slice (some ⟨g,0,none⟩) (ks.length+1) uR)=vk/\R.length<=N.length/\kt.length<c.most/\Gj c kt (d+1) R=xx/\Ie w B X b V ts d I f c w.heap.size (w.heap.size+1) (V8.setCell ⟨b,1,none⟩ (.int .i64 (((ts.length - (q5.length+1):Nat):Int)+1))) kt R vj vk):=
     Ax ⟨ks++[a],q5,v4,_,rfl,by omega,by simp;omega,D.out.symm,vI⟩
    have xC:ts.length - I1 b (V8.setCell ⟨b,1,none⟩ (.int .i64 (((ts.length - (q5.length+1):Nat):Int)+1)))<ts.length - I1 b wr:=by
     rw[vI.rd.left,wV];omega
    clear j vI r8 d8 G D r9 z0 z1 z2;go_wp2_with fail;go_roundw
    case rel=>exact HP
    case measure=>exact xC
   |false=>
    have r:=p8.out;simp only[ExR.next,M,Bool.false_and,Bool.false_or,Bool.false_eq_true,if_false] at r;have G:=Ax (Lp C.rd [41]);have d8:=Ax C;have D:=Ax r;clear C r M p8 HX A;go_wp2_with fail;refine G.out.mono ?_;rintro e V8 ⟨rfl,r8⟩;have j:=d8.out.below r8;obtain⟨m2,E⟩:∃m2,isH [41] q4=m2:=⟨_,rfl⟩;rw[E];have o:=D.out;rw[E] at o;obtain⟨z0,z1,z2,_⟩:=Km j.hc;clear r8 G d8 D;cases m2 with
    |true=>
     simp only[Bool.true_and] at o;by_cases hle:ks.length+1<c.least
     ·rw[Ap (by simpa using hle)] at o
      have HE:Hid (B5 w B X b V ts d I f xx (D2 14) V8):=Ax (by
       rw[o]
       exact⟨rfl,j.rd.err,j.rch.only⟩)
      have f1:decide ((((ks.length+1:Nat):Int))<(c.least:Int))=true:=by simp;omega
      have f2:decide (((ks.length:Int)+1)<(c.least:Int))=true:=by simp;omega
      have f3:((ks.length:Int)+1)<(c.least:Int):=by omega
      have f7:=Ax j;clear j o E hle;exact zzh
     rw[Ao (by simpa using hle)] at o;unfold D4 at o;rw[Ap E] at o;obtain⟨t4,q5,rfl⟩:=C6 E;have i:=I3 j.rd [41];rw[E] at i;simp only[if_true,List.tail_cons] at i o;have y:=Ax i;have f1:decide ((((ks.length+1:Nat):Int))<(c.least:Int))=false:=by simp;omega
     have f2:decide (((ks.length:Int)+1)<(c.least:Int))=false:=by simp;omega
     have f3:(c.least:Int)<=((ks.length:Int)+1):=by omega
     have xD:(f++Bz (ks++[a]) f.length).length+1+q5.length<=1000000:=by
      have:=j.rd.few
      simp only[Aa] at this;omega
     have f7:=Ax j;have D:=Ax o;clear j o E hle i;go_wp2_with fail;refine y.out.mono ?_;rintro e V9 ⟨rfl,wI,wJ⟩;have m:=f7.out.turn wJ wI;clear y f7 wI wJ z0 z1 z2;obtain⟨wY,wZ,xA,xB,r9⟩:=Dn m.rd.blk;have xJ:=r9 2;have xK:=H.out.hd;have wK:=xD;have s7:=m.rd.deep (d':=d) rF;have F:=A3 V9 b 2 (.int .i64 (d:Int))
     have O:∀{p:Nat} {cs:Array Value} {T:TypeId},V9.heap[p]? =some (.cells cs T (0,0))->130≠T->p∉[b]:=fun hp hT hm=>by
      simp at hm;subst hm;rw[m.rd.blk] at hp;exact zwp
     have s8:=F.cells_of m.hc (O m.hc rH);have s9:=F.cells_of m.hp (O m.hp rH);have u:=Bj m.row F fun x e hm=>Bh m.row m.rd.blk rH tB
     obtain⟨uT,uX⟩:∃uT,V9.setCell ⟨b,2,none⟩ (.int .i64 (d:Int))=uT:=⟨_,rfl⟩;rw[uX] at s7 F s8 s9 u;obtain⟨z0,z1,z2,_⟩:=Km s8;obtain⟨y0,y1,_⟩:=Bf s9;have U:=m.rch.trans (Rch.of_only v4 F);have wL:(Db (ks++[a]) f.length).length=ks.length+1:=by rw[Kb];simp
     have vJ:Calls Tryz.prog 209 #[.pointer (some ⟨b,0,none⟩),.agg #[.int .u8 c.op,.int .u8 0,.int .i64 0,.string ⟨#[]⟩,.string ⟨#[]⟩,.slice none 0 0,.int .i64 c.line,.int .i64 c.col],.slice (some ⟨g,0,none⟩) (ks.length+1) uR]
      uT (fun e w'=>e= .returned (.int .i64 ((f++Bz (ks++[a]) f.length).length:Int))/\∃wM,Cy w' B X b V ts q5 d wM (f++Bz (ks++[a]) f.length++[⟨⟨c.op,v0,[],c.line,c.col⟩,Db (ks++[a]) f.length⟩])/\Rch b uT v4 w' wM):=by
      have hq:=N9 (s7.free fun x hx=>List.mem_append.2 (.inr hx)) wK (Al hB U.only.size) ⟨c.op,v0,[],c.line,c.col⟩ (Db (ks++[a]) f.length) (some ⟨g,0,none⟩) uR (by rw[wL];rw[Ab] at u;exact u) (fun x hx hm=>by
       simp only[Value.ownBlock,Option.some.injEq] at hx;subst hx;have h1:=m.new g rfl;have h2:=H.out.xl g hm
       omega)
      rw[wL] at hq;exact hq
     obtain⟨zz,vK⟩:∃zz:Nat,(f++Bz (ks++[a]) f.length).length=zz:=⟨_,rfl⟩;rw[vK] at vJ;have wN:Hid (zz=f.length+Bs (ks++[a])):=Ax (by rw[←vK];simp only[Ab,Cx]);have HN:=Ax vJ;have w7:=Ax U;clear vK vJ U u s9 s8 F s7 O r9 m;go_wp2_with fail;refine HN.out.mono ?_;rintro e xE ⟨rfl,v11,uY,w8⟩
     have HE:Hid (B5 w B X b V ts d I f xx (.returned (.int .i64 (zz:Int))) xE):=Ax (by
      rw[D.out];refine⟨?_,v11,?_,w7.out.trans w8⟩
      ·rw[wN.out];rfl
      rw[Tb,←List.append_assoc]
      exact uY)
     clear uY w8 HN w7 D uX z0 z1 z2 y0 y1;exact zy9
    |false=>
     simp only[Bool.false_and,Bool.false_eq_true,if_false] at o;unfold D4 at o;rw[Ao (by rw[E];decide)] at o;have i:=I3 j.rd [41];rw[E] at i;simp only[Bool.false_eq_true,if_false] at i;have y:=Ax i;have f7:=Ax j;have D:=Ax o;clear j o E i;go_wp2_with fail;refine y.out.mono ?_;rintro e V9 ⟨rfl,wO⟩;have m:=f7.out.below wO
     have HE:Hid (B5 w B X b V ts d I f xx (D2 4) V9):=Ax (by
      rw[D.out]
      exact⟨rfl,m.rd.err,m.rch.only⟩)
     clear m y f7 wO;exact zzh
 have HO:Hid (isH [40] q=false):=Ax (by simpa using ho);rw[HO.out] at L;clear ho;go_enter Tryz.func205,Tryz.ntmps205;go_wp2_with fail;refine L.out.mono ?_;rintro e V1 ⟨rfl,v⟩;have hr:=b7.out.below v;have i:=I3 hr [40];rw[HO.out] at i;simp only[Bool.false_eq_true,if_false] at i;have y:=Ax i;have HR:=Ax hr;have y8:=Ax v;clear hr v L i b7 Z a8 i6;go_wp2_with fail;refine y.out.mono ?_;rintro e V2 ⟨rfl,vL⟩
 have HE:Hid (B5 w B X b V ts d I f (Cc d q fun N=>Gj c [] (d+1) N) (D2 4) V2):=Ax (by
  unfold Cc;rw[HO.out]
  exact⟨rfl,(HR.out.below vL).err,vD.out.err ((Bb.of_below y8.out _).trans (Bb.of_below (vL.mono (Ak _)) _))⟩)
 clear vL y;exact zzh
end Go.Proofs.YtgfakdobajgnfaaGreatDoor
