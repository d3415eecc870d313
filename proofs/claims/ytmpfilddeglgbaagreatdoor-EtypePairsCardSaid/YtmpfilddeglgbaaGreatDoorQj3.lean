import Derived.Deep.CutBlock
import Derived.Carry
import Derived.Test.YtmpfilddeglgbaaGreatDoorQj2
set_option maxRecDepth 100000
set_option maxHeartbeats 16000000
namespace Go.Proofs.YtmpfilddeglgbaaGreatDoor
open Go Go.RowKit
def pR (v:Int×Int×List UInt8):Value:= .agg #[.int .u8 v.1,.int .i64 v.2.1,.string ⟨v.2.2.toArray⟩]
theorem sS (w:World):(zeroValue 35).run Tryz.prog w= .ok (.agg #[.int .u8 0,.int .i64 0,.string ⟨#[]⟩]) w:=by kernel_rfl
theorem sO (w:World):(zeroValue 242).run Tryz.prog w= .ok (.agg #[.int .u8 0,.int .i64 0,.int .i64 0]) w:=by kernel_rfl
theorem Du (a k:List UInt8)(v:Value)(l:List (List UInt8×Value)):Pp ((a,v)::l) k=if k=a then some v else Pp l k:=by
 unfold Pp;by_cases h:k=a
 ·subst h;simp
 have:(a==k)=false:=by simpa using fun e=>h e.symm
 simp [h,this]
theorem Uw (k:List UInt8):Pp [] k=none:=rfl
theorem Lv {w:World}{b:Nat}{x y z:Value}{t:TypeId}(h:w.heap[b]? =some (.cells #[x,y,z] t (0,0))):w.cell? ⟨b,0,none⟩=some x/\w.cell? ⟨b,1,none⟩=some y/\w.cell? ⟨b,2,none⟩=some z/\∀i,w.frozen? ⟨b,i,none⟩=false:=
 ⟨by simp only[World.cell?,h];rfl,by simp only[World.cell?,h];rfl,by simp only[World.cell?,h];rfl,fun i=>by simp only[World.frozen?,h];simp⟩
def eQ (c:Int×Nat×Nat):Value:= .agg #[.int .u8 c.1,.int .i64 (c.2.1:Int),.int .i64 (c.2.2:Int)]
def sE:List (List UInt8×Value):=[([116,114,117,101],.agg #[.int .u8 4,.int .i64 1,.string ⟨#[]⟩]),([102,97,108,115,101],.agg #[.int .u8 4,.int .i64 0,.string ⟨#[]⟩]),([110,117,108,108],.agg #[.int .u8 0,.int .i64 0,.string ⟨#[]⟩])]
theorem gT (s:List UInt8):Pp sE s=(Lf s).map pR:=by
 unfold sE Lf;rw[Du,Du,Du,Uw]
 repeat' split
 all_goals rfl
theorem Yx (s:List UInt8)(w:World):Calls Tryz.prog 161 #[.string ⟨s.toArray⟩] w fun e w'=>e= .returned (.tuple #[pR ((Lf s).getD v0),.bool (Lf s).isSome])/\Below w.heap.size w w':=by
 obtain⟨W0,hW0⟩:∃W0,w.alloc (.cells #[.int .u8 0,.int .i64 0,.string ⟨#[]⟩] 35)=W0:=⟨_,rfl⟩;have hb0:Below w.heap.size w W0:=by rw[←hW0];exact(Aq w.heap.size w).alloc (Ak _) _
 have hbx:=A1 w (.cells #[.int .u8 0,.int .i64 0,.string ⟨#[]⟩] 35);have hz0:W0.heap.size=w.heap.size+1:=by rw[←hW0];simp
 rw[hW0] at hbx;have m0:=R4.new W0;have ha:Below W0.heap.size W0 (W0.alloc (.map #[] 0)):=(Aq _ _).alloc (Ak _) _;have hm0:(W0.alloc (.map #[] 0)).heap.size=W0.heap.size+1:=by simp
 obtain⟨M0,hM0⟩:∃M0,W0.alloc (.map #[] 0)=M0:=⟨_,rfl⟩;rw[hM0,hz0] at m0;rw[hM0] at ha hm0;obtain⟨M1,e1,m1,o1,z1⟩:=E9 (P:=Tryz.prog) (t:=276) Tryz.underlying276 Tryz.underlying9 m0 [116,114,117,101] (.agg #[.int .u8 4,.int .i64 1,.string ⟨#[]⟩]) tG;obtain⟨M2,e2,m2,o2,z2⟩:=E9 (P:=Tryz.prog) (t:=276) Tryz.underlying276 Tryz.underlying9 m1 [102,97,108,115,101] (.agg #[.int .u8 4,.int .i64 0,.string ⟨#[]⟩]) tG;obtain⟨M3,e3,m3,o3,z3⟩:=E9 (P:=Tryz.prog) (t:=276) Tryz.underlying276 Tryz.underlying9 m2 [110,117,108,108] (.agg #[.int .u8 0,.int .i64 0,.string ⟨#[]⟩]) tG;have hlk:=Rk (P:=Tryz.prog) (t:=276) Tryz.underlying276 Tryz.underlying9 m3 (sS M3) s;rw[show([]:List (List UInt8×Value))++[([116,114,117,101],.agg #[.int .u8 4,.int .i64 1,.string ⟨#[]⟩])]++[([102,97,108,115,101],.agg #[.int .u8 4,.int .i64 0,.string ⟨#[]⟩])]++[([110,117,108,108],.agg #[.int .u8 0,.int .i64 0,.string ⟨#[]⟩])]=sE from rfl,gT] at hlk;have hO:Bc [w.heap.size+1] M0 M3:=((o1.trans o2).trans o3);have hB3:Below w.heap.size w M3:=Bv (hb0.trans (ha.mono tE)) hO tH tE;have hx3:M3.heap[w.heap.size]? =some (.cells #[.int .u8 0,.int .i64 0,.string ⟨#[]⟩] 35 (0,0)):=(hO.block _ tE tH).trans ((ha.block _ tE).trans hbx);have HW0:=Ax hW0;have HB3:=Ax hB3;have Hx3:=Ax hx3;have Hlk:=Ax hlk;have hlt:=Ay hx3;have hmm:= @run_makeMap Tryz.prog;clear hW0 hb0 hbx ha hm0 m0 m1 m2 m3 o1 z1 o2 z2 o3 z3 hO hB3 hx3 hlk;go_enter Tryz.func161,Tryz.ntmps161;go_upto_region 1 with fail
 rw[HW0.out];clear HW0;cases hl:Lf s with
 |none=>
  have hlk:=Hlk.out;rw[hl] at hlk;simp only[Option.map_none,G1] at hlk;obtain⟨f0,f1,f2⟩:=Lv Hx3.out;have Hl:=Ax hl;clear hl Hlk;go_wp2_with fail;refine Au (v:= .tuple #[.agg #[.int .u8 0,.int .i64 0,.string ⟨#[]⟩],.bool false]) (by simp [results,Tryz.results161,go_sem, *]) rfl ?_;exact zyh
 |some v=>
  have hlk:=Hlk.out;rw[hl] at hlk;simp only[Option.map_some,G1] at hlk;obtain⟨vk,vn,vs⟩:=v;simp only[pR] at hlk;obtain⟨f0,f1,f2⟩:=Lv Hx3.out;have Hl:=Ax hl;clear hl Hlk;go_wp2_with fail;refine Au (v:= .tuple #[.agg #[.int .u8 vk,.int .i64 vn,.string ⟨vs.toArray⟩],.bool true]) (by simp [results,Tryz.results161,go_sem, *]) rfl ?_;exact zyh
def lT:List (List UInt8×Value):=[([97,98,115],.agg #[.int .u8 18,.int .i64 1,.int .i64 1]),([109,105,110],.agg #[.int .u8 19,.int .i64 1,.int .i64 8]),([109,97,120],.agg #[.int .u8 20,.int .i64 1,.int .i64 8]),([109,111,100],.agg #[.int .u8 21,.int .i64 2,.int .i64 2]),([108,101,110,103,116,104],.agg #[.int .u8 22,.int .i64 1,.int .i64 1]),([117,112,112,101,114],.agg #[.int .u8 23,.int .i64 1,.int .i64 1]),([99,111,110,116,97,105,110,115],.agg #[.int .u8 24,.int .i64 2,.int .i64 2]),([115,116,97,114,116,115],.agg #[.int .u8 25,.int .i64 2,.int .i64 2]),([105,102],.agg #[.int .u8 26,.int .i64 3,.int .i64 3])]
theorem bV (s:List UInt8):Pp lT s=(De s).map eQ:=by
 unfold lT De;rw[Du,Du,Du,Du,Du,Du,Du,Du,Du,Uw]
 repeat' split
 all_goals rfl
theorem iR (s:List UInt8)(w:World):Calls Tryz.prog 162 #[.string ⟨s.toArray⟩] w fun e w'=>e= .returned (.tuple #[eQ ((De s).getD (0,0,0)),.bool (De s).isSome])/\Below w.heap.size w w':=by
 obtain⟨W0,hW0⟩:∃W0,w.alloc (.cells #[.int .u8 0,.int .i64 0,.int .i64 0] 242)=W0:=⟨_,rfl⟩;have hb0:Below w.heap.size w W0:=by rw[←hW0];exact(Aq w.heap.size w).alloc (Ak _) _
 have hbx:=A1 w (.cells #[.int .u8 0,.int .i64 0,.int .i64 0] 242);have hz0:W0.heap.size=w.heap.size+1:=by rw[←hW0];simp
 rw[hW0] at hbx;have m0:=R4.new W0;have ha:Below W0.heap.size W0 (W0.alloc (.map #[] 0)):=(Aq _ _).alloc (Ak _) _;have hm0:(W0.alloc (.map #[] 0)).heap.size=W0.heap.size+1:=by simp
 obtain⟨M0,hM0⟩:∃M0,W0.alloc (.map #[] 0)=M0:=⟨_,rfl⟩;rw[hM0,hz0] at m0;rw[hM0] at ha hm0;obtain⟨M1,e1,m1,o1,z1⟩:=E9 (P:=Tryz.prog) (t:=277) Tryz.underlying277 Tryz.underlying9 m0 [97,98,115] (.agg #[.int .u8 18,.int .i64 1,.int .i64 1]) tG;obtain⟨M2,e2,m2,o2,z2⟩:=E9 (P:=Tryz.prog) (t:=277) Tryz.underlying277 Tryz.underlying9 m1 [109,105,110] (.agg #[.int .u8 19,.int .i64 1,.int .i64 8]) tG;obtain⟨M3,e3,m3,o3,z3⟩:=E9 (P:=Tryz.prog) (t:=277) Tryz.underlying277 Tryz.underlying9 m2 [109,97,120] (.agg #[.int .u8 20,.int .i64 1,.int .i64 8]) tG;obtain⟨M4,e4,m4,o4,z4⟩:=E9 (P:=Tryz.prog) (t:=277) Tryz.underlying277 Tryz.underlying9 m3 [109,111,100] (.agg #[.int .u8 21,.int .i64 2,.int .i64 2]) tG;obtain⟨M5,e5,m5,o5,z5⟩:=E9 (P:=Tryz.prog) (t:=277) Tryz.underlying277 Tryz.underlying9 m4 [108,101,110,103,116,104] (.agg #[.int .u8 22,.int .i64 1,.int .i64 1]) tG;obtain⟨M6,e6,m6,o6,z6⟩:=E9 (P:=Tryz.prog) (t:=277) Tryz.underlying277 Tryz.underlying9 m5 [117,112,112,101,114] (.agg #[.int .u8 23,.int .i64 1,.int .i64 1]) tG;obtain⟨M7,e7,m7,o7,z7⟩:=E9 (P:=Tryz.prog) (t:=277) Tryz.underlying277 Tryz.underlying9 m6 [99,111,110,116,97,105,110,115] (.agg #[.int .u8 24,.int .i64 2,.int .i64 2]) tG;obtain⟨M8,e8,m8,o8,z8⟩:=E9 (P:=Tryz.prog) (t:=277) Tryz.underlying277 Tryz.underlying9 m7 [115,116,97,114,116,115] (.agg #[.int .u8 25,.int .i64 2,.int .i64 2]) tG;obtain⟨M9,e9,m9,o9,z9⟩:=E9 (P:=Tryz.prog) (t:=277) Tryz.underlying277 Tryz.underlying9 m8 [105,102] (.agg #[.int .u8 26,.int .i64 3,.int .i64 3]) tG;have hlk:=Rk (P:=Tryz.prog) (t:=277) Tryz.underlying277 Tryz.underlying9 m9 (sO M9) s;rw[show([]:List (List UInt8×Value))++[([97,98,115],.agg #[.int .u8 18,.int .i64 1,.int .i64 1])]++[([109,105,110],.agg #[.int .u8 19,.int .i64 1,.int .i64 8])]++[([109,97,120],.agg #[.int .u8 20,.int .i64 1,.int .i64 8])]++[([109,111,100],.agg #[.int .u8 21,.int .i64 2,.int .i64 2])]++[([108,101,110,103,116,104],.agg #[.int .u8 22,.int .i64 1,.int .i64 1])]++[([117,112,112,101,114],.agg #[.int .u8 23,.int .i64 1,.int .i64 1])]++[([99,111,110,116,97,105,110,115],.agg #[.int .u8 24,.int .i64 2,.int .i64 2])]++[([115,116,97,114,116,115],.agg #[.int .u8 25,.int .i64 2,.int .i64 2])]++[([105,102],.agg #[.int .u8 26,.int .i64 3,.int .i64 3])]=lT from rfl,bV] at hlk;have hO:Bc [w.heap.size+1] M0 M9:=((((((((o1.trans o2).trans o3).trans o4).trans o5).trans o6).trans o7).trans o8).trans o9);have hB3:Below w.heap.size w M9:=Bv (hb0.trans (ha.mono tE)) hO tH tE;have hx3:M9.heap[w.heap.size]? =some (.cells #[.int .u8 0,.int .i64 0,.int .i64 0] 242 (0,0)):=(hO.block _ tE tH).trans ((ha.block _ tE).trans hbx);have HW0:=Ax hW0;have HB3:=Ax hB3;have Hx3:=Ax hx3;have Hlk:=Ax hlk;have hlt:=Ay hx3;have hmm:= @run_makeMap Tryz.prog;clear hW0 hb0 hbx ha hm0 m0 m1 m2 m3 m4 m5 m6 m7 m8 m9 o1 z1 o2 z2 o3 z3 o4 z4 o5 z5 o6 z6 o7 z7 o8 z8 o9 z9 hO hB3 hx3 hlk;go_enter Tryz.func162,Tryz.ntmps162;go_upto_region 1 with fail
 rw[HW0.out];clear HW0;cases hl:De s with
 |none=>
  have hlk:=Hlk.out;rw[hl] at hlk;simp only[Option.map_none,G1] at hlk;obtain⟨f0,f1,f2⟩:=Lv Hx3.out;have Hl:=Ax hl;clear hl Hlk;go_wp2_with fail;refine Au (v:= .tuple #[.agg #[.int .u8 0,.int .i64 0,.int .i64 0],.bool false]) (by simp [results,Tryz.results162,go_sem, *]) rfl ?_;exact zyh
 |some v=>
  have hlk:=Hlk.out;rw[hl] at hlk;simp only[Option.map_some,G1] at hlk;obtain⟨c1,c2,c3⟩:=v;simp only[eQ] at hlk;obtain⟨f0,f1,f2⟩:=Lv Hx3.out;have Hl:=Ax hl;clear hl Hlk;go_wp2_with fail;refine Au (v:= .tuple #[.agg #[.int .u8 c1,.int .i64 (c2:Int),.int .i64 (c3:Int)],.bool true]) (by simp [results,Tryz.results162,go_sem, *]) rfl ?_;exact zyh
open Go Go.RowKit
def B7 (w:World)(B:Nat)(X:List Nat)(b:Nat)(vl:Value)(ts:List Tkn)(d:Nat)(vt:Value)(nds:List Nd)(x:ExR)(e:Ending)(w':World):Prop:=
 match x with
 | .ok p=>e= .returned (.int .i64 ((nds.length+p.1.size - 1:Nat):Int))/\∃vt',Cz w' B X b vl ts p.2 d vt' (nds++p.1.flat nds.length)/\Rch b w vt w' vt'
 | .error p=>e=Ee p.1/\jS w' b vl (ts.length - p.2.length)/\Bc (b::vt.ownBlock.toList) w w'
def Mc (k B b:Nat)(vl:Value)(ts:List Tkn):Prop:=∀(X:List Nat) (n d:Nat) (r:List Tkn) (w:World) (vt:Value) (nds:List Nd),n<=7->B2 (.lvl n) r<k->Cz w B X b vl ts r d vt nds->B<=w.heap.size->
 Calls Tryz.prog 66 #[.pointer (some ⟨b,0,none⟩),.int .i64 (n:Int)] w (B7 w B X b vl ts d vt nds (A9 n d r))
theorem B7.pre {w w1 w':World}{B b d:Nat}{X:List Nat}{vl vt v1:Value}{ts:List Tkn}{nds1:List Nd}{er:Int}{q:List Tkn}{e:Ending}(h:B7 w1 B X b vl ts d v1 nds1 (.error (er,q)) e w')(hr:Rch b w vt w1 v1):
 e=Ee er/\jS w' b vl (ts.length - q.length)/\Bc (b::vt.ownBlock.toList) w w':=⟨h.1,h.2.1,hr.err h.2.2⟩
theorem Cz.err {w:World}{B b d:Nat}{X:List Nat}{vl vt:Value}{ts r:List Tkn}{nds:List Nd}(h:Cz w B X b vl ts r d vt nds):jS w b vl (ts.length - r.length):=⟨_,_,h.blk⟩
theorem Bc.cells_of {S:List Nat}{w w':World}{p:Nat}{o:Obj}(h:Bc S w w')(hp:w.heap[p]? =some o)(hn:p∉S):w'.heap[p]? =some o:=(h.block p (Ay hp) hn).trans hp
theorem Cz.apart {w:World}{B b d p:Nat}{X:List Nat}{vl vt:Value}{ts r:List Tkn}{nds:List Nd}{cs:Array Value}{t:TypeId}(h:Cz w B X b vl ts r d vt nds)(hp:w.heap[p]? =some (.cells cs t (0,0)))(h1:150≠t)(h2:38≠t):p∉b::vt.ownBlock.toList:=by
 exact zw5
def Jz (b:Nat)(w:World):Nat:=match w.cell? ⟨b,1,none⟩ with|some v=>(intOf v).toNat|none=>0
theorem Cz.left {w:World}{B b d:Nat}{X:List Nat}{vl vt:Value}{ts r:List Tkn}{nds:List Nd}(h:Cz w B X b vl ts r d vt nds):ts.length - Jz b w=r.length:=by
 obtain⟨_,c1,_⟩:=Dx h.blk
 have:=h.suf.len
 unfold Jz;rw[c1];simp only[intOf];omega
theorem F5 {n d:Nat}{r:List Tkn}{a:Ex}{q:List Tkn}(h7:n<=7)(h:A9 n d r= .ok (a,q)):a.size+q.length<=r.length:=kN (.lvl n) d r h7 a q h
theorem Yn (h:Hd)(a b:Ex)(k:Nat):(Ex.mk h [a,b]).flat k=a.flat k++b.flat (k+a.size)++[⟨h,[k+a.size - 1,k+a.size+b.size - 1]⟩]:=by
 simp [Ex.flat,Bz,Ct]
theorem S5 (h:Hd)(a:Ex)(k:Nat):(Ex.mk h [a]).flat k=a.flat k++[⟨h,[k+a.size - 1]⟩]:=by
 simp [Ex.flat,Bz,Ct]
theorem Rs (w:World)(B i j:Nat)(hB:B<=w.heap.size):(w.alloc (.cells #[.int .i64 (i:Int),.int .i64 (j:Int)] 3)).ownsRow B 3 1 (.slice (some ⟨w.heap.size,0,none⟩) [i,j].length 2) [i,j].length (Gq [i,j]):=
 ⟨rfl,.inr ⟨w.heap.size,2,_,rfl,hB,A1 w _,Ak _,by decide,rfl,rfl⟩⟩
theorem P1 {k B b:Nat}{X:List Nat}{vl:Value}{ts:List Tkn}(ih:Mc k B b vl ts){n d:Nat}{r:List Tkn}{w:World}{vt:Value}{nds:List Nd}(h5:n<=5)(hn2:n≠2)(hk:B2 (.lvl n) r<=k)(h:Cz w B X b vl ts r d vt nds)(hB:B<=w.heap.size)
 {g m:Nat} {l:List (List UInt8×Int)} (hl:l=Bp n) (hlm:l.length=m) (hm:m<=6) (ho:N5 w g l) (many:Bool) (hmany:Hid (many=decide (n≠3))):
 Calls Tryz.prog 159 #[.pointer (some ⟨b,0,none⟩),.int .i64 (n:Int),.bool many,.slice (some ⟨g,0,none⟩) m m] w (B7 w B X b vl ts d vt nds (A9 n d r)):=by
 have hc:=ih X (n+1) d r w vt nds tE uX h hB;rw[Int.natCast_succ] at hc;have hx:=D1 (d:=d) (r:=r) h5 hn2;have Hx:=Ax hx;have Hc:=Ax hc;have H:=Ax h;have Ho:=Ax ho;have HI:=Ax ih;have hn5:(n:Int)<=5:=by omega
 have hg:=Ay ho;have hga:=Ax (h.apart ho tG tG);clear hc h ho hx ih;go_enter Tryz.func159,Tryz.ntmps159;go_wp2_with fail;refine Hc.out.mono ?_;rintro e V1 hp;cases hq1:A9 (n+1) d r with
 |error p=>
  obtain⟨er,q⟩:=p;rw[hq1] at hp;obtain⟨rfl,hp1,hp2⟩:=hp
  have HE:Hid (B7 w B X b vl ts d vt nds (A9 n d r) (Ee er) V1):=Ax (by
   rw[Hx.out,hq1]
   exact⟨rfl,hp1,hp2⟩)
  clear hp1 hp2 hq1 Hx;exact zzj
 |ok p=>
  obtain⟨a,q⟩:=p;rw[hq1] at hp;obtain⟨rfl,v1,hp1,hp2⟩:=hp;have hsz:=F5 (n:=n+1) tE hq1;have hlen:=(Dz (n:=n+1) tE hq1).2;have hfew:=H.out.few
  have HS:Hid (∃(aj:Ex) (rj:List Tkn) (vj:Value),(Value.int .i64 ((nds.length+a.size - 1:Nat):Int))= .int .i64 ((nds.length+aj.size - 1:Nat):Int)/\rj.length<r.length/\aj.size+rj.length<=r.length/\Cz V1 B X b vl ts rj d vj (nds++aj.flat nds.length)/\Rch b w vt V1 vj/\Ty n aj d rj=A9 n d r):=
   Ax ⟨a,q,v1,rfl,hlen,hsz,hp1,hp2,by rw[Hx.out,hq1];rfl⟩
  clear hp1 hp2 hq1 Hx Hc hsz hlen;go_wp2_with fail
  go_loopw [9] (fun v9 wr=>Hid (∃(aj:Ex) (rj:List Tkn) (vj:Value),v9= .int .i64 ((nds.length+aj.size - 1:Nat):Int)/\rj.length<r.length/\aj.size+rj.length<=r.length/\Cz wr B X b vl ts rj d vj (nds++aj.flat nds.length)/\Rch b w vt wr vj/\Ty n aj d rj=A9 n d r)) (fun _ wr=>ts.length - Jz b wr)
  case atStart=>exact HS
  obtain⟨aj,rj,vj,rfl,hj1,hj2,hj3,hj4,hj5⟩:=hrel.out;have hbw:=Al hB hj4.only.size;have hpl:=Ax (Wr hj3);have HJ3:=Ax hj3;have HJ4:=Ax hj4;have HJ5:=Ax hj5;have hgj:=Ax (hj4.only.cells_of Ho.out hga.out);have hsp:=aj.size_pos;have hjl:=hj3.left;clear hrel HS hj3 hj4 hj5;go_wp2_with fail;refine hpl.out.mono ?_;rintro e V2 ⟨rfl,hb2⟩;have hin:=fZ (HJ3.out.below hb2) (l:=l) (N5.below hgj.out hb2) tE;rw[hlm] at hin;have Hin:=Ax hin;have HB2:=Ax hb2;clear hin hb2 hpl;go_wp2_with fail;refine Hin.out.mono ?_;rintro e V3 ⟨rfl,hb3⟩;have hb23:=HB2.out.trans (hb3.mono HB2.out.size);have HB3:=Ax hb23;obtain⟨o,hoe⟩:∃o,Be rj l=o:=⟨_,rfl⟩;rw[hoe];have hre:=Dp n aj d rj;rw[←hl,hoe] at hre;clear hb3 hb23 Hin HB2;by_cases ho0:o=0
  ·subst ho0
   have HP:Hid (B7 w B X b vl ts d vt nds (A9 n d r) (.returned (.int .i64 ((nds.length+aj.size - 1:Nat):Int))) (V3.alloc (.cells #[.int .i64 (plH rj).1,.int .i64 (plH rj).2] 26))):=Ax (by
    rw[←HJ5.out,hre,Ap rfl];have hbz:=(HB3.out.trans ((Aq V3.heap.size V3).alloc (Ak _) (.cells #[.int .i64 (plH rj).1,.int .i64 (plH rj).2] 26)|>.mono HB3.out.size))
    exact⟨rfl,vj,HJ3.out.below hbz,HJ4.out.trans (Rch.of_below vj hbz)⟩)
   clear hre hoe HJ3 HJ4 HJ5 HB3 hgj;go_wp2_with fail;go_ret;exact HP.out
  have ho1:(o==0)=false:=by simpa using ho0
  obtain⟨t,q,rfl⟩:∃t q,rj=t::q:=Fe (l:=l) (by rw[hoe];exact ho0);rw[Ao ho0] at hre;simp only[List.tail_cons] at hre;have hba:=HB3.out.trans ((Aq V3.heap.size V3).alloc (Ak _) (.cells #[.int .i64 (plH (t::q)).1,.int .i64 (plH (t::q)).2] 26)|>.mono HB3.out.size);have hpz:=A1 V3 (.cells #[.int .i64 (plH (t::q)).1,.int .i64 (plH (t::q)).2] 26);obtain⟨V4,hV4⟩:∃V4,V3.alloc (.cells #[.int .i64 (plH (t::q)).1,.int .i64 (plH (t::q)).2] 26)=V4:=⟨_,rfl⟩;rw[hV4] at hba hpz;have hr4:=HJ3.out.below hba;obtain⟨c0,c1,c2,c3,cf⟩:=Dx hr4.blk;have cf1:=cf 1;have hbig:=hr4.big;have hr5:=hr4.step;have ho5:=A3 V4 b 1 (.int .i64 (((ts.length - (q.length+1):Nat):Int)+1));have hch5:Rch b w vt (V4.setCell ⟨b,1,none⟩ (.int .i64 (((ts.length - (q.length+1):Nat):Int)+1))) vj:=(HJ4.out.trans (Rch.of_below vj hba)).trans (Rch.of_only vj ho5);have hc6:=HI.out X (n+1) d q _ vj _ tE (by simp only[B2,Aa] at hk hj1 ⊢;omega) hr5 (Al hB hch5.only.size);rw[Int.natCast_succ] at hc6
  have hp5:=(ho5.cells_of hpz (by
   have h1:=Ay hr4.blk;intro hm;simp at hm;have h2:=hr4.apart hpz tG tG
   exact h2 (by simp [hm])))
  have hpa:=Ax (hr5.apart hp5 tG tG);have HP5:=Ax hp5;have Hc6:=Ax hc6;have HCH:=Ax hch5;have HR5:=Ax hr5;have HRE:=Ax hre;have hwz:=HI.out;clear cf hr4 hr5 ho5 hch5 hc6 hpz hba hp5 hre HJ3 HJ4 HB3 hgj hwz;go_wp2_with fail;refine Hc6.out.mono ?_;rintro e V6 hp6;cases hq6:A9 (n+1) d q with
  |error p=>
   obtain⟨er,q6⟩:=p;rw[hq6] at hp6
   have HE:Hid (B7 w B X b vl ts d vt nds (A9 n d r) (Ee er) V6):=Ax (by
    rw[←HJ5.out,HRE.out,hq6];obtain⟨_,h2,h3⟩:=B7.pre hp6 HCH.out
    exact⟨rfl,h2,h3⟩)
   obtain⟨rfl,_,_⟩:=hp6;clear hq6 HRE HJ5 HCH HP5 hpa;exact zzj
  |ok p=>
   obtain⟨bx,q6⟩:=p;rw[hq6] at hp6;obtain⟨rfl,v6,hp6,hch6⟩:=hp6;have hsz6:=F5 (n:=n+1) tE hq6;have hbp:=bx.size_pos;have hlen6:=(Dz (n:=n+1) tE hq6).2;have hfew6:=hp6.few;simp only[Ab,Ex.flat_len] at hfew6 hp6 hch6 ⊢;simp only[Aa] at hj1 hj2;have hB6:=Al (Al hB HCH.out.only.size) hch6.only.size;have hpl6:=hch6.only.cells_of HP5.out hpa.out;obtain⟨z0,z1,_⟩:=Bo hpl6;have hkv:=Rs V6 B (nds.length+aj.size - 1) (nds.length+aj.size+bx.size - 1) hB6;have hbz:Below V6.heap.size V6 (V6.alloc (.cells #[.int .i64 ((nds.length+aj.size - 1:Nat):Int),.int .i64 ((nds.length+aj.size+bx.size - 1:Nat):Int)] 3)):=(Aq _ _).alloc (Ak _) _
   have hnd:Calls Tryz.prog 167 #[.pointer (some ⟨b,0,none⟩),.agg #[.int .u8 o,.int .u8 0,.int .i64 0,.string ⟨#[]⟩,.string ⟨#[]⟩,.slice none 0 0,.int .i64 (plH (t::q)).1,.int .i64 (plH (t::q)).2],.slice (some ⟨V6.heap.size,0,none⟩) 2 2]
    (V6.alloc (.cells #[.int .i64 ((nds.length+aj.size - 1:Nat):Int),.int .i64 ((nds.length+aj.size+bx.size - 1:Nat):Int)] 3)) _:=Qd (hp6.below hbz) (by simp only[Ab,Ex.flat_len];omega) (Al hB6 hbz.size) ⟨o,v0,[],(plH (t::q)).1,(plH (t::q)).2⟩ [nds.length+aj.size - 1,nds.length+aj.size+bx.size - 1] (some ⟨V6.heap.size,0,none⟩) 2 hkv (fun x hx hm=>by
    simp only[Value.ownBlock,Option.some.injEq] at hx;have h1:=hp6.xl x hm
    omega)
   obtain⟨z,hz⟩:∃z:Nat,(nds++aj.flat nds.length++bx.flat (nds.length+aj.size)).length=z:=⟨_,rfl⟩;rw[hz] at hnd;have hz':Hid (z=nds.length+aj.size+bx.size):=Ax (by rw[←hz];simp only[Ab,Ex.flat_len]);have HN:=Ax hnd;clear hz;have HC6:=Ax ((HCH.out.trans hch6).trans (Rch.of_below v6 hbz));clear hpl6 hbz hnd hp6 hch6 hkv HP5 hpa HCH;go_wp2_with fail;refine HN.out.mono ?_;rintro e V7 ⟨rfl,v7,hr7,hch7⟩
   have hfl:nds++aj.flat nds.length++bx.flat (nds.length+aj.size)++[⟨⟨o,v0,[],(plH (t::q)).1,(plH (t::q)).2⟩,[nds.length+aj.size - 1,nds.length+aj.size+bx.size - 1]⟩]=nds++(Ex.mk ⟨o,v0,[],(plH (t::q)).1,(plH (t::q)).2⟩ [aj,bx]).flat nds.length:=by
    rw[Yn,List.append_assoc,List.append_assoc,List.append_assoc]
   have hsm:(Ex.mk ⟨o,v0,[],(plH (t::q)).1,(plH (t::q)).2⟩ [aj,bx]).size=aj.size+bx.size+1:=by simp [Ex.size,Bf]
   have hnum:z=nds.length+(Ex.mk ⟨o,v0,[],(plH (t::q)).1,(plH (t::q)).2⟩ [aj,bx]).size - 1:=by have:=hz'.out;omega
   rw[hfl] at hr7;have hC7:=HC6.out.trans hch7;have hl7:=hr7.left;have hl1:=H.out.suf.len;clear hV4 c0 c1 c2 c3 cf1 z0 z1 hch7 HC6 HN hfl;by_cases hn3:n=3
   ·subst hn3;have hnm:(!many)=true:=by rw[hmany.out];rfl
    have HP:Hid (B7 w B X b vl ts d vt nds (A9 3 d r) (.returned (.int .i64 (z:Int))) V7):=Ax (by
     rw[←HJ5.out,HRE.out,hq6];simp only[ExR.next,if_true]
     exact⟨by rw[hnum],v7,hr7,hC7⟩)
    clear hr7 hC7 HRE HJ5 hq6 hnum hl7 hjl;go_wp2_with fail;go_ret;exact HP.out
   have HP:Hid (∃(ak:Ex) (rj:List Tkn) (vj:Value),(Value.int .i64 (z:Int))= .int .i64 ((nds.length+ak.size - 1:Nat):Int)/\rj.length<r.length/\ak.size+rj.length<=r.length/\Cz V7 B X b vl ts rj d vj (nds++ak.flat nds.length)/\Rch b w vt V7 vj/\Ty n ak d rj=A9 n d r):=Ax ⟨_,q6,v7,by rw[hnum],by omega,by omega,hr7,hC7,by
    rw[←HJ5.out,HRE.out,hq6]
    simp only[ExR.next,Ao hn3]⟩
   have hwr:ts.length - Jz b V7<ts.length - Jz b wr:=by
    rw[hl7,hjl];simp only[Aa];omega
   have hnm:(!many)=false:=by rw[hmany.out];simp [hn3]
   clear hr7 hC7 HRE HJ5 hq6 hnum hl7 hjl;go_wp2_with fail;go_roundw
   case rel=>exact HP
   case measure=>exact hwr
theorem Ms (w:World)(B i:Nat)(hB:B<=w.heap.size):(w.alloc (.cells #[.int .i64 (i:Int)] 3)).ownsRow B 3 1 (.slice (some ⟨w.heap.size,0,none⟩) [i].length 1) [i].length (Gq [i]):=
 ⟨rfl,.inr ⟨w.heap.size,1,_,rfl,hB,A1 w _,Ak _,by decide,rfl,rfl⟩⟩
theorem Wi {k B b:Nat}{X:List Nat}{vl:Value}{ts:List Tkn}(ih:Mc k B b vl ts){n d:Nat}{r:List Tkn}{w:World}{vt:Value}{nds:List Nd}(h26:n=2\/n=6)(hk:B2 (.lvl n) r<=k)(h:Cz w B X b vl ts r d vt nds)(hB:B<=w.heap.size)
 (s:List UInt8) (hs:s=Ea n) (o:Int) (ho:o=K4 n):
 Calls Tryz.prog 160 #[.pointer (some ⟨b,0,none⟩),.int .i64 (n:Int),.string ⟨s.toArray⟩,.int .u8 o] w (B7 w B X b vl ts d vt nds (A9 n d r)):=by
 have hi:=Ax (Nj h s);have hn6:(n:Int)<=6:=by omega
 have Hx:=Ax (Ec (d:=d) (r:=r) h26);have H:=Ax h;have HI:=Ax ih;have Hs:=Ax hs;have Ho:=Ax ho;have hn7:n<=6:=by omega
 clear h ih hs ho h26;by_cases hp:isH (Ea n) r=true
 ·have hx:=Hx.out;rw[Ap hp] at hx;obtain⟨t,q,rfl⟩:=Cf hp;rw[←Hs.out] at hp;rw[hp] at hi;have HX:=Ax hx;clear Hx hx;go_enter Tryz.func160,Tryz.ntmps160;go_wp2_with fail;refine hi.out.mono ?_;rintro e V1 ⟨rfl,hb1⟩;have hpl:=Ax (Wr (H.out.below hb1));have HB1:=Ax hb1;clear hb1 hi hp;go_wp2_with fail;refine hpl.out.mono ?_;rintro e V2 ⟨rfl,hb2⟩;have hba:=(HB1.out.trans (hb2.mono HB1.out.size)).trans ((Aq V2.heap.size V2).alloc (Ak _) (.cells #[.int .i64 (plH (t::q)).1,.int .i64 (plH (t::q)).2] 26)|>.mono (Al HB1.out.size hb2.size));have hpz:=A1 V2 (.cells #[.int .i64 (plH (t::q)).1,.int .i64 (plH (t::q)).2] 26);obtain⟨V3,hV3⟩:∃V3,V2.alloc (.cells #[.int .i64 (plH (t::q)).1,.int .i64 (plH (t::q)).2] 26)=V3:=⟨_,rfl⟩;rw[hV3] at hba hpz;have hr3:=H.out.below hba;have hpa:=Ax (hr3.apart hpz tG tG);have HPZ:=Ax hpz;have HBA:=Ax hba;clear hpz hba hb2 HB1 hpl;by_cases hd:d=12
  ·have hop:=Ax (Ql (hd▸hr3))
   have HE:Hid (B7 w B X b vl ts d vt nds (A9 n d (t::q)) (Ee 12) V3):=Ax (by
    rw[HX.out,Ap hd]
    exact⟨rfl,hr3.err,Bc.of_below HBA.out _⟩)
   clear hr3 HX HBA hd;go_wp2_with fail;refine hop.out.mono ?_;rintro e V4 ⟨rfl,rfl⟩;clear hop;exact zzj
  have hop:=Ax (Ta hr3 hd);have hx:=HX.out;rw[Ao hd,List.tail_cons] at hx;have HX:=Ax hx;clear hr3 hx;go_wp2_with fail;refine hop.out.mono ?_;rintro e V4 ⟨rfl,hr4,ho4⟩;obtain⟨c0,c1,c2,c3,cf⟩:=Dx hr4.blk;have cf1:=cf 1;have hbig:=hr4.big;have hr5:=hr4.step;have ho5:=A3 V4 b 1 (.int .i64 (((ts.length - (q.length+1):Nat):Int)+1));have hch5:Rch b w vt (V4.setCell ⟨b,1,none⟩ (.int .i64 (((ts.length - (q.length+1):Nat):Int)+1))) vt:=(Rch.of_below vt HBA.out).trans (Rch.of_only vt (ho4.trans ho5));have hp5:=(ho4.trans ho5).cells_of HPZ.out (fun hm=>hpa.out (by simp at hm;simp [hm]));have hc6:=HI.out X n (d+1) q _ vt nds tE uN hr5 (Al hB hch5.only.size);have hpa5:=Ax (hr5.apart hp5 tG tG);have Hc6:=Ax hc6;have HP5:=Ax hp5;have HCH:=Ax hch5;clear hr4 hr5 ho4 ho5 hch5 hp5 hc6 cf hop hpa HPZ HBA;go_wp2_with fail;refine Hc6.out.mono ?_;rintro e V6 hp6;cases hq6:A9 n (d+1) q with
  |error p=>
   obtain⟨er,q6⟩:=p;rw[hq6] at hp6
   have HE:Hid (B7 w B X b vl ts d vt nds (A9 n d (t::q)) (Ee er) V6):=Ax (by
    rw[HX.out,hq6];obtain⟨_,h2,h3⟩:=B7.pre hp6 HCH.out
    exact⟨rfl,h2,h3⟩)
   obtain⟨rfl,_,_⟩:=hp6;clear hq6 HX HCH HP5 hpa5;exact zzj
  |ok p=>
   obtain⟨bx,q6⟩:=p;rw[hq6] at hp6;obtain⟨rfl,v6,hp6,hch6⟩:=hp6;have hsz6:=F5 (n:=n) tE hq6;have hbp:=bx.size_pos;have hfew6:=hp6.few;simp only[Ab,Ex.flat_len] at hfew6;have hB6:=Al (Al hB HCH.out.only.size) hch6.only.size;have hpl6:=hch6.only.cells_of HP5.out hpa5.out;obtain⟨e0,e1,e2,e3,ef⟩:=Dx hp6.blk;have ef2:=ef 2;have hd12:=H.out.hd;have hfw:=H.out.few;simp only[Aa] at hfw;have hr7:=hp6.deep (d':=d) tE;have ho7:=A3 V6 b 2 (.int .i64 (d:Int))
   have hpl7:=ho7.cells_of hpl6 (fun hm=>by
    have h2:=hp6.apart hpl6 tG tG
    exact h2 (by simp at hm;simp [hm]))
   obtain⟨V7,hV7⟩:∃V7,V6.setCell ⟨b,2,none⟩ (.int .i64 (d:Int))=V7:=⟨_,rfl⟩;rw[hV7] at hr7 ho7 hpl7;obtain⟨z0,z1,_⟩:=Bo hpl7;have hB7:=Al hB6 ho7.size;have hkv:=Ms V7 B (nds.length+bx.size - 1) hB7;have hbz:Below V7.heap.size V7 (V7.alloc (.cells #[.int .i64 ((nds.length+bx.size - 1:Nat):Int)] 3)):=(Aq _ _).alloc (Ak _) _
   have hnd:Calls Tryz.prog 167 #[.pointer (some ⟨b,0,none⟩),.agg #[.int .u8 o,.int .u8 0,.int .i64 0,.string ⟨#[]⟩,.string ⟨#[]⟩,.slice none 0 0,.int .i64 (plH (t::q)).1,.int .i64 (plH (t::q)).2],.slice (some ⟨V7.heap.size,0,none⟩) 1 1]
    (V7.alloc (.cells #[.int .i64 ((nds.length+bx.size - 1:Nat):Int)] 3)) _:=Qd (hr7.below hbz) (by simp only[Ab,Ex.flat_len];omega) (Al hB7 hbz.size) ⟨o,v0,[],(plH (t::q)).1,(plH (t::q)).2⟩ [nds.length+bx.size - 1] (some ⟨V7.heap.size,0,none⟩) 1 hkv (fun x hx hm=>by
    simp only[Value.ownBlock,Option.some.injEq] at hx;have h1:=hr7.xl x hm
    omega)
   obtain⟨z,hz⟩:∃z:Nat,(nds++bx.flat nds.length).length=z:=⟨_,rfl⟩;rw[hz] at hnd;have hz':Hid (z=nds.length+bx.size):=Ax (by rw[←hz];simp only[Ab,Ex.flat_len]);have HN:=Ax hnd;have HC7:=Ax (((HCH.out.trans hch6).trans (Rch.of_only v6 ho7)).trans (Rch.of_below v6 hbz));have hdd:((d+1:Nat):Int) - 1=(d:Int):=by omega
   clear hz hnd hkv hbz hpl7 hpl6 hr7 ho7 hp6 hch6 HP5 hpa5 HCH ef Hc6;go_wp2_with fail;refine HN.out.mono ?_;rintro e V8 ⟨rfl,v8,hr8,hch8⟩
   have HE:Hid (B7 w B X b vl ts d vt nds (A9 n d (t::q)) (.returned (.int .i64 (z:Int))) V8):=Ax (by
    rw[HX.out,hq6];have hz:=hz'.out;refine⟨?_,v8,?_,HC7.out.trans hch8⟩
    ·rw[show z=nds.length+(Ex.mk ⟨K4 n,v0,[],(plH (t::q)).1,(plH (t::q)).2⟩ [bx]).size - 1 by simp [Ex.size,Bf];omega]
    rw[S5,←List.append_assoc,←Ho.out]
    exact hr8)
   clear hr8 hch8 HX HN HC7 hq6 hV3 hV7 z0 z1;exact zzb
 have hp':isH (Ea n) r=false:=by simpa using hp
 have hx:=Hx.out;rw[Ao hp] at hx;rw[←Hs.out] at hp';rw[hp'] at hi;have HX:=Ax hx;clear Hx hx;go_enter Tryz.func160,Tryz.ntmps160;go_wp2_with fail;refine hi.out.mono ?_;rintro e V1 ⟨rfl,hb1⟩;have hc:=HI.out X (n+1) d r V1 vt nds tE uX (H.out.below hb1) (Al hB hb1.size);rw[Int.natCast_succ] at hc;have Hc:=Ax hc;have HB1:=Ax hb1;clear hc hb1 hi hp hp';go_wp2_with fail;refine Hc.out.mono ?_;rintro e V2 hp2;cases hq2:A9 (n+1) d r with
 |error p=>
  obtain⟨er,q2⟩:=p;rw[hq2] at hp2
  have HE:Hid (B7 w B X b vl ts d vt nds (A9 n d r) (Ee er) V2):=Ax (by
   rw[HX.out,hq2];obtain⟨_,h2,h3⟩:=B7.pre hp2 (Rch.of_below vt HB1.out)
   exact⟨rfl,h2,h3⟩)
  obtain⟨rfl,_,_⟩:=hp2;clear hq2 HX;exact zzj
 |ok p=>
  obtain⟨bx,q2⟩:=p;rw[hq2] at hp2;obtain⟨rfl,v2,hp2,hch2⟩:=hp2
  have HE:Hid (B7 w B X b vl ts d vt nds (A9 n d r) (.returned (.int .i64 ((nds.length+bx.size - 1:Nat):Int))) V2):=Ax (by
   rw[HX.out,hq2]
   exact⟨rfl,v2,hp2,(Rch.of_below vt HB1.out).trans hch2⟩)
  clear hq2 HX hp2 hch2;exact zzb
open Go Go.RowKit
theorem qR:(Tryz.prog.info? 3).map (fun i=>(i.zero,i.size,i.bytes))=some (some (.int .i64 0),1,8):=by kernel_rfl
theorem N9:∃i,Tryz.prog.info? 3=some i/\i.zero=some (.int .i64 0)/\i.size=1/\i.bytes=8:=by
 have h:=qR;cases hi:Tryz.prog.info? 3 with
 |none=>simp [hi] at h
 |some i=>
  exact zx4
theorem Cz.grow {w w1 w2:World}{B b d m:Nat}{X:List Nat}{vl vt vk v':Value}{ts r:List Tkn}{nds:List Nd}{xs:List Value}(h:Cz w B (vk.ownBlock.toList++X) b vl ts r d vt nds)(hk:w.ownsRow B 3 1 vk m xs)(hb:Below w.heap.size w w1)(hg:w1.grownBy w2 vk.ownBlock)
 (hv:∀g,v'.ownBlock=some g->vk.ownBlock=some g\/w.heap.size<=g/\g<w2.heap.size):Cz w2 B (v'.ownBlock.toList++X) b vl ts r d vt nds:=by
 exact zzn
theorem Cz.free {w:World}{B b d:Nat}{X Y:List Nat}{vl vt:Value}{ts r:List Tkn}{nds:List Nd}(h:Cz w B Y b vl ts r d vt nds)(hXY:∀x∈X,x∈Y):Cz w B X b vl ts r d vt nds:=
 ⟨h.suf,h.toks,h.nam,h.tl,h.hB,fun x hx=>h.xl x (hXY x hx),h.hd,h.big,h.few,h.blk,h.tree.imp (fun _ q=>q) fun _ _ _ hn q=>⟨q,fun g e hm=>hn g e (hXY g hm)⟩⟩
structure I0 (w:World)(B:Nat)(X:List Nat)(b:Nat)(vl:Value)(ts:List Tkn)(d:Nat)(vt:Value)(nds:List Nd)(c:Cl)(pc pp:Nat)(wr:World)(ks:List Ex)(rj:List Tkn)(vj vk:Value):Prop where
 rd:Cz wr B (vk.ownBlock.toList++X) b vl ts rj (d+1) vj (nds++Bz ks nds.length)
 row:wr.ownsRow B 3 1 vk ks.length (Gq (Ct ks nds.length))
 new:∀g,vk.ownBlock=some g->w.heap.size<=g
 rch:Rch b w vt wr vj
 hc:wr.heap[pc]? =some (.cells #[.int .u8 c.op,.int .i64 (c.least:Int),.int .i64 (c.most:Int)] 242 (0,0))
 hp:wr.heap[pp]? =some (.cells #[.int .i64 c.line,.int .i64 c.col] 26 (0,0))
theorem I0.below {w wr V:World}{B b d pc pp:Nat}{X:List Nat}{vl vt vj vk:Value}{ts rj:List Tkn}{nds:List Nd}{c:Cl}{ks:List Ex}(h:I0 w B X b vl ts d vt nds c pc pp wr ks rj vj vk)(hb:Below wr.heap.size wr V):I0 w B X b vl ts d vt nds c pc pp V ks rj vj vk:=
 ⟨h.rd.below hb,Di h.row hb,h.new,h.rch.trans (Rch.of_below vj hb),(hb.block _ (Ay h.hc)).trans h.hc,(hb.block _ (Ay h.hp)).trans h.hp⟩
theorem I0.turn {w wr V:World}{B b d pc pp:Nat}{X:List Nat}{vl vt vj vk:Value}{ts rj r':List Tkn}{nds:List Nd}{c:Cl}{ks:List Ex}(h:I0 w B X b vl ts d vt nds c pc pp wr ks rj vj vk)(ho:Bc [b] wr V)
 (hr:Cz V B (vk.ownBlock.toList++X) b vl ts r' (d+1) vj (nds++Bz ks nds.length)):I0 w B X b vl ts d vt nds c pc pp V ks r' vj vk:=by
 have hne:∀{p:Nat} {cs:Array Value} {T:TypeId},wr.heap[p]? =some (.cells cs T (0,0))->150≠T->p∉[b]:=fun hp hT hm=>by
  simp at hm;subst hm;rw[h.rd.blk] at hp;exact zxa
 exact⟨hr,Bm h.row ho fun g e hm=>Bi h.row h.rd.blk tG uZ,h.new,h.rch.trans (Rch.of_only vj ho),ho.cells_of h.hc (hne h.hc tG),ho.cells_of h.hp (hne h.hp tG)⟩
theorem I0.more {w wr V4 V5 w6:World}{B b d pc pp g n cap:Nat}{X:List Nat}{vl vt vj vk v4:Value}{ts rj q4:List Tkn}{nds:List Nd}{c:Cl}{ks:List Ex}{a:Ex}{z:Nat}(h:I0 w B X b vl ts d vt nds c pc pp wr ks rj vj vk)
 (hr:Cz V4 B (vk.ownBlock.toList++X) b vl ts q4 (d+1) v4 (nds++Bz ks nds.length++a.flat (nds++Bz ks nds.length).length)) (hch:Rch b wr vj V4 v4) (hz:z=nds.length+Bf ks+a.size - 1) (hb:Below V4.heap.size V4 V5) (hg:V5.grownBy w6 vk.ownBlock)
 (hown:w6.ownsRow B 3 1 (.slice (some ⟨g,0,none⟩) n cap) n (Gq (Ct ks nds.length)++[.int .i64 (z:Int)])) (hn:n=ks.length+1) (hat:vk.ownBlock=some g\/V4.heap.size<=g) (hlt:g<w6.heap.size):
 I0 w B X b vl ts d vt nds c pc pp w6 (ks++[a]) q4 v4 (.slice (some ⟨g,0,none⟩) n cap):=by
 have hrow4:V4.ownsRow B 3 1 vk ks.length (Gq (Ct ks nds.length)):=Bm h.row hch.only fun g e hm=>by
  exact zxi
 have hc4:=hch.only.cells_of h.hc (h.rd.apart h.hc tG tG);have hp4:=hch.only.cells_of h.hp (h.rd.apart h.hp tG tG);have hO:Bc vk.ownBlock.toList V4 w6:=(Bc.of_below hb _).trans (Bc.of_grown hg _ fun k hk=>by simp [hk])
 have hfl:nds++Bz ks nds.length++a.flat (nds++Bz ks nds.length).length=nds++Bz (ks++[a]) nds.length:=by
  rw[Qr,List.append_assoc,Ab,Cd];simp [Bz]
 have hen:Gq (Ct ks nds.length)++[.int .i64 (z:Int)]=Gq (Ct (ks++[a]) nds.length):=by
  rw[Tm,hz];simp [Gq,Ct]
 subst hn;rw[hen] at hown;refine⟨?_,by simpa using hown,fun g' e=>?_,⟨(h.rch.trans hch).only.step hO fun i hi=> .inr (h.new i vX),(h.rch.trans hch).own⟩,hO.cells_of hc4 fun hm=>Bi hrow4 hc4 tG uD,hO.cells_of hp4 fun hm=>Bi hrow4 hp4 tG uD⟩
 ·exact zxe
 exact zww
theorem Y7 {s s':List UInt8}{r:List Tkn}(h:isH s r=true)(hs:s≠s'):isH s' r=false:=by
 cases r with
 |nil=>cases h
 |cons t q=>
  simp only[isH,Bool.and_eq_true,decide_eq_true_eq] at h
  have:t.w.t≠s':=fun e=>hs (h.1.symm.trans e)
  simp [isH,this]
theorem Ws (h:Hd)(ks:List Ex)(k:Nat):(Ex.mk h ks).flat k=Bz ks k++[⟨h,Ct ks k⟩]:=by rw[Ex.flat]
theorem mC {k B b:Nat}{X:List Nat}{vl:Value}{ts:List Tkn}(ih:Mc k B b vl ts){d:Nat}{t:Tkn}{q:List Tkn}{w:World}{vt:Value}{nds:List Nd}(hk:B2 (.lvl 7) (t::q)<=k)(h:Cz w B X b vl ts (t::q) d vt nds)(hB:B<=w.heap.size)
 (c:Cl) (hm0:1<=c.most) (hm8:c.most<=8):
 Calls Tryz.prog 163 #[.pointer (some ⟨b,0,none⟩),.agg #[.int .u8 c.op,.int .i64 (c.least:Int),.int .i64 (c.most:Int)],.agg #[.int .i64 c.line,.int .i64 c.col]] w (B7 w B X b vl ts d vt nds (B4 d q fun q'=>D8 c [] (d+1) q')):=by
 obtain⟨Wa,hWa⟩:∃Wa,w.alloc (.cells #[.int .u8 c.op,.int .i64 (c.least:Int),.int .i64 (c.most:Int)] 242)=Wa:=⟨_,rfl⟩;have hza:Wa.heap.size=w.heap.size+1:=by rw[←hWa];simp
 obtain⟨Wb,hWb⟩:∃Wb,Wa.alloc (.cells #[.int .i64 c.line,.int .i64 c.col] 26)=Wb:=⟨_,rfl⟩;have hca:=A1 w (.cells #[.int .u8 c.op,.int .i64 (c.least:Int),.int .i64 (c.most:Int)] 242);have hpa:=A1 Wa (.cells #[.int .i64 c.line,.int .i64 c.col] 26);have hbb:Below w.heap.size w Wb:=by rw[←hWb,←hWa];exact((Aq _ w).alloc (Ak _) _).alloc tH _
 have hba:Below Wa.heap.size Wa Wb:=by rw[←hWb];exact(Aq _ _).alloc (Ak _) _
 rw[hWa] at hca;rw[hWb,hza] at hpa;have hcb:=(hba.block _ (Ay hca)).trans hca;have hrb:=h.below hbb;obtain⟨c0,c1,c2,c3,cf⟩:=Dx hrb.blk;have cf1:=cf 1;have hbig:=hrb.big;have hr1:=hrb.step;have ho1:=A3 Wb b 1 (.int .i64 (((ts.length - (q.length+1):Nat):Int)+1))
 have hne:∀{p:Nat} {cs:Array Value} {T:TypeId},Wb.heap[p]? =some (.cells cs T (0,0))->150≠T->p∉[b]:=fun hp hT hm=>by
  simp at hm;subst hm;rw[hrb.blk] at hp;exact zxa
 have hc1:=ho1.cells_of hcb (hne hcb tG);have hp1:=ho1.cells_of hpa (hne hpa tG);obtain⟨W1,hW1⟩:∃W1,Wb.setCell ⟨b,1,none⟩ (.int .i64 (((ts.length - (q.length+1):Nat):Int)+1))=W1:=⟨_,rfl⟩;rw[hW1] at hr1 ho1 hc1 hp1;have hch1:Rch b w vt W1 vt:=(Rch.of_below vt hbb).trans (Rch.of_only vt ho1);have hi1:=Ax (Nj hr1 [40]);have HR1:=Ax hr1;have HC1:=Ax hc1;have HP1:=Ax hp1;have HCH:=Ax hch1;have HI:=Ax ih;have H:=Ax h;clear h ih hr1 ho1 hc1 hp1 hch1 hne hrb hca hpa hbb hba hcb cf;by_cases ho:isH [40] q=true
 ·obtain⟨t',q',rfl⟩:=Cf ho;rw[ho] at hi1;simp only[Aa] at hW1;by_cases hd:d=12
  ·have HO:=Ax ho;have HD:=Ax hd;clear ho hd;go_enter Tryz.func163,Tryz.ntmps163;go_wp2_with fail;refine hi1.out.mono ?_;rintro e V1 ⟨rfl,hb1⟩;have hr:=HR1.out.below hb1;have hop:=Ax (Ql (HD.out▸hr))
   have HE:Hid (B7 w B X b vl ts d vt nds (B4 d (t'::q') fun q'=>D8 c [] (d+1) q') (Ee 12) V1):=Ax (by
    unfold B4;rw[Ap HO.out,Ap HD.out]
    exact⟨rfl,hr.err,HCH.out.err (Bc.of_below hb1 _)⟩)
   clear hr hb1 hi1 HR1 hWa hWb hW1;go_wp2_with fail;refine hop.out.mono ?_;rintro e V4 ⟨rfl,rfl⟩;clear hop;exact zzj
  have HO:=Ax ho;have HD:=Ax hd;clear ho hd
  have hx:B4 d (t'::q') (fun q'=>D8 c [] (d+1) q')=D8 c [] (d+1) q':=by
   unfold B4;rw[Ap HO.out,Ao HD.out];rfl
  rw[hx];clear hx;obtain⟨xx,hxx⟩:∃xx,D8 c [] (d+1) q'=xx:=⟨_,rfl⟩;rw[hxx];have HX:=Ax hxx;clear hxx;go_enter Tryz.func163,Tryz.ntmps163;go_wp2_with fail;refine hi1.out.mono ?_;rintro e V1 ⟨rfl,hb1⟩;have hr:=HR1.out.below hb1;have hop:=Ax (Ta hr HD.out);have HB1:=Ax hb1;clear hr hb1 hi1 hWa hWb hW1;go_wp2_with fail;refine hop.out.mono ?_;rintro e V2 ⟨rfl,hr2,ho2⟩;have hmu:=Jl hr2 [40];rw[HO.out] at hmu;simp only[if_true,List.tail_cons] at hmu;have Hmu:=Ax hmu;have HO2:=Ax ho2;clear hmu ho2 hr2 hop;go_wp2_with fail;refine Hmu.out.mono ?_;rintro e V3 ⟨rfl,hr3,ho3⟩
  have hne3:∀{p:Nat} {cs:Array Value} {T:TypeId},W1.heap[p]? =some (.cells cs T (0,0))->150≠T->p∉[b]:=fun hp hT hm=>by
   simp at hm;subst hm;rw[HR1.out.blk] at hp;exact zxa
  have hO3:Bc [b] W1 V3:=((Bc.of_below HB1.out _).trans HO2.out).trans ho3
  have HS:Hid (∃(ks:List Ex) (rj:List Tkn) (vj vk:Value),(Value.slice none 0 0)=vk/\rj.length<=q'.length/\ks.length<c.most/\D8 c ks (d+1) rj=xx/\I0 w B X b vl ts d vt nds c w.heap.size (w.heap.size+1) V3 ks rj vj vk):=Ax
   ⟨[],q',vt,.slice none 0 0,rfl,Ak _,hm0,HX.out,by simpa[Value.ownBlock,Bz] using hr3,World.ownsRow_nil _ _ _ _,fun g e=>(by cases e),HCH.out.trans (Rch.of_only vt hO3),
     hO3.cells_of HC1.out (hne3 HC1.out tG),hO3.cells_of HP1.out (hne3 HP1.out tG)⟩
  have hfew:=H.out.few;simp only[Aa] at hfew;clear hne3 hO3 hr3 ho3 Hmu HO2 HB1;go_wp2_with fail;obtain⟨i0,hi0,hz0,hz1,hz2⟩:=N9;have Hi0:=Ax hi0;have Hz0:=Ax hz0;have Hz1:=Ax hz1;have Hz2:=Ax hz2;clear hi0 hz0 hz1 hz2
  go_loopw [7] (fun v7 wr=>Hid (∃(ks:List Ex) (rj:List Tkn) (vj vk:Value),v7=vk/\rj.length<=q'.length/\ks.length<c.most/\D8 c ks (d+1) rj=xx/\I0 w B X b vl ts d vt nds c w.heap.size (w.heap.size+1) wr ks rj vj vk)) (fun _ wr=>ts.length - Jz b wr)
  case atStart=>exact HS
  obtain⟨ks,rj,vj,vk,rfl,hlen,hks,hrest,hC⟩:=hrel.out;obtain⟨ka,kc,rfl⟩:=Er hC.row;have hBr:=Al hB hC.rch.only.size;have hc0:Calls Tryz.prog 66 #[.pointer (some ⟨b,0,none⟩),.int .i64 0] wr _:=HI.out _ 0 (d+1) rj wr vj (nds++Bz ks nds.length) tE uN hC.rd hBr;have Hc0:=Ax hc0;have Hrest:=Ax hrest;have hjl:=hC.rd.left;have HC:=Ax hC;clear hrel HS hc0 hC hrest;go_wp2_with fail;refine Hc0.out.mono ?_;rintro e V4 hp4;have hC:=HC.out;cases hq4:A9 0 (d+1) rj with
  |error p=>
   obtain⟨er,q4⟩:=p;rw[hq4] at hp4
   have HE:Hid (B7 w B X b vl ts d vt nds xx (Ee er) V4):=Ax (by
    rw[←Hrest.out,Eb,hq4]
    exact⟨rfl,hp4.2.1,hC.rch.err hp4.2.2⟩)
   obtain⟨rfl,_,_⟩:=hp4;clear hq4 hC HC;exact zzj
  |ok p=>
   obtain⟨a,q4⟩:=p;rw[hq4] at hp4;obtain⟨rfl,v4,hr4,hch4⟩:=hp4;have hsz4:=F5 (n:=0) tE hq4;have hap:=a.size_pos;have hlt4:=(Dz (n:=0) tE hq4).2;have hfew4:=hr4.few;simp only[Ab,Ex.flat_len,Cd] at hfew4
   have hrow4:V4.ownsRow B 3 1 (.slice ka ks.length kc) ks.length (Gq (Ct ks nds.length)):=Bm hC.row hch4.only fun g e hm=>by
    rcases hC.row.2 with ⟨e2,_⟩|⟨g',cap,cur,e2,_,hg',_⟩
    ·rw[e2] at e;cases e
    rw[e2] at e;simp only[Value.ownBlock,Option.some.injEq] at e;subst e;exact hC.rd.apart hg' tG tG hm
   obtain⟨z,hz⟩:∃z:Nat,(nds++Bz ks nds.length).length+a.size - 1=z:=⟨_,rfl⟩;have hz':Hid (z=nds.length+Bf ks+a.size - 1):=Ax (by rw[←hz];simp only[Ab,Cd]);rw[hz];have Hrow5:=Ax (hrow4.alloc (.cells #[.int .i64 (z:Int)] 3));have HN5:=Ax (A1 V4 (.cells #[.int .i64 (z:Int)] 3));have hB4:=Al hBr hch4.only.size;have HZ5:Hid ((V4.alloc (.cells #[.int .i64 (z:Int)] 3)).heap.size=V4.heap.size+1):=Ax tH;have HR4:=Ax hr4;have HCH4:=Ax hch4;have hbz:=(Aq V4.heap.size V4).alloc (Ak _) (.cells #[.int .i64 (z:Int)] 3);have HBZ:=Ax hbz;have hx4:=Eb c ks (d+1) rj;rw[hq4,Hrest.out] at hx4;have HX4:=Ax hx4;clear hz hC hr4 hch4 hrow4 hq4 hbz hx4;go_wp2_with ((refine wpList_append_lies _ rfl (.tmp 22) (.tmp 25) _ rfl B 3 i0 (.int .i64 0) 1 8 Tryz.underlying36 Hi0.out Hz0.out Hz1.out Hz2.out rfl tG (.slice ka ks.length kc) ks.length (Gq (Ct ks nds.length)) rfl Hrow5.out ⟨V4.heap.size,0,none⟩ 1 1 [.int .i64 (z:Int)] rfl rfl (World.news_of_block (cs:= #[.int .i64 (z:Int)]) HN5.out) tS tG tQ tE (by rw[HZ5.out];omega) (V4.heap.size+1) HZ5.out ?_;intro g cap w6 hown6 hgrow6 hat6 hlt6))
   have hM:=HC.out.more HR4.out HCH4.out hz'.out HBZ.out hgrow6 hown6 rfl (by
    rcases hat6 with e|e
    ·exact .inl e
    exact .inr tE) hlt6
   have hzr:=HCH4.out.only.size;clear hgrow6 hown6 hat6 hlt6 HR4 HCH4 HBZ Hrow5 HN5 HZ5 HC Hc0;have his:=Ax (Nj hM.rd [44]);have HM:=Ax hM;have hB6:=hM.rch.only.size;clear hM;go_wp2_with fail;refine his.out.mono ?_;rintro e V7 ⟨rfl,hb7⟩;have hM7:=HM.out.below hb7;clear hb7 HM his;obtain⟨m1,hm1⟩:∃m1,isH [44] q4=m1:=⟨_,rfl⟩;rw[hm1];obtain⟨z0,z1,z2,_⟩:=Lv hM7.hc;cases m1 with
   |true=>
    have h41:=Y7 (s':=[41]) hm1 tG;have hx4:=HX4.out;simp only[ExR.next,hm1,h41,Bool.true_and,Bool.false_and,Bool.or_false,if_true] at hx4;by_cases hmost:ks.length+1=c.most
    ·rw[Ap (by simpa using hmost)] at hx4
     have HE:Hid (B7 w B X b vl ts d vt nds xx (Ee 14) V7):=Ax (by
      rw[hx4]
      exact⟨rfl,hM7.rd.err,hM7.rch.only⟩)
     have f1:((((ks.length+1:Nat):Int))==(c.most:Int))=true:=by simp;omega
     have f2:(((ks.length:Int)+1)==(c.most:Int))=true:=by simp;omega
     have HM7:=Ax hM7;clear hM7 hx4 hm1 h41 HX4 HX Hrest hmost;exact zzj
    rw[Ao (by simpa using hmost)] at hx4;have hk1:ks.length+1<c.most:=by omega
    obtain⟨t4,q5,rfl⟩:=Cf hm1;have f1:((((ks.length+1:Nat):Int))==(c.most:Int))=false:=by simp;omega
    have f2:(((ks.length:Int)+1)==(c.most:Int))=false:=by simp;omega
    have his:=Ax (Nj hM7.rd [41]);rw[h41] at his;have HM7:=Ax hM7;have HX5:=Ax hx4;clear hM7 hx4 hm1 h41 HX4 HX Hrest hmost;go_wp2_with fail;refine his.out.mono ?_;rintro e V8 ⟨rfl,hb8⟩;have hM8:=HM7.out.below hb8;obtain⟨c0',c1',c2',c3',cf'⟩:=Dx hM8.rd.blk;have cf1':=cf' 1;have hst:=hM8.turn (A3 V8 b 1 (.int .i64 (((ts.length - (q5.length+1):Nat):Int)+1))) hM8.rd.step;simp only[Aa] at hlt4
    have HP:Hid (∃(kt:List Ex) (rj:List Tkn) (vj vk:Value),(Value.slice (some ⟨g,0,none⟩) (ks.length+1) cap)=vk/\rj.length<=q'.length/\kt.length<c.most/\D8 c kt (d+1) rj=xx/\I0 w B X b vl ts d vt nds c w.heap.size (w.heap.size+1) (V8.setCell ⟨b,1,none⟩ (.int .i64 (((ts.length - (q5.length+1):Nat):Int)+1))) kt rj vj vk):=
     Ax ⟨ks++[a],q5,v4,_,rfl,by omega,by simp;omega,HX5.out.symm,hst⟩
    have hwr:ts.length - Jz b (V8.setCell ⟨b,1,none⟩ (.int .i64 (((ts.length - (q5.length+1):Nat):Int)+1)))<ts.length - Jz b wr:=by
     rw[hst.rd.left,hjl];omega
    clear hM8 hst hb8 HM7 his HX5 cf' z0 z1 z2;go_wp2_with fail;go_roundw
    case rel=>exact HP
    case measure=>exact hwr
   |false=>
    have hx4:=HX4.out;simp only[ExR.next,hm1,Bool.false_and,Bool.false_or,Bool.false_eq_true,if_false] at hx4;have his:=Ax (Nj hM7.rd [41]);have HM7:=Ax hM7;have HX5:=Ax hx4;clear hM7 hx4 hm1 HX4 HX Hrest;go_wp2_with fail;refine his.out.mono ?_;rintro e V8 ⟨rfl,hb8⟩;have hM8:=HM7.out.below hb8;obtain⟨m2,hm2⟩:∃m2,isH [41] q4=m2:=⟨_,rfl⟩;rw[hm2];have hx5:=HX5.out;rw[hm2] at hx5;obtain⟨z0,z1,z2,_⟩:=Lv hM8.hc;clear hb8 his HM7 HX5;cases m2 with
    |true=>
     simp only[Bool.true_and] at hx5;by_cases hle:ks.length+1<c.least
     ·rw[Ap (by simpa using hle)] at hx5
      have HE:Hid (B7 w B X b vl ts d vt nds xx (Ee 14) V8):=Ax (by
       rw[hx5]
       exact⟨rfl,hM8.rd.err,hM8.rch.only⟩)
      have f1:decide ((((ks.length+1:Nat):Int))<(c.least:Int))=true:=by simp;omega
      have f2:decide (((ks.length:Int)+1)<(c.least:Int))=true:=by simp;omega
      have f3:((ks.length:Int)+1)<(c.least:Int):=by omega
      have HM8:=Ax hM8;clear hM8 hx5 hm2 hle;exact zzj
     rw[Ao (by simpa using hle)] at hx5;unfold Cy at hx5;rw[Ap hm2] at hx5;obtain⟨t4,q5,rfl⟩:=Cf hm2;have hmu:=Jl hM8.rd [41];rw[hm2] at hmu;simp only[if_true,List.tail_cons] at hmu hx5;have Hmu:=Ax hmu;have f1:decide ((((ks.length+1:Nat):Int))<(c.least:Int))=false:=by simp;omega
     have f2:decide (((ks.length:Int)+1)<(c.least:Int))=false:=by simp;omega
     have f3:(c.least:Int)<=((ks.length:Int)+1):=by omega
     have hf8:(nds++Bz (ks++[a]) nds.length).length+1+q5.length<=1000000:=by
      have:=hM8.rd.few
      simp only[Aa] at this;omega
     have HM8:=Ax hM8;have HX5:=Ax hx5;clear hM8 hx5 hm2 hle hmu;go_wp2_with fail;refine Hmu.out.mono ?_;rintro e V9 ⟨rfl,hr9,ho9⟩;have hM9:=HM8.out.turn ho9 hr9;clear Hmu HM8 hr9 ho9 z0 z1 z2;obtain⟨c0',c1',c2',c3',cf'⟩:=Dx hM9.rd.blk;have cf2':=cf' 2;have hd12:=H.out.hd;have hfw9:=hf8;have hr10:=hM9.rd.deep (d':=d) tE;have ho10:=A3 V9 b 2 (.int .i64 (d:Int))
     have hne:∀{p:Nat} {cs:Array Value} {T:TypeId},V9.heap[p]? =some (.cells cs T (0,0))->150≠T->p∉[b]:=fun hp hT hm=>by
      simp at hm;subst hm;rw[hM9.rd.blk] at hp;exact zxa
     have hc10:=ho10.cells_of hM9.hc (hne hM9.hc tG);have hp10:=ho10.cells_of hM9.hp (hne hM9.hp tG);have hrow10:=Bm hM9.row ho10 fun x e hm=>Bi hM9.row hM9.rd.blk tG uZ
     obtain⟨V10,hV10⟩:∃V10,V9.setCell ⟨b,2,none⟩ (.int .i64 (d:Int))=V10:=⟨_,rfl⟩;rw[hV10] at hr10 ho10 hc10 hp10 hrow10;obtain⟨z0,z1,z2,_⟩:=Lv hc10;obtain⟨y0,y1,_⟩:=Bo hp10;have hch10:=hM9.rch.trans (Rch.of_only v4 ho10);have hel:(Ct (ks++[a]) nds.length).length=ks.length+1:=by rw[Il];simp
     have hnd:Calls Tryz.prog 167 #[.pointer (some ⟨b,0,none⟩),.agg #[.int .u8 c.op,.int .u8 0,.int .i64 0,.string ⟨#[]⟩,.string ⟨#[]⟩,.slice none 0 0,.int .i64 c.line,.int .i64 c.col],.slice (some ⟨g,0,none⟩) (ks.length+1) cap]
      V10 (fun e w'=>e= .returned (.int .i64 ((nds++Bz (ks++[a]) nds.length).length:Int))/\∃vt',Cz w' B X b vl ts q5 d vt' (nds++Bz (ks++[a]) nds.length++[⟨⟨c.op,v0,[],c.line,c.col⟩,Ct (ks++[a]) nds.length⟩])/\Rch b V10 v4 w' vt'):=by
      have hq:=Qd (hr10.free fun x hx=>List.mem_append.2 (.inr hx)) hfw9 (Al hB hch10.only.size) ⟨c.op,v0,[],c.line,c.col⟩ (Ct (ks++[a]) nds.length) (some ⟨g,0,none⟩) cap (by rw[hel];rw[Ab] at hrow10;exact hrow10) (fun x hx hm=>by
       simp only[Value.ownBlock,Option.some.injEq] at hx;subst hx;have h1:=hM9.new g rfl;have h2:=H.out.xl g hm
       omega)
      rw[hel] at hq;exact hq
     obtain⟨zz,hzz⟩:∃zz:Nat,(nds++Bz (ks++[a]) nds.length).length=zz:=⟨_,rfl⟩;rw[hzz] at hnd;have hzz':Hid (zz=nds.length+Bf (ks++[a])):=Ax (by rw[←hzz];simp only[Ab,Cd]);have HN:=Ax hnd;have HCH10:=Ax hch10;clear hzz hnd hch10 hrow10 hp10 hc10 ho10 hr10 hne cf' hM9;go_wp2_with fail;refine HN.out.mono ?_;rintro e V11 ⟨rfl,v11,hr11,hch11⟩
     have HE:Hid (B7 w B X b vl ts d vt nds xx (.returned (.int .i64 (zz:Int))) V11):=Ax (by
      rw[HX5.out];refine⟨?_,v11,?_,HCH10.out.trans hch11⟩
      ·rw[hzz'.out];rfl
      rw[Ws,←List.append_assoc]
      exact hr11)
     clear hr11 hch11 HN HCH10 HX5 hV10 z0 z1 z2 y0 y1;exact zzb
    |false=>
     simp only[Bool.false_and,Bool.false_eq_true,if_false] at hx5;unfold Cy at hx5;rw[Ao (by rw[hm2];decide)] at hx5;have hmu:=Jl hM8.rd [41];rw[hm2] at hmu;simp only[Bool.false_eq_true,if_false] at hmu;have Hmu:=Ax hmu;have HM8:=Ax hM8;have HX5:=Ax hx5;clear hM8 hx5 hm2 hmu;go_wp2_with fail;refine Hmu.out.mono ?_;rintro e V9 ⟨rfl,hb9⟩;have hM9:=HM8.out.below hb9
     have HE:Hid (B7 w B X b vl ts d vt nds xx (Ee 4) V9):=Ax (by
      rw[HX5.out]
      exact⟨rfl,hM9.rd.err,hM9.rch.only⟩)
     clear hM9 Hmu HM8 hb9;exact zzj
 have HO:Hid (isH [40] q=false):=Ax (by simpa using ho);rw[HO.out] at hi1;clear ho;go_enter Tryz.func163,Tryz.ntmps163;go_wp2_with fail;refine hi1.out.mono ?_;rintro e V1 ⟨rfl,hb1⟩;have hr:=HR1.out.below hb1;have hmu:=Jl hr [40];rw[HO.out] at hmu;simp only[Bool.false_eq_true,if_false] at hmu;have Hmu:=Ax hmu;have HR:=Ax hr;have HB1:=Ax hb1;clear hr hb1 hi1 hmu HR1 hWa hWb hW1;go_wp2_with fail;refine Hmu.out.mono ?_;rintro e V2 ⟨rfl,hb2⟩
 have HE:Hid (B7 w B X b vl ts d vt nds (B4 d q fun q'=>D8 c [] (d+1) q') (Ee 4) V2):=Ax (by
  unfold B4;rw[HO.out]
  exact⟨rfl,(HR.out.below hb2).err,HCH.out.err ((Bc.of_below HB1.out _).trans (Bc.of_below (hb2.mono (Ak _)) _))⟩)
 clear hb2 Hmu;exact zzj
end Go.Proofs.YtmpfilddeglgbaaGreatDoor
