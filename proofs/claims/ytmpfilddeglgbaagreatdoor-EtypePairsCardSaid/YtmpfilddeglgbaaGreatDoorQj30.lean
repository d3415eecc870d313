import Derived.Test.YtmpfilddeglgbaaGreatDoorQj29
set_option maxRecDepth 100000
set_option maxHeartbeats 16000000
namespace Go.Proofs.YtmpfilddeglgbaaGreatDoor
open Go Go.RowKit Go.Lib
theorem Cv.apart {w:World}{B b d p:Nat}{X:List Nat}{vl vt:Value}{ts r:List Tkn}{nds:List Nd}{cs:Array Value}{t:TypeId}(h:Cv w B X b vl ts r d vt nds)(hp:w.heap[p]? =some (.cells cs t (0,0)))(h1:155≠t)(h2:38≠t):p∉b::vt.ownBlock.toList:=by
 exact zw5
theorem Ej.apart {w:World}{B b bad cap p:Nat}{vl vt:Value}{ts:List Tkn}{e:Int}{cs:Array Value}{t:TypeId}(h:Ej w B b vl ts vt e bad cap)(hp:w.heap[p]? =some (.cells cs t (0,0)))(h1:155≠t)(h2:38≠t):p∉b::vt.ownBlock.toList:=by
 obtain⟨a,dd,hk⟩:=h.blk;obtain⟨m,xs,_,h4⟩:=h.row;intro hm;rcases List.mem_cons.1 hm with rfl|hm
 ·rw[hk] at hp;injection hp with hp;injection hp with _ hp;exact h1 hp
 exact Bi h4 hp h2 uD
theorem Cv.left {w:World}{B b d:Nat}{X:List Nat}{vl vt:Value}{ts r:List Tkn}{nds:List Nd}(h:Cv w B X b vl ts r d vt nds):ts.length - Jz b w=r.length:=by
 obtain⟨_,c1,_⟩:=Bd h.blk;have hl:=h.suf.len;unfold Jz;rw[c1];show ts.length - (((ts.length - r.length:Nat):Int)).toNat=r.length;omega
def B5 (w:World)(B:Nat)(X:List Nat)(b:Nat)(vl:Value)(ts r:List Tkn)(d:Nat)(vt:Value)(nds:List Nd)(x:ExR)(e:Ending)(w':World):Prop:=
 ∃(z:Int) (vt':Value),e= .returned (.int .i64 z)/\Rch b w vt w' vt'/\match x with
  | .ok p=>z=((nds.length+p.1.size - 1:Nat):Int)/\Cv w' B X b vl ts p.2 d vt' (nds++p.1.flat nds.length)
  | .error p=>Ej w' B b vl ts vt' p.1 (ts.length - p.2.length) (nds.length+r.length)
def Xw (k B b:Nat)(vl:Value)(ts:List Tkn):Prop:=∀(X:List Nat) (n d:Nat) (r:List Tkn) (w:World) (vt:Value) (nds:List Nd),n<=7->B2 (.lvl n) r<k->Cv w B X b vl ts r d vt nds->B<=w.heap.size->
 Calls Tryz.prog 67 #[.pointer (some ⟨b,0,none⟩),.int .i64 (n:Int)] w (B5 w B X b vl ts r d vt nds (A9 n d r))
def rR (k B b:Nat)(vl:Value)(ts:List Tkn):Prop:=∀(X:List Nat) (d:Nat) (r:List Tkn) (w:World) (vt:Value) (nds:List Nd),B2 (.lvl 7) r<=k->Cv w B X b vl ts r d vt nds->B<=w.heap.size->
 Calls Tryz.prog 124 #[.pointer (some ⟨b,0,none⟩)] w (B5 w B X b vl ts r d vt nds (A9 7 d r))
theorem Ut {w:World}{B b bad cap:Nat}{vl vt:Value}{ts:List Tkn}{e:Int}(h:Ej w B b vl ts vt e bad cap)(n:Int):
 Calls Tryz.prog 67 #[.pointer (some ⟨b,0,none⟩),.int .i64 n] w fun en w'=>en= .returned (.int .i64 (-1))/\w=w':=by
 obtain⟨a,dd,hk⟩:=h.blk;obtain⟨k0,k1,k2,k3,k4,k5,_⟩:=Bd hk;have d0:(e==0)=false:=Af.2 h.ne;have d1:(e !=0)=true:=by rw[bne,d0];rfl
 clear h hk;go_enter Tryz.func67,Tryz.ntmps67;go_wp2_with fail;exact zyr
def Sr (w:World)(B:Nat)(X:List Nat)(b:Nat)(vl:Value)(ts r:List Tkn)(n d:Nat)(vt:Value)(nds:List Nd)(z:Int)(wr:World):Prop:=
 ∃vj,Rch b w vt wr vj/\((∃(aj:Ex) (rj:List Tkn),z=((nds.length+aj.size - 1:Nat):Int)/\rj.length<r.length/\aj.size+rj.length<=r.length/\Cv wr B X b vl ts rj d vj (nds++aj.flat nds.length)/\Ty n aj d rj=A9 n d r)\/
  ∃(er:Int) (q:List Tkn),A9 n d r= .error (er,q)/\Ej wr B b vl ts vj er (ts.length - q.length) (nds.length+r.length))
theorem lN {n:Nat}(h:n=2\/n=6)(a:Ex)(d:Nat)(r:List Tkn):Ty n a d r= .ok (a,r):=by
 rw[Dp];rcases h with rfl|rfl<;>rfl
theorem oN {n d:Nat}{r:List Tkn}(h6:n<=6)(hp:(n=2\/n=6)->isH (Ea n) r=false):A9 n d r=(A9 (n+1) d r).next fun a q=>Ty n a d q:=by
 by_cases h:n=2\/n=6
 ·rw[Ec h,Ao (by rw[hp h];simp)];cases A9 (n+1) d r with
  |error e=>rfl
  |ok p=>exact(lN h p.1 d p.2).symm
 exact D1 tE tE
theorem Ft {w:World}{b:Nat}{x0 x1 x2 x3 x4 x5 x6 x7:Value}{ty:TypeId}(h:w.heap[b]? =some (.cells #[x0,x1,x2,x3,x4,x5,x6,x7] ty (0,0))):
 w.cell? ⟨b,0,none⟩=some x0/\w.cell? ⟨b,1,none⟩=some x1/\w.cell? ⟨b,2,none⟩=some x2/\w.cell? ⟨b,3,none⟩=some x3/\w.cell? ⟨b,4,none⟩=some x4/\w.cell? ⟨b,5,none⟩=some x5/\w.cell? ⟨b,6,none⟩=some x6/\w.cell? ⟨b,7,none⟩=some x7/\∀i,w.frozen? ⟨b,i,none⟩=false:=
 ⟨by simp only[World.cell?,h];rfl,by simp only[World.cell?,h];rfl,by simp only[World.cell?,h];rfl,by simp only[World.cell?,h];rfl,by simp only[World.cell?,h];rfl,by simp only[World.cell?,h];rfl,by simp only[World.cell?,h];rfl,by simp only[World.cell?,h];rfl,fun i=>by simp only[World.frozen?,h];simp⟩
theorem Cv.lt {w:World}{B b d:Nat}{X:List Nat}{vl vt:Value}{ts r:List Tkn}{nds:List Nd}(h:Cv w B X b vl ts r d vt nds):∀g∈b::vt.ownBlock.toList,g<w.heap.size:=fun g hg=>by
 rcases List.mem_cons.1 hg with rfl|hg
 ·exact Ay h.blk
 obtain⟨kvs,h1,_⟩:=h.tree;rcases h1.2 with ⟨e,_⟩|⟨g',cap,cur,e,_,hg',_⟩
 ·rw[e] at hg;simp [Value.ownBlock] at hg
 rw[e] at hg;simp [Value.ownBlock] at hg;subst hg;exact Ay hg'
theorem Rch.far {b p:Nat}{w w':World}{vt vt':Value}(h:Rch b w vt w' vt')(hp:p∉b::vt.ownBlock.toList)(hlt:p<w.heap.size):p∉b::vt'.ownBlock.toList:=fun hm=>by
 rcases List.mem_cons.1 hm with rfl|hm
 ·exact hp Ai
 have e:vt'.ownBlock=some p:=by simpa using hm
 rcases h.own p e with q|q
 ·exact hp (Aj _ (by simpa using q))
 omega
theorem Rch.then_far {b p:Nat}{w V W Z:World}{vt v:Value}(h:Rch b w vt V v)(hb:Below V.heap.size V W)(ho:Bc [p] W Z)(hp:w.heap.size<=p):Rch b w vt Z v:=
 ⟨(h.only.trans (Bc.of_below hb _|>.mono (fun _ q=>q))).step ho (fun i hi=>by simp at hi;subst hi;exact .inr hp),fun g hg=>h.own g hg⟩
theorem Cv.far {w w':World}{B b d p:Nat}{X:List Nat}{vl vt:Value}{ts r:List Tkn}{nds:List Nd}{cs:Array Value}(h:Cv w B X b vl ts r d vt nds)(ho:Bc [p] w w')(hk:w.heap[p]? =some (.cells cs 38 (0,0)))(hn:p∉b::vt.ownBlock.toList)(hBp:B<=p):Cv w' B X b vl ts r d vt nds:=by
 have hnb:¬b=p:=fun e=>hn tR
 refine⟨h.suf,h.toks.kept ho.size fun g hg hlt=>ho.block g hlt ?_,h.nam,h.tl,h.hB,fun x hx=>Nat.lt_of_lt_of_le (h.xl x hx) ho.size,h.hd,h.big,h.few,(ho.block b (Ay h.blk) wI).trans h.blk,h.tree.imp (fun _ q=>Bm q ho fun g e hm=>?_) fun v n xs hx q=>⟨Bm q ho fun g e hm=>?_,hx⟩⟩
 ·have:=h.tl g hg
  simp;omega
 ·simp at hm;subst hm;exact hn (Aj _ wC)
 simp at hm;subst hm;exact Bi q hk tG e
theorem Ej.far {w w':World}{B b bad cap p:Nat}{vl vt:Value}{ts:List Tkn}{e:Int}(h:Ej w B b vl ts vt e bad cap)(ho:Bc [p] w w')(hn:p∉b::vt.ownBlock.toList)(hBp:B<=p):Ej w' B b vl ts vt e bad cap:=by
 obtain⟨a,dd,hk⟩:=h.blk;obtain⟨m,xs,h1,h2⟩:=h.row;have hnb:¬b=p:=fun e=>hn tR
 refine⟨h.toks.kept ho.size fun g hg hlt=>ho.block g hlt ?_,h.tl,h.hB,h.big,h.room,h.ne,⟨a,dd,(ho.block b (Ay hk) wI).trans hk⟩,m,xs,h1,Bm h2 ho fun g e hm=>?_⟩
 ·have:=h.tl g hg
  simp;omega
 simp at hm;subst hm;exact hn (Aj _ wC)
def Fj (b:Nat)(ts:List Tkn)(w:World):Nat:=match w.cell? ⟨b,4,none⟩ with
 |some (.int .i64 0)=>2*(ts.length - Jz b w)+1
 |_=>0
theorem Hy {w:World}{B b d:Nat}{X:List Nat}{vl vt:Value}{ts r:List Tkn}{nds:List Nd}(h:Cv w B X b vl ts r d vt nds):Fj b ts w=2*r.length+1:=by
 obtain⟨_,_,_,_,c4,_⟩:=Bd h.blk;unfold Fj;rw[c4];simp only;rw[h.left]
theorem Yh {w:World}{B b bad cap:Nat}{vl vt:Value}{ts:List Tkn}{e:Int}(h:Ej w B b vl ts vt e bad cap):Fj b ts w=0:=by
 obtain⟨a,dd,hk⟩:=h.blk;obtain⟨_,_,_,_,c4,_⟩:=Bd hk;unfold Fj;rw[c4]
 split
 ·rename_i q;injection q with q;injection q with _ q;exact absurd q h.ne
 rfl
theorem Q5 {w V0 V1:World}{B b n d:Nat}{X:List Nat}{vl vt v1:Value}{ts r:List Tkn}{nds:List Nd}{z:Int}(h6:n<=6)(hp:(n=2\/n=6)->isH (Ea n) r=false)(h0:Rch b w vt V0 vt)(hr:Rch b V0 vt V1 v1)
 (hm:match A9 (n+1) d r with
  | .ok p=>z=((nds.length+p.1.size - 1:Nat):Int)/\Cv V1 B X b vl ts p.2 d v1 (nds++p.1.flat nds.length)
  | .error p=>Ej V1 B b vl ts v1 p.1 (ts.length - p.2.length) (nds.length+r.length)):Sr w B X b vl ts r n d vt nds z V1:=by
 have hx:=oN (d:=d) h6 hp;refine⟨v1,h0.trans hr,?_⟩;cases hq:A9 (n+1) d r with
 |error p=>
  rw[hq] at hm hx;exact .inr ⟨p.1,p.2,hx,hm⟩
 |ok p=>
  rw[hq] at hm hx;exact .inl ⟨p.1,p.2,hm.1,(Dz (n:=n+1) tE hq).2,F5 (n:=n+1) tE hq,hm.2,hx.symm⟩
theorem Tq {w wr V:World}{B b n d:Nat}{X:List Nat}{vl vt vj:Value}{ts r rj:List Tkn}{nds:List Nd}{aj:Ex}(hr:Rch b w vt wr vj)(hb:Below wr.heap.size wr V)(h:Cv V B X b vl ts rj d vj (nds++aj.flat nds.length))(hx:(Except.ok (aj,rj):ExR)=A9 n d r):
 B5 w B X b vl ts r d vt nds (A9 n d r) (.returned (.int .i64 ((nds.length+aj.size - 1:Nat):Int))) V:=
 ⟨_,vj,rfl,hr.trans (Rch.of_below vj hb),by rw[←hx];exact⟨rfl,h⟩⟩
theorem bA {k B b:Nat}{vl:Value}{ts:List Tkn}(ih:Xw k B b vl ts)(hat:rR k B b vl ts){X:List Nat}{n d:Nat}{r:List Tkn}{w:World}{vt:Value}{nds:List Nd}(hn:n<=7)(hk:B2 (.lvl n) r<=k)(h:Cv w B X b vl ts r d vt nds)(hB:B<=w.heap.size):
 Calls Tryz.prog 67 #[.pointer (some ⟨b,0,none⟩),.int .i64 (n:Int)] w (B5 w B X b vl ts r d vt nds (A9 n d r)):=by
 cases Nat.lt_or_ge n 7 with
 |inr h7=>
  obtain rfl:n=7:=by omega
  have HAT:=Ax (hat X d r w vt nds hk h hB);obtain⟨k0,k1,k2,k3,k4,k5,_⟩:=Bd h.blk;clear h hat ih;go_enter Tryz.func67,Tryz.ntmps67;go_wp2_with fail;refine HAT.out.mono ?_;rintro e V ⟨z,v',rfl,h1,h2⟩;have HF:=Ax (show B5 w B X b vl ts r d vt nds (A9 7 d r) (.returned (.int .i64 z)) V from⟨z,v',rfl,h1,h2⟩);clear h1 h2;exact zzo
 |inl h7=>
  have h6:n<=6:=by omega
  clear h7 hat;have H:=Ax h;have HPL:=Ax (Oy h);obtain⟨k0,k1,k2,k3,k4,k5,_⟩:=Bd h.blk;have d7:((n:Int)==7)=false:=Af.2 tE;have d7':(n==7)=false:=Af.2 tE;obtain⟨pl,hpl⟩:∃x,(plH r).1=x:=⟨_,rfl⟩;obtain⟨pc,hpc⟩:∃x,(plH r).2=x:=⟨_,rfl⟩;have HPLE:=Ax (And.intro hpl hpc);rw[hpl,hpc] at HPL;clear h hpl hpc;go_enter Tryz.func67,Tryz.ntmps67;go_wp2_with fail;refine HPL.out.mono ?_;rintro e V ⟨rfl,hbV⟩;have hal:=(Aq V.heap.size V).alloc (Ak _) (.cells #[.int .i64 pl,.int .i64 pc] 26);have hb0:=hbV.trans (hal.mono hbV.size);have HPB:=Ax (A1 V (.cells #[.int .i64 pl,.int .i64 pc] 26));obtain⟨V0,hV0⟩:∃V0,V.alloc (.cells #[.int .i64 pl,.int .i64 pc] 26)=V0:=⟨_,rfl⟩;rw[hV0] at hb0 HPB;have HV0:=Ax hV0;clear hal hbV hV0 HPL k0 k1 k2 k3 k4 k5;obtain⟨k0,k1,k2,k3,k4,k5,_⟩:=Bd (H.out.below hb0).blk;go_upto_region 6 with fail
  rw[HV0.out];by_cases hn26:n=2\/n=6
  ·have HNX:=Ax (Fu (H.out.below hb0));obtain⟨S,hS⟩:∃S:ByteArray,⟨(Gj r).toArray⟩=S:=⟨_,rfl⟩;rw[hS] at HNX;have hSp:decide (dl S=Ea n)=isH (Ea n) r:=by rw[←hS,Dj];exact J3 (by unfold Ea;split<;>simp)
   cases hpw:isH (Ea n) r with
   |false=>
    rw[hpw] at hSp;have hSn:=of_decide_eq_false hSp;have HPW:=Ax hpw;clear hSp hS;rcases hn26 with rfl|rfl
    ·have t1:(S.toList==[110,111,116])=false:=by rw[Az];exact Af.2 hSn
     clear hSn hpw;go_wp2_with fail;refine HNX.out.mono ?_;rintro e VX ⟨rfl,hbx⟩;have hb0:=hb0.trans (hbx.mono hb0.size);clear hbx HNX k0 k1 k2 k3 k4 k5;obtain⟨V0,rfl⟩:∃V0,V0=VX:=⟨_,rfl⟩;obtain⟨k0,k1,k2,k3,k4,k5,_⟩:=Bd (H.out.below hb0).blk;have hc:=ih X (2+1) d r V0 vt nds tE uX (H.out.below hb0) (Al hB hb0.size);have hc:Calls Tryz.prog 67 #[.pointer (some ⟨b,0,none⟩),.int .i64 3] V0 _:=hc;have Hc:=Ax hc;have HB0:=Ax hb0;clear hc hb0;go_wp2_with fail;refine Hc.out.mono ?_;rintro e V1 ⟨z1,v1,rfl,hr1,hm1⟩;have HS:Hid (Sr w B X b vl ts r 2 d vt nds z1 V1):=Ax (Q5 h6 (fun _=>HPW.out) (Rch.of_below vt HB0.out) hr1 hm1);clear hr1 hm1 Hc;go_wp2_with fail
     go_loopw [8] (fun v8 wr=>∃z:Int,v8= .int .i64 z/\Hid (Sr w B X b vl ts r 2 d vt nds z wr)) (fun _ wr=>Fj b ts wr)
     case atStart=>exact⟨z1,rfl,HS⟩
     clear HS;obtain⟨z,rfl,hq⟩:=hrel;obtain⟨vj,hrj,hcase⟩:=hq.out;have HRJ:=Ax hrj;clear hq;rcases hcase with ⟨aj,rj,rfl,hj1,hj2,hj3,hj4⟩|⟨er,q,hle,hx⟩
     ·have HJ3:=Ax hj3;have HJ4:=Ax hj4;have hbw:=Al hB hrj.only.size;obtain⟨k0,k1,k2,k3,k4,k5,_⟩:=Bd hj3.blk;have HNX:=Ax (Fu hj3);have HMS:=Ax (show Fj b ts wr=2*rj.length+1 from Hy hj3);have hsp:=aj.size_pos;have hfew:=H.out.few;clear hrj hj3 hj4;go_wp2_with fail;refine HNX.out.mono ?_;rintro e V2 ⟨rfl,hb2⟩;have HIF:=Ax (Nu 2 h6 (Gj rj) V2);rw[K7 rj _ (Sc 2)] at HIF;have HIF:Hid (Calls Tryz.prog 129 #[.int .i64 2,.string ⟨(Gj rj).toArray⟩] V2 _):=Ax HIF.out;have HJ5:=Ax (HJ3.out.below hb2);have HB2:=Ax hb2;clear hb2 k0 k1 k2 k3 k4 k5;go_wp2_with fail;refine HIF.out.mono ?_;rintro e V3 ⟨rfl,hb3⟩;have HJ6:=Ax (HJ5.out.below hb3);have HB3:=Ax (HB2.out.trans (hb3.mono HB2.out.size));clear hb3 HIF HNX HJ5;by_cases hop:Be rj (Bp 2)=0
      ·rw[hop];have hrow:=HJ4.out;rw[Dp,Ap hop] at hrow;have HF:=Ax (Tq HRJ.out HB3.out HJ6.out hrow);clear hop hrow;exact zzo
      exact absurd rfl hop
     obtain⟨a0,dd,hkb⟩:=hx.blk;obtain⟨k0,k1,k2,k3,k4,k5,_⟩:=Bd hkb;have de:(er==0)=false:=Af.2 hx.ne;have HF:=Ax (show B5 w B X b vl ts r d vt nds (A9 2 d r) (.returned (.int .i64 z)) wr from⟨z,vj,rfl,hrj,by rw[hle];exact hx⟩);clear hx hkb hle hrj;exact zzo
    have t1:(S.toList==[45])=false:=by rw[Az];exact Af.2 hSn
    clear hSn hpw;go_wp2_with fail;refine HNX.out.mono ?_;rintro e VX ⟨rfl,hbx⟩;have hb0:=hb0.trans (hbx.mono hb0.size);clear hbx HNX k0 k1 k2 k3 k4 k5;obtain⟨V0,rfl⟩:∃V0,V0=VX:=⟨_,rfl⟩;obtain⟨k0,k1,k2,k3,k4,k5,_⟩:=Bd (H.out.below hb0).blk;have hc:=ih X (6+1) d r V0 vt nds tE uX (H.out.below hb0) (Al hB hb0.size);have hc:Calls Tryz.prog 67 #[.pointer (some ⟨b,0,none⟩),.int .i64 7] V0 _:=hc;have Hc:=Ax hc;have HB0:=Ax hb0;clear hc hb0;go_wp2_with fail;refine Hc.out.mono ?_;rintro e V1 ⟨z1,v1,rfl,hr1,hm1⟩;have HS:Hid (Sr w B X b vl ts r 6 d vt nds z1 V1):=Ax (Q5 h6 (fun _=>HPW.out) (Rch.of_below vt HB0.out) hr1 hm1);clear hr1 hm1 Hc;go_wp2_with fail
    go_loopw [8] (fun v8 wr=>∃z:Int,v8= .int .i64 z/\Hid (Sr w B X b vl ts r 6 d vt nds z wr)) (fun _ wr=>Fj b ts wr)
    case atStart=>exact⟨z1,rfl,HS⟩
    clear HS;obtain⟨z,rfl,hq⟩:=hrel;obtain⟨vj,hrj,hcase⟩:=hq.out;have HRJ:=Ax hrj;clear hq;rcases hcase with ⟨aj,rj,rfl,hj1,hj2,hj3,hj4⟩|⟨er,q,hle,hx⟩
    ·have HJ3:=Ax hj3;have HJ4:=Ax hj4;have hbw:=Al hB hrj.only.size;obtain⟨k0,k1,k2,k3,k4,k5,_⟩:=Bd hj3.blk;have HNX:=Ax (Fu hj3);have HMS:=Ax (show Fj b ts wr=2*rj.length+1 from Hy hj3);have hsp:=aj.size_pos;have hfew:=H.out.few;clear hrj hj3 hj4;go_wp2_with fail;refine HNX.out.mono ?_;rintro e V2 ⟨rfl,hb2⟩;have HIF:=Ax (Nu 6 h6 (Gj rj) V2);rw[K7 rj _ (Sc 6)] at HIF;have HIF:Hid (Calls Tryz.prog 129 #[.int .i64 6,.string ⟨(Gj rj).toArray⟩] V2 _):=Ax HIF.out;have HJ5:=Ax (HJ3.out.below hb2);have HB2:=Ax hb2;clear hb2 k0 k1 k2 k3 k4 k5;go_wp2_with fail;refine HIF.out.mono ?_;rintro e V3 ⟨rfl,hb3⟩;have HJ6:=Ax (HJ5.out.below hb3);have HB3:=Ax (HB2.out.trans (hb3.mono HB2.out.size));clear hb3 HIF HNX HJ5;by_cases hop:Be rj (Bp 6)=0
     ·rw[hop];have hrow:=HJ4.out;rw[Dp,Ap hop] at hrow;have HF:=Ax (Tq HRJ.out HB3.out HJ6.out hrow);clear hop hrow;exact zzo
     exact absurd rfl hop
    obtain⟨a0,dd,hkb⟩:=hx.blk;obtain⟨k0,k1,k2,k3,k4,k5,_⟩:=Bd hkb;have de:(er==0)=false:=Af.2 hx.ne;have HF:=Ax (show B5 w B X b vl ts r d vt nds (A9 6 d r) (.returned (.int .i64 z)) wr from⟨z,vj,rfl,hrj,by rw[hle];exact hx⟩);clear hx hkb hle hrj;exact zzo
   |true=>
    rw[hpw] at hSp;have hSe:=of_decide_eq_true hSp;obtain⟨t,q,rfl⟩:=Cf hpw;have hlv:=Ec (d:=d) (r:=t::q) hn26;rw[Ap hpw,List.tail_cons] at hlv;rw[HPLE.out.1,HPLE.out.2] at hlv;clear hSp hS hpw;obtain⟨op,hop⟩:∃op,K4 n=op:=⟨_,rfl⟩;rw[hop] at hlv;have HLV:=Ax hlv;clear hlv;rcases hn26 with rfl|rfl
    ·obtain rfl:op=6:=by rw[←hop];rfl
     have t1:(S.toList==[110,111,116])=true:=by rw[Az,hSe];rfl
     clear hSe hop;go_wp2_with fail;refine HNX.out.mono ?_;rintro e VX ⟨rfl,hbx⟩;have hb1:=hb0.trans (hbx.mono hb0.size);have HPB1:=Ax ((hbx.block _ (Bu HPB.out)).trans HPB.out);have HD:=Ax (Kj (H.out.below hb1));have HB1:=Ax hb1;clear hbx HNX hb0 hb1 HPB k0 k1 k2 k3 k4 k5;go_wp2_with fail;refine HD.out.mono ?_;rintro e V2 ⟨rfl,ho2,hd2⟩;have HPB2:=Ax (ho2.cells_of HPB1.out vE);have HO2:=Ax ho2;by_cases hd12:d=12
     ·rw[Ap hd12] at hd2;obtain⟨a0,dd,hkb⟩:=hd2.blk;obtain⟨k0,k1,k2,k3,k4,k5,_⟩:=Bd hkb;have HF:=Ax (show B5 w B X b vl ts (t::q) d vt nds (A9 2 d (t::q)) (.returned (.int .i64 (-1))) V2 from⟨-1,vt,rfl,(Rch.of_below vt HB1.out).trans (Rch.of_only vt ho2),by rw[HLV.out,Ap hd12];exact hd2⟩);clear hd2 ho2 hkb hd12;exact zzo
     rw[Ao hd12] at hd2;have hlv:=HLV.out;rw[Ao hd12] at hlv;have HLV2:=Ax hlv;obtain⟨k0,k1,k2,k3,k4,k5,kf⟩:=Bd hd2.blk;have kf1:=kf 1;have hbig:=hd2.big;have hst:=hd2.step;have ho3:=A3 V2 b 1 (.int .i64 (((ts.length - (q.length+1):Nat):Int)+1));have hpb3:=ho3.cells_of HPB2.out vT;obtain⟨W3,hW3⟩:∃W3,V2.setCell ⟨b,1,none⟩ (.int .i64 (((ts.length - (q.length+1):Nat):Int)+1))=W3:=⟨_,rfl⟩;rw[hW3] at hst ho3 hpb3;have HST:=Ax hst;have HPB3:=Ax hpb3;have HW3:=Ax hW3;have hch:=(Rch.of_below vt HB1.out).trans ((Rch.of_only vt ho2).trans (Rch.of_only vt ho3));have HCH:=Ax hch;have hz3:B<=W3.heap.size:=Al hB hch.only.size;have Hc:=Ax (ih X 2 (d+1) q W3 vt nds tE uN hst hz3);have Hc:Hid (Calls Tryz.prog 67 #[.pointer (some ⟨b,0,none⟩),.int .i64 2] W3 _):=Ax Hc.out;clear hd2 ho2 hst ho3 hpb3 hW3 hch hlv kf hd12;go_upto_region 14 with fail
     first|rw[HW3.out]|rw[Aa,HW3.out]
     clear k0 k1 k2 k3 k4 k5 kf1;go_wp2_with fail;refine Hc.out.mono ?_;rintro e V4 ⟨z4,v4,rfl,hr4,hm4⟩;have hpb4:=hr4.only.cells_of HPB3.out (HST.out.apart HPB3.out tG tG);have HPB4:=Ax hpb4;have HCH4:=Ax (HCH.out.trans hr4);clear hr4 hpb4 Hc;cases hq4:A9 2 (d+1) q with
     |error p=>
      obtain⟨er,q4⟩:=p;rw[hq4] at hm4;have hm4:Ej V4 B b vl ts v4 er (ts.length - q4.length) (nds.length+q.length):=hm4;have hlv:=HLV2.out;rw[hq4] at hlv;have HLE:=Ax (show A9 2 d (t::q)= .error (er,q4) from hlv);obtain⟨a0,dd,hkb⟩:=hm4.blk;obtain⟨k0,k1,k2,k3,k4,k5,kf⟩:=Bd hkb;have kf2:=kf 2;obtain⟨x5,hx5⟩:∃x5,IntKind.i64.wrap (dd - 1)=x5:=⟨_,rfl⟩;have hx5':wrap64 (dd - 1)=x5:=by rw[←hx5];simp [IntKind.wrap_i64,wrap64]
      have hm5:=hm4.deep x5;have ho5:=A3 V4 b 2 (.int .i64 x5);have hpb5:=ho5.cells_of HPB4.out vR;obtain⟨W5,hW5⟩:∃W5,V4.setCell ⟨b,2,none⟩ (.int .i64 x5)=W5:=⟨_,rfl⟩;rw[hW5] at hm5 ho5 hpb5;have HW5:=Ax hW5;have HM5:=Ax hm5;have HCH5:=Ax (HCH4.out.trans (Rch.of_only v4 ho5));have HPB5:=Ax hpb5;clear hkb kf hm4 hm5 ho5 hpb5 hW5 hx5 hlv hq4;go_upto_region 16 with fail
      rw[HW5.out];clear k0 k1 k2 k3 k4 k5 kf2 hx5';have hal:=(Aq W5.heap.size W5).alloc (Ak _) (.cells #[.int .i64 z4] 3);obtain⟨p0,p1,_⟩:=A0 ((hal.block _ (Bu HPB5.out)).trans HPB5.out);have HP:=Ax (Ei (HM5.out.below hal) (by have:=H.out.few;simp only[Aa] at this;omega) (Al hB (Al HCH5.out.only.size hal.size)) ⟨6,v0,[],pl,pc⟩ (some ⟨W5.heap.size,0,none⟩) 1 1);have HP:Hid (Calls Tryz.prog 128 #[.pointer (some ⟨b,0,none⟩),.agg #[.int .u8 6,.int .u8 0,.int .i64 0,.string ⟨#[]⟩,.string ⟨#[]⟩,.slice (some ⟨W5.heap.size,0,none⟩) 1 1,.int .i64 pl,.int .i64 pc]] (W5.alloc (.cells #[.int .i64 z4] 3)) _):=Ax HP.out;have HCH6:=Ax (HCH5.out.trans (Rch.of_below v4 hal));clear hal;go_wp2_with fail;refine HP.out.mono ?_;rintro e V6 ⟨z6,v6,rfl,hx6,hr6⟩;have HF:=Ax (show B5 w B X b vl ts (t::q) d vt nds (A9 2 d (t::q)) (.returned (.int .i64 z6)) V6 from⟨z6,v6,rfl,HCH6.out.trans hr6,by rw[HLE.out];exact hx6.mono tZ H.out.few⟩);clear hx6 hr6;exact zzo
     |ok p=>
      obtain⟨a4,q4⟩:=p;rw[hq4] at hm4;obtain⟨rfl,hf4⟩:=hm4;have hsz4:=F5 (n:=2) tE hq4;have hsp4:=a4.size_pos;have hlv:=HLV2.out;rw[hq4] at hlv;have HLE:=Ax (show A9 2 d (t::q)= .ok (Ex.mk ⟨6,v0,[],pl,pc⟩ [a4],q4) from hlv);obtain⟨k0,k1,k2,k3,k4,k5,kf⟩:=Bd hf4.blk;have kf2:=kf 2;have hd13:=hf4.hd;have hf5:=hf4.deep (d':=d) tE;have ho5:=A3 V4 b 2 (.int .i64 (d:Int));have hpb5:=ho5.cells_of HPB4.out vS;obtain⟨W5,hW5⟩:∃W5,V4.setCell ⟨b,2,none⟩ (.int .i64 (d:Int))=W5:=⟨_,rfl⟩;rw[hW5] at hf5 ho5 hpb5;have HW5:=Ax hW5;have HF5:=Ax hf5;have HCH5:=Ax (HCH4.out.trans (Rch.of_only v4 ho5));have HPB5:=Ax hpb5;have hdd:((d+1:Nat):Int) - 1=(d:Int):=by omega
      clear hf4 hf5 ho5 hpb5 hW5 hlv hq4 kf;go_upto_region 16 with fail
      first|rw[HW5.out]|(rw[show((d:Int)+1 - 1)=(d:Int) by omega,HW5.out])|(rw[hdd,HW5.out])
      clear k0 k1 k2 k3 k4 k5 kf2 hdd;have hal:=(Aq W5.heap.size W5).alloc (Ak _) (.cells #[.int .i64 ((nds.length+a4.size - 1:Nat):Int)] 3);obtain⟨p0,p1,_⟩:=A0 ((hal.block _ (Bu HPB5.out)).trans HPB5.out);have hk1:=Ms W5 B (nds.length+a4.size - 1) (Al hB HCH5.out.only.size);have HP:=Ax (Mg (HF5.out.below hal) (by have:=H.out.few;simp only[Ab,Ex.flat_len,Aa] at*;omega) (Al hB (Al HCH5.out.only.size hal.size)) ⟨6,v0,[],pl,pc⟩ [nds.length+a4.size - 1] (some ⟨W5.heap.size,0,none⟩) 1 hk1 (fun g e hx=>by simp only[Value.ownBlock,Option.some.injEq] at e;subst e;have:=HF5.out.xl _ hx;omega));have HP:Hid (Calls Tryz.prog 128 #[.pointer (some ⟨b,0,none⟩),.agg #[.int .u8 6,.int .u8 0,.int .i64 0,.string ⟨#[]⟩,.string ⟨#[]⟩,.slice (some ⟨W5.heap.size,0,none⟩) 1 1,.int .i64 pl,.int .i64 pc]] (W5.alloc (.cells #[.int .i64 ((nds.length+a4.size - 1:Nat):Int)] 3)) _):=Ax HP.out;have HCH6:=Ax (HCH5.out.trans (Rch.of_below v4 hal));clear hal hk1;go_wp2_with fail;refine HP.out.mono ?_;rintro e V6 ⟨rfl,v6,hf6,hr6⟩;have hfl:nds++a4.flat nds.length++[⟨⟨6,v0,[],pl,pc⟩,[nds.length+a4.size - 1]⟩]=nds++(Ex.mk ⟨6,v0,[],pl,pc⟩ [a4]).flat nds.length:=by rw[S5,List.append_assoc]
      rw[hfl] at hf6;have hzz:(nds++a4.flat nds.length).length=nds.length+(Ex.mk ⟨6,v0,[],pl,pc⟩ [a4]).size - 1:=by rw[Ab,Ex.flat_len];simp [Ex.size,Bf]<;>omega
      rw[hzz];have HF:=Ax (show B5 w B X b vl ts (t::q) d vt nds (A9 2 d (t::q)) (.returned (.int .i64 ((nds.length+(Ex.mk ⟨6,v0,[],pl,pc⟩ [a4]).size - 1:Nat):Int))) V6 from⟨_,v6,rfl,HCH6.out.trans hr6,by rw[HLE.out];exact⟨rfl,hf6⟩⟩);clear hf6 hr6 hfl hzz;exact zzo
    obtain rfl:op=17:=by rw[←hop];rfl
    have t1:(S.toList==[45])=true:=by rw[Az,hSe];rfl
    clear hSe hop;go_wp2_with fail;refine HNX.out.mono ?_;rintro e VX ⟨rfl,hbx⟩;have hb1:=hb0.trans (hbx.mono hb0.size);have HPB1:=Ax ((hbx.block _ (Bu HPB.out)).trans HPB.out);have HD:=Ax (Kj (H.out.below hb1));have HB1:=Ax hb1;clear hbx HNX hb0 hb1 HPB k0 k1 k2 k3 k4 k5;go_wp2_with fail;refine HD.out.mono ?_;rintro e V2 ⟨rfl,ho2,hd2⟩;have HPB2:=Ax (ho2.cells_of HPB1.out vE);have HO2:=Ax ho2;by_cases hd12:d=12
    ·rw[Ap hd12] at hd2;obtain⟨a0,dd,hkb⟩:=hd2.blk;obtain⟨k0,k1,k2,k3,k4,k5,_⟩:=Bd hkb;have HF:=Ax (show B5 w B X b vl ts (t::q) d vt nds (A9 6 d (t::q)) (.returned (.int .i64 (-1))) V2 from⟨-1,vt,rfl,(Rch.of_below vt HB1.out).trans (Rch.of_only vt ho2),by rw[HLV.out,Ap hd12];exact hd2⟩);clear hd2 ho2 hkb hd12;exact zzo
    rw[Ao hd12] at hd2;have hlv:=HLV.out;rw[Ao hd12] at hlv;have HLV2:=Ax hlv;obtain⟨k0,k1,k2,k3,k4,k5,kf⟩:=Bd hd2.blk;have kf1:=kf 1;have hbig:=hd2.big;have hst:=hd2.step;have ho3:=A3 V2 b 1 (.int .i64 (((ts.length - (q.length+1):Nat):Int)+1));have hpb3:=ho3.cells_of HPB2.out vT;obtain⟨W3,hW3⟩:∃W3,V2.setCell ⟨b,1,none⟩ (.int .i64 (((ts.length - (q.length+1):Nat):Int)+1))=W3:=⟨_,rfl⟩;rw[hW3] at hst ho3 hpb3;have HST:=Ax hst;have HPB3:=Ax hpb3;have HW3:=Ax hW3;have hch:=(Rch.of_below vt HB1.out).trans ((Rch.of_only vt ho2).trans (Rch.of_only vt ho3));have HCH:=Ax hch;have hz3:B<=W3.heap.size:=Al hB hch.only.size;have Hc:=Ax (ih X 6 (d+1) q W3 vt nds tE uN hst hz3);have Hc:Hid (Calls Tryz.prog 67 #[.pointer (some ⟨b,0,none⟩),.int .i64 6] W3 _):=Ax Hc.out;clear hd2 ho2 hst ho3 hpb3 hW3 hch hlv kf hd12;go_upto_region 14 with fail
    first|rw[HW3.out]|rw[Aa,HW3.out]
    clear k0 k1 k2 k3 k4 k5 kf1;go_wp2_with fail;refine Hc.out.mono ?_;rintro e V4 ⟨z4,v4,rfl,hr4,hm4⟩;have hpb4:=hr4.only.cells_of HPB3.out (HST.out.apart HPB3.out tG tG);have HPB4:=Ax hpb4;have HCH4:=Ax (HCH.out.trans hr4);clear hr4 hpb4 Hc;cases hq4:A9 6 (d+1) q with
    |error p=>
     obtain⟨er,q4⟩:=p;rw[hq4] at hm4;have hm4:Ej V4 B b vl ts v4 er (ts.length - q4.length) (nds.length+q.length):=hm4;have hlv:=HLV2.out;rw[hq4] at hlv;have HLE:=Ax (show A9 6 d (t::q)= .error (er,q4) from hlv);obtain⟨a0,dd,hkb⟩:=hm4.blk;obtain⟨k0,k1,k2,k3,k4,k5,kf⟩:=Bd hkb;have kf2:=kf 2;obtain⟨x5,hx5⟩:∃x5,IntKind.i64.wrap (dd - 1)=x5:=⟨_,rfl⟩;have hx5':wrap64 (dd - 1)=x5:=by rw[←hx5];simp [IntKind.wrap_i64,wrap64]
     have hm5:=hm4.deep x5;have ho5:=A3 V4 b 2 (.int .i64 x5);have hpb5:=ho5.cells_of HPB4.out vR;obtain⟨W5,hW5⟩:∃W5,V4.setCell ⟨b,2,none⟩ (.int .i64 x5)=W5:=⟨_,rfl⟩;rw[hW5] at hm5 ho5 hpb5;have HW5:=Ax hW5;have HM5:=Ax hm5;have HCH5:=Ax (HCH4.out.trans (Rch.of_only v4 ho5));have HPB5:=Ax hpb5;clear hkb kf hm4 hm5 ho5 hpb5 hW5 hx5 hlv hq4;go_upto_region 16 with fail
     rw[HW5.out];clear k0 k1 k2 k3 k4 k5 kf2 hx5';have hal:=(Aq W5.heap.size W5).alloc (Ak _) (.cells #[.int .i64 z4] 3);obtain⟨p0,p1,_⟩:=A0 ((hal.block _ (Bu HPB5.out)).trans HPB5.out);have HP:=Ax (Ei (HM5.out.below hal) (by have:=H.out.few;simp only[Aa] at this;omega) (Al hB (Al HCH5.out.only.size hal.size)) ⟨17,v0,[],pl,pc⟩ (some ⟨W5.heap.size,0,none⟩) 1 1);have HP:Hid (Calls Tryz.prog 128 #[.pointer (some ⟨b,0,none⟩),.agg #[.int .u8 17,.int .u8 0,.int .i64 0,.string ⟨#[]⟩,.string ⟨#[]⟩,.slice (some ⟨W5.heap.size,0,none⟩) 1 1,.int .i64 pl,.int .i64 pc]] (W5.alloc (.cells #[.int .i64 z4] 3)) _):=Ax HP.out;have HCH6:=Ax (HCH5.out.trans (Rch.of_below v4 hal));clear hal;go_wp2_with fail;refine HP.out.mono ?_;rintro e V6 ⟨z6,v6,rfl,hx6,hr6⟩;have HF:=Ax (show B5 w B X b vl ts (t::q) d vt nds (A9 6 d (t::q)) (.returned (.int .i64 z6)) V6 from⟨z6,v6,rfl,HCH6.out.trans hr6,by rw[HLE.out];exact hx6.mono tZ H.out.few⟩);clear hx6 hr6;exact zzo
    |ok p=>
     obtain⟨a4,q4⟩:=p;rw[hq4] at hm4;obtain⟨rfl,hf4⟩:=hm4;have hsz4:=F5 (n:=6) tE hq4;have hsp4:=a4.size_pos;have hlv:=HLV2.out;rw[hq4] at hlv;have HLE:=Ax (show A9 6 d (t::q)= .ok (Ex.mk ⟨17,v0,[],pl,pc⟩ [a4],q4) from hlv);obtain⟨k0,k1,k2,k3,k4,k5,kf⟩:=Bd hf4.blk;have kf2:=kf 2;have hd13:=hf4.hd;have hf5:=hf4.deep (d':=d) tE;have ho5:=A3 V4 b 2 (.int .i64 (d:Int));have hpb5:=ho5.cells_of HPB4.out vS;obtain⟨W5,hW5⟩:∃W5,V4.setCell ⟨b,2,none⟩ (.int .i64 (d:Int))=W5:=⟨_,rfl⟩;rw[hW5] at hf5 ho5 hpb5;have HW5:=Ax hW5;have HF5:=Ax hf5;have HCH5:=Ax (HCH4.out.trans (Rch.of_only v4 ho5));have HPB5:=Ax hpb5;have hdd:((d+1:Nat):Int) - 1=(d:Int):=by omega
     clear hf4 hf5 ho5 hpb5 hW5 hlv hq4 kf;go_upto_region 16 with fail
     first|rw[HW5.out]|(rw[show((d:Int)+1 - 1)=(d:Int) by omega,HW5.out])|(rw[hdd,HW5.out])
     clear k0 k1 k2 k3 k4 k5 kf2 hdd;have hal:=(Aq W5.heap.size W5).alloc (Ak _) (.cells #[.int .i64 ((nds.length+a4.size - 1:Nat):Int)] 3);obtain⟨p0,p1,_⟩:=A0 ((hal.block _ (Bu HPB5.out)).trans HPB5.out);have hk1:=Ms W5 B (nds.length+a4.size - 1) (Al hB HCH5.out.only.size);have HP:=Ax (Mg (HF5.out.below hal) (by have:=H.out.few;simp only[Ab,Ex.flat_len,Aa] at*;omega) (Al hB (Al HCH5.out.only.size hal.size)) ⟨17,v0,[],pl,pc⟩ [nds.length+a4.size - 1] (some ⟨W5.heap.size,0,none⟩) 1 hk1 (fun g e hx=>by simp only[Value.ownBlock,Option.some.injEq] at e;subst e;have:=HF5.out.xl _ hx;omega));have HP:Hid (Calls Tryz.prog 128 #[.pointer (some ⟨b,0,none⟩),.agg #[.int .u8 17,.int .u8 0,.int .i64 0,.string ⟨#[]⟩,.string ⟨#[]⟩,.slice (some ⟨W5.heap.size,0,none⟩) 1 1,.int .i64 pl,.int .i64 pc]] (W5.alloc (.cells #[.int .i64 ((nds.length+a4.size - 1:Nat):Int)] 3)) _):=Ax HP.out;have HCH6:=Ax (HCH5.out.trans (Rch.of_below v4 hal));clear hal hk1;go_wp2_with fail;refine HP.out.mono ?_;rintro e V6 ⟨rfl,v6,hf6,hr6⟩;have hfl:nds++a4.flat nds.length++[⟨⟨17,v0,[],pl,pc⟩,[nds.length+a4.size - 1]⟩]=nds++(Ex.mk ⟨17,v0,[],pl,pc⟩ [a4]).flat nds.length:=by rw[S5,List.append_assoc]
     rw[hfl] at hf6;have hzz:(nds++a4.flat nds.length).length=nds.length+(Ex.mk ⟨17,v0,[],pl,pc⟩ [a4]).size - 1:=by rw[Ab,Ex.flat_len];simp [Ex.size,Bf]<;>omega
     rw[hzz];have HF:=Ax (show B5 w B X b vl ts (t::q) d vt nds (A9 6 d (t::q)) (.returned (.int .i64 ((nds.length+(Ex.mk ⟨17,v0,[],pl,pc⟩ [a4]).size - 1:Nat):Int))) V6 from⟨_,v6,rfl,HCH6.out.trans hr6,by rw[HLE.out];exact⟨rfl,hf6⟩⟩);clear hf6 hr6 hfl hzz;exact zzo
  have hpre:(n=2\/n=6)->isH (Ea n) r=false:=fun h=>absurd h hn26
  have d2:((n:Int)==2)=false:=Af.2 tE;have d2':(n==2)=false:=Af.2 (fun e=>hn26 (.inl e));have d6:((n:Int)==6)=false:=Af.2 tE;have d6':(n==6)=false:=Af.2 (fun e=>hn26 (.inr e));clear hn26;have hc:=ih X (n+1) d r V0 vt nds tE uX (H.out.below hb0) (Al hB hb0.size);rw[Int.natCast_succ] at hc;have Hc:=Ax hc;have HB0:=Ax hb0;clear hc hb0;go_wp2_with fail;refine Hc.out.mono ?_;rintro e V1 ⟨z1,v1,rfl,hr1,hm1⟩;have HS:Hid (Sr w B X b vl ts r n d vt nds z1 V1):=Ax (Q5 h6 hpre (Rch.of_below vt HB0.out) hr1 hm1);clear hr1 hm1 Hc;go_wp2_with fail
  go_loopw [8] (fun v8 wr=>∃z:Int,v8= .int .i64 z/\Hid (Sr w B X b vl ts r n d vt nds z wr)) (fun _ wr=>Fj b ts wr)
  case atStart=>exact⟨z1,rfl,HS⟩
  clear HS;obtain⟨z,rfl,hq⟩:=hrel;obtain⟨vj,hrj,hcase⟩:=hq.out;have HRJ:=Ax hrj;clear hq;rcases hcase with ⟨aj,rj,rfl,hj1,hj2,hj3,hj4⟩|⟨er,q,hle,hx⟩
  ·have HJ3:=Ax hj3;have HJ4:=Ax hj4;have hbw:=Al hB hrj.only.size;obtain⟨k0,k1,k2,k3,k4,k5,_⟩:=Bd hj3.blk;have HNX:=Ax (Fu hj3);have HMS:=Ax (show Fj b ts wr=2*rj.length+1 from Hy hj3);have hsp:=aj.size_pos;have hfew:=H.out.few;clear hrj hj3 hj4;go_wp2_with fail;refine HNX.out.mono ?_;rintro e V2 ⟨rfl,hb2⟩;have HIF:=Ax (Nu n h6 (Gj rj) V2);rw[K7 rj _ (Sc n)] at HIF;have HJ5:=Ax (HJ3.out.below hb2);have HB2:=Ax hb2;clear hb2 k0 k1 k2 k3 k4 k5;go_wp2_with fail;refine HIF.out.mono ?_;rintro e V3 ⟨rfl,hb3⟩;have HJ6:=Ax (HJ5.out.below hb3);have HB3:=Ax (HB2.out.trans (hb3.mono HB2.out.size));clear hb3 HIF HNX HJ5;by_cases hop:Be rj (Bp n)=0
   ·rw[hop];have hrow:=HJ4.out;rw[Dp,Ap hop] at hrow;have HF:=Ax (Tq HRJ.out HB3.out HJ6.out hrow);clear hop hrow;exact zzo
   obtain⟨t,q,rfl⟩:=Fe hop;obtain⟨op,hope⟩:∃op,Be (t::q) (Bp n)=op:=⟨_,rfl⟩;have hrow:=HJ4.out;rw[Dp,Ao hop,List.tail_cons,hope] at hrow;rw[hope] at hop;have HROW:=Ax hrow;have do0:(op==0)=false:=Af.2 hop;have do1:(op !=0)=true:=by rw[bne,do0];rfl
   have HNX:=Ax (Fu HJ6.out);rw[hope];clear hrow hop;go_wp2_with fail;refine HNX.out.mono ?_;rintro e V4 ⟨rfl,hb4⟩;have HIF:=Ax (Nu n h6 (Gj (t::q)) V4);rw[K7 (t::q) _ (Sc n),hope] at HIF;have HJ7:=Ax (HJ6.out.below hb4);have HB4:=Ax (HB3.out.trans (hb4.mono HB3.out.size));clear hb4;go_wp2_with fail;refine HIF.out.mono ?_;rintro e V5 ⟨rfl,hb5⟩;have HJ8:=Ax (HJ7.out.below hb5);have HB5:=Ax (HB4.out.trans (hb5.mono HB4.out.size));have HPL:=Ax (Oy HJ8.out);clear hb5 HIF HNX HJ7 hope;go_wp2_with fail;refine HPL.out.mono ?_;rintro e V6 ⟨rfl,hb6⟩;obtain⟨ln,hln⟩:∃x,(plH (t::q)).1=x:=⟨_,rfl⟩;obtain⟨cl,hcl⟩:∃x,(plH (t::q)).2=x:=⟨_,rfl⟩;rw[hln,hcl] at HROW ⊢;clear hln hcl;have hal:=(Aq V6.heap.size V6).alloc (Ak _) (.cells #[.int .u8 op,.int .u8 0,.int .i64 0,.string ⟨#[]⟩,.string ⟨#[]⟩,.slice none 0 0,.int .i64 ln,.int .i64 cl] 38);have hap:V6.heap.size∉b::vj.ownBlock.toList:=fun hm=>absurd (Cv.lt (HJ8.out.below hb6) _ hm) (Nat.lt_irrefl _)
   have hBp:B<=V6.heap.size:=Al hbw (Al HB5.out.size hb6.size);have hwp:w.heap.size<=V6.heap.size:=Al HRJ.out.only.size (Al HB5.out.size hb6.size);have HJ9:=Ax ((HJ8.out.below hb6).below hal);have HB7:=Ax ((HB5.out.trans (hb6.mono HB5.out.size)).trans (hal.mono (Al HB5.out.size hb6.size)));have HNB:=Ax (A1 V6 (.cells #[.int .u8 op,.int .u8 0,.int .i64 0,.string ⟨#[]⟩,.string ⟨#[]⟩,.slice none 0 0,.int .i64 ln,.int .i64 cl] 38));obtain⟨W7,hW7⟩:∃W7,V6.alloc (.cells #[.int .u8 op,.int .u8 0,.int .i64 0,.string ⟨#[]⟩,.string ⟨#[]⟩,.slice none 0 0,.int .i64 ln,.int .i64 cl] 38)=W7:=⟨_,rfl⟩;rw[hW7] at HJ9 HB7 HNB;have HW7:=Ax hW7;clear hal hb6 hW7 HPL;go_upto_region 20 with fail
   rw[HW7.out];obtain⟨k0,k1,k2,k3,k4,k5,kf⟩:=Bd HJ9.out.blk;have kf1:=kf 1;have hbig:=HJ9.out.big;obtain⟨p9,hp9⟩:∃p9,V6.heap.size=p9:=⟨_,rfl⟩;rw[hp9] at HNB hap hBp hwp ⊢;clear hp9;have hst:=HJ9.out.step;have ho8:=A3 W7 b 1 (.int .i64 (((ts.length - (q.length+1):Nat):Int)+1));have HST:=Ax hst;have HO8:=Ax ho8;have hnb8:=ho8.cells_of HNB.out (by simp;intro e;exact hap tR);have HN8:=Ax hnb8;obtain⟨W8,hW8⟩:∃W8,W7.setCell ⟨b,1,none⟩ (.int .i64 (((ts.length - (q.length+1):Nat):Int)+1))=W8:=⟨_,rfl⟩;rw[hW8] at HST HO8 HN8;have HW8:=Ax hW8;have hz8:B<=W8.heap.size:=Al hbw (Al HB7.out.size HO8.out.size);have hc2:=ih X (n+1) d q W8 vj (nds++aj.flat nds.length) tE (by simp only[B2,Aa] at hk hj1 ⊢;omega) HST.out hz8;rw[Int.natCast_succ] at hc2;have Hc2:=Ax hc2;have HAP:=Ax hap;clear kf hap hst ho8 hnb8 hW8 hc2;go_upto_region 21 with fail
   first|rw[HW8.out]|rw[Aa,HW8.out]
   clear k0 k1 k2 k3 k4 k5 kf1;go_wp2_with fail;refine Hc2.out.mono ?_;rintro e V9 ⟨z2,v9,rfl,hr9,hm9⟩;have HR9:=Ax hr9;have hnb9:=hr9.only.cells_of HN8.out HAP.out;have HAP9:=Ax (hr9.far HAP.out (Bu HN8.out));have hch:Rch b w vt V9 v9:=((HRJ.out.trans (Rch.of_below vj HB7.out)).trans (Rch.of_only vj HO8.out)).trans hr9;have HCH:=Ax hch;have hz9:B<=V9.heap.size:=Al hB hch.only.size;clear hr9 hch Hc2;obtain⟨n0,n1,n2,n3,n4,n5,n6,n7,nf⟩:=Ft hnb9;have nf5:=nf 5;have HN9:=Ax hnb9;clear nf hnb9;cases hq4:A9 (n+1) d q with
   |error p=>
    obtain⟨er,q4⟩:=p;rw[hq4] at hm9;have hm9:Ej V9 B b vl ts v9 er (ts.length - q4.length) ((nds++aj.flat nds.length).length+q.length):=hm9;have hle:A9 n d r= .error (er,q4):=by rw[←HROW.out,hq4];rfl
    have hcap:(nds++aj.flat nds.length).length+q.length+1<=nds.length+r.length:=by simp only[Aa] at hj2;rw[Ab,Ex.flat_len];omega
    have HLE:=Ax hle;have hap9:=HAP9.out;have hal:=(Aq V9.heap.size V9).alloc (Ak _) (.cells #[.int .i64 ((nds.length+aj.size - 1:Nat):Int),.int .i64 z2] 3);have nn5:=Ba hal n5;have nnf:=(hal.frozen (p:=⟨p9,5,none⟩) (Bu HN9.out)).trans nf5;obtain⟨W10,hW10⟩:∃W10,V9.alloc (.cells #[.int .i64 ((nds.length+aj.size - 1:Nat):Int),.int .i64 z2] 3)=W10:=⟨_,rfl⟩;rw[hW10] at hal;have HW10:=Ax hW10;have hnb10:=(hal.block _ (Bu HN9.out)).trans HN9.out;have hne9:¬p9=V9.heap.size:=by have:=Bu HN9.out;omega
    have ho11:=A3 W10 p9 5 (.slice (some ⟨V9.heap.size,0,none⟩) 2 2);have hnb11:=A2 (i:=5) (u:= .slice (some ⟨V9.heap.size,0,none⟩) 2 2) hnb10;obtain⟨W11,hW11⟩:∃W11,W10.setCell ⟨p9,5,none⟩ (.slice (some ⟨V9.heap.size,0,none⟩) 2 2)=W11:=⟨_,rfl⟩;rw[hW11] at ho11 hnb11;have HW11:=Ax hW11;have HN11:=Ax hnb11;have hx11:=(hm9.below hal).far ho11 hap9 hBp;have HP:=Ax (Ei hx11 (Al hcap tE) (Al hz9 (Al hal.size ho11.size)) ⟨op,v0,[],ln,cl⟩ (some ⟨V9.heap.size,0,none⟩) 2 2);have HP:Hid (Calls Tryz.prog 128 #[.pointer (some ⟨b,0,none⟩),.agg #[.int .u8 op,.int .u8 0,.int .i64 0,.string ⟨#[]⟩,.string ⟨#[]⟩,.slice (some ⟨V9.heap.size,0,none⟩) 2 2,.int .i64 ln,.int .i64 cl]] W11 _):=Ax HP.out;have HCH2:=Ax (HCH.out.then_far hal ho11 hwp);clear hm9 hal hnb10 ho11 hnb11 hW10 hW11 hq4;go_upto_region 23 with fail
    rw[HW10.out,HW11.out];obtain⟨m0,m1,m2,m3,m4,m5,m6,m7,_⟩:=Ft HN11.out;clear n0 n1 n2 n3 n4 n5 n6 n7 nf5 nn5 nnf;go_wp2_with fail;refine HP.out.mono ?_;rintro e V12 ⟨z3,v12,rfl,hx12,hr12⟩;have hx13:=hx12.mono hcap (by have:=H.out.few;omega);have HX13:=Ax hx13;have HCH3:=Ax (HCH2.out.trans hr12);have HMX:=Ax (Yh (ts:=ts) hx12);clear hx12 hx13 hr12;by_cases hn3:n=3
    ·subst hn3;go_wp2_with fail;go_ret;exact⟨z3,v12,rfl,HCH3.out,by rw[HLE.out];exact HX13.out⟩
    have d3:((n:Int)==3)=false:=Af.2 tE;have d3':(n==3)=false:=Af.2 hn3;clear hn3;go_wp2_with fail;go_roundw
    case rel=>exact⟨z3,rfl,Ax ⟨v12,HCH3.out,.inr ⟨er,q4,HLE.out,HX13.out⟩⟩⟩
    case measure=>have:=HMS.out;have:=HMX.out;omega
   |ok p=>
    obtain⟨b4,q4⟩:=p;rw[hq4] at hm9;obtain⟨hz2,hf9⟩:=hm9;have hsz4:=F5 (n:=n+1) tE hq4;have hsp4:=b4.size_pos;have hlen4:=(Dz (n:=n+1) tE hq4).2;have hnl:(nds++aj.flat nds.length).length=nds.length+aj.size:=by rw[Ab,Ex.flat_len]
    rw[hnl] at hz2 hf9;subst hz2;have hrow2:=HROW.out;rw[hq4] at hrow2;have HROW2:=Ax hrow2;clear hrow2;have hap9:=HAP9.out;have hal:=(Aq V9.heap.size V9).alloc (Ak _) (.cells #[.int .i64 ((nds.length+aj.size - 1:Nat):Int),.int .i64 ((nds.length+aj.size+b4.size - 1:Nat):Int)] 3);have nn5:=Ba hal n5;have nnf:=(hal.frozen (p:=⟨p9,5,none⟩) (Bu HN9.out)).trans nf5;obtain⟨W10,hW10⟩:∃W10,V9.alloc (.cells #[.int .i64 ((nds.length+aj.size - 1:Nat):Int),.int .i64 ((nds.length+aj.size+b4.size - 1:Nat):Int)] 3)=W10:=⟨_,rfl⟩;rw[hW10] at hal;have HW10:=Ax hW10;have hk2:=Rs V9 B (nds.length+aj.size - 1) (nds.length+aj.size+b4.size - 1) hz9;rw[hW10] at hk2;have hnb10:=(hal.block _ (Bu HN9.out)).trans HN9.out;have hne9:¬p9=V9.heap.size:=by have:=Bu HN9.out;omega
    have ho11:=A3 W10 p9 5 (.slice (some ⟨V9.heap.size,0,none⟩) 2 2);have hnb11:=A2 (i:=5) (u:= .slice (some ⟨V9.heap.size,0,none⟩) 2 2) hnb10;obtain⟨W11,hW11⟩:∃W11,W10.setCell ⟨p9,5,none⟩ (.slice (some ⟨V9.heap.size,0,none⟩) 2 2)=W11:=⟨_,rfl⟩;rw[hW11] at ho11 hnb11;have HW11:=Ax hW11;have HN11:=Ax hnb11;have hf11:=(hf9.below hal).far ho11 hnb10 hap9 hBp;have hk11:=Bm hk2 ho11 (fun g e hm=>by simp only[Value.ownBlock,Option.some.injEq] at e;subst e;simp at hm;exact hne9 hm.symm);have HP:=Ax (Mg hf11 (by simp only[Ab,Ex.flat_len];simp only[Aa] at hj2;omega) (Al hz9 (Al hal.size ho11.size)) ⟨op,v0,[],ln,cl⟩ [nds.length+aj.size - 1,nds.length+aj.size+b4.size - 1] (some ⟨V9.heap.size,0,none⟩) 2 hk11 (fun g e hx=>by simp only[Value.ownBlock,Option.some.injEq] at e;subst e;have:=hf9.xl _ hx;omega));have HP:Hid (Calls Tryz.prog 128 #[.pointer (some ⟨b,0,none⟩),.agg #[.int .u8 op,.int .u8 0,.int .i64 0,.string ⟨#[]⟩,.string ⟨#[]⟩,.slice (some ⟨V9.heap.size,0,none⟩) 2 2,.int .i64 ln,.int .i64 cl]] W11 _):=Ax HP.out;have HCH2:=Ax (HCH.out.then_far hal ho11 hwp);clear hf9 hf11 hk11 hk2 hal hnb10 ho11 hnb11 hW10 hW11 hq4;go_upto_region 23 with fail
    rw[HW10.out,HW11.out];obtain⟨m0,m1,m2,m3,m4,m5,m6,m7,_⟩:=Ft HN11.out;clear n0 n1 n2 n3 n4 n5 n6 n7 nf5 nn5 nnf;go_wp2_with fail;refine HP.out.mono ?_;rintro e V12 ⟨rfl,v12,hf12,hr12⟩;have hfl:nds++aj.flat nds.length++b4.flat (nds.length+aj.size)++[⟨⟨op,v0,[],ln,cl⟩,[nds.length+aj.size - 1,nds.length+aj.size+b4.size - 1]⟩]=nds++(Ex.mk ⟨op,v0,[],ln,cl⟩ [aj,b4]).flat nds.length:=by rw[Yn];simp only[List.append_assoc]
    rw[hfl] at hf12;have hsz5:(Ex.mk ⟨op,v0,[],ln,cl⟩ [aj,b4]).size=aj.size+b4.size+1:=by simp [Ex.size,Bf]<;>omega
    have hzz:(nds++aj.flat nds.length++b4.flat (nds.length+aj.size)).length=nds.length+(Ex.mk ⟨op,v0,[],ln,cl⟩ [aj,b4]).size - 1:=by rw[hsz5];simp only[Ab,Ex.flat_len];omega
    rw[hzz];have HF12:=Ax hf12;have HCH3:=Ax (HCH2.out.trans hr12);have HMX:=Ax (show Fj b ts V12=2*q4.length+1 from Hy hf12);have HSZ5:=Ax hsz5;clear hf12 hr12 hfl hzz hsz5;obtain⟨zr,hzr⟩:∃zr:Int,((nds.length+(Ex.mk ⟨op,v0,[],ln,cl⟩ [aj,b4]).size - 1:Nat):Int)=zr:=⟨_,rfl⟩;rw[hzr];have HZR:=Ax hzr;clear hzr;by_cases hn3:n=3
    ·have HLE:=Ax (show A9 n d r= .ok (Ex.mk ⟨op,v0,[],ln,cl⟩ [aj,b4],q4) by rw[←HROW2.out];show(if n=3 then _ else _)=_;rw[Ap hn3]);subst hn3;go_wp2_with fail;go_ret;exact⟨zr,v12,rfl,HCH3.out,by rw[HLE.out];exact⟨HZR.out.symm,HF12.out⟩⟩
    have HLE:=Ax (show Ty n (Ex.mk ⟨op,v0,[],ln,cl⟩ [aj,b4]) d q4=A9 n d r by rw[←HROW2.out];show _=(if n=3 then _ else _);rw[Ao hn3]);have d3:((n:Int)==3)=false:=Af.2 tE;have d3':(n==3)=false:=Af.2 hn3;clear hn3;go_wp2_with fail;go_roundw
    case rel=>exact⟨zr,rfl,Ax ⟨v12,HCH3.out,.inl ⟨_,q4,HZR.out.symm,by simp only[Aa] at hj1;omega,by rw[HSZ5.out];simp only[Aa] at hj2;omega,HF12.out,HLE.out⟩⟩⟩
    case measure=>have:=HMS.out;have:=HMX.out;simp only[Aa] at*;omega
  obtain⟨a0,dd,hkb⟩:=hx.blk;obtain⟨k0,k1,k2,k3,k4,k5,_⟩:=Bd hkb;have de:(er==0)=false:=Af.2 hx.ne;have HF:=Ax (show B5 w B X b vl ts r d vt nds (A9 n d r) (.returned (.int .i64 z)) wr from⟨z,vj,rfl,hrj,by rw[hle];exact hx⟩);clear hx hkb hle hrj;exact zzo
end Go.Proofs.YtmpfilddeglgbaaGreatDoor
