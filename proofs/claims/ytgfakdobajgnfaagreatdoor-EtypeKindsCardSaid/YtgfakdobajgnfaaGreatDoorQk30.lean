import Derived.Test.YtgfakdobajgnfaaGreatDoorQk29
set_option maxRecDepth 100000
set_option maxHeartbeats 16000000
namespace Go.Proofs.YtgfakdobajgnfaaGreatDoor
open Go Go.RowKit Go.Lib
theorem Cs.apart {w:World}{B b d p:Nat}{X:List Nat}{f e:Value}{ts r:List Tkn}{c:List Nd}{cs:Array Value}{t:TypeId}(h:Cs w B X b f ts r d e c)(hp:w.heap[p]? =some (.cells cs t (0,0)))(h1:136≠t)(h2:43≠t):p∉b::e.ownBlock.toList:=by
 exact zwk
theorem Ec.apart {w:World}{B b bad d p:Nat}{g f:Value}{ts:List Tkn}{e:Int}{cs:Array Value}{t:TypeId}(h:Ec w B b g ts f e bad d)(c:w.heap[p]? =some (.cells cs t (0,0)))(i:136≠t)(j:43≠t):p∉b::f.ownBlock.toList:=by
 obtain⟨a,o,k⟩:=h.blk;obtain⟨m,q,_,n⟩:=h.row;intro hm;rcases List.mem_cons.1 hm with rfl|hm
 ·rw[k] at c;injection c with c;injection c with _ c;exact i c
 exact Bh n c j sE
theorem Cs.left {w:World}{B b d:Nat}{X:List Nat}{e f:Value}{ts r:List Tkn}{c:List Nd}(h:Cs w B X b e ts r d f c):ts.length - I1 b w=r.length:=by
 obtain⟨_,g,_⟩:=Be h.blk;have i:=h.suf.len;unfold I1;rw[g];show ts.length - (((ts.length - r.length:Nat):Int)).toNat=r.length;omega
def Bw (w:World)(B:Nat)(X:List Nat)(b:Nat)(f:Value)(ts r:List Tkn)(d:Nat)(g:Value)(c:List Nd)(x:ExR)(e:Ending)(w':World):Prop:=
 ∃(z:Int) (vt':Value),e= .returned (.int .i64 z)/\Rch b w g w' vt'/\match x with
  | .ok p=>z=((c.length+p.1.size - 1:Nat):Int)/\Cs w' B X b f ts p.2 d vt' (c++p.1.flat c.length)
  | .error p=>Ec w' B b f ts vt' p.1 (ts.length - p.2.length) (c.length+r.length)
def Vb (k B b:Nat)(c:Value)(ts:List Tkn):Prop:=∀(X:List Nat) (n d:Nat) (r:List Tkn) (w:World) (vt:Value) (nds:List Nd),n<=7->Bu (.lvl n) r<k->Cs w B X b c ts r d vt nds->B<=w.heap.size->
 Calls Tryz.prog 91 #[.pointer (some ⟨b,0,none⟩),.int .i64 (n:Int)] w (Bw w B X b c ts r d vt nds (Bc n d r))
def pR (k B b:Nat)(c:Value)(ts:List Tkn):Prop:=∀(X:List Nat) (d:Nat) (r:List Tkn) (w:World) (vt:Value) (nds:List Nd),Bu (.lvl 7) r<=k->Cs w B X b c ts r d vt nds->B<=w.heap.size->
 Calls Tryz.prog 162 #[.pointer (some ⟨b,0,none⟩)] w (Bw w B X b c ts r d vt nds (Bc 7 d r))
theorem T1 {w:World}{B b bad c:Nat}{f g:Value}{ts:List Tkn}{e:Int}(h:Ec w B b f ts g e bad c)(n:Int):
 Calls Tryz.prog 91 #[.pointer (some ⟨b,0,none⟩),.int .i64 n] w fun en w'=>en= .returned (.int .i64 (-1))/\w=w':=by
 obtain⟨a,j,d⟩:=h.blk;obtain⟨k,m,o,p,q,r,_⟩:=Be d;have i:(e==0)=false:=Af.2 h.ne;have u:(e !=0)=true:=by rw[bne,i];rfl
 clear h d;go_enter Tryz.func91,Tryz.ntmps91;go_wp2_with fail;exact zyn
def Rw (w:World)(B:Nat)(X:List Nat)(b:Nat)(f:Value)(ts r:List Tkn)(n d:Nat)(g:Value)(c:List Nd)(z:Int)(wr:World):Prop:=
 ∃e,Rch b w g wr e/\((∃(aj:Ex) (rj:List Tkn),z=((c.length+aj.size - 1:Nat):Int)/\rj.length<r.length/\aj.size+rj.length<=r.length/\Cs wr B X b f ts rj d e (c++aj.flat c.length)/\Sy n aj d rj=Bc n d r)\/
  ∃(er:Int) (q:List Tkn),Bc n d r= .error (er,q)/\Ec wr B b f ts e er (ts.length - q.length) (c.length+r.length))
theorem jH {n:Nat}(h:n=2\/n=6)(a:Ex)(d:Nat)(r:List Tkn):Sy n a d r= .ok (a,r):=by
 rw[Il];rcases h with rfl|rfl<;>rfl
theorem oN {n d:Nat}{r:List Tkn}(f:n<=6)(c:(n=2\/n=6)->isH (Kf n) r=false):Bc n d r=(Bc (n+1) d r).next fun a q=>Sy n a d q:=by
 by_cases h:n=2\/n=6
 ·rw[Kj h,Ao (by rw[c h];simp)];cases Bc (n+1) d r with
  |error e=>rfl
  |ok p=>exact(jH h p.1 d p.2).symm
 exact Lb rF rF
theorem E7 {w:World}{b:Nat}{c d e f g j k m:Value}{n:TypeId}(h:w.heap[b]? =some (.cells #[c,d,e,f,g,j,k,m] n (0,0))):
 w.cell? ⟨b,0,none⟩=some c/\w.cell? ⟨b,1,none⟩=some d/\w.cell? ⟨b,2,none⟩=some e/\w.cell? ⟨b,3,none⟩=some f/\w.cell? ⟨b,4,none⟩=some g/\w.cell? ⟨b,5,none⟩=some j/\w.cell? ⟨b,6,none⟩=some k/\w.cell? ⟨b,7,none⟩=some m/\∀i,w.frozen? ⟨b,i,none⟩=false:=
 ⟨by simp only[World.cell?,h];rfl,by simp only[World.cell?,h];rfl,by simp only[World.cell?,h];rfl,by simp only[World.cell?,h];rfl,by simp only[World.cell?,h];rfl,by simp only[World.cell?,h];rfl,by simp only[World.cell?,h];rfl,by simp only[World.cell?,h];rfl,fun i=>by simp only[World.frozen?,h];simp⟩
theorem Cs.lt {w:World}{B b d:Nat}{X:List Nat}{k j:Value}{ts r:List Tkn}{f:List Nd}(h:Cs w B X b k ts r d j f):∀g∈b::j.ownBlock.toList,g<w.heap.size:=fun g c=>by
 rcases List.mem_cons.1 c with rfl|c
 ·exact Ay h.blk
 obtain⟨m,n,_⟩:=h.tree;rcases n.2 with ⟨e,_⟩|⟨q,o,p,e,_,i,_⟩
 ·rw[e] at c;simp [Value.ownBlock] at c
 rw[e] at c;simp [Value.ownBlock] at c;subst c;exact Ay i
theorem Rch.far {b p:Nat}{w w':World}{f c:Value}(h:Rch b w f w' c)(g:p∉b::f.ownBlock.toList)(i:p<w.heap.size):p∉b::c.ownBlock.toList:=fun d=>by
 rcases List.mem_cons.1 d with rfl|d
 ·exact g Ai
 have e:c.ownBlock=some p:=by simpa using d
 rcases h.own p e with q|q
 ·exact g (Aj _ (by simpa using q))
 omega
theorem Rch.then_far {b p:Nat}{w V W Z:World}{c v:Value}(h:Rch b w c V v)(e:Below V.heap.size V W)(f:Bb [p] W Z)(j:w.heap.size<=p):Rch b w c Z v:=
 ⟨(h.only.trans (Bb.of_below e _|>.mono (fun _ q=>q))).step f (fun i d=>by simp at d;subst d;exact .inr j),fun g k=>h.own g k⟩
theorem Cs.far {w w':World}{B b d p:Nat}{X:List Nat}{o j:Value}{ts r:List Tkn}{f:List Nd}{cs:Array Value}(h:Cs w B X b o ts r d j f)(c:Bb [p] w w')(y:w.heap[p]? =some (.cells cs 43 (0,0)))(u:p∉b::j.ownBlock.toList)(A:B<=p):Cs w' B X b o ts r d j f:=by
 have hnb:¬b=p:=fun e=>u rT
 refine⟨h.suf,h.toks.kept c.size fun g C k=>c.block g k ?_,h.nam,h.tl,h.hB,fun x m=>Nat.lt_of_lt_of_le (h.xl x m) c.size,h.hd,h.big,h.few,(c.block b (Ay h.blk) uO).trans h.blk,h.tree.imp (fun _ q=>Bj q c fun g e i=>?_) fun v n D m q=>⟨Bj q c fun g e i=>?_,m⟩⟩
 ·have:=h.tl g C
  simp;omega
 ·simp at i;subst i;exact u (Aj _ (by simpa using e))
 simp at i;subst i;exact Bh q y rH e
theorem Ec.far {w w':World}{B b bad c p:Nat}{j f:Value}{ts:List Tkn}{e:Int}(h:Ec w B b j ts f e bad c)(d:Bb [p] w w')(k:p∉b::f.ownBlock.toList)(q:B<=p):Ec w' B b j ts f e bad c:=by
 obtain⟨a,r,n⟩:=h.blk;obtain⟨m,u,v,x⟩:=h.row;have hnb:¬b=p:=fun e=>k rT
 refine⟨h.toks.kept d.size fun g y i=>d.block g i ?_,h.tl,h.hB,h.big,h.room,h.ne,⟨a,r,(d.block b (Ay n) uO).trans n⟩,m,u,v,Bj x d fun g e o=>?_⟩
 ·have:=h.tl g y
  simp;omega
 simp at o;subst o;exact k (Aj _ (by simpa using e))
def Ev (b:Nat)(ts:List Tkn)(w:World):Nat:=match w.cell? ⟨b,4,none⟩ with
 |some (.int .i64 0)=>2*(ts.length - I1 b w)+1
 |_=>0
theorem Gw {w:World}{B b d:Nat}{X:List Nat}{e f:Value}{ts r:List Tkn}{c:List Nd}(h:Cs w B X b e ts r d f c):Ev b ts w=2*r.length+1:=by
 obtain⟨_,_,_,_,g,_⟩:=Be h.blk;unfold Ev;rw[g];simp only;rw[h.left]
theorem Wx {w:World}{B b bad c:Nat}{d f:Value}{ts:List Tkn}{e:Int}(h:Ec w B b d ts f e bad c):Ev b ts w=0:=by
 obtain⟨a,j,g⟩:=h.blk;obtain⟨_,_,_,_,i,_⟩:=Be g;unfold Ev;rw[i]
 split
 ·rename_i q;injection q with q;injection q with _ q;exact absurd q h.ne
 rfl
theorem Pr {w j f:World}{B b n d:Nat}{X:List Nat}{i g v1:Value}{ts r:List Tkn}{c:List Nd}{z:Int}(k:n<=6)(m:(n=2\/n=6)->isH (Kf n) r=false)(o:Rch b w g j g)(q:Rch b j g f v1)
 (e:match Bc (n+1) d r with
  | .ok p=>z=((c.length+p.1.size - 1:Nat):Int)/\Cs f B X b i ts p.2 d v1 (c++p.1.flat c.length)
  | .error p=>Ec f B b i ts v1 p.1 (ts.length - p.2.length) (c.length+r.length)):Rw w B X b i ts r n d g c z f:=by
 have h:=oN (d:=d) k m;refine⟨v1,o.trans q,?_⟩;cases hq:Bc (n+1) d r with
 |error p=>
  rw[hq] at e h;exact .inr ⟨p.1,p.2,h,e⟩
 |ok p=>
  rw[hq] at e h;exact .inl ⟨p.1,p.2,e.1,(Dt (n:=n+1) rF hq).2,Fm (n:=n+1) rF hq,e.2,h.symm⟩
theorem Rf {w wr V:World}{B b n d:Nat}{X:List Nat}{g i e:Value}{ts r j:List Tkn}{c:List Nd}{f:Ex}(k:Rch b w i wr e)(m:Below wr.heap.size wr V)(h:Cs V B X b g ts j d e (c++f.flat c.length))(o:(Except.ok (f,j):ExR)=Bc n d r):
 Bw w B X b g ts r d i c (Bc n d r) (.returned (.int .i64 ((c.length+f.size - 1:Nat):Int))) V:=
 ⟨_,e,rfl,k.trans (Rch.of_below e m),by rw[←o];exact⟨rfl,h⟩⟩
theorem Z5 {k B b:Nat}{vl:Value}{ts:List Tkn}(ih:Vb k B b vl ts)(xO:pR k B b vl ts){X:List Nat}{n d:Nat}{r:List Tkn}{w:World}{E:Value}{c:List Nd}(hn:n<=7)(hk:Bu (.lvl n) r<=k)(h:Cs w B X b vl ts r d E c)(hB:B<=w.heap.size):
 Calls Tryz.prog 91 #[.pointer (some ⟨b,0,none⟩),.int .i64 (n:Int)] w (Bw w B X b vl ts r d E c (Bc n d r)):=by
 cases Nat.lt_or_ge n 7 with
 |inr h7=>
  obtain rfl:n=7:=by omega
  have zG:=Ax (xO X d r w E c hk h hB);obtain⟨O,R,T,U,W,Y,_⟩:=Be h.blk;clear h xO ih;go_enter Tryz.func91,Tryz.ntmps91;go_wp2_with fail;refine zG.out.mono ?_;rintro e V ⟨z,v',rfl,h1,h2⟩;have HF:=Ax (show Bw w B X b vl ts r d E c (Bc 7 d r) (.returned (.int .i64 z)) V from⟨z,v',rfl,h1,h2⟩);clear h1 h2;exact zzl
 |inl h7=>
  have h6:n<=6:=by omega
  clear h7 xO;have H:=Ax h;have vO:=Ax (Nb h);obtain⟨O,R,T,U,W,Y,_⟩:=Be h.blk;have d7:((n:Int)==7)=false:=Af.2 rF;have zQ:(n==7)=false:=Af.2 rF;obtain⟨pl,xP⟩:∃x,(plH r).1=x:=⟨_,rfl⟩;obtain⟨pc,xQ⟩:∃x,(plH r).2=x:=⟨_,rfl⟩;have xA:=Ax (And.intro xP xQ);rw[xP,xQ] at vO;clear h xP xQ;go_enter Tryz.func91,Tryz.ntmps91;go_wp2_with fail;refine vO.out.mono ?_;rintro e V ⟨rfl,xR⟩;have f:=(Aq V.heap.size V).alloc (Ak _) (.cells #[.int .i64 pl,.int .i64 pc] 33);have j:=xR.trans (f.mono xR.size);have uY:=Ax (Az V (.cells #[.int .i64 pl,.int .i64 pc] 33));obtain⟨V0,xS⟩:∃V0,V.alloc (.cells #[.int .i64 pl,.int .i64 pc] 33)=V0:=⟨_,rfl⟩;rw[xS] at j uY;have zH:=Ax xS;clear f xR xS vO O R T U W Y;obtain⟨O,R,T,U,W,Y,_⟩:=Be (H.out.below j).blk;go_upto_region 6 with fail
  rw[zH.out];by_cases hn26:n=2\/n=6
  ·have A:=Ax (Fe (H.out.below j));obtain⟨S,hS⟩:∃S:ByteArray,⟨(Fx r).toArray⟩=S:=⟨_,rfl⟩;rw[hS] at A;have vP:decide (dl S=Kf n)=isH (Kf n) r:=by rw[←hS,Da];exact I4 (by unfold Kf;split<;>simp)
   cases hpw:isH (Kf n) r with
   |false=>
    rw[hpw] at vP;have wQ:=of_decide_eq_false vP;have yP:=Ax hpw;clear vP hS;rcases hn26 with rfl|rfl
    ·have t1:(S.toList==[110,111,116])=false:=by rw[A0];exact Af.2 wQ
     clear wQ hpw;go_wp2_with fail;refine A.out.mono ?_;rintro e VX ⟨rfl,d8⟩;have j:=j.trans (d8.mono j.size);clear d8 A O R T U W Y;obtain⟨V0,rfl⟩:∃V0,V0=VX:=⟨_,rfl⟩;obtain⟨O,R,T,U,W,Y,_⟩:=Be (H.out.below j).blk;have hc:=ih X (2+1) d r V0 E c rF sY (H.out.below j) (Al hB j.size);have hc:Calls Tryz.prog 91 #[.pointer (some ⟨b,0,none⟩),.int .i64 3] V0 _:=hc;have Hc:=Ax hc;have vT:=Ax j;clear hc j;go_wp2_with fail;refine Hc.out.mono ?_;rintro e V1 ⟨z1,v1,rfl,s9,w7⟩;have HS:Hid (Rw w B X b vl ts r 2 d E c z1 V1):=Ax (Pr h6 (fun _=>yP.out) (Rch.of_below E vT.out) s9 w7);clear s9 w7 Hc;go_wp2_with fail
     go_loopw [8] (fun v8 wr=>∃z:Int,v8= .int .i64 z/\Hid (Rw w B X b vl ts r 2 d E c z wr)) (fun _ wr=>Ev b ts wr)
     case atStart=>exact⟨z1,rfl,HS⟩
     clear HS;obtain⟨z,rfl,hq⟩:=hrel;obtain⟨vj,L,i7⟩:=hq.out;have uZ:=Ax L;clear hq;rcases i7 with ⟨Z,rj,rfl,wR,vU,M,w8⟩|⟨er,q,r9,hx⟩
     ·have vV:=Ax M;have vQ:=Ax w8;have wS:=Al hB L.only.size;obtain⟨O,R,T,U,W,Y,_⟩:=Be M.blk;have A:=Ax (Fe M);have wT:=Ax (show Ev b ts wr=2*rj.length+1 from Gw M);have yQ:=Z.size_pos;have xB:=H.out.few;clear L M w8;go_wp2_with fail;refine A.out.mono ?_;rintro e V2 ⟨rfl,j8⟩;have F:=Ax (L8 2 h6 (Fx rj) V2);rw[Kg rj _ (Qv 2)] at F;have F:Hid (Calls Tryz.prog 167 #[.int .i64 2,.string ⟨(Fx rj).toArray⟩] V2 _):=Ax F.out;have w9:=Ax (vV.out.below j8);have x8:=Ax j8;clear j8 O R T U W Y;go_wp2_with fail;refine F.out.mono ?_;rintro e V3 ⟨rfl,j9⟩;have vA:=Ax (w9.out.below j9);have vB:=Ax (x8.out.trans (j9.mono x8.out.size));clear j9 F A w9;by_cases o:B6 rj (Bt 2)=0
      ·rw[o];have v:=vQ.out;rw[Il,Ap o] at v;have HF:=Ax (Rf uZ.out vB.out vA.out v);clear o v;exact zzl
      exact absurd rfl o
     obtain⟨a0,dd,C⟩:=hx.blk;obtain⟨O,R,T,U,W,Y,_⟩:=Be C;have de:(er==0)=false:=Af.2 hx.ne;have HF:=Ax (show Bw w B X b vl ts r d E c (Bc 2 d r) (.returned (.int .i64 z)) wr from⟨z,vj,rfl,L,by rw[r9];exact hx⟩);clear hx C r9 L;exact zzl
    have t1:(S.toList==[45])=false:=by rw[A0];exact Af.2 wQ
    clear wQ hpw;go_wp2_with fail;refine A.out.mono ?_;rintro e VX ⟨rfl,d8⟩;have j:=j.trans (d8.mono j.size);clear d8 A O R T U W Y;obtain⟨V0,rfl⟩:∃V0,V0=VX:=⟨_,rfl⟩;obtain⟨O,R,T,U,W,Y,_⟩:=Be (H.out.below j).blk;have hc:=ih X (6+1) d r V0 E c rF sY (H.out.below j) (Al hB j.size);have hc:Calls Tryz.prog 91 #[.pointer (some ⟨b,0,none⟩),.int .i64 7] V0 _:=hc;have Hc:=Ax hc;have vT:=Ax j;clear hc j;go_wp2_with fail;refine Hc.out.mono ?_;rintro e V1 ⟨z1,v1,rfl,s9,w7⟩;have HS:Hid (Rw w B X b vl ts r 6 d E c z1 V1):=Ax (Pr h6 (fun _=>yP.out) (Rch.of_below E vT.out) s9 w7);clear s9 w7 Hc;go_wp2_with fail
    go_loopw [8] (fun v8 wr=>∃z:Int,v8= .int .i64 z/\Hid (Rw w B X b vl ts r 6 d E c z wr)) (fun _ wr=>Ev b ts wr)
    case atStart=>exact⟨z1,rfl,HS⟩
    clear HS;obtain⟨z,rfl,hq⟩:=hrel;obtain⟨vj,L,i7⟩:=hq.out;have uZ:=Ax L;clear hq;rcases i7 with ⟨Z,rj,rfl,wR,vU,M,w8⟩|⟨er,q,r9,hx⟩
    ·have vV:=Ax M;have vQ:=Ax w8;have wS:=Al hB L.only.size;obtain⟨O,R,T,U,W,Y,_⟩:=Be M.blk;have A:=Ax (Fe M);have wT:=Ax (show Ev b ts wr=2*rj.length+1 from Gw M);have yQ:=Z.size_pos;have xB:=H.out.few;clear L M w8;go_wp2_with fail;refine A.out.mono ?_;rintro e V2 ⟨rfl,j8⟩;have F:=Ax (L8 6 h6 (Fx rj) V2);rw[Kg rj _ (Qv 6)] at F;have F:Hid (Calls Tryz.prog 167 #[.int .i64 6,.string ⟨(Fx rj).toArray⟩] V2 _):=Ax F.out;have w9:=Ax (vV.out.below j8);have x8:=Ax j8;clear j8 O R T U W Y;go_wp2_with fail;refine F.out.mono ?_;rintro e V3 ⟨rfl,j9⟩;have vA:=Ax (w9.out.below j9);have vB:=Ax (x8.out.trans (j9.mono x8.out.size));clear j9 F A w9;by_cases o:B6 rj (Bt 6)=0
     ·rw[o];have v:=vQ.out;rw[Il,Ap o] at v;have HF:=Ax (Rf uZ.out vB.out vA.out v);clear o v;exact zzl
     exact absurd rfl o
    obtain⟨a0,dd,C⟩:=hx.blk;obtain⟨O,R,T,U,W,Y,_⟩:=Be C;have de:(er==0)=false:=Af.2 hx.ne;have HF:=Ax (show Bw w B X b vl ts r d E c (Bc 6 d r) (.returned (.int .i64 z)) wr from⟨z,vj,rfl,L,by rw[r9];exact hx⟩);clear hx C r9 L;exact zzl
   |true=>
    rw[hpw] at vP;have wU:=of_decide_eq_true vP;obtain⟨t,q,rfl⟩:=C6 hpw;have m:=Kj (d:=d) (r:=t::q) hn26;rw[Ap hpw,List.tail_cons] at m;rw[xA.out.1,xA.out.2] at m;clear vP hS hpw;obtain⟨op,o⟩:∃op,Li n=op:=⟨_,rfl⟩;rw[o] at m;have wV:=Ax m;clear m;rcases hn26 with rfl|rfl
    ·obtain rfl:op=6:=by rw[←o];rfl
     have t1:(S.toList==[110,111,116])=true:=by rw[A0,wU];rfl
     clear wU o;go_wp2_with fail;refine A.out.mono ?_;rintro e VX ⟨rfl,d8⟩;have vC:=j.trans (d8.mono j.size);have HPB1:=Ax ((d8.block _ (Bp uY.out)).trans uY.out);have HD:=Ax (Jm (H.out.below vC));have HB1:=Ax vC;clear d8 A j vC uY O R T U W Y;go_wp2_with fail;refine HD.out.mono ?_;rintro e V2 ⟨rfl,f7,hd2⟩;have HPB2:=Ax (f7.cells_of HPB1.out tG);have zI:=Ax f7;by_cases hd12:d=12
     ·rw[Ap hd12] at hd2;obtain⟨a0,dd,C⟩:=hd2.blk;obtain⟨O,R,T,U,W,Y,_⟩:=Be C;have HF:=Ax (show Bw w B X b vl ts (t::q) d E c (Bc 2 d (t::q)) (.returned (.int .i64 (-1))) V2 from⟨-1,E,rfl,(Rch.of_below E HB1.out).trans (Rch.of_only E f7),by rw[wV.out,Ap hd12];exact hd2⟩);clear hd2 f7 C hd12;exact zzl
     rw[Ao hd12] at hd2;have m:=wV.out;rw[Ao hd12] at m;have x9:=Ax m;obtain⟨O,R,T,U,W,Y,kf⟩:=Be hd2.blk;have vW:=kf 1;have xC:=hd2.big;have i6:=hd2.step;have s7:=A3 V2 b 1 (.int .i64 (((ts.length - (q.length+1):Nat):Int)+1));have k8:=s7.cells_of HPB2.out tX;obtain⟨W3,vD⟩:∃W3,V2.setCell ⟨b,1,none⟩ (.int .i64 (((ts.length - (q.length+1):Nat):Int)+1))=W3:=⟨_,rfl⟩;rw[vD] at i6 s7 k8;have vR:=Ax i6;have y8:=Ax k8;have vX:=Ax vD;have l7:=(Rch.of_below E HB1.out).trans ((Rch.of_only E f7).trans (Rch.of_only E s7));have vS:=Ax l7;have xT:B<=W3.heap.size:=Al hB l7.only.size;have Hc:=Ax (ih X 2 (d+1) q W3 E c rF sN i6 xT);have Hc:Hid (Calls Tryz.prog 91 #[.pointer (some ⟨b,0,none⟩),.int .i64 2] W3 _):=Ax Hc.out;clear hd2 f7 i6 s7 k8 vD l7 m kf hd12;go_upto_region 14 with fail
     first|rw[vX.out]|rw[Aa,vX.out]
     clear O R T U W Y vW;go_wp2_with fail;refine Hc.out.mono ?_;rintro e V4 ⟨z4,v4,rfl,vE,hm4⟩;have y9:=vE.only.cells_of y8.out (vR.out.apart y8.out rH rH);have HPB4:=Ax y9;have uR:=Ax (vS.out.trans vE);clear vE y9 Hc;cases hq4:Bc 2 (d+1) q with
     |error p=>
      obtain⟨er,q4⟩:=p;rw[hq4] at hm4;have hm4:Ec V4 B b vl ts v4 er (ts.length - q4.length) (c.length+q.length):=hm4;have m:=x9.out;rw[hq4] at m;have b8:=Ax (show Bc 2 d (t::q)= .error (er,q4) from m);obtain⟨a0,dd,C⟩:=hm4.blk;obtain⟨O,R,T,U,W,Y,kf⟩:=Be C;have vF:=kf 2;obtain⟨x5,vY⟩:∃x5,IntKind.i64.wrap (dd - 1)=x5:=⟨_,rfl⟩;have vZ:wrap64 (dd - 1)=x5:=by rw[←vY];simp [IntKind.wrap_i64,wrap64]
      have vG:=hm4.deep x5;have G:=A3 V4 b 2 (.int .i64 x5);have y:=G.cells_of HPB4.out tV;obtain⟨W5,a8⟩:∃W5,V4.setCell ⟨b,2,none⟩ (.int .i64 x5)=W5:=⟨_,rfl⟩;rw[a8] at vG G y;have n9:=Ax a8;have xU:=Ax vG;have D:=Ax (uR.out.trans (Rch.of_only v4 G));have N:=Ax y;clear C kf hm4 vG G y a8 vY m hq4;go_upto_region 16 with fail
      rw[n9.out];clear O R T U W Y vF vZ;have f:=(Aq W5.heap.size W5).alloc (Ak _) (.cells #[.int .i64 z4] 3);obtain⟨p0,p1,_⟩:=A1 ((f.block _ (Bp N.out)).trans N.out);have HP:=Ax (D3 (xU.out.below f) (by have:=H.out.few;simp only[Aa] at this;omega) (Al hB (Al D.out.only.size f.size)) ⟨6,v0,[],pl,pc⟩ (some ⟨W5.heap.size,0,none⟩) 1 1);have HP:Hid (Calls Tryz.prog 166 #[.pointer (some ⟨b,0,none⟩),.agg #[.int .u8 6,.int .u8 0,.int .i64 0,.string ⟨#[]⟩,.string ⟨#[]⟩,.slice (some ⟨W5.heap.size,0,none⟩) 1 1,.int .i64 pl,.int .i64 pc]] (W5.alloc (.cells #[.int .i64 z4] 3)) _):=Ax HP.out;have p8:=Ax (D.out.trans (Rch.of_below v4 f));clear f;go_wp2_with fail;refine HP.out.mono ?_;rintro e V6 ⟨z6,v6,rfl,wA,r7⟩;have HF:=Ax (show Bw w B X b vl ts (t::q) d E c (Bc 2 d (t::q)) (.returned (.int .i64 z6)) V6 from⟨z6,v6,rfl,p8.out.trans r7,by rw[b8.out];exact wA.mono rZ H.out.few⟩);clear wA r7;exact zzl
     |ok p=>
      obtain⟨a4,q4⟩:=p;rw[hq4] at hm4;obtain⟨rfl,hf4⟩:=hm4;have xD:=Fm (n:=2) rF hq4;have xE:=a4.size_pos;have m:=x9.out;rw[hq4] at m;have b8:=Ax (show Bc 2 d (t::q)= .ok (Ex.mk ⟨6,v0,[],pl,pc⟩ [a4],q4) from m);obtain⟨O,R,T,U,W,Y,kf⟩:=Be hf4.blk;have vF:=kf 2;have yR:=hf4.hd;have vH:=hf4.deep (d':=d) rF;have G:=A3 V4 b 2 (.int .i64 (d:Int));have y:=G.cells_of HPB4.out tW;obtain⟨W5,a8⟩:∃W5,V4.setCell ⟨b,2,none⟩ (.int .i64 (d:Int))=W5:=⟨_,rfl⟩;rw[a8] at vH G y;have n9:=Ax a8;have wB:=Ax vH;have D:=Ax (uR.out.trans (Rch.of_only v4 G));have N:=Ax y;have wC:((d+1:Nat):Int) - 1=(d:Int):=by omega
      clear hf4 vH G y a8 m hq4 kf;go_upto_region 16 with fail
      first|rw[n9.out]|(rw[show((d:Int)+1 - 1)=(d:Int) by omega,n9.out])|(rw[wC,n9.out])
      clear O R T U W Y vF wC;have f:=(Aq W5.heap.size W5).alloc (Ak _) (.cells #[.int .i64 ((c.length+a4.size - 1:Nat):Int)] 3);obtain⟨p0,p1,_⟩:=A1 ((f.block _ (Bp N.out)).trans N.out);have wD:=Lx W5 B (c.length+a4.size - 1) (Al hB D.out.only.size);have HP:=Ax (Lf (wB.out.below f) (by have:=H.out.few;simp only[Ab,Ex.flat_len,Aa] at*;omega) (Al hB (Al D.out.only.size f.size)) ⟨6,v0,[],pl,pc⟩ [c.length+a4.size - 1] (some ⟨W5.heap.size,0,none⟩) 1 wD (fun g e hx=>by simp only[Value.ownBlock,Option.some.injEq] at e;subst e;have:=wB.out.xl _ hx;omega));have HP:Hid (Calls Tryz.prog 166 #[.pointer (some ⟨b,0,none⟩),.agg #[.int .u8 6,.int .u8 0,.int .i64 0,.string ⟨#[]⟩,.string ⟨#[]⟩,.slice (some ⟨W5.heap.size,0,none⟩) 1 1,.int .i64 pl,.int .i64 pc]] (W5.alloc (.cells #[.int .i64 ((c.length+a4.size - 1:Nat):Int)] 3)) _):=Ax HP.out;have p8:=Ax (D.out.trans (Rch.of_below v4 f));clear f wD;go_wp2_with fail;refine HP.out.mono ?_;rintro e V6 ⟨rfl,v6,vI,r7⟩;have uS:c++a4.flat c.length++[⟨⟨6,v0,[],pl,pc⟩,[c.length+a4.size - 1]⟩]=c++(Ex.mk ⟨6,v0,[],pl,pc⟩ [a4]).flat c.length:=by rw[R9,List.append_assoc]
      rw[uS] at vI;have uT:(c++a4.flat c.length).length=c.length+(Ex.mk ⟨6,v0,[],pl,pc⟩ [a4]).size - 1:=by rw[Ab,Ex.flat_len];simp [Ex.size,Bs]<;>omega
      rw[uT];have HF:=Ax (show Bw w B X b vl ts (t::q) d E c (Bc 2 d (t::q)) (.returned (.int .i64 ((c.length+(Ex.mk ⟨6,v0,[],pl,pc⟩ [a4]).size - 1:Nat):Int))) V6 from⟨_,v6,rfl,p8.out.trans r7,by rw[b8.out];exact⟨rfl,vI⟩⟩);clear vI r7 uS uT;exact zzl
    obtain rfl:op=17:=by rw[←o];rfl
    have t1:(S.toList==[45])=true:=by rw[A0,wU];rfl
    clear wU o;go_wp2_with fail;refine A.out.mono ?_;rintro e VX ⟨rfl,d8⟩;have vC:=j.trans (d8.mono j.size);have HPB1:=Ax ((d8.block _ (Bp uY.out)).trans uY.out);have HD:=Ax (Jm (H.out.below vC));have HB1:=Ax vC;clear d8 A j vC uY O R T U W Y;go_wp2_with fail;refine HD.out.mono ?_;rintro e V2 ⟨rfl,f7,hd2⟩;have HPB2:=Ax (f7.cells_of HPB1.out tG);have zI:=Ax f7;by_cases hd12:d=12
    ·rw[Ap hd12] at hd2;obtain⟨a0,dd,C⟩:=hd2.blk;obtain⟨O,R,T,U,W,Y,_⟩:=Be C;have HF:=Ax (show Bw w B X b vl ts (t::q) d E c (Bc 6 d (t::q)) (.returned (.int .i64 (-1))) V2 from⟨-1,E,rfl,(Rch.of_below E HB1.out).trans (Rch.of_only E f7),by rw[wV.out,Ap hd12];exact hd2⟩);clear hd2 f7 C hd12;exact zzl
    rw[Ao hd12] at hd2;have m:=wV.out;rw[Ao hd12] at m;have x9:=Ax m;obtain⟨O,R,T,U,W,Y,kf⟩:=Be hd2.blk;have vW:=kf 1;have xC:=hd2.big;have i6:=hd2.step;have s7:=A3 V2 b 1 (.int .i64 (((ts.length - (q.length+1):Nat):Int)+1));have k8:=s7.cells_of HPB2.out tX;obtain⟨W3,vD⟩:∃W3,V2.setCell ⟨b,1,none⟩ (.int .i64 (((ts.length - (q.length+1):Nat):Int)+1))=W3:=⟨_,rfl⟩;rw[vD] at i6 s7 k8;have vR:=Ax i6;have y8:=Ax k8;have vX:=Ax vD;have l7:=(Rch.of_below E HB1.out).trans ((Rch.of_only E f7).trans (Rch.of_only E s7));have vS:=Ax l7;have xT:B<=W3.heap.size:=Al hB l7.only.size;have Hc:=Ax (ih X 6 (d+1) q W3 E c rF sN i6 xT);have Hc:Hid (Calls Tryz.prog 91 #[.pointer (some ⟨b,0,none⟩),.int .i64 6] W3 _):=Ax Hc.out;clear hd2 f7 i6 s7 k8 vD l7 m kf hd12;go_upto_region 14 with fail
    first|rw[vX.out]|rw[Aa,vX.out]
    clear O R T U W Y vW;go_wp2_with fail;refine Hc.out.mono ?_;rintro e V4 ⟨z4,v4,rfl,vE,hm4⟩;have y9:=vE.only.cells_of y8.out (vR.out.apart y8.out rH rH);have HPB4:=Ax y9;have uR:=Ax (vS.out.trans vE);clear vE y9 Hc;cases hq4:Bc 6 (d+1) q with
    |error p=>
     obtain⟨er,q4⟩:=p;rw[hq4] at hm4;have hm4:Ec V4 B b vl ts v4 er (ts.length - q4.length) (c.length+q.length):=hm4;have m:=x9.out;rw[hq4] at m;have b8:=Ax (show Bc 6 d (t::q)= .error (er,q4) from m);obtain⟨a0,dd,C⟩:=hm4.blk;obtain⟨O,R,T,U,W,Y,kf⟩:=Be C;have vF:=kf 2;obtain⟨x5,vY⟩:∃x5,IntKind.i64.wrap (dd - 1)=x5:=⟨_,rfl⟩;have vZ:wrap64 (dd - 1)=x5:=by rw[←vY];simp [IntKind.wrap_i64,wrap64]
     have vG:=hm4.deep x5;have G:=A3 V4 b 2 (.int .i64 x5);have y:=G.cells_of HPB4.out tV;obtain⟨W5,a8⟩:∃W5,V4.setCell ⟨b,2,none⟩ (.int .i64 x5)=W5:=⟨_,rfl⟩;rw[a8] at vG G y;have n9:=Ax a8;have xU:=Ax vG;have D:=Ax (uR.out.trans (Rch.of_only v4 G));have N:=Ax y;clear C kf hm4 vG G y a8 vY m hq4;go_upto_region 16 with fail
     rw[n9.out];clear O R T U W Y vF vZ;have f:=(Aq W5.heap.size W5).alloc (Ak _) (.cells #[.int .i64 z4] 3);obtain⟨p0,p1,_⟩:=A1 ((f.block _ (Bp N.out)).trans N.out);have HP:=Ax (D3 (xU.out.below f) (by have:=H.out.few;simp only[Aa] at this;omega) (Al hB (Al D.out.only.size f.size)) ⟨17,v0,[],pl,pc⟩ (some ⟨W5.heap.size,0,none⟩) 1 1);have HP:Hid (Calls Tryz.prog 166 #[.pointer (some ⟨b,0,none⟩),.agg #[.int .u8 17,.int .u8 0,.int .i64 0,.string ⟨#[]⟩,.string ⟨#[]⟩,.slice (some ⟨W5.heap.size,0,none⟩) 1 1,.int .i64 pl,.int .i64 pc]] (W5.alloc (.cells #[.int .i64 z4] 3)) _):=Ax HP.out;have p8:=Ax (D.out.trans (Rch.of_below v4 f));clear f;go_wp2_with fail;refine HP.out.mono ?_;rintro e V6 ⟨z6,v6,rfl,wA,r7⟩;have HF:=Ax (show Bw w B X b vl ts (t::q) d E c (Bc 6 d (t::q)) (.returned (.int .i64 z6)) V6 from⟨z6,v6,rfl,p8.out.trans r7,by rw[b8.out];exact wA.mono rZ H.out.few⟩);clear wA r7;exact zzl
    |ok p=>
     obtain⟨a4,q4⟩:=p;rw[hq4] at hm4;obtain⟨rfl,hf4⟩:=hm4;have xD:=Fm (n:=6) rF hq4;have xE:=a4.size_pos;have m:=x9.out;rw[hq4] at m;have b8:=Ax (show Bc 6 d (t::q)= .ok (Ex.mk ⟨17,v0,[],pl,pc⟩ [a4],q4) from m);obtain⟨O,R,T,U,W,Y,kf⟩:=Be hf4.blk;have vF:=kf 2;have yR:=hf4.hd;have vH:=hf4.deep (d':=d) rF;have G:=A3 V4 b 2 (.int .i64 (d:Int));have y:=G.cells_of HPB4.out tW;obtain⟨W5,a8⟩:∃W5,V4.setCell ⟨b,2,none⟩ (.int .i64 (d:Int))=W5:=⟨_,rfl⟩;rw[a8] at vH G y;have n9:=Ax a8;have wB:=Ax vH;have D:=Ax (uR.out.trans (Rch.of_only v4 G));have N:=Ax y;have wC:((d+1:Nat):Int) - 1=(d:Int):=by omega
     clear hf4 vH G y a8 m hq4 kf;go_upto_region 16 with fail
     first|rw[n9.out]|(rw[show((d:Int)+1 - 1)=(d:Int) by omega,n9.out])|(rw[wC,n9.out])
     clear O R T U W Y vF wC;have f:=(Aq W5.heap.size W5).alloc (Ak _) (.cells #[.int .i64 ((c.length+a4.size - 1:Nat):Int)] 3);obtain⟨p0,p1,_⟩:=A1 ((f.block _ (Bp N.out)).trans N.out);have wD:=Lx W5 B (c.length+a4.size - 1) (Al hB D.out.only.size);have HP:=Ax (Lf (wB.out.below f) (by have:=H.out.few;simp only[Ab,Ex.flat_len,Aa] at*;omega) (Al hB (Al D.out.only.size f.size)) ⟨17,v0,[],pl,pc⟩ [c.length+a4.size - 1] (some ⟨W5.heap.size,0,none⟩) 1 wD (fun g e hx=>by simp only[Value.ownBlock,Option.some.injEq] at e;subst e;have:=wB.out.xl _ hx;omega));have HP:Hid (Calls Tryz.prog 166 #[.pointer (some ⟨b,0,none⟩),.agg #[.int .u8 17,.int .u8 0,.int .i64 0,.string ⟨#[]⟩,.string ⟨#[]⟩,.slice (some ⟨W5.heap.size,0,none⟩) 1 1,.int .i64 pl,.int .i64 pc]] (W5.alloc (.cells #[.int .i64 ((c.length+a4.size - 1:Nat):Int)] 3)) _):=Ax HP.out;have p8:=Ax (D.out.trans (Rch.of_below v4 f));clear f wD;go_wp2_with fail;refine HP.out.mono ?_;rintro e V6 ⟨rfl,v6,vI,r7⟩;have uS:c++a4.flat c.length++[⟨⟨17,v0,[],pl,pc⟩,[c.length+a4.size - 1]⟩]=c++(Ex.mk ⟨17,v0,[],pl,pc⟩ [a4]).flat c.length:=by rw[R9,List.append_assoc]
     rw[uS] at vI;have uT:(c++a4.flat c.length).length=c.length+(Ex.mk ⟨17,v0,[],pl,pc⟩ [a4]).size - 1:=by rw[Ab,Ex.flat_len];simp [Ex.size,Bs]<;>omega
     rw[uT];have HF:=Ax (show Bw w B X b vl ts (t::q) d E c (Bc 6 d (t::q)) (.returned (.int .i64 ((c.length+(Ex.mk ⟨17,v0,[],pl,pc⟩ [a4]).size - 1:Nat):Int))) V6 from⟨_,v6,rfl,p8.out.trans r7,by rw[b8.out];exact⟨rfl,vI⟩⟩);clear vI r7 uS uT;exact zzl
  have yS:(n=2\/n=6)->isH (Kf n) r=false:=fun h=>absurd h hn26
  have d2:((n:Int)==2)=false:=Af.2 rF;have zR:(n==2)=false:=Af.2 (fun e=>hn26 (.inl e));have d6:((n:Int)==6)=false:=Af.2 rF;have zS:(n==6)=false:=Af.2 (fun e=>hn26 (.inr e));clear hn26;have hc:=ih X (n+1) d r V0 E c rF sY (H.out.below j) (Al hB j.size);rw[Int.natCast_succ] at hc;have Hc:=Ax hc;have vT:=Ax j;clear hc j;go_wp2_with fail;refine Hc.out.mono ?_;rintro e V1 ⟨z1,v1,rfl,s9,w7⟩;have HS:Hid (Rw w B X b vl ts r n d E c z1 V1):=Ax (Pr h6 yS (Rch.of_below E vT.out) s9 w7);clear s9 w7 Hc;go_wp2_with fail
  go_loopw [8] (fun v8 wr=>∃z:Int,v8= .int .i64 z/\Hid (Rw w B X b vl ts r n d E c z wr)) (fun _ wr=>Ev b ts wr)
  case atStart=>exact⟨z1,rfl,HS⟩
  clear HS;obtain⟨z,rfl,hq⟩:=hrel;obtain⟨vj,L,i7⟩:=hq.out;have uZ:=Ax L;clear hq;rcases i7 with ⟨Z,rj,rfl,wR,vU,M,w8⟩|⟨er,q,r9,hx⟩
  ·have vV:=Ax M;have vQ:=Ax w8;have wS:=Al hB L.only.size;obtain⟨O,R,T,U,W,Y,_⟩:=Be M.blk;have A:=Ax (Fe M);have wT:=Ax (show Ev b ts wr=2*rj.length+1 from Gw M);have yQ:=Z.size_pos;have xB:=H.out.few;clear L M w8;go_wp2_with fail;refine A.out.mono ?_;rintro e V2 ⟨rfl,j8⟩;have F:=Ax (L8 n h6 (Fx rj) V2);rw[Kg rj _ (Qv n)] at F;have w9:=Ax (vV.out.below j8);have x8:=Ax j8;clear j8 O R T U W Y;go_wp2_with fail;refine F.out.mono ?_;rintro e V3 ⟨rfl,j9⟩;have vA:=Ax (w9.out.below j9);have vB:=Ax (x8.out.trans (j9.mono x8.out.size));clear j9 F A w9;by_cases o:B6 rj (Bt n)=0
   ·rw[o];have v:=vQ.out;rw[Il,Ap o] at v;have HF:=Ax (Rf uZ.out vB.out vA.out v);clear o v;exact zzl
   obtain⟨t,q,rfl⟩:=Fz o;obtain⟨op,uU⟩:∃op,B6 (t::q) (Bt n)=op:=⟨_,rfl⟩;have v:=vQ.out;rw[Il,Ao o,List.tail_cons,uU] at v;rw[uU] at o;have wE:=Ax v;have zJ:(op==0)=false:=Af.2 o;have zT:(op !=0)=true:=by rw[bne,zJ];rfl
   have A:=Ax (Fe vA.out);rw[uU];clear v o;go_wp2_with fail;refine A.out.mono ?_;rintro e V4 ⟨rfl,xV⟩;have F:=Ax (L8 n h6 (Fx (t::q)) V4);rw[Kg (t::q) _ (Qv n),uU] at F;have yT:=Ax (vA.out.below xV);have yU:=Ax (vB.out.trans (xV.mono vB.out.size));clear xV;go_wp2_with fail;refine F.out.mono ?_;rintro e V5 ⟨rfl,xW⟩;have xX:=Ax (yT.out.below xW);have wF:=Ax (yU.out.trans (xW.mono yU.out.size));have vO:=Ax (Nb xX.out);clear xW F A yT uU;go_wp2_with fail;refine vO.out.mono ?_;rintro e V6 ⟨rfl,vJ⟩;obtain⟨ln,yV⟩:∃x,(plH (t::q)).1=x:=⟨_,rfl⟩;obtain⟨cl,yW⟩:∃x,(plH (t::q)).2=x:=⟨_,rfl⟩;rw[yV,yW] at wE ⊢;clear yV yW;have f:=(Aq V6.heap.size V6).alloc (Ak _) (.cells #[.int .u8 op,.int .u8 0,.int .i64 0,.string ⟨#[]⟩,.string ⟨#[]⟩,.slice none 0 0,.int .i64 ln,.int .i64 cl] 43);have wW:V6.heap.size∉b::vj.ownBlock.toList:=fun hm=>absurd (Cs.lt (xX.out.below vJ) _ hm) (Nat.lt_irrefl _)
   have xY:B<=V6.heap.size:=Al wS (Al wF.out.size vJ.size);have xZ:w.heap.size<=V6.heap.size:=Al uZ.out.only.size (Al wF.out.size vJ.size);have wX:=Ax ((xX.out.below vJ).below f);have yA:=Ax ((wF.out.trans (vJ.mono wF.out.size)).trans (f.mono (Al wF.out.size vJ.size)));have yB:=Ax (Az V6 (.cells #[.int .u8 op,.int .u8 0,.int .i64 0,.string ⟨#[]⟩,.string ⟨#[]⟩,.slice none 0 0,.int .i64 ln,.int .i64 cl] 43));obtain⟨W7,yC⟩:∃W7,V6.alloc (.cells #[.int .u8 op,.int .u8 0,.int .i64 0,.string ⟨#[]⟩,.string ⟨#[]⟩,.slice none 0 0,.int .i64 ln,.int .i64 cl] 43)=W7:=⟨_,rfl⟩;rw[yC] at wX yA yB;have zK:=Ax yC;clear f vJ yC vO;go_upto_region 20 with fail
   rw[zK.out];obtain⟨O,R,T,U,W,Y,kf⟩:=Be wX.out.blk;have vW:=kf 1;have xC:=wX.out.big;obtain⟨p9,yX⟩:∃p9,V6.heap.size=p9:=⟨_,rfl⟩;rw[yX] at yB wW xY xZ ⊢;clear yX;have i6:=wX.out.step;have yE:=A3 W7 b 1 (.int .i64 (((ts.length - (q.length+1):Nat):Int)+1));have vR:=Ax i6;have yF:=Ax yE;have xF:=yE.cells_of yB.out (by simp;intro e;exact wW rT);have yG:=Ax xF;obtain⟨W8,yH⟩:∃W8,W7.setCell ⟨b,1,none⟩ (.int .i64 (((ts.length - (q.length+1):Nat):Int)+1))=W8:=⟨_,rfl⟩;rw[yH] at vR yF yG;have yY:=Ax yH;have zL:B<=W8.heap.size:=Al wS (Al yA.out.size yF.out.size);have yI:=ih X (n+1) d q W8 vj (c++Z.flat c.length) rF (by simp only[Bu,Aa] at hk wR ⊢;omega) vR.out zL;rw[Int.natCast_succ] at yI;have yZ:=Ax yI;have zA:=Ax wW;clear kf wW i6 yE xF yH yI;go_upto_region 21 with fail
   first|rw[yY.out]|rw[Aa,yY.out]
   clear O R T U W Y vW;go_wp2_with fail;refine yZ.out.mono ?_;rintro e V9 ⟨z2,v9,rfl,wG,vK⟩;have zU:=Ax wG;have wH:=wG.only.cells_of yG.out zA.out;have xG:=Ax (wG.far zA.out (Bp yG.out));have l7:Rch b w E V9 v9:=((uZ.out.trans (Rch.of_below vj yA.out)).trans (Rch.of_only vj yF.out)).trans wG;have vS:=Ax l7;have yJ:B<=V9.heap.size:=Al hB l7.only.size;clear wG l7 yZ;obtain⟨n0,n1,n2,n3,n4,n5,n6,n7,nf⟩:=E7 wH;have wY:=nf 5;have uV:=Ax wH;clear nf wH;cases hq4:Bc (n+1) d q with
   |error p=>
    obtain⟨er,q4⟩:=p;rw[hq4] at vK;have vK:Ec V9 B b vl ts v9 er (ts.length - q4.length) ((c++Z.flat c.length).length+q.length):=vK;have r9:Bc n d r= .error (er,q4):=by rw[←wE.out,hq4];rfl
    have xH:(c++Z.flat c.length).length+q.length+1<=c.length+r.length:=by simp only[Aa] at vU;rw[Ab,Ex.flat_len];omega
    have b8:=Ax r9;have wI:=xG.out;have f:=(Aq V9.heap.size V9).alloc (Ak _) (.cells #[.int .i64 ((c.length+Z.size - 1:Nat):Int),.int .i64 z2] 3);have yK:=A4 f n5;have yL:=(f.frozen (p:=⟨p9,5,none⟩) (Bp uV.out)).trans wY;obtain⟨s8,f9⟩:∃s8,V9.alloc (.cells #[.int .i64 ((c.length+Z.size - 1:Nat):Int),.int .i64 z2] 3)=s8:=⟨_,rfl⟩;rw[f9] at f;have wJ:=Ax f9;have f8:=(f.block _ (Bp uV.out)).trans uV.out;have xI:¬p9=V9.heap.size:=by have:=Bp uV.out;omega
    have I:=A3 s8 p9 5 (.slice (some ⟨V9.heap.size,0,none⟩) 2 2);have b7:=A2 (i:=5) (u:= .slice (some ⟨V9.heap.size,0,none⟩) 2 2) f8;obtain⟨vL,r8⟩:∃vL,s8.setCell ⟨p9,5,none⟩ (.slice (some ⟨V9.heap.size,0,none⟩) 2 2)=vL:=⟨_,rfl⟩;rw[r8] at I b7;have wK:=Ax r8;have wL:=Ax b7;have zB:=(vK.below f).far I wI xY;have HP:=Ax (D3 zB (Al xH rF) (Al yJ (Al f.size I.size)) ⟨op,v0,[],ln,cl⟩ (some ⟨V9.heap.size,0,none⟩) 2 2);have HP:Hid (Calls Tryz.prog 166 #[.pointer (some ⟨b,0,none⟩),.agg #[.int .u8 op,.int .u8 0,.int .i64 0,.string ⟨#[]⟩,.string ⟨#[]⟩,.slice (some ⟨V9.heap.size,0,none⟩) 2 2,.int .i64 ln,.int .i64 cl]] vL _):=Ax HP.out;have wM:=Ax (vS.out.then_far f I xZ);clear vK f f8 I b7 f9 r8 hq4;go_upto_region 23 with fail
    rw[wJ.out,wK.out];obtain⟨m0,m1,m2,m3,m4,m5,m6,m7,_⟩:=E7 wL.out;clear n0 n1 n2 n3 n4 n5 n6 n7 wY yK yL;go_wp2_with fail;refine HP.out.mono ?_;rintro e zC ⟨z3,v12,rfl,wN,uW⟩;have xJ:=wN.mono xH (by have:=H.out.few;omega);have xK:=Ax xJ;have uX:=Ax (wM.out.trans uW);have yM:=Ax (Wx (ts:=ts) wN);clear wN xJ uW;by_cases hn3:n=3
    ·subst hn3;go_wp2_with fail;go_ret;exact⟨z3,v12,rfl,uX.out,by rw[b8.out];exact xK.out⟩
    have d3:((n:Int)==3)=false:=Af.2 rF;have zN:(n==3)=false:=Af.2 hn3;clear hn3;go_wp2_with fail;go_roundw
    case rel=>exact⟨z3,rfl,Ax ⟨v12,uX.out,.inr ⟨er,q4,b8.out,xK.out⟩⟩⟩
    case measure=>have:=wT.out;have:=yM.out;omega
   |ok p=>
    obtain⟨b4,q4⟩:=p;rw[hq4] at vK;obtain⟨zD,wZ⟩:=vK;have xD:=Fm (n:=n+1) rF hq4;have xE:=b4.size_pos;have zO:=(Dt (n:=n+1) rF hq4).2;have zP:(c++Z.flat c.length).length=c.length+Z.size:=by rw[Ab,Ex.flat_len]
    rw[zP] at zD wZ;subst zD;have vM:=wE.out;rw[hq4] at vM;have wO:=Ax vM;clear vM;have wI:=xG.out;have f:=(Aq V9.heap.size V9).alloc (Ak _) (.cells #[.int .i64 ((c.length+Z.size - 1:Nat):Int),.int .i64 ((c.length+Z.size+b4.size - 1:Nat):Int)] 3);have yK:=A4 f n5;have yL:=(f.frozen (p:=⟨p9,5,none⟩) (Bp uV.out)).trans wY;obtain⟨s8,f9⟩:∃s8,V9.alloc (.cells #[.int .i64 ((c.length+Z.size - 1:Nat):Int),.int .i64 ((c.length+Z.size+b4.size - 1:Nat):Int)] 3)=s8:=⟨_,rfl⟩;rw[f9] at f;have wJ:=Ax f9;have yN:=P7 V9 B (c.length+Z.size - 1) (c.length+Z.size+b4.size - 1) yJ;rw[f9] at yN;have f8:=(f.block _ (Bp uV.out)).trans uV.out;have xI:¬p9=V9.heap.size:=by have:=Bp uV.out;omega
    have I:=A3 s8 p9 5 (.slice (some ⟨V9.heap.size,0,none⟩) 2 2);have b7:=A2 (i:=5) (u:= .slice (some ⟨V9.heap.size,0,none⟩) 2 2) f8;obtain⟨vL,r8⟩:∃vL,s8.setCell ⟨p9,5,none⟩ (.slice (some ⟨V9.heap.size,0,none⟩) 2 2)=vL:=⟨_,rfl⟩;rw[r8] at I b7;have wK:=Ax r8;have wL:=Ax b7;have xL:=(wZ.below f).far I f8 wI xY;have xM:=Bj yN I (fun g e hm=>by simp only[Value.ownBlock,Option.some.injEq] at e;subst e;simp at hm;exact xI hm.symm);have HP:=Ax (Lf xL (by simp only[Ab,Ex.flat_len];simp only[Aa] at vU;omega) (Al yJ (Al f.size I.size)) ⟨op,v0,[],ln,cl⟩ [c.length+Z.size - 1,c.length+Z.size+b4.size - 1] (some ⟨V9.heap.size,0,none⟩) 2 xM (fun g e hx=>by simp only[Value.ownBlock,Option.some.injEq] at e;subst e;have:=wZ.xl _ hx;omega));have HP:Hid (Calls Tryz.prog 166 #[.pointer (some ⟨b,0,none⟩),.agg #[.int .u8 op,.int .u8 0,.int .i64 0,.string ⟨#[]⟩,.string ⟨#[]⟩,.slice (some ⟨V9.heap.size,0,none⟩) 2 2,.int .i64 ln,.int .i64 cl]] vL _):=Ax HP.out;have wM:=Ax (vS.out.then_far f I xZ);clear wZ xL xM yN f f8 I b7 f9 r8 hq4;go_upto_region 23 with fail
    rw[wJ.out,wK.out];obtain⟨m0,m1,m2,m3,m4,m5,m6,m7,_⟩:=E7 wL.out;clear n0 n1 n2 n3 n4 n5 n6 n7 wY yK yL;go_wp2_with fail;refine HP.out.mono ?_;rintro e zC ⟨rfl,v12,vN,uW⟩;have uS:c++Z.flat c.length++b4.flat (c.length+Z.size)++[⟨⟨op,v0,[],ln,cl⟩,[c.length+Z.size - 1,c.length+Z.size+b4.size - 1]⟩]=c++(Ex.mk ⟨op,v0,[],ln,cl⟩ [Z,b4]).flat c.length:=by rw[Yp];simp only[List.append_assoc]
    rw[uS] at vN;have wP:(Ex.mk ⟨op,v0,[],ln,cl⟩ [Z,b4]).size=Z.size+b4.size+1:=by simp [Ex.size,Bs]<;>omega
    have uT:(c++Z.flat c.length++b4.flat (c.length+Z.size)).length=c.length+(Ex.mk ⟨op,v0,[],ln,cl⟩ [Z,b4]).size - 1:=by rw[wP];simp only[Ab,Ex.flat_len];omega
    rw[uT];have xN:=Ax vN;have uX:=Ax (wM.out.trans uW);have yM:=Ax (show Ev b ts zC=2*q4.length+1 from Gw vN);have zE:=Ax wP;clear vN uW uS uT wP;obtain⟨zr,yO⟩:∃zr:Int,((c.length+(Ex.mk ⟨op,v0,[],ln,cl⟩ [Z,b4]).size - 1:Nat):Int)=zr:=⟨_,rfl⟩;rw[yO];have zF:=Ax yO;clear yO;by_cases hn3:n=3
    ·have b8:=Ax (show Bc n d r= .ok (Ex.mk ⟨op,v0,[],ln,cl⟩ [Z,b4],q4) by rw[←wO.out];show(if n=3 then _ else _)=_;rw[Ap hn3]);subst hn3;go_wp2_with fail;go_ret;exact⟨zr,v12,rfl,uX.out,by rw[b8.out];exact⟨zF.out.symm,xN.out⟩⟩
    have b8:=Ax (show Sy n (Ex.mk ⟨op,v0,[],ln,cl⟩ [Z,b4]) d q4=Bc n d r by rw[←wO.out];show _=(if n=3 then _ else _);rw[Ao hn3]);have d3:((n:Int)==3)=false:=Af.2 rF;have zN:(n==3)=false:=Af.2 hn3;clear hn3;go_wp2_with fail;go_roundw
    case rel=>exact⟨zr,rfl,Ax ⟨v12,uX.out,.inl ⟨_,q4,zF.out.symm,by simp only[Aa] at wR;omega,by rw[zE.out];simp only[Aa] at vU;omega,xN.out,b8.out⟩⟩⟩
    case measure=>have:=wT.out;have:=yM.out;simp only[Aa] at*;omega
  obtain⟨a0,dd,C⟩:=hx.blk;obtain⟨O,R,T,U,W,Y,_⟩:=Be C;have de:(er==0)=false:=Af.2 hx.ne;have HF:=Ax (show Bw w B X b vl ts r d E c (Bc n d r) (.returned (.int .i64 z)) wr from⟨z,vj,rfl,L,by rw[r9];exact hx⟩);clear hx C r9 L;exact zzl
end Go.Proofs.YtgfakdobajgnfaaGreatDoor
