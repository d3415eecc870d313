import Derived.Test.YtgfakdobajgnfaaGreatDoorQk30
set_option maxRecDepth 100000
set_option maxHeartbeats 16000000
namespace Go.Proofs.YtgfakdobajgnfaaGreatDoor
open Go Go.RowKit Go.Lib
theorem Cs.grow {w f w2:World}{B b d m:Nat}{X:List Nat}{i j vk o:Value}{ts r:List Tkn}{c:List Nd}{xs:List Value}(h:Cs w B (vk.ownBlock.toList++X) b i ts r d j c)(hk:w.ownsRow B 3 1 vk m xs)(hb:Below w.heap.size w f)(hg:f.grownBy w2 vk.ownBlock)
 (hv:∀g,o.ownBlock=some g->vk.ownBlock=some g\/w.heap.size<=g/\g<w2.heap.size):Cs w2 B (o.ownBlock.toList++X) b i ts r d j c:=by
 exact zzk
theorem Cs.free {w:World}{B b d:Nat}{X Y:List Nat}{i j:Value}{ts r:List Tkn}{c:List Nd}(h:Cs w B Y b i ts r d j c)(f:∀x∈X,x∈Y):Cs w B X b i ts r d j c:=
 ⟨h.suf,h.toks,h.nam,h.tl,h.hB,fun x k=>h.xl x (f x k),h.hd,h.big,h.few,h.blk,h.tree.imp (fun _ q=>q) fun _ _ _ m q=>⟨q,fun g e n=>m g e (f g n)⟩⟩
theorem Ec.grow {w r n:World}{B b bad c m:Nat}{u v vk:Value}{ts:List Tkn}{e:Int}{y:List Value}(h:Ec w B b u ts v e bad c)(f:w.ownsRow B 3 1 vk m y)(A:Below w.heap.size w r)(C:r.grownBy n vk.ownBlock):Ec n B b u ts v e bad c:=by
 have j:Bb vk.ownBlock.toList w n:=(Bb.of_below A _).trans (Bb.of_grown C _ fun k f=>by simp [f]);obtain⟨a,D,i⟩:=h.blk;obtain⟨E,o,F,x⟩:=h.row;have hnb:vk.ownBlock≠some b:=Bh f i rH;refine⟨h.toks.kept j.size fun g d p=>j.block g p fun hm=>?_,h.tl,h.hB,h.big,h.room,h.ne,⟨a,D,j.cells_of i uO⟩,E,o,F,Bj x j fun g e hm=>?_⟩
 ·have I:=h.tl g d;have L:=Co f g sE;omega
 have q:vk.ownBlock=some g:=by simpa using hm
 rcases x.2 with ⟨rfl,_⟩|⟨M,c,G,rfl,_,d,_⟩
 ·cases e
 simp only[Value.ownBlock,Option.some.injEq] at e;subst e;exact Bh f d rH q
theorem cY {w:World}{B b bad c:Nat}{f g:Value}{ts:List Tkn}{e:Int}(h:Ec w B b f ts g e bad c)(n:Int):
 Calls Tryz.prog 215 #[.pointer (some ⟨b,0,none⟩),.int .i64 n] w fun en w'=>en= .returned (.tuple #[])/\w=w':=by
 obtain⟨a,i,d⟩:=h.blk;obtain⟨j,k,m,o,p,q,_⟩:=Be d;have r:(e==0)=false:=Af.2 h.ne;clear h d;go_enter Tryz.func215,Tryz.ntmps215;go_wp2_with fail
 go_end0
 exact⟨rfl,rfl⟩
structure Es (w:World)(B:Nat)(X:List Nat)(b:Nat)(vl:Value)(ts:List Tkn)(d:Nat)(vt:Value)(nds:List Nd)(wr:World)(ks:List Ex)(rj:List Tkn)(vj vk:Value):Prop where
 rd:Cs wr B (vk.ownBlock.toList++X) b vl ts rj (d+1) vj (nds++Bz ks nds.length)
 row:wr.ownsRow B 3 1 vk ks.length (Ea (Db ks nds.length))
 new:∀g,vk.ownBlock=some g->w.heap.size<=g
 rch:Rch b w vt wr vj
theorem Es.below {w wr V:World}{B b d:Nat}{X:List Nat}{g i e vk:Value}{ts j:List Tkn}{c:List Nd}{ks:List Ex}(h:Es w B X b g ts d i c wr ks j e vk)(f:Below wr.heap.size wr V):Es w B X b g ts d i c V ks j e vk:=
 ⟨h.rd.below f,Cg h.row f,h.new,h.rch.trans (Rch.of_below e f)⟩
theorem Es.turn {w wr V:World}{B b d:Nat}{X:List Nat}{i j f vk:Value}{ts m r':List Tkn}{c:List Nd}{ks:List Ex}(h:Es w B X b i ts d j c wr ks m f vk)(k:Bb [b] wr V)
 (n:Cs V B (vk.ownBlock.toList++X) b i ts r' (d+1) f (c++Bz ks c.length)):Es w B X b i ts d j c V ks r' f vk:=
 ⟨n,Bj h.row k fun g e hm=>Bh h.row h.rd.blk rH tB,h.new,h.rch.trans (Rch.of_only f k)⟩
theorem Es.far {w wr V:World}{B b d p:Nat}{X:List Nat}{m n f vk:Value}{ts o:List Tkn}{c:List Nd}{ks:List Ex}{cs:Array Value}(h:Es w B X b m ts d n c wr ks o f vk)(j:Bb [p] wr V)(q:wr.heap[p]? =some (.cells cs 43 (0,0)))(u:p∉b::f.ownBlock.toList)(k:B<=p)(v:w.heap.size<=p):Es w B X b m ts d n c V ks o f vk:=
 ⟨h.rd.far j q u k,Bj h.row j (fun g e hm=>Bh h.row q rH tB),h.new,⟨h.rch.only.step j (fun i r=>by simp at r;subst r;exact .inr v),h.rch.own⟩⟩
theorem Es.row_after {w wr i:World}{B b d:Nat}{X:List Nat}{k m j vk v4:Value}{ts n:List Tkn}{c:List Nd}{ks:List Ex}(h:Es w B X b k ts d m c wr ks n j vk)(f:Rch b wr j i v4):i.ownsRow B 3 1 vk ks.length (Ea (Db ks c.length)):=Bj h.row f.only fun g e hm=>by
 exact zw1
theorem Es.more {w wr j r m:World}{B b d g n o:Nat}{X:List Nat}{p u v vk v4:Value}{ts y x:List Tkn}{c:List Nd}{ks:List Ex}{a:Ex}{z:Nat}(h:Es w B X b p ts d u c wr ks y v vk)
 (hr:Cs j B (vk.ownBlock.toList++X) b p ts x (d+1) v4 (c++Bz ks c.length++a.flat (c++Bz ks c.length).length)) (hch:Rch b wr v j v4) (A:z=c.length+Bs ks+a.size - 1) (hb:Below j.heap.size j r) (hg:r.grownBy m vk.ownBlock)
 (f:m.ownsRow B 3 1 (.slice (some ⟨g,0,none⟩) n o) n (Ea (Db ks c.length)++[.int .i64 (z:Int)])) (C:n=ks.length+1) (hat:vk.ownBlock=some g\/j.heap.size<=g) (hlt:g<m.heap.size):
 Es w B X b p ts d u c m (ks++[a]) x v4 (.slice (some ⟨g,0,none⟩) n o):=by
 have hrow4:=h.row_after hch;have D:Bb vk.ownBlock.toList j m:=(Bb.of_below hb _).trans (Bb.of_grown hg _ fun k E=>by simp [E])
 have hfl:c++Bz ks c.length++a.flat (c++Bz ks c.length).length=c++Bz (ks++[a]) c.length:=by
  rw[Pz,List.append_assoc,Ab,Cx];simp [Bz]
 have q:Ea (Db ks c.length)++[.int .i64 (z:Int)]=Ea (Db (ks++[a]) c.length):=by
  rw[Rh,A];simp [Ea,Db]
 subst C;rw[q] at f;refine⟨?_,by simpa using f,fun g' e=>?_,⟨(h.rch.trans hch).only.step D fun i hi=> .inr (h.new i tM),(h.rch.trans hch).own⟩⟩
 ·exact zwu
 exact zwb
def ndC (c:Cl)(vk:Value):Array Value:= #[.int .u8 c.op,.int .u8 0,.int .i64 0,.string ⟨#[]⟩,.string ⟨#[]⟩,vk,.int .i64 c.line,.int .i64 c.col]
def Z0 (w:World)(B:Nat)(X:List Nat)(b:Nat)(f:Value)(ts q:List Tkn)(d:Nat)(g:Value)(e:List Nd)(c:Cl)(h:Nat)(i:ExR)(wr:World):Prop:=
 ∃(vj:Value) (ka:Option Addr) (kn kc:Nat),Rch b w g wr vj/\wr.heap[h]? =some (.cells (ndC c (.slice ka kn kc)) 43 (0,0))/\h∉b::vj.ownBlock.toList/\
  ((∃(ks:List Ex) (rj:List Tkn),kn=ks.length/\ks.length<c.most/\Bs ks+rj.length<=q.length/\rj.length<q.length/\Gj c ks (d+1) rj=i/\Es w B X b f ts d g e wr ks rj vj (.slice ka kn kc))\/
   ∃(er:Int) (qe:List Tkn),i= .error (er,qe)/\Ec wr B b f ts vj er (ts.length - qe.length) (e.length+q.length))
def iN (B:Nat)(X:List Nat)(b:Nat)(f:Value)(ts q:List Tkn)(d:Nat)(c:List Nd)(g:Nat)(cs:Array Value)(vk:Value)(ks:List Ex)(e:List Tkn)(h:Value)(wr:World)(x:Value)(V:World):Prop:=
 ∃(z:Int) (v4:Value),x= .int .i64 z/\Rch b wr h V v4/\V.heap[g]? =some (.cells cs 43 (0,0))/\g∉b::v4.ownBlock.toList/\
  ((∃(a:Ex) (q4:List Tkn),Bc 0 (d+1) e= .ok (a,q4)/\z=((c.length+Bs ks+a.size - 1:Nat):Int)/\a.size+q4.length<=e.length/\q4.length<e.length/\Cs V B (vk.ownBlock.toList++X) b f ts q4 (d+1) v4 (c++Bz ks c.length++a.flat (c++Bz ks c.length).length))\/
   ∃(er:Int) (q4:List Tkn),Bc 0 (d+1) e= .error (er,q4)/\Ec V B b f ts v4 er (ts.length - q4.length) (c.length+q.length))
theorem iN.of {wr V:World}{B b d h:Nat}{X:List Nat}{o i vk x:Value}{ts q e:List Tkn}{c:List Nd}{ks:List Ex}{cs:Array Value}(r:wr.heap[h]? =some (.cells cs 43 (0,0)))(u:h∉b::i.ownBlock.toList)(v:Bs ks+e.length<=q.length)(f:c.length+q.length<=1000000)
 (y:Bw wr B (vk.ownBlock.toList++X) b o ts e (d+1) i (c++Bz ks c.length) (Bc 0 (d+1) e) (.returned x) V):iN B X b o ts q d c h cs vk ks e i wr x V:=by
 obtain⟨z,v4,j,k,g⟩:=y;injection j with j;refine⟨z,v4,j,k,k.only.cells_of r u,k.far u (Bp r),?_⟩;cases hq:Bc 0 (d+1) e with
 |error p=>
  obtain⟨A,m⟩:=p;rw[hq] at g;exact .inr ⟨A,m,rfl,Ec.mono g (by rw[Ab,Cx];omega) f⟩
 |ok p=>
  obtain⟨a,m⟩:=p;rw[hq] at g;obtain⟨C,D⟩:=g;exact .inl ⟨a,m,rfl,by rw[C,Ab,Cx],Fm (n:=0) rF hq,(Dt (n:=0) rF hq).2,D⟩
def rE (w:World)(B:Nat)(X:List Nat)(b:Nat)(g:Value)(ts q:List Tkn)(d:Nat)(h:Value)(e:List Nd)(c:Cl)(i:Nat)(ks:List Ex)(f:List Tkn)(W:World):Prop:=
 ∃(v4:Value) (ka:Option Addr) (kc:Nat),Rch b w h W v4/\W.heap[i]? =some (.cells (ndC c (.slice ka (ks.length+1) kc)) 43 (0,0))/\i∉b::v4.ownBlock.toList/\
  ((∃(a:Ex) (q4:List Tkn),Bc 0 (d+1) f= .ok (a,q4)/\a.size+q4.length<=f.length/\q4.length<f.length/\Es w B X b g ts d h e W (ks++[a]) q4 v4 (.slice ka (ks.length+1) kc))\/
   ∃(er:Int) (q4:List Tkn),Bc 0 (d+1) f= .error (er,q4)/\Ec W B b g ts v4 er (ts.length - q4.length) (e.length+q.length))
theorem kY {w wr o V p:World}{B b d r g m:Nat}{X:List Nat}{G L W v4:Value}{v:Option Addr}{x:Nat}{ts q y:List Tkn}{e:List Nd}{ks:List Ex}{c:Cl}{z:Int}(h:Es w B X b G ts d L e wr ks y W (.slice v ks.length x))(A:w.heap.size<=r)(C:B<=r)
 (n:Rch b wr W o v4) (Y:o.heap[r]? =some (.cells (ndC c (.slice v ks.length x)) 43 (0,0))) (M:r∉b::v4.ownBlock.toList)
 (hm:(∃(a:Ex) (f:List Tkn),Bc 0 (d+1) y= .ok (a,f)/\z=((e.length+Bs ks+a.size - 1:Nat):Int)/\a.size+f.length<=y.length/\f.length<y.length/\Cs o B ((Value.slice v ks.length x).ownBlock.toList++X) b G ts f (d+1) v4 (e++Bz ks e.length++a.flat (e++Bz ks e.length).length))\/
  ∃(I:Int) (f:List Tkn),Bc 0 (d+1) y= .error (I,f)/\Ec o B b G ts v4 I (ts.length - f.length) (e.length+q.length))
 (N:Below o.heap.size o V) (O:V.grownBy p (Value.slice v ks.length x).ownBlock) (D:p.ownsRow B 3 1 (.slice (some ⟨g,0,none⟩) (ks.length+1) m) (ks.length+1) (Ea (Db ks e.length)++[.int .i64 z])) (R:(Value.slice v ks.length x).ownBlock=some g\/o.heap.size<=g) (T:g<p.heap.size):
 rE w B X b G ts q d L e c r ks y (p.setCell ⟨r,5,none⟩ (.slice (some ⟨g,0,none⟩) (ks.length+1) m)):=by
 have j:=h.row_after n;have Z:Bb (Value.slice v ks.length x).ownBlock.toList o p:=(Bb.of_below N _).trans (Bb.of_grown O _ fun k hk=>by simp [hk]);have E:=Z.cells_of Y fun hm=>Bh j Y rH sE
 have u:=A3 p r 5 (.slice (some ⟨g,0,none⟩) (ks.length+1) m);have F:Rch b w L p v4:=⟨(h.rch.trans n).only.step Z fun i hi=> .inr (h.new i tM),(h.rch.trans n).own⟩;refine⟨v4,some ⟨g,0,none⟩,m,⟨F.only.step u (fun i hi=>by simp at hi;subst hi;exact .inr A),F.own⟩,A2 E,M,?_⟩;rcases hm with ⟨a,f,U,rfl,h3,h4,h5⟩|⟨I,f,U,h2⟩
 ·exact .inl ⟨a,f,U,h3,h4,(h.more h5 n rfl N O D rfl R T).far u E M C A⟩
 exact .inr ⟨I,f,U,(h2.grow j N O).far u M C⟩
def rB (wr:World)(vk:Value)(F:Value->World->Prop):List Bool->List Value->World->Prop
 |[b0,b1,b2],[x0,x1,x2],V=>(b0=true->x0=vk)/\(b1=false->V=wr)/\(b1=true->b2=false->F x1 V)/\(b2=true->b1=true/\∃c,F x1 c/\V=c.alloc (.cells #[x1] 3)/\x2= .slice (some ⟨c.heap.size,0,none⟩) 1 1)
 |_,_,_=>False
theorem Iq (ks:List Ex)(a:Ex):Bs (ks++[a])=Bs ks+a.size:=by
 induction ks with
 |nil=>simp [Bs]
 |cons x ks ih=>simp only[List.cons_append,Bs,ih];omega
theorem Df {w:World}{p:Nat}{c:Cl}{vk:Value}(h:w.heap[p]? =some (.cells (ndC c vk) 43 (0,0))):
 w.cell? ⟨p,0,none⟩=some (.int .u8 c.op)/\w.cell? ⟨p,1,none⟩=some (.int .u8 0)/\w.cell? ⟨p,2,none⟩=some (.int .i64 0)/\w.cell? ⟨p,3,none⟩=some (.string ⟨#[]⟩)/\w.cell? ⟨p,4,none⟩=some (.string ⟨#[]⟩)/\w.cell? ⟨p,5,none⟩=some vk/\w.cell? ⟨p,6,none⟩=some (.int .i64 c.line)/\w.cell? ⟨p,7,none⟩=some (.int .i64 c.col)/\∀i,w.frozen? ⟨p,i,none⟩=false:=E7 h
theorem oD {w wr c i e:World}{B b d p:Nat}{X:List Nat}{n o j vk v4:Value}{ts q:List Tkn}{f:List Nd}{ks:List Ex}{cs:Array Value}(h:Es w B X b n ts d o f wr ks q j vk)(g:Rch b wr j c v4)(m:c.heap[p]? =some (.cells cs 43 (0,0)))(r:Below c.heap.size c i)(u:i.grownBy e vk.ownBlock):e.heap[p]? =some (.cells cs 43 (0,0)):=by
 have v:Bb vk.ownBlock.toList c e:=(Bb.of_below r _).trans (Bb.of_grown u _ fun k x=>by simp [x]);exact v.cells_of m fun hm=>Bh (h.row_after g) m rH sE
theorem dR {k B b:Nat}{X:List Nat}{vl:Value}{ts:List Tkn}(ih:Vb k B b vl ts){d:Nat}{t:Tkn}{q:List Tkn}{w:World}{vt:Value}{nds:List Nd}(hk:Bu (.lvl 7) (t::q)<=k)(h:Cs w B X b vl ts (t::q) d vt nds)(hB:B<=w.heap.size)
 (c:Cl) (yA:1<=c.most) (yO:c.most<=8) (hl:(plH (t::q)).1=c.line) (hc:(plH (t::q)).2=c.col):
 Calls Tryz.prog 216 #[.pointer (some ⟨b,0,none⟩),.int .u8 c.op,.int .i64 (c.least:Int),.int .i64 (c.most:Int)] w (Bw w B X b vl ts (t::q) d vt nds (Cc d q fun q'=>Gj c [] (d+1) q')):=by
 have H:=Ax h;have vV:=Ax (Nb h);rw[hl,hc] at vV;obtain⟨k0,k1,k2,k3,k4,k5,_⟩:=Be h.blk;have vJ:=h.big;have wS:=h.few;simp only[Aa] at wS;obtain⟨xx,vW⟩:∃xx,Cc d q (fun q'=>Gj c [] (d+1) q')=xx:=⟨_,rfl⟩;rw[vW];have r8:=Ax vW;clear h hl hc vW;go_enter Tryz.func216,Tryz.ntmps216;go_wp2_with fail;refine vV.out.mono ?_;rintro e V ⟨rfl,r9⟩;have p8:=(Aq V.heap.size V).alloc (Ak _) (.cells #[.int .u8 c.op,.int .u8 0,.int .i64 0,.string ⟨#[]⟩,.string ⟨#[]⟩,.slice none 0 0,.int .i64 c.line,.int .i64 c.col] 43);have uV:=r9.trans (p8.mono r9.size);have uW:=Ax (Az V (.cells #[.int .u8 c.op,.int .u8 0,.int .i64 0,.string ⟨#[]⟩,.string ⟨#[]⟩,.slice none 0 0,.int .i64 c.line,.int .i64 c.col] 43));have uX:V.heap.size∉b::vt.ownBlock.toList:=fun hm=>absurd (Cs.lt (H.out.below r9) _ hm) (Nat.lt_irrefl _)
 have vX:w.heap.size<=V.heap.size:=r9.size;obtain⟨V0,vY⟩:∃V0,V.alloc (.cells #[.int .u8 c.op,.int .u8 0,.int .i64 0,.string ⟨#[]⟩,.string ⟨#[]⟩,.slice none 0 0,.int .i64 c.line,.int .i64 c.col] 43)=V0:=⟨_,rfl⟩;rw[vY] at uV uW;have wT:=Ax vY;clear p8 r9 vY vV k0 k1 k2 k3 k4 k5;go_upto_region 2 with fail
 rw[wT.out];obtain⟨p9,wU⟩:∃p9,V.heap.size=p9:=⟨_,rfl⟩;rw[wU] at uW uX vX ⊢;clear wU;have yB:B<=p9:=Al hB vX;have uY:=H.out.below uV;obtain⟨k0,k1,k2,k3,k4,k5,kf⟩:=Be uY.blk;have wV:=kf 1;have vJ:=uY.big;have f7:=uY.step;have uZ:=A3 V0 b 1 (.int .i64 (((ts.length - (q.length+1):Nat):Int)+1));have s7:=uZ.cells_of uW.out (by simp;intro e;exact uX rT);obtain⟨V1,vZ⟩:∃V1,V0.setCell ⟨b,1,none⟩ (.int .i64 (((ts.length - (q.length+1):Nat):Int)+1))=V1:=⟨_,rfl⟩;rw[vZ] at f7 uZ s7;have wA:=Ax f7;have s8:=Ax (show V1.heap[p9]? =some (.cells (ndC c (.slice none 0 0)) 43 (0,0)) from s7);have wB:=Ax vZ;have wW:=(Rch.of_below vt uV).trans (Rch.of_only vt uZ);have wC:=Ax wW;have HAP:=Ax uX;have C:=Ax (Fe f7);obtain⟨S,hS⟩:∃S:ByteArray,⟨(Fx q).toArray⟩=S:=⟨_,rfl⟩;rw[hS] at C;have r7:decide (dl S=[40])=isH [40] q:=by rw[←hS,Da];exact I4 rI
 clear kf uY f7 uZ s7 vZ wW uV uX uW hS;go_upto_region 3 with fail
 first|rw[wB.out]|rw[Aa,wB.out]
 clear k0 k1 k2 k3 k4 k5 wV;cases ho:isH [40] q with
 |false=>
  rw[ho] at r7;have wX:=of_decide_eq_false r7;have t1:(S.toList==[40])=false:=by rw[A0];exact Af.2 wX
  have HLE:Hid (xx= .error (4,q)):=Ax (by rw[←r8.out];unfold Cc;rw[Ao (by rw[ho];decide)]);have HO:=Ax ho;clear wX r7 ho r8;go_wp2_with fail;refine C.out.mono ?_;rintro e V2 ⟨rfl,A⟩;have v:=Ax (Gl (wA.out.below A) [40] rI);have vA:=Ax A;have vB:=Ax ((A.block _ (Bp s8.out)).trans s8.out);clear A C;go_wp2_with fail;refine v.out.mono ?_;rintro e V3 ⟨rfl,f8,wD⟩;rw[Ao (by rw[HO.out];decide)] at wD;have m:=Ax wD;have HR:=Ax ((wC.out.trans (Rch.of_below vt vA.out)).trans (Rch.of_only vt f8));have p:=Ax (f8.cells_of vB.out rL);clear f8 wD v t1;obtain⟨a0,r,hkb⟩:=m.out.blk;obtain⟨k0,k1,k2,k3,k4,k5,_⟩:=Be hkb;clear hkb;go_wp2_with fail
  go_loopw [] (fun wr=>wr=V3) (fun _=>0)
  case atStart=>rfl
  subst hrel;go_wp2_with fail;clear k0 k1 k2 k3 k4 k5;have y:=Ax (Dh m.out ⟨#[41]⟩);go_wp2_with fail;refine y.out.mono ?_;rintro e VM ⟨rfl,rfl⟩;clear y;obtain⟨a0,r,hkb⟩:=m.out.blk;obtain⟨k0,k1,k2,k3,k4,k5,kf⟩:=Be hkb;have kf2:=kf 2;obtain⟨f,hx5⟩:∃f,IntKind.i64.wrap (r - 1)=f:=⟨_,rfl⟩;have hx5':wrap64 (r - 1)=f:=by rw[←hx5];simp [IntKind.wrap_i64,wrap64]
  have HM5:=Ax (m.out.deep f);have ho5:=A3 wr b 2 (.int .i64 f);have hnb5:=ho5.cells_of p.out rL;obtain⟨W5,hW5⟩:∃W5,wr.setCell ⟨b,2,none⟩ (.int .i64 f)=W5:=⟨_,rfl⟩;rw[hW5] at HM5 ho5 hnb5;have HN5:=Ax hnb5;have HW5:=Ax hW5;have HR5:=Ax (HR.out.trans (Rch.of_only vt ho5));clear hkb kf ho5 hnb5 hW5 hx5;go_upto_region 15 with fail
  rw[HW5.out];clear k0 k1 k2 k3 k4 k5 kf2 hx5';obtain⟨m0,m1,m2,m3,m4,m5,m6,m7,_⟩:=Df HN5.out;have HP:=Ax (D3 HM5.out rF (Al hB HR5.out.only.size) ⟨c.op,v0,[],c.line,c.col⟩ none 0 0);have HP:Hid (Calls Tryz.prog 166 #[.pointer (some ⟨b,0,none⟩),.agg #[.int .u8 c.op,.int .u8 0,.int .i64 0,.string ⟨#[]⟩,.string ⟨#[]⟩,.slice none 0 0,.int .i64 c.line,.int .i64 c.col]] W5 _):=Ax HP.out;go_wp2_with fail;refine HP.out.mono ?_;rintro e V6 ⟨z6,v6,rfl,hx6,hr6⟩;have HF:=Ax (show Bw w B X b vl ts (t::q) d vt nds xx (.returned (.int .i64 z6)) V6 from⟨z6,v6,rfl,HR5.out.trans hr6,by rw[HLE.out];exact hx6.mono rZ H.out.few⟩);clear hx6 hr6 HP m0 m1 m2 m3 m4 m5 m6 m7;exact zzl
 |true=>
  rw[ho] at r7;have wY:=of_decide_eq_true r7;have t1:(S.toList==[40])=true:=by rw[A0,wY];rfl
  obtain⟨t',q',rfl⟩:=C6 ho;have HO:=Ax ho;clear wY r7 ho;go_wp2_with fail;refine C.out.mono ?_;rintro e V2 ⟨rfl,A⟩;have HD:=Ax (Jm (wA.out.below A));have vA:=Ax A;have vB:=Ax ((A.block _ (Bp s8.out)).trans s8.out);clear A C;go_wp2_with fail;refine HD.out.mono ?_;rintro e V3 ⟨rfl,f8,Y⟩;have vC:=Ax ((wC.out.trans (Rch.of_below vt vA.out)).trans (Rch.of_only vt f8));have vD:=Ax (f8.cells_of vB.out rL);clear f8 HD t1;by_cases hd12:d=12
  ·rw[Ap hd12] at Y;have HLE:Hid (xx= .error (12,t'::q')):=Ax (by rw[←r8.out];unfold Cc;rw[Ap HO.out,Ap hd12]);have m:=Ax Y;have v:=Ax (Dh Y ⟨#[40]⟩);have HR:=vC;have p:=vD;clear Y hd12;go_wp2_with fail;refine v.out.mono ?_;rintro e V4 ⟨rfl,rfl⟩;clear v vC vD;obtain⟨a0,r,hkb⟩:=m.out.blk;obtain⟨k0,k1,k2,k3,k4,k5,_⟩:=Be hkb;clear hkb;go_wp2_with fail
   go_loopw [] (fun wr=>wr=V3) (fun _=>0)
   case atStart=>rfl
   subst hrel;go_wp2_with fail;clear k0 k1 k2 k3 k4 k5;have y:=Ax (Dh m.out ⟨#[41]⟩);go_wp2_with fail;refine y.out.mono ?_;rintro e VM ⟨rfl,rfl⟩;clear y;obtain⟨a0,r,hkb⟩:=m.out.blk;obtain⟨k0,k1,k2,k3,k4,k5,kf⟩:=Be hkb;have kf2:=kf 2;obtain⟨f,hx5⟩:∃f,IntKind.i64.wrap (r - 1)=f:=⟨_,rfl⟩;have hx5':wrap64 (r - 1)=f:=by rw[←hx5];simp [IntKind.wrap_i64,wrap64]
   have HM5:=Ax (m.out.deep f);have ho5:=A3 wr b 2 (.int .i64 f);have hnb5:=ho5.cells_of p.out rL;obtain⟨W5,hW5⟩:∃W5,wr.setCell ⟨b,2,none⟩ (.int .i64 f)=W5:=⟨_,rfl⟩;rw[hW5] at HM5 ho5 hnb5;have HN5:=Ax hnb5;have HW5:=Ax hW5;have HR5:=Ax (HR.out.trans (Rch.of_only vt ho5));clear hkb kf ho5 hnb5 hW5 hx5;go_upto_region 15 with fail
   rw[HW5.out];clear k0 k1 k2 k3 k4 k5 kf2 hx5';obtain⟨m0,m1,m2,m3,m4,m5,m6,m7,_⟩:=Df HN5.out;have HP:=Ax (D3 HM5.out rF (Al hB HR5.out.only.size) ⟨c.op,v0,[],c.line,c.col⟩ none 0 0);have HP:Hid (Calls Tryz.prog 166 #[.pointer (some ⟨b,0,none⟩),.agg #[.int .u8 c.op,.int .u8 0,.int .i64 0,.string ⟨#[]⟩,.string ⟨#[]⟩,.slice none 0 0,.int .i64 c.line,.int .i64 c.col]] W5 _):=Ax HP.out;exact zzy
  rw[Ao hd12] at Y;have D:Hid (Gj c [] (d+1) q'=xx):=Ax (by rw[←r8.out];unfold Cc;rw[Ap HO.out,Ao hd12];rfl);have v:=Ax (Gl Y [40] rI);have yC:=Ax Y;clear Y hd12;go_wp2_with fail;refine v.out.mono ?_;rintro e V4 ⟨rfl,wE,vE⟩;rw[Ap HO.out] at vE;rw[List.tail_cons] at vE;have wF:=vC.out.trans (Rch.of_only vt wE);have HS:Hid (Z0 w B X b vl ts (t'::q') d vt nds c p9 xx V4):=Ax ⟨vt,none,0,0,wF,wE.cells_of vD.out rL,HAP.out,.inl ⟨[],q',rfl,yA,by simp [Bs],by simp,D.out,by simpa[Value.ownBlock,Bz] using vE,World.ownsRow_nil _ _ _ _,fun g e=>(by cases e),wF⟩⟩;clear v wE vE wF HAP vD vB s8 yC vC vA wC wA wB wT r8 D;obtain⟨i0,wZ,xA,xB,xC⟩:=J4;have xD:=Ax wZ;have xE:=Ax xA;have xF:=Ax xB;have xG:=Ax xC;clear wZ xA xB xC;go_wp2_with fail
  go_loopw [] (fun wr=>Hid (Z0 w B X b vl ts (t'::q') d vt nds c p9 xx wr)) (fun wr=>Ev b ts wr)
  case atStart=>exact HS
  obtain⟨vj,ka,kn,kc,xH,xI,vK,f9⟩:=hrel.out;have HR:=Ax xH;have p:=Ax xI;have HAP:=Ax vK;clear hrel HS xH xI vK;rcases f9 with ⟨ks,rj,rfl,yP,yE,yF,xJ,Z⟩|⟨er,qe,xK,hx⟩
  ·obtain⟨k0,k1,k2,k3,k4,k5,_⟩:=Be Z.rd.blk;have wG:=Ax (show Ev b ts wr=2*rj.length+1 from Gw Z.rd);obtain⟨wd,wH⟩:∃wd,wr.drew=wd:=⟨_,rfl⟩;have vF:Below wr.heap.size wr wd:=by rw[←wH];exact(Aq _ _).drew
   have Z:=Z.below vF;have I:=Ax Z;have p:=Ax ((vF.block _ (Bp p.out)).trans p.out);have HR:=Ax (HR.out.trans (Rch.of_below vj vF));have xL:=Al hB HR.out.only.size;have yG:=Ax wH;clear wH vF;have xM:=ih _ 0 (d+1) rj wd vj (nds++Bz ks nds.length) rF (by simp only[Bu,Aa] at hk yF ⊢;omega) Z.rd xL;have wI:Hid (Calls Tryz.prog 91 #[.pointer (some ⟨b,0,none⟩),.int .i64 0] wd _):=Ax xM;have D:=Ax xJ;clear Z xM xJ;go_upto_region 7 with fail
   clear k0 k1 k2 k3 k4 k5;refine wp_region_noPanic ?_;refine wp_region_held_drew (S:=fun _=>True) rG ?_ (fun hHeld=>?_)
   ·trivial
   rw[yG.out];refine QH 0 ⟨some 34,_,_,_,_,_⟩ (h:=?_)
   try simp only[Act.put,Ac,Ad,Ae]
   refine QH 2 ⟨some 36,_,_,_,_,_⟩ (h:=?_)
   try simp only[Act.put,Ac,Ad,Ae]
   refine Em (Inv:=rB wd (.slice ka ks.length kc) (iN B X b vl ts (t'::q') d nds p9 (ndC c (.slice ka ks.length kc)) (.slice ka ks.length kc) ks rj vj wd)) 3 [1,3,4] [some 35,some 37,some 38] [[],[],[1]] [false,false,false] rG (fun _ _ _ _ _ h=>h) rG (fun _ _ _ _=>trivial) ⟨(fun h=>by cases h),fun _=>rfl,(fun h=>by cases h),(fun h=>by cases h)⟩ ?_ ?_
   ·refine lt3 ?_ ?_ ?_
    ·rw[Ao rH];refine U6.mk (i:=1) rfl rfl rfl ?_;intro d' u V hd hu i6 L hI K hK;obtain⟨x0,x1,x2,rfl⟩:=Z7 hu;obtain⟨b0,b1,b2,rfl⟩:=Z7 hd;obtain⟨i7,E,a8,F⟩:=hI
     have n5:V.cell? ⟨p9,5,none⟩=some (.slice ka ks.length kc):=by
      cases b1 with
      |false=>rw[E rfl];exact(Df p.out).2.2.2.2.2.1
      |true=>
       cases b2 with
       |false=>obtain⟨_,_,_,_,h3,_⟩:=a8 rfl rfl;exact(Df h3).2.2.2.2.2.1
       |true=>
        obtain⟨_,V4,⟨_,_,_,_,h3,_⟩,rfl,_⟩:=F rfl;exact(Df ((((Aq V4.heap.size V4).alloc (Ak _) _).block _ (Bp h3)).trans h3)).2.2.2.2.2.1
     have yH:=Ax E;have yI:=Ax a8;have yJ:=Ax F;clear hd hu i6 L i7 E a8 F;simp only[Bo,Act.put,Ac,Ad,Ae] at hK ⊢
     go_simp
     (try go_wp2_with fail)
     refine hK.out _ _ ⟨fun _=>rfl,yH.out,yI.out,yJ.out⟩
    ·rw[Ao rH];refine U6.mk (i:=3) rfl rfl rfl ?_;intro d' u V hd hu i6 L hI K hK;obtain⟨x0,x1,x2,rfl⟩:=Z7 hu;obtain⟨b0,b1,b2,rfl⟩:=Z7 hd;obtain⟨i7,E,a8,F⟩:=hI;have wJ:b1=false:=by simpa using i6
     subst wJ;obtain rfl:=E rfl
     have A:b2=false:=by
      cases b2 with
      |false=>rfl
      |true=>exact absurd (F rfl).1 rH
     subst A;have wK:=Ax i7;clear hd hu i6 L i7 E a8 F;simp only[Bo,Act.put,Ac,Ad,Ae] at hK ⊢
     go_simp
     go_at_call 91
     refine wI.out.mono ?_;rintro e V4 ⟨z4,v4,rfl,xN,s9⟩;have HA:=Ax (iN.of (x:= .int .i64 z4) (vk:= .slice ka ks.length kc) p.out HAP.out yE rF ⟨z4,v4,rfl,xN,s9⟩);clear xN s9 wI
     (try go_wp2_with fail)
     refine hK.out _ _ ⟨wK.out,(fun h=>by cases h),fun _ _=>HA.out,(fun h=>by cases h)⟩
    rw[Ao rH];refine U6.mk (i:=4) rfl rfl rfl ?_;intro d' u V hd hu i6 L hI K hK;obtain⟨x0,x1,x2,rfl⟩:=Z7 hu;obtain⟨b0,b1,b2,rfl⟩:=Z7 hd;obtain⟨i7,E,a8,F⟩:=hI;have A:b2=false:=by simpa using i6
    subst A;have wJ:b1=true:=by simpa using L
    subst wJ;have hA:=a8 rfl rfl;obtain⟨z,v4,rfl,w7⟩:=hA;have HA:Hid (iN B X b vl ts (t'::q') d nds p9 (ndC c (.slice ka ks.length kc)) (.slice ka ks.length kc) ks rj vj wd (.int .i64 z) V):=Ax ⟨z,v4,rfl,w7⟩;have wK:=Ax i7;clear hd hu i6 L i7 E a8 F w7;simp only[Bo,Act.put,Ac,Ad,Ae] at hK ⊢
    go_simp
    (try go_wp2_with fail)
    refine hK.out _ _ ⟨wK.out,(fun h=>by cases h),(fun _ h=>by cases h),fun _=>⟨rfl,V,HA.out,rfl,rfl⟩⟩
   intro u V' hu hI;obtain⟨x0,x1,x2,rfl⟩:=Z7 hu;obtain⟨E,_,_,F⟩:=hI;obtain rfl:=E rfl;obtain⟨_,V,⟨z,v4,rfl,n9,xO,xP,s9⟩,rfl,rfl⟩:=F rfl;clear E F hu wI;simp only[Bo,Act.put,Ac,Ad,Ae];have w8:=I.out.row_after n9;have p8:=(Aq V.heap.size V).alloc (Ak _) (.cells #[.int .i64 z] 3);have w9:=Ax (Cg w8 p8);have HN5:=Ax (Az V (.cells #[.int .i64 z] 3));have wL:Hid ((V.alloc (.cells #[.int .i64 z] 3)).heap.size=V.heap.size+1):=Ax rI;have wM:=Ax p8;have x8:=Ax n9;have wN:=Ax xO;have xQ:=Ax xP;have xR:=Ax s9;have yQ:=Al xL n9.only.size;clear w8 p8 n9 xO xP s9;refine wpAnyH_ready (rs:=[5]) rG rI ?_;refine AllReadyH.cons (o:=⟨some 39,_,_,_,_,_⟩) (rs:=[]) rfl (fun K hK=>?_) AllReadyH.nil;refine step_append_lies _ tI _ _ _ tI B 3 i0 (.int .i64 0) 1 8 Tryz.underlying41 xD.out xE.out xF.out xG.out rfl rH (.slice ka ks.length kc) ks.length (Ea (Db ks nds.length)) tI w9.out ⟨V.heap.size,0,none⟩ 1 1 [.int .i64 z] tI tI (World.news_of_block (cs:= #[.int .i64 z]) HN5.out) rS rH rP rF (by rw[wL.out];omega) (V.heap.size+1) wL.out ?_;intro g yK w6 x9 M vL vM;have xS:=oD I.out x8.out wN.out wM.out M;obtain⟨_,_,_,_,_,n5,_,_,nf⟩:=Df xS;have yL:=nf 5;have HA:=Ax (kY I.out vX yB x8.out wN.out xQ.out xR.out wM.out M x9 (vL.imp id (fun e=>by omega)) vM);clear hHeld nf xS x9 M vL vM xR wN xQ wM w9 HN5 wL;refine hK.out _ _ trivial (fun hHeld=>?_);clear hK K
   try simp only[Act.put,Ac,Ad,Ae]
   refine QH 6 ⟨some 40,_,_,_,_,_⟩ (h:=?_)
   try simp only[Act.put,Ac,Ad,Ae]
   refine wpAnyH_ready (rs:=[7]) rG rI ?_;refine AllReadyH.cons (o:=⟨none,_,_,_,_,_⟩) (rs:=[]) rfl (fun K hK=>?_) AllReadyH.nil
   go_simp
   try go_wp2_with fail
   clear hHeld;refine hK.out _ _ ?_ (fun hHeld=>?_)
   ·trivial
   clear hK K
   try simp only[Act.put,Ac,Ad,Ae]
   refine wpAnyH_done rG ?_ _;refine NoPanic.normal ?_;obtain⟨W7,xT⟩:∃W7,w6.setCell ⟨p9,5,none⟩ (.slice (some ⟨g,0,none⟩) (ks.length+1) yK)=W7:=⟨_,rfl⟩;rw[xT] at HA ⊢;obtain⟨v7,ka7,kc7,xU,xV,vN,f9⟩:=HA.out;clear HA xT n5 yL hHeld I p HR HAP x8 xD xE xF xG;have HR:=Ax xU;have p:=Ax xV;have HAP:=Ax vN;clear xU xV vN;rcases f9 with ⟨a,q4,y8,vO,vP,Z⟩|⟨er,q4,y8,hx⟩
   ·have j:=D.out;rw[Ji,y8] at j;simp only[ExR.next] at j;have j8:=Ax j;have C:=Ax (Fe Z.rd);obtain⟨S,hS⟩:∃S:ByteArray,⟨(Fx q4).toArray⟩=S:=⟨_,rfl⟩;rw[hS] at C;have vG:decide (dl S=[44])=isH [44] q4:=by rw[←hS,Da];exact I4 rI
    have N:decide (dl S=[41])=isH [41] q4:=by rw[←hS,Da];exact I4 rI
    have I:=Ax Z;have yR:=a.size_pos;have vG:(S.toList==[44])=isH [44] q4:=by rw[A0,←vG];exact Bool.eq_iff_iff.2 rI
    have N:(S.toList==[41])=isH [41] q4:=by rw[A0,←N];exact Bool.eq_iff_iff.2 rI
    have j9:=Ax vG;have b7:=Ax N;clear j hS vG N Z y8;go_wp2_with fail;refine C.out.mono ?_;rintro e V8 ⟨rfl,O⟩;have I:=Ax (I.out.below O);have p:=Ax ((O.block _ (Bp p.out)).trans p.out);have HR:=Ax (HR.out.trans (Rch.of_below v7 O));obtain⟨_,_,_,_,_,n5,_⟩:=Df p.out;clear O C;cases hm1:isH [44] q4 with
    |true=>
     have R:=j9.out;rw[hm1] at R;have N:=Ys (s':=[41]) hm1 rH;have G:=b7.out;rw[N] at G;have j:=j8.out;rw[hm1,N] at j;simp only[Bool.true_and,Bool.false_and,Bool.or_false,if_true] at j;by_cases hmost:ks.length+1=c.most
     ·rw[Ap (by simpa using hmost)] at j;have HLE:Hid (xx= .error (14,q4)):=Ax j.symm;have f1:((((ks.length+1:Nat):Int))==(c.most:Int))=true:=by simp;omega
      have f2:(((ks.length:Int)+1)==(c.most:Int))=true:=by simp;omega
      have f3:(ks.length+1==c.most)=true:=by simp;omega
      clear j hm1 N hmost j8 j9 b7 D;have b8:=Ax (Ip I.out.rd 14 rH);go_wp2_with fail;refine b8.out.mono ?_;rintro e V9 ⟨rfl,T,n,-⟩;have m:=Ax (T.mono (cap':=nds.length+(t'::q').length) (by rw[Ab,Cx,Iq];omega) rF);have p:=Ax (n.cells_of p.out rL);have HR:=Ax (HR.out.trans (Rch.of_only v7 n));clear T n b8 I n5;obtain⟨a0,r,hkb⟩:=m.out.blk;obtain⟨k0,k1,k2,k3,k4,k5,_⟩:=Be hkb;clear hkb;go_wp2_with fail;clear k0 k1 k2 k3 k4 k5 R G f1 f2 f3;have y:=Ax (Dh m.out ⟨#[41]⟩);go_wp2_with fail;refine y.out.mono ?_;rintro e VM ⟨rfl,rfl⟩;clear y;obtain⟨a0,r,hkb⟩:=m.out.blk;obtain⟨k0,k1,k2,k3,k4,k5,kf⟩:=Be hkb;have kf2:=kf 2;obtain⟨f,hx5⟩:∃f,IntKind.i64.wrap (r - 1)=f:=⟨_,rfl⟩;have hx5':wrap64 (r - 1)=f:=by rw[←hx5];simp [IntKind.wrap_i64,wrap64]
      have HM5:=Ax (m.out.deep f);have ho5:=A3 V9 b 2 (.int .i64 f);have hnb5:=ho5.cells_of p.out rL;obtain⟨W5,hW5⟩:∃W5,V9.setCell ⟨b,2,none⟩ (.int .i64 f)=W5:=⟨_,rfl⟩;exact zz8
     rw[Ao (by simpa using hmost)] at j;obtain⟨t5,q5,rfl⟩:=C6 hm1;rw[List.tail_cons] at j;have f1:((((ks.length+1:Nat):Int))==(c.most:Int))=false:=by simp;omega
     have f2:(((ks.length:Int)+1)==(c.most:Int))=false:=by simp;omega
     have f3:(ks.length+1==c.most)=false:=by simp;omega
     have yM:ks.length+1<c.most:=by omega
     have Z:=I.out;obtain⟨k0,k1,k2,k3,k4,k5,kf⟩:=Be Z.rd.blk;have wV:=kf 1;have vJ:=Z.rd.big;have f7:=Z.rd.step;have n:=A3 V8 b 1 (.int .i64 (((ts.length - (q5.length+1):Nat):Int)+1));have U:=Z.turn n f7;have wO:=n.cells_of p.out rL;obtain⟨W9,wP⟩:∃W9,V8.setCell ⟨b,1,none⟩ (.int .i64 (((ts.length - (q5.length+1):Nat):Int)+1))=W9:=⟨_,rfl⟩;rw[wP] at U wO n;simp only[Aa] at vP vO;have xW:Ev b ts W9=2*q5.length+1:=Gw U.rd;have vQ:Hid (Z0 w B X b vl ts (t'::q') d vt nds c p9 xx W9):=Ax ⟨v7,ka7,ks.length+1,kc7,HR.out.trans (Rch.of_only v7 n),wO,HAP.out,.inl ⟨ks++[a],q5,by simp,by simp;omega,by rw[Iq];omega,by omega,j,U⟩⟩;have vH:=Ax wP;have vR:=Ax xW;clear j hm1 N hmost j8 j9 b7 D Z U f7 n wO wP kf xW I;go_wp2_with fail;go_roundw
     case rel=>first|(rw[vH.out];exact vQ)|(rw[Aa,vH.out];exact vQ)
     case measure=>first|(rw[vH.out];have:=wG.out;have:=vR.out;omega)|(rw[Aa,vH.out];have:=wG.out;have:=vR.out;omega)
    |false=>
     have R:=j9.out;rw[hm1] at R;have j:=j8.out;rw[hm1] at j;simp only[Bool.false_and,Bool.false_or,Bool.false_eq_true,if_false] at j;cases hm2:isH [41] q4 with
     |true=>
      have G:=b7.out;rw[hm2] at G;rw[hm2] at j;simp only[Bool.true_and] at j;by_cases hles:ks.length+1<c.least
      ·rw[Ap (by simpa using hles)] at j;have HLE:Hid (xx= .error (14,q4)):=Ax j.symm;have g1:decide ((((ks.length+1:Nat):Int))<(c.least:Int))=true:=by simp;omega
       have g2:decide (((ks.length:Int)+1)<(c.least:Int))=true:=by simp;omega
       have g3:decide (ks.length+1<c.least)=true:=by simp;omega
       clear j hm1 hm2 hles j8 j9 b7 D;have b8:=Ax (Ip I.out.rd 14 rH);go_wp2_with fail;refine b8.out.mono ?_;rintro e V9 ⟨rfl,T,n,-⟩;have m:=Ax (T.mono (cap':=nds.length+(t'::q').length) (by rw[Ab,Cx,Iq];omega) rF);have p:=Ax (n.cells_of p.out rL);have HR:=Ax (HR.out.trans (Rch.of_only v7 n));clear T n b8 I n5;obtain⟨a0,r,hkb⟩:=m.out.blk;obtain⟨k0,k1,k2,k3,k4,k5,_⟩:=Be hkb;clear hkb;go_wp2_with fail;clear k0 k1 k2 k3 k4 k5 R G g1 g2 g3;have y:=Ax (Dh m.out ⟨#[41]⟩);go_wp2_with fail;refine y.out.mono ?_;rintro e VM ⟨rfl,rfl⟩;clear y;obtain⟨a0,r,hkb⟩:=m.out.blk;obtain⟨k0,k1,k2,k3,k4,k5,kf⟩:=Be hkb;have kf2:=kf 2;obtain⟨f,hx5⟩:∃f,IntKind.i64.wrap (r - 1)=f:=⟨_,rfl⟩;have hx5':wrap64 (r - 1)=f:=by rw[←hx5];simp [IntKind.wrap_i64,wrap64]
       have HM5:=Ax (m.out.deep f);have ho5:=A3 V9 b 2 (.int .i64 f);have hnb5:=ho5.cells_of p.out rL;obtain⟨W5,hW5⟩:∃W5,V9.setCell ⟨b,2,none⟩ (.int .i64 f)=W5:=⟨_,rfl⟩;exact zz8
      rw[Ao (by simpa using hles)] at j;unfold D4 at j;rw[Ap hm2] at j;obtain⟨t5,q5,rfl⟩:=C6 hm2;rw[List.tail_cons] at j;have g1:decide ((((ks.length+1:Nat):Int))<(c.least:Int))=false:=by simp;omega
      have g2:decide (((ks.length:Int)+1)<(c.least:Int))=false:=by simp;omega
      have g3:decide (ks.length+1<c.least)=false:=by simp;omega
      have HLE:Hid (xx= .ok (Ex.mk ⟨c.op,v0,[],c.line,c.col⟩ (ks++[a]),q5)):=Ax j.symm;have wQ:=Ax hm2;have v:=Ax (Gl I.out.rd [41] rI);obtain⟨k0,k1,k2,k3,k4,k5,_⟩:=Be I.out.rd.blk;simp only[Aa] at vP vO;clear j hm1 hm2 hles j8 j9 b7 D;go_wp2_with fail;clear k0 k1 k2 k3 k4 k5 R G g1 g2 g3 n5;refine v.out.mono ?_;rintro e V9 ⟨rfl,n,k8⟩;rw[Ap wQ.out,List.tail_cons] at k8;have U:=I.out.turn n k8;have p:=Ax (n.cells_of p.out rL);have HR:=Ax (HR.out.trans (Rch.of_only v7 n));obtain⟨k0,k1,k2,k3,k4,k5,kf⟩:=Be k8.blk;have kf2:=kf 2;have yN:=k8.hd;have y9:=k8.deep (d':=d) rF;have d8:=A3 V9 b 2 (.int .i64 (d:Int));have uR:=d8.cells_of p.out rL;have W:=Bj U.row d8 (fun g e hm=>Bh U.row k8.blk rH tB);have vS:=U.new;obtain⟨W5,hW5⟩:∃W5,V9.setCell ⟨b,2,none⟩ (.int .i64 (d:Int))=W5:=⟨_,rfl⟩;rw[hW5] at y9 d8 uR W;have HN5:=Ax uR;have HW5:=Ax hW5;have HR5:=Ax (HR.out.trans (Rch.of_only v7 d8));have vT:=Ax W;have vU:=Ax vS;have xX:=Ax (y9.free (X:=X) fun x hx=>List.mem_append.2 (.inr hx));have xY:((d+1:Nat):Int) - 1=(d:Int):=by omega
      clear v n k8 U kf y9 d8 uR W vS hW5 I;go_upto_region 15 with fail
      first|rw[HW5.out]|(rw[show((d:Int)+1 - 1)=(d:Int) by omega,HW5.out])|(rw[xY,HW5.out])
      clear k0 k1 k2 k3 k4 k5 kf2 xY;obtain⟨m0,m1,m2,m3,m4,m5,m6,m7,_⟩:=Df HN5.out;have vI:(Db (ks++[a]) nds.length).length=ks.length+1:=by rw[Kb];simp
      have uS:=vT.out;have uT:(nds++Bz (ks++[a]) nds.length).length=nds.length+(Bs ks+a.size):=by rw[Ab,Cx,Iq]
      have hp:=Lf xX.out (by rw[uT];omega) (Al hB HR5.out.only.size) ⟨c.op,v0,[],c.line,c.col⟩ (Db (ks++[a]) nds.length) ka7 kc7 (by rw[vI];rw[Ab] at uS;exact uS) (fun x hx hm=>by rw[vI] at hx;have h1:=vU.out x hx;have h2:=H.out.xl x hm;omega);rw[vI,uT] at hp;have HP:Hid (Calls Tryz.prog 166 #[.pointer (some ⟨b,0,none⟩),.agg #[.int .u8 c.op,.int .u8 0,.int .i64 0,.string ⟨#[]⟩,.string ⟨#[]⟩,.slice ka7 (ks.length+1) kc7,.int .i64 c.line,.int .i64 c.col]] W5 _):=Ax hp;clear hp uS vI uT vT vU;go_wp2_with fail;refine HP.out.mono ?_;rintro e V6 ⟨rfl,v6,wR,hr6⟩;have xZ:nds++Bz (ks++[a]) nds.length++[⟨⟨c.op,v0,[],c.line,c.col⟩,Db (ks++[a]) nds.length⟩]=nds++(Ex.mk ⟨c.op,v0,[],c.line,c.col⟩ (ks++[a])).flat nds.length:=by rw[Tb,List.append_assoc]
      rw[xZ] at wR;have HF:=Ax (show Bw w B X b vl ts (t::t'::q') d vt nds xx (.returned (.int .i64 ((nds.length+(Bs ks+a.size):Nat):Int))) V6 from⟨_,v6,rfl,HR5.out.trans hr6,by rw[HLE.out];exact⟨by have:=Iq ks a;simp only[Ex.size]<;>omega,wR⟩⟩);clear wR hr6 xZ HP m0 m1 m2 m3 m4 m5 m6 m7;exact zzl
     |false=>
      have G:=b7.out;rw[hm2] at G;rw[hm2] at j;simp only[Bool.false_and,Bool.false_eq_true,if_false] at j;unfold D4 at j;rw[Ao (by rw[hm2];decide)] at j;have HLE:Hid (xx= .error (4,q4)):=Ax j.symm;have wQ:=Ax hm2;have v:=Ax (Gl I.out.rd [41] rI);obtain⟨k0,k1,k2,k3,k4,k5,_⟩:=Be I.out.rd.blk;clear j hm1 hm2 j8 j9 b7 D;go_wp2_with fail;clear k0 k1 k2 k3 k4 k5 R G n5;refine v.out.mono ?_;rintro e V9 ⟨rfl,n,T⟩;rw[Ao (by rw[wQ.out];decide)] at T;have m:=Ax (T.mono (cap':=nds.length+(t'::q').length) (by rw[Ab,Cx,Iq];omega) rF);have p:=Ax (n.cells_of p.out rL);have HR:=Ax (HR.out.trans (Rch.of_only v7 n));clear T n v I;obtain⟨a0,r,hkb⟩:=m.out.blk;obtain⟨k0,k1,k2,k3,k4,k5,kf⟩:=Be hkb;have kf2:=kf 2;obtain⟨f,hx5⟩:∃f,IntKind.i64.wrap (r - 1)=f:=⟨_,rfl⟩;have hx5':wrap64 (r - 1)=f:=by rw[←hx5];simp [IntKind.wrap_i64,wrap64]
      have HM5:=Ax (m.out.deep f);have ho5:=A3 V9 b 2 (.int .i64 f);have hnb5:=ho5.cells_of p.out rL;obtain⟨W5,hW5⟩:∃W5,V9.setCell ⟨b,2,none⟩ (.int .i64 f)=W5:=⟨_,rfl⟩;exact zz8
   have HLE:Hid (xx= .error (er,q4)):=Ax (by rw[←D.out,Ji,y8];rfl);have C:=Ax (fB hx);have m:=Ax hx;clear hx y8 D wG;go_wp2_with fail;refine C.out.mono ?_;rintro e V8 ⟨⟨S,rfl⟩,O⟩;have m:=Ax (m.out.below O);have p:=Ax ((O.block _ (Bp p.out)).trans p.out);have HR:=Ax (HR.out.trans (Rch.of_below v7 O));obtain⟨_,_,_,_,_,n5,_⟩:=Df p.out;obtain⟨a0,r,hkb⟩:=m.out.blk;obtain⟨k0,k1,k2,k3,k4,k5,_⟩:=Be hkb;have de:(er==0)=false:=Af.2 m.out.ne;have uU:(er !=0)=true:=by rw[bne,de];rfl
   have l7:=Ax (cY m.out 14);clear hkb O C;cases R:(S.toList==[44]) with
   |true=>
    have G:(S.toList==[41])=false:=by rw[eq_of_beq R];decide
    by_cases hmost:ks.length+1=c.most
    ·have f1:((((ks.length+1:Nat):Int))==(c.most:Int))=true:=by simp;omega
     have f2:(((ks.length:Int)+1)==(c.most:Int))=true:=by simp;omega
     have f3:(ks.length+1==c.most)=true:=by simp;omega
     clear hmost;go_wp2_with fail;refine l7.out.mono ?_;rintro e V9 ⟨rfl,rfl⟩;go_wp2_with fail;clear n5 k0 k1 k2 k3 k4 k5 de uU l7;have y:=Ax (Dh m.out ⟨#[41]⟩);go_wp2_with fail;refine y.out.mono ?_;rintro e VM ⟨rfl,rfl⟩;clear y;obtain⟨a0,r,hkb⟩:=m.out.blk;obtain⟨k0,k1,k2,k3,k4,k5,kf⟩:=Be hkb;have kf2:=kf 2;obtain⟨f,hx5⟩:∃f,IntKind.i64.wrap (r - 1)=f:=⟨_,rfl⟩;have hx5':wrap64 (r - 1)=f:=by rw[←hx5];simp [IntKind.wrap_i64,wrap64]
     have HM5:=Ax (m.out.deep f);have ho5:=A3 V8 b 2 (.int .i64 f);have hnb5:=ho5.cells_of p.out rL;obtain⟨W5,hW5⟩:∃W5,V8.setCell ⟨b,2,none⟩ (.int .i64 f)=W5:=⟨_,rfl⟩;exact zz8
    have f1:((((ks.length+1:Nat):Int))==(c.most:Int))=false:=by simp;omega
    have f2:(((ks.length:Int)+1)==(c.most:Int))=false:=by simp;omega
    have f3:(ks.length+1==c.most)=false:=by simp;omega
    clear hmost;go_wp2_with fail;clear n5 k0 k1 k2 k3 k4 k5 de uU l7;have y:=Ax (Dh m.out ⟨#[41]⟩);go_wp2_with fail;refine y.out.mono ?_;rintro e VM ⟨rfl,rfl⟩;clear y;obtain⟨a0,r,hkb⟩:=m.out.blk;obtain⟨k0,k1,k2,k3,k4,k5,kf⟩:=Be hkb;have kf2:=kf 2;obtain⟨f,hx5⟩:∃f,IntKind.i64.wrap (r - 1)=f:=⟨_,rfl⟩;have hx5':wrap64 (r - 1)=f:=by rw[←hx5];simp [IntKind.wrap_i64,wrap64]
    have HM5:=Ax (m.out.deep f);have ho5:=A3 V8 b 2 (.int .i64 f);have hnb5:=ho5.cells_of p.out rL;obtain⟨W5,hW5⟩:∃W5,V8.setCell ⟨b,2,none⟩ (.int .i64 f)=W5:=⟨_,rfl⟩;exact zz8
   |false=>
    cases G:(S.toList==[41]) with
    |true=>
     by_cases hles:ks.length+1<c.least
     ·have g1:decide ((((ks.length+1:Nat):Int))<(c.least:Int))=true:=by simp;omega
      have g2:decide (((ks.length:Int)+1)<(c.least:Int))=true:=by simp;omega
      have g3:decide (ks.length+1<c.least)=true:=by simp;omega
      clear hles;go_wp2_with fail;refine l7.out.mono ?_;rintro e V9 ⟨rfl,rfl⟩;go_wp2_with fail;clear n5 k0 k1 k2 k3 k4 k5 de uU l7;have y:=Ax (Dh m.out ⟨#[41]⟩);go_wp2_with fail;refine y.out.mono ?_;rintro e VM ⟨rfl,rfl⟩;clear y;obtain⟨a0,r,hkb⟩:=m.out.blk;obtain⟨k0,k1,k2,k3,k4,k5,kf⟩:=Be hkb;have kf2:=kf 2;obtain⟨f,hx5⟩:∃f,IntKind.i64.wrap (r - 1)=f:=⟨_,rfl⟩;have hx5':wrap64 (r - 1)=f:=by rw[←hx5];simp [IntKind.wrap_i64,wrap64]
      have HM5:=Ax (m.out.deep f);have ho5:=A3 V8 b 2 (.int .i64 f);have hnb5:=ho5.cells_of p.out rL;obtain⟨W5,hW5⟩:∃W5,V8.setCell ⟨b,2,none⟩ (.int .i64 f)=W5:=⟨_,rfl⟩;exact zz8
     have g1:decide ((((ks.length+1:Nat):Int))<(c.least:Int))=false:=by simp;omega
     have g2:decide (((ks.length:Int)+1)<(c.least:Int))=false:=by simp;omega
     have g3:decide (ks.length+1<c.least)=false:=by simp;omega
     clear hles;go_wp2_with fail;clear n5 k0 k1 k2 k3 k4 k5 de uU l7;have y:=Ax (Dh m.out ⟨#[41]⟩);go_wp2_with fail;refine y.out.mono ?_;rintro e VM ⟨rfl,rfl⟩;clear y;obtain⟨a0,r,hkb⟩:=m.out.blk;obtain⟨k0,k1,k2,k3,k4,k5,kf⟩:=Be hkb;have kf2:=kf 2;obtain⟨f,hx5⟩:∃f,IntKind.i64.wrap (r - 1)=f:=⟨_,rfl⟩;have hx5':wrap64 (r - 1)=f:=by rw[←hx5];simp [IntKind.wrap_i64,wrap64]
     have HM5:=Ax (m.out.deep f);have ho5:=A3 V8 b 2 (.int .i64 f);have hnb5:=ho5.cells_of p.out rL;obtain⟨W5,hW5⟩:∃W5,V8.setCell ⟨b,2,none⟩ (.int .i64 f)=W5:=⟨_,rfl⟩;exact zz8
    |false=>
     go_wp2_with fail;clear n5 k0 k1 k2 k3 k4 k5 de uU l7;have y:=Ax (Dh m.out ⟨#[41]⟩);go_wp2_with fail;refine y.out.mono ?_;rintro e VM ⟨rfl,rfl⟩;clear y;obtain⟨a0,r,hkb⟩:=m.out.blk;obtain⟨k0,k1,k2,k3,k4,k5,kf⟩:=Be hkb;have kf2:=kf 2;obtain⟨f,hx5⟩:∃f,IntKind.i64.wrap (r - 1)=f:=⟨_,rfl⟩;have hx5':wrap64 (r - 1)=f:=by rw[←hx5];simp [IntKind.wrap_i64,wrap64]
     have HM5:=Ax (m.out.deep f);have ho5:=A3 V8 b 2 (.int .i64 f);have hnb5:=ho5.cells_of p.out rL;obtain⟨W5,hW5⟩:∃W5,V8.setCell ⟨b,2,none⟩ (.int .i64 f)=W5:=⟨_,rfl⟩;exact zz8
  have m:=Ax hx;have HLE:=Ax xK;obtain⟨a0,r,hkb⟩:=m.out.blk;obtain⟨k0,k1,k2,k3,k4,k5,_⟩:=Be hkb;have de:(er==0)=false:=Af.2 hx.ne;clear hkb hx xK;go_wp2_with fail;clear k0 k1 k2 k3 k4 k5 de;have y:=Ax (Dh m.out ⟨#[41]⟩);go_wp2_with fail;refine y.out.mono ?_;rintro e VM ⟨rfl,rfl⟩;clear y;obtain⟨a0,r,hkb⟩:=m.out.blk;obtain⟨k0,k1,k2,k3,k4,k5,kf⟩:=Be hkb;have kf2:=kf 2;obtain⟨f,hx5⟩:∃f,IntKind.i64.wrap (r - 1)=f:=⟨_,rfl⟩;have hx5':wrap64 (r - 1)=f:=by rw[←hx5];simp [IntKind.wrap_i64,wrap64]
  have HM5:=Ax (m.out.deep f);have ho5:=A3 wr b 2 (.int .i64 f);have hnb5:=ho5.cells_of p.out rL;obtain⟨W5,hW5⟩:∃W5,wr.setCell ⟨b,2,none⟩ (.int .i64 f)=W5:=⟨_,rfl⟩;rw[hW5] at HM5 ho5 hnb5;have HN5:=Ax hnb5;have HW5:=Ax hW5;have HR5:=Ax (HR.out.trans (Rch.of_only vj ho5));clear hkb kf ho5 hnb5 hW5 hx5;go_upto_region 15 with fail
  rw[HW5.out];clear k0 k1 k2 k3 k4 k5 kf2 hx5';obtain⟨m0,m1,m2,m3,m4,m5,m6,m7,_⟩:=Df HN5.out;have HP:=Ax (D3 HM5.out rF (Al hB HR5.out.only.size) ⟨c.op,v0,[],c.line,c.col⟩ ka kn kc);have HP:Hid (Calls Tryz.prog 166 #[.pointer (some ⟨b,0,none⟩),.agg #[.int .u8 c.op,.int .u8 0,.int .i64 0,.string ⟨#[]⟩,.string ⟨#[]⟩,.slice ka kn kc,.int .i64 c.line,.int .i64 c.col]] W5 _):=Ax HP.out;exact zzy
end Go.Proofs.YtgfakdobajgnfaaGreatDoor
