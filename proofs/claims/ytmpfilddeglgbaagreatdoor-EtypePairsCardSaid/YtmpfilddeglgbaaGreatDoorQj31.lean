import Derived.Test.YtmpfilddeglgbaaGreatDoorQj30
set_option maxRecDepth 100000
set_option maxHeartbeats 16000000
namespace Go.Proofs.YtmpfilddeglgbaaGreatDoor
open Go Go.RowKit Go.Lib
theorem Cv.grow {w w1 w2:World}{B b d m:Nat}{X:List Nat}{vl vt vk v':Value}{ts r:List Tkn}{nds:List Nd}{xs:List Value}(h:Cv w B (vk.ownBlock.toList++X) b vl ts r d vt nds)(hk:w.ownsRow B 3 1 vk m xs)(hb:Below w.heap.size w w1)(hg:w1.grownBy w2 vk.ownBlock)
 (hv:∀g,v'.ownBlock=some g->vk.ownBlock=some g\/w.heap.size<=g/\g<w2.heap.size):Cv w2 B (v'.ownBlock.toList++X) b vl ts r d vt nds:=by
 exact zzn
theorem Cv.free {w:World}{B b d:Nat}{X Y:List Nat}{vl vt:Value}{ts r:List Tkn}{nds:List Nd}(h:Cv w B Y b vl ts r d vt nds)(hXY:∀x∈X,x∈Y):Cv w B X b vl ts r d vt nds:=
 ⟨h.suf,h.toks,h.nam,h.tl,h.hB,fun x hx=>h.xl x (hXY x hx),h.hd,h.big,h.few,h.blk,h.tree.imp (fun _ q=>q) fun _ _ _ hn q=>⟨q,fun g e hm=>hn g e (hXY g hm)⟩⟩
theorem Ej.grow {w w1 w2:World}{B b bad cap m:Nat}{vl vt vk:Value}{ts:List Tkn}{e:Int}{xs:List Value}(h:Ej w B b vl ts vt e bad cap)(hk:w.ownsRow B 3 1 vk m xs)(hb:Below w.heap.size w w1)(hg:w1.grownBy w2 vk.ownBlock):Ej w2 B b vl ts vt e bad cap:=by
 have hO:Bc vk.ownBlock.toList w w2:=(Bc.of_below hb _).trans (Bc.of_grown hg _ fun k hk=>by simp [hk]);obtain⟨a,dd,hkb⟩:=h.blk;obtain⟨m',xs',h1,h2⟩:=h.row;have hnb:vk.ownBlock≠some b:=Bi hk hkb tG;refine⟨h.toks.kept hO.size fun g hg' hlt=>hO.block g hlt fun hm=>?_,h.tl,h.hB,h.big,h.room,h.ne,⟨a,dd,hO.cells_of hkb wI⟩,m',xs',h1,Bm h2 hO fun g e hm=>?_⟩
 ·have h3:=h.tl g hg';have h4:=C9 hk g uD;omega
 have hm':vk.ownBlock=some g:=by simpa using hm
 rcases h2.2 with ⟨rfl,_⟩|⟨g',cap,cur,rfl,_,hg',_⟩
 ·cases e
 simp only[Value.ownBlock,Option.some.injEq] at e;subst e;exact Bi hk hg' tG hm'
theorem gW {w:World}{B b bad cap:Nat}{vl vt:Value}{ts:List Tkn}{e:Int}(h:Ej w B b vl ts vt e bad cap)(n:Int):
 Calls Tryz.prog 168 #[.pointer (some ⟨b,0,none⟩),.int .i64 n] w fun en w'=>en= .returned (.tuple #[])/\w=w':=by
 obtain⟨a,dd,hk⟩:=h.blk;obtain⟨k0,k1,k2,k3,k4,k5,_⟩:=Bd hk;have d0:(e==0)=false:=Af.2 h.ne;clear h hk;go_enter Tryz.func168,Tryz.ntmps168;go_wp2_with fail
 go_end0
 exact⟨rfl,rfl⟩
structure Fh (w:World)(B:Nat)(X:List Nat)(b:Nat)(vl:Value)(ts:List Tkn)(d:Nat)(vt:Value)(nds:List Nd)(wr:World)(ks:List Ex)(rj:List Tkn)(vj vk:Value):Prop where
 rd:Cv wr B (vk.ownBlock.toList++X) b vl ts rj (d+1) vj (nds++Bz ks nds.length)
 row:wr.ownsRow B 3 1 vk ks.length (Gq (Ct ks nds.length))
 new:∀g,vk.ownBlock=some g->w.heap.size<=g
 rch:Rch b w vt wr vj
theorem Fh.below {w wr V:World}{B b d:Nat}{X:List Nat}{vl vt vj vk:Value}{ts rj:List Tkn}{nds:List Nd}{ks:List Ex}(h:Fh w B X b vl ts d vt nds wr ks rj vj vk)(hb:Below wr.heap.size wr V):Fh w B X b vl ts d vt nds V ks rj vj vk:=
 ⟨h.rd.below hb,Di h.row hb,h.new,h.rch.trans (Rch.of_below vj hb)⟩
theorem Fh.turn {w wr V:World}{B b d:Nat}{X:List Nat}{vl vt vj vk:Value}{ts rj r':List Tkn}{nds:List Nd}{ks:List Ex}(h:Fh w B X b vl ts d vt nds wr ks rj vj vk)(ho:Bc [b] wr V)
 (hr:Cv V B (vk.ownBlock.toList++X) b vl ts r' (d+1) vj (nds++Bz ks nds.length)):Fh w B X b vl ts d vt nds V ks r' vj vk:=
 ⟨hr,Bm h.row ho fun g e hm=>Bi h.row h.rd.blk tG uZ,h.new,h.rch.trans (Rch.of_only vj ho)⟩
theorem Fh.far {w wr V:World}{B b d p:Nat}{X:List Nat}{vl vt vj vk:Value}{ts rj:List Tkn}{nds:List Nd}{ks:List Ex}{cs:Array Value}(h:Fh w B X b vl ts d vt nds wr ks rj vj vk)(ho:Bc [p] wr V)(hk:wr.heap[p]? =some (.cells cs 38 (0,0)))(hn:p∉b::vj.ownBlock.toList)(hBp:B<=p)(hp:w.heap.size<=p):Fh w B X b vl ts d vt nds V ks rj vj vk:=
 ⟨h.rd.far ho hk hn hBp,Bm h.row ho (fun g e hm=>Bi h.row hk tG uZ),h.new,⟨h.rch.only.step ho (fun i hi=>by simp at hi;subst hi;exact .inr hp),h.rch.own⟩⟩
theorem Fh.row_after {w wr V4:World}{B b d:Nat}{X:List Nat}{vl vt vj vk v4:Value}{ts rj:List Tkn}{nds:List Nd}{ks:List Ex}(h:Fh w B X b vl ts d vt nds wr ks rj vj vk)(hch:Rch b wr vj V4 v4):V4.ownsRow B 3 1 vk ks.length (Gq (Ct ks nds.length)):=Bm h.row hch.only fun g e hm=>by
 exact zxi
theorem Fh.more {w wr V4 V5 w6:World}{B b d g n cap:Nat}{X:List Nat}{vl vt vj vk v4:Value}{ts rj q4:List Tkn}{nds:List Nd}{ks:List Ex}{a:Ex}{z:Nat}(h:Fh w B X b vl ts d vt nds wr ks rj vj vk)
 (hr:Cv V4 B (vk.ownBlock.toList++X) b vl ts q4 (d+1) v4 (nds++Bz ks nds.length++a.flat (nds++Bz ks nds.length).length)) (hch:Rch b wr vj V4 v4) (hz:z=nds.length+Bf ks+a.size - 1) (hb:Below V4.heap.size V4 V5) (hg:V5.grownBy w6 vk.ownBlock)
 (hown:w6.ownsRow B 3 1 (.slice (some ⟨g,0,none⟩) n cap) n (Gq (Ct ks nds.length)++[.int .i64 (z:Int)])) (hn:n=ks.length+1) (hat:vk.ownBlock=some g\/V4.heap.size<=g) (hlt:g<w6.heap.size):
 Fh w B X b vl ts d vt nds w6 (ks++[a]) q4 v4 (.slice (some ⟨g,0,none⟩) n cap):=by
 have hrow4:=h.row_after hch;have hO:Bc vk.ownBlock.toList V4 w6:=(Bc.of_below hb _).trans (Bc.of_grown hg _ fun k hk=>by simp [hk])
 have hfl:nds++Bz ks nds.length++a.flat (nds++Bz ks nds.length).length=nds++Bz (ks++[a]) nds.length:=by
  rw[Qr,List.append_assoc,Ab,Cd];simp [Bz]
 have hen:Gq (Ct ks nds.length)++[.int .i64 (z:Int)]=Gq (Ct (ks++[a]) nds.length):=by
  rw[Tm,hz];simp [Gq,Ct]
 subst hn;rw[hen] at hown;refine⟨?_,by simpa using hown,fun g' e=>?_,⟨(h.rch.trans hch).only.step hO fun i hi=> .inr (h.new i vX),(h.rch.trans hch).own⟩⟩
 ·exact zxe
 exact zww
def ndC (c:Cl)(vk:Value):Array Value:= #[.int .u8 c.op,.int .u8 0,.int .i64 0,.string ⟨#[]⟩,.string ⟨#[]⟩,vk,.int .i64 c.line,.int .i64 c.col]
def bS (w:World)(B:Nat)(X:List Nat)(b:Nat)(vl:Value)(ts q:List Tkn)(d:Nat)(vt:Value)(nds:List Nd)(c:Cl)(p9:Nat)(xx:ExR)(wr:World):Prop:=
 ∃(vj:Value) (ka:Option Addr) (kn kc:Nat),Rch b w vt wr vj/\wr.heap[p9]? =some (.cells (ndC c (.slice ka kn kc)) 38 (0,0))/\p9∉b::vj.ownBlock.toList/\
  ((∃(ks:List Ex) (rj:List Tkn),kn=ks.length/\ks.length<c.most/\Bf ks+rj.length<=q.length/\rj.length<q.length/\D8 c ks (d+1) rj=xx/\Fh w B X b vl ts d vt nds wr ks rj vj (.slice ka kn kc))\/
   ∃(er:Int) (qe:List Tkn),xx= .error (er,qe)/\Ej wr B b vl ts vj er (ts.length - qe.length) (nds.length+q.length))
def oA (B:Nat)(X:List Nat)(b:Nat)(vl:Value)(ts q:List Tkn)(d:Nat)(nds:List Nd)(p9:Nat)(cs:Array Value)(vk:Value)(ks:List Ex)(rj:List Tkn)(vj:Value)(wr:World)(x:Value)(V:World):Prop:=
 ∃(z:Int) (v4:Value),x= .int .i64 z/\Rch b wr vj V v4/\V.heap[p9]? =some (.cells cs 38 (0,0))/\p9∉b::v4.ownBlock.toList/\
  ((∃(a:Ex) (q4:List Tkn),A9 0 (d+1) rj= .ok (a,q4)/\z=((nds.length+Bf ks+a.size - 1:Nat):Int)/\a.size+q4.length<=rj.length/\q4.length<rj.length/\Cv V B (vk.ownBlock.toList++X) b vl ts q4 (d+1) v4 (nds++Bz ks nds.length++a.flat (nds++Bz ks nds.length).length))\/
   ∃(er:Int) (q4:List Tkn),A9 0 (d+1) rj= .error (er,q4)/\Ej V B b vl ts v4 er (ts.length - q4.length) (nds.length+q.length))
theorem oA.of {wr V:World}{B b d p9:Nat}{X:List Nat}{vl vj vk x:Value}{ts q rj:List Tkn}{nds:List Nd}{ks:List Ex}{cs:Array Value}(hp:wr.heap[p9]? =some (.cells cs 38 (0,0)))(hn:p9∉b::vj.ownBlock.toList)(hle:Bf ks+rj.length<=q.length)(hfew:nds.length+q.length<=1000000)
 (hP:B5 wr B (vk.ownBlock.toList++X) b vl ts rj (d+1) vj (nds++Bz ks nds.length) (A9 0 (d+1) rj) (.returned x) V):oA B X b vl ts q d nds p9 cs vk ks rj vj wr x V:=by
 obtain⟨z,v4,hz,hr,hm⟩:=hP;injection hz with hz;refine⟨z,v4,hz,hr,hr.only.cells_of hp hn,hr.far hn (Bu hp),?_⟩;cases hq:A9 0 (d+1) rj with
 |error p=>
  obtain⟨er,q4⟩:=p;rw[hq] at hm;exact .inr ⟨er,q4,rfl,Ej.mono hm (by rw[Ab,Cd];omega) hfew⟩
 |ok p=>
  obtain⟨a,q4⟩:=p;rw[hq] at hm;obtain⟨h1,h2⟩:=hm;exact .inl ⟨a,q4,rfl,by rw[h1,Ab,Cd],F5 (n:=0) tE hq,(Dz (n:=0) tE hq).2,h2⟩
def tA (w:World)(B:Nat)(X:List Nat)(b:Nat)(vl:Value)(ts q:List Tkn)(d:Nat)(vt:Value)(nds:List Nd)(c:Cl)(p9:Nat)(ks:List Ex)(rj:List Tkn)(W:World):Prop:=
 ∃(v4:Value) (ka:Option Addr) (kc:Nat),Rch b w vt W v4/\W.heap[p9]? =some (.cells (ndC c (.slice ka (ks.length+1) kc)) 38 (0,0))/\p9∉b::v4.ownBlock.toList/\
  ((∃(a:Ex) (q4:List Tkn),A9 0 (d+1) rj= .ok (a,q4)/\a.size+q4.length<=rj.length/\q4.length<rj.length/\Fh w B X b vl ts d vt nds W (ks++[a]) q4 v4 (.slice ka (ks.length+1) kc))\/
   ∃(er:Int) (q4:List Tkn),A9 0 (d+1) rj= .error (er,q4)/\Ej W B b vl ts v4 er (ts.length - q4.length) (nds.length+q.length))
theorem mZ {w wr V4 V5 w6:World}{B b d p9 g cap:Nat}{X:List Nat}{vl vt vj v4:Value}{ka:Option Addr}{kc:Nat}{ts q rj:List Tkn}{nds:List Nd}{ks:List Ex}{c:Cl}{z:Int}(h:Fh w B X b vl ts d vt nds wr ks rj vj (.slice ka ks.length kc))(hwp:w.heap.size<=p9)(hBp:B<=p9)
 (hch:Rch b wr vj V4 v4) (hp:V4.heap[p9]? =some (.cells (ndC c (.slice ka ks.length kc)) 38 (0,0))) (hn:p9∉b::v4.ownBlock.toList)
 (hm:(∃(a:Ex) (q4:List Tkn),A9 0 (d+1) rj= .ok (a,q4)/\z=((nds.length+Bf ks+a.size - 1:Nat):Int)/\a.size+q4.length<=rj.length/\q4.length<rj.length/\Cv V4 B ((Value.slice ka ks.length kc).ownBlock.toList++X) b vl ts q4 (d+1) v4 (nds++Bz ks nds.length++a.flat (nds++Bz ks nds.length).length))\/
  ∃(er:Int) (q4:List Tkn),A9 0 (d+1) rj= .error (er,q4)/\Ej V4 B b vl ts v4 er (ts.length - q4.length) (nds.length+q.length))
 (hb:Below V4.heap.size V4 V5) (hg:V5.grownBy w6 (Value.slice ka ks.length kc).ownBlock) (hown:w6.ownsRow B 3 1 (.slice (some ⟨g,0,none⟩) (ks.length+1) cap) (ks.length+1) (Gq (Ct ks nds.length)++[.int .i64 z])) (hat:(Value.slice ka ks.length kc).ownBlock=some g\/V4.heap.size<=g) (hlt:g<w6.heap.size):
 tA w B X b vl ts q d vt nds c p9 ks rj (w6.setCell ⟨p9,5,none⟩ (.slice (some ⟨g,0,none⟩) (ks.length+1) cap)):=by
 have hrow4:=h.row_after hch;have hO:Bc (Value.slice ka ks.length kc).ownBlock.toList V4 w6:=(Bc.of_below hb _).trans (Bc.of_grown hg _ fun k hk=>by simp [hk]);have hp6:=hO.cells_of hp fun hm=>Bi hrow4 hp tG uD
 have ho7:=A3 w6 p9 5 (.slice (some ⟨g,0,none⟩) (ks.length+1) cap);have hr6:Rch b w vt w6 v4:=⟨(h.rch.trans hch).only.step hO fun i hi=> .inr (h.new i vX),(h.rch.trans hch).own⟩;refine⟨v4,some ⟨g,0,none⟩,cap,⟨hr6.only.step ho7 (fun i hi=>by simp at hi;subst hi;exact .inr hwp),hr6.own⟩,A2 hp6,hn,?_⟩;rcases hm with ⟨a,q4,h1,rfl,h3,h4,h5⟩|⟨er,q4,h1,h2⟩
 ·exact .inl ⟨a,q4,h1,h3,h4,(h.more h5 hch rfl hb hg hown rfl hat hlt).far ho7 hp6 hn hBp hwp⟩
 exact .inr ⟨er,q4,h1,(h2.grow hrow4 hb hg).far ho7 hn hBp⟩
def tC (wr:World)(vk:Value)(F:Value->World->Prop):List Bool->List Value->World->Prop
 |[b0,b1,b2],[x0,x1,x2],V=>(b0=true->x0=vk)/\(b1=false->V=wr)/\(b1=true->b2=false->F x1 V)/\(b2=true->b1=true/\∃V4,F x1 V4/\V=V4.alloc (.cells #[x1] 3)/\x2= .slice (some ⟨V4.heap.size,0,none⟩) 1 1)
 |_,_,_=>False
theorem Jf (ks:List Ex)(a:Ex):Bf (ks++[a])=Bf ks+a.size:=by
 induction ks with
 |nil=>simp [Bf]
 |cons x ks ih=>simp only[List.cons_append,Bf,ih];omega
theorem Dc {w:World}{p:Nat}{c:Cl}{vk:Value}(h:w.heap[p]? =some (.cells (ndC c vk) 38 (0,0))):
 w.cell? ⟨p,0,none⟩=some (.int .u8 c.op)/\w.cell? ⟨p,1,none⟩=some (.int .u8 0)/\w.cell? ⟨p,2,none⟩=some (.int .i64 0)/\w.cell? ⟨p,3,none⟩=some (.string ⟨#[]⟩)/\w.cell? ⟨p,4,none⟩=some (.string ⟨#[]⟩)/\w.cell? ⟨p,5,none⟩=some vk/\w.cell? ⟨p,6,none⟩=some (.int .i64 c.line)/\w.cell? ⟨p,7,none⟩=some (.int .i64 c.col)/\∀i,w.frozen? ⟨p,i,none⟩=false:=Ft h
theorem qC {w wr V4 V5 w6:World}{B b d p:Nat}{X:List Nat}{vl vt vj vk v4:Value}{ts rj:List Tkn}{nds:List Nd}{ks:List Ex}{cs:Array Value}(h:Fh w B X b vl ts d vt nds wr ks rj vj vk)(hch:Rch b wr vj V4 v4)(hp:V4.heap[p]? =some (.cells cs 38 (0,0)))(hb:Below V4.heap.size V4 V5)(hg:V5.grownBy w6 vk.ownBlock):w6.heap[p]? =some (.cells cs 38 (0,0)):=by
 have hO:Bc vk.ownBlock.toList V4 w6:=(Bc.of_below hb _).trans (Bc.of_grown hg _ fun k hk=>by simp [hk]);exact hO.cells_of hp fun hm=>Bi (h.row_after hch) hp tG uD
theorem gG {k B b:Nat}{X:List Nat}{vl:Value}{ts:List Tkn}(ih:Xw k B b vl ts){d:Nat}{t:Tkn}{q:List Tkn}{w:World}{vt:Value}{nds:List Nd}(hk:B2 (.lvl 7) (t::q)<=k)(h:Cv w B X b vl ts (t::q) d vt nds)(hB:B<=w.heap.size)
 (c:Cl) (hm0:1<=c.most) (hm8:c.most<=8) (hl:(plH (t::q)).1=c.line) (hc:(plH (t::q)).2=c.col):
 Calls Tryz.prog 169 #[.pointer (some ⟨b,0,none⟩),.int .u8 c.op,.int .i64 (c.least:Int),.int .i64 (c.most:Int)] w (B5 w B X b vl ts (t::q) d vt nds (B4 d q fun q'=>D8 c [] (d+1) q')):=by
 have H:=Ax h;have HPL:=Ax (Oy h);rw[hl,hc] at HPL;obtain⟨k0,k1,k2,k3,k4,k5,_⟩:=Bd h.blk;have hbig:=h.big;have hfew:=h.few;simp only[Aa] at hfew;obtain⟨xx,hxx⟩:∃xx,B4 d q (fun q'=>D8 c [] (d+1) q')=xx:=⟨_,rfl⟩;rw[hxx];have HXX:=Ax hxx;clear h hl hc hxx;go_enter Tryz.func169,Tryz.ntmps169;go_wp2_with fail;refine HPL.out.mono ?_;rintro e V ⟨rfl,hbV⟩;have hal:=(Aq V.heap.size V).alloc (Ak _) (.cells #[.int .u8 c.op,.int .u8 0,.int .i64 0,.string ⟨#[]⟩,.string ⟨#[]⟩,.slice none 0 0,.int .i64 c.line,.int .i64 c.col] 38);have hb0:=hbV.trans (hal.mono hbV.size);have HNB:=Ax (A1 V (.cells #[.int .u8 c.op,.int .u8 0,.int .i64 0,.string ⟨#[]⟩,.string ⟨#[]⟩,.slice none 0 0,.int .i64 c.line,.int .i64 c.col] 38));have hap:V.heap.size∉b::vt.ownBlock.toList:=fun hm=>absurd (Cv.lt (H.out.below hbV) _ hm) (Nat.lt_irrefl _)
 have hwp:w.heap.size<=V.heap.size:=hbV.size;obtain⟨V0,hV0⟩:∃V0,V.alloc (.cells #[.int .u8 c.op,.int .u8 0,.int .i64 0,.string ⟨#[]⟩,.string ⟨#[]⟩,.slice none 0 0,.int .i64 c.line,.int .i64 c.col] 38)=V0:=⟨_,rfl⟩;rw[hV0] at hb0 HNB;have HV0:=Ax hV0;clear hal hbV hV0 HPL k0 k1 k2 k3 k4 k5;go_upto_region 2 with fail
 rw[HV0.out];obtain⟨p9,hp9⟩:∃p9,V.heap.size=p9:=⟨_,rfl⟩;rw[hp9] at HNB hap hwp ⊢;clear hp9;have hBp:B<=p9:=Al hB hwp;have hr0:=H.out.below hb0;obtain⟨k0,k1,k2,k3,k4,k5,kf⟩:=Bd hr0.blk;have kf1:=kf 1;have hbig:=hr0.big;have hst:=hr0.step;have ho1:=A3 V0 b 1 (.int .i64 (((ts.length - (q.length+1):Nat):Int)+1));have hnb1:=ho1.cells_of HNB.out (by simp;intro e;exact hap tR);obtain⟨V1,hV1⟩:∃V1,V0.setCell ⟨b,1,none⟩ (.int .i64 (((ts.length - (q.length+1):Nat):Int)+1))=V1:=⟨_,rfl⟩;rw[hV1] at hst ho1 hnb1;have HST:=Ax hst;have HN1:=Ax (show V1.heap[p9]? =some (.cells (ndC c (.slice none 0 0)) 38 (0,0)) from hnb1);have HV1:=Ax hV1;have hch:=(Rch.of_below vt hb0).trans (Rch.of_only vt ho1);have HCH:=Ax hch;have HAP:=Ax hap;have HNX:=Ax (Fu hst);obtain⟨S,hS⟩:∃S:ByteArray,⟨(Gj q).toArray⟩=S:=⟨_,rfl⟩;rw[hS] at HNX;have hSp:decide (dl S=[40])=isH [40] q:=by rw[←hS,Dj];exact J3 tH
 clear kf hr0 hst ho1 hnb1 hV1 hch hb0 hap HNB hS;go_upto_region 3 with fail
 first|rw[HV1.out]|rw[Aa,HV1.out]
 clear k0 k1 k2 k3 k4 k5 kf1;cases ho:isH [40] q with
 |false=>
  rw[ho] at hSp;have hSn:=of_decide_eq_false hSp;have t1:(S.toList==[40])=false:=by rw[Az];exact Af.2 hSn
  have HLE:Hid (xx= .error (4,q)):=Ax (by rw[←HXX.out];unfold B4;rw[Ao (by rw[ho];decide)]);have HO:=Ax ho;clear hSn hSp ho HXX;go_wp2_with fail;refine HNX.out.mono ?_;rintro e V2 ⟨rfl,hb2⟩;have HMU:=Ax (Ia (HST.out.below hb2) [40] tH);have HB2:=Ax hb2;have HN2:=Ax ((hb2.block _ (Bu HN1.out)).trans HN1.out);clear hb2 HNX;go_wp2_with fail;refine HMU.out.mono ?_;rintro e V3 ⟨rfl,ho3,hx3⟩;rw[Ao (by rw[HO.out];decide)] at hx3;have HX:=Ax hx3;have HR:=Ax ((HCH.out.trans (Rch.of_below vt HB2.out)).trans (Rch.of_only vt ho3));have HN:=Ax (ho3.cells_of HN2.out tK);clear ho3 hx3 HMU t1;obtain⟨a0,dd,hkb⟩:=HX.out.blk;obtain⟨k0,k1,k2,k3,k4,k5,_⟩:=Bd hkb;clear hkb;go_wp2_with fail
  go_loopw [] (fun wr=>wr=V3) (fun _=>0)
  case atStart=>rfl
  subst hrel;go_wp2_with fail;clear k0 k1 k2 k3 k4 k5;have HM:=Ax (Dh HX.out ⟨#[41]⟩);go_wp2_with fail;refine HM.out.mono ?_;rintro e VM ⟨rfl,rfl⟩;clear HM;obtain⟨a0,dd,hkb⟩:=HX.out.blk;obtain⟨k0,k1,k2,k3,k4,k5,kf⟩:=Bd hkb;have kf2:=kf 2;obtain⟨x5,hx5⟩:∃x5,IntKind.i64.wrap (dd - 1)=x5:=⟨_,rfl⟩;have hx5':wrap64 (dd - 1)=x5:=by rw[←hx5];simp [IntKind.wrap_i64,wrap64]
  have HM5:=Ax (HX.out.deep x5);have ho5:=A3 wr b 2 (.int .i64 x5);have hnb5:=ho5.cells_of HN.out tK;obtain⟨W5,hW5⟩:∃W5,wr.setCell ⟨b,2,none⟩ (.int .i64 x5)=W5:=⟨_,rfl⟩;rw[hW5] at HM5 ho5 hnb5;have HN5:=Ax hnb5;have HW5:=Ax hW5;have HR5:=Ax (HR.out.trans (Rch.of_only vt ho5));clear hkb kf ho5 hnb5 hW5 hx5;go_upto_region 15 with fail
  rw[HW5.out];clear k0 k1 k2 k3 k4 k5 kf2 hx5';obtain⟨m0,m1,m2,m3,m4,m5,m6,m7,_⟩:=Dc HN5.out;have HP:=Ax (Ei HM5.out tE (Al hB HR5.out.only.size) ⟨c.op,v0,[],c.line,c.col⟩ none 0 0);have HP:Hid (Calls Tryz.prog 128 #[.pointer (some ⟨b,0,none⟩),.agg #[.int .u8 c.op,.int .u8 0,.int .i64 0,.string ⟨#[]⟩,.string ⟨#[]⟩,.slice none 0 0,.int .i64 c.line,.int .i64 c.col]] W5 _):=Ax HP.out;go_wp2_with fail;refine HP.out.mono ?_;rintro e V6 ⟨z6,v6,rfl,hx6,hr6⟩;have HF:=Ax (show B5 w B X b vl ts (t::q) d vt nds xx (.returned (.int .i64 z6)) V6 from⟨z6,v6,rfl,HR5.out.trans hr6,by rw[HLE.out];exact hx6.mono tZ H.out.few⟩);clear hx6 hr6 HP m0 m1 m2 m3 m4 m5 m6 m7;exact zzo
 |true=>
  rw[ho] at hSp;have hSe:=of_decide_eq_true hSp;have t1:(S.toList==[40])=true:=by rw[Az,hSe];rfl
  obtain⟨t',q',rfl⟩:=Cf ho;have HO:=Ax ho;clear hSe hSp ho;go_wp2_with fail;refine HNX.out.mono ?_;rintro e V2 ⟨rfl,hb2⟩;have HD:=Ax (Kj (HST.out.below hb2));have HB2:=Ax hb2;have HN2:=Ax ((hb2.block _ (Bu HN1.out)).trans HN1.out);clear hb2 HNX;go_wp2_with fail;refine HD.out.mono ?_;rintro e V3 ⟨rfl,ho3,hd3⟩;have HR3:=Ax ((HCH.out.trans (Rch.of_below vt HB2.out)).trans (Rch.of_only vt ho3));have HN3:=Ax (ho3.cells_of HN2.out tK);clear ho3 HD t1;by_cases hd12:d=12
  ·rw[Ap hd12] at hd3;have HLE:Hid (xx= .error (12,t'::q')):=Ax (by rw[←HXX.out];unfold B4;rw[Ap HO.out,Ap hd12]);have HX:=Ax hd3;have HMU:=Ax (Dh hd3 ⟨#[40]⟩);have HR:=HR3;have HN:=HN3;clear hd3 hd12;go_wp2_with fail;refine HMU.out.mono ?_;rintro e V4 ⟨rfl,rfl⟩;clear HMU HR3 HN3;obtain⟨a0,dd,hkb⟩:=HX.out.blk;obtain⟨k0,k1,k2,k3,k4,k5,_⟩:=Bd hkb;clear hkb;go_wp2_with fail
   go_loopw [] (fun wr=>wr=V3) (fun _=>0)
   case atStart=>rfl
   subst hrel;go_wp2_with fail;clear k0 k1 k2 k3 k4 k5;have HM:=Ax (Dh HX.out ⟨#[41]⟩);go_wp2_with fail;refine HM.out.mono ?_;rintro e VM ⟨rfl,rfl⟩;clear HM;obtain⟨a0,dd,hkb⟩:=HX.out.blk;obtain⟨k0,k1,k2,k3,k4,k5,kf⟩:=Bd hkb;have kf2:=kf 2;obtain⟨x5,hx5⟩:∃x5,IntKind.i64.wrap (dd - 1)=x5:=⟨_,rfl⟩;have hx5':wrap64 (dd - 1)=x5:=by rw[←hx5];simp [IntKind.wrap_i64,wrap64]
   have HM5:=Ax (HX.out.deep x5);have ho5:=A3 wr b 2 (.int .i64 x5);have hnb5:=ho5.cells_of HN.out tK;obtain⟨W5,hW5⟩:∃W5,wr.setCell ⟨b,2,none⟩ (.int .i64 x5)=W5:=⟨_,rfl⟩;rw[hW5] at HM5 ho5 hnb5;have HN5:=Ax hnb5;have HW5:=Ax hW5;have HR5:=Ax (HR.out.trans (Rch.of_only vt ho5));clear hkb kf ho5 hnb5 hW5 hx5;go_upto_region 15 with fail
   rw[HW5.out];clear k0 k1 k2 k3 k4 k5 kf2 hx5';obtain⟨m0,m1,m2,m3,m4,m5,m6,m7,_⟩:=Dc HN5.out;have HP:=Ax (Ei HM5.out tE (Al hB HR5.out.only.size) ⟨c.op,v0,[],c.line,c.col⟩ none 0 0);have HP:Hid (Calls Tryz.prog 128 #[.pointer (some ⟨b,0,none⟩),.agg #[.int .u8 c.op,.int .u8 0,.int .i64 0,.string ⟨#[]⟩,.string ⟨#[]⟩,.slice none 0 0,.int .i64 c.line,.int .i64 c.col]] W5 _):=Ax HP.out;exact zzz
  rw[Ao hd12] at hd3;have HLA:Hid (D8 c [] (d+1) q'=xx):=Ax (by rw[←HXX.out];unfold B4;rw[Ap HO.out,Ao hd12];rfl);have HMU:=Ax (Ia hd3 [40] tH);have HF3:=Ax hd3;clear hd3 hd12;go_wp2_with fail;refine HMU.out.mono ?_;rintro e V4 ⟨rfl,ho4,hf4⟩;rw[Ap HO.out] at hf4;rw[List.tail_cons] at hf4;have hR4:=HR3.out.trans (Rch.of_only vt ho4);have HS:Hid (bS w B X b vl ts (t'::q') d vt nds c p9 xx V4):=Ax ⟨vt,none,0,0,hR4,ho4.cells_of HN3.out tK,HAP.out,.inl ⟨[],q',rfl,hm0,by simp [Bf],by simp,HLA.out,by simpa[Value.ownBlock,Bz] using hf4,World.ownsRow_nil _ _ _ _,fun g e=>(by cases e),hR4⟩⟩;clear HMU ho4 hf4 hR4 HAP HN3 HN2 HN1 HF3 HR3 HB2 HCH HST HV1 HV0 HXX HLA;obtain⟨i0,hi0,hz0,hz1,hz2⟩:=N9;have Hi0:=Ax hi0;have Hz0:=Ax hz0;have Hz1:=Ax hz1;have Hz2:=Ax hz2;clear hi0 hz0 hz1 hz2;go_wp2_with fail
  go_loopw [] (fun wr=>Hid (bS w B X b vl ts (t'::q') d vt nds c p9 xx wr)) (fun wr=>Fj b ts wr)
  case atStart=>exact HS
  obtain⟨vj,ka,kn,kc,hrj,hnj,hapj,hcase⟩:=hrel.out;have HR:=Ax hrj;have HN:=Ax hnj;have HAP:=Ax hapj;clear hrel HS hrj hnj hapj;rcases hcase with ⟨ks,rj,rfl,hks,hsz,hlt,hle,hC⟩|⟨er,qe,hxe,hx⟩
  ·obtain⟨k0,k1,k2,k3,k4,k5,_⟩:=Bd hC.rd.blk;have HMS:=Ax (show Fj b ts wr=2*rj.length+1 from Hy hC.rd);obtain⟨wd,hwd⟩:∃wd,wr.drew=wd:=⟨_,rfl⟩;have hbd:Below wr.heap.size wr wd:=by rw[←hwd];exact(Aq _ _).drew
   have hC:=hC.below hbd;have HC:=Ax hC;have HN:=Ax ((hbd.block _ (Bu HN.out)).trans HN.out);have HR:=Ax (HR.out.trans (Rch.of_below vj hbd));have hBr:=Al hB HR.out.only.size;have HWD:=Ax hwd;clear hwd hbd;have hc0:=ih _ 0 (d+1) rj wd vj (nds++Bz ks nds.length) tE (by simp only[B2,Aa] at hk hlt ⊢;omega) hC.rd hBr;have Hc0:Hid (Calls Tryz.prog 67 #[.pointer (some ⟨b,0,none⟩),.int .i64 0] wd _):=Ax hc0;have HLA:=Ax hle;clear hC hc0 hle;go_upto_region 7 with fail
   clear k0 k1 k2 k3 k4 k5;refine wp_region_noPanic ?_;refine wp_region_held_drew (S:=fun _=>True) tF ?_ (fun hHeld=>?_)
   ·trivial
   rw[HWD.out];refine QH 0 ⟨some 34,_,_,_,_,_⟩ (h:=?_)
   try simp only[Act.put,Ac,Ad,Ae]
   refine QH 2 ⟨some 36,_,_,_,_,_⟩ (h:=?_)
   try simp only[Act.put,Ac,Ad,Ae]
   refine E4 (Inv:=tC wd (.slice ka ks.length kc) (oA B X b vl ts (t'::q') d nds p9 (ndC c (.slice ka ks.length kc)) (.slice ka ks.length kc) ks rj vj wd)) 3 [1,3,4] [some 35,some 37,some 38] [[],[],[1]] [false,false,false] tF (fun _ _ _ _ _ h=>h) tF (fun _ _ _ _=>trivial) ⟨(fun h=>by cases h),fun _=>rfl,(fun h=>by cases h),(fun h=>by cases h)⟩ ?_ ?_
   ·refine lt3 ?_ ?_ ?_
    ·rw[Ao tG];refine Wz.mk (i:=1) rfl rfl rfl ?_;intro d' u V hd hu hdj hdep hI K hK;obtain⟨x0,x1,x2,rfl⟩:=bG hu;obtain⟨b0,b1,b2,rfl⟩:=bG hd;obtain⟨hI0,hI1,hI2,hI3⟩:=hI
     have n5:V.cell? ⟨p9,5,none⟩=some (.slice ka ks.length kc):=by
      cases b1 with
      |false=>rw[hI1 rfl];exact(Dc HN.out).2.2.2.2.2.1
      |true=>
       cases b2 with
       |false=>obtain⟨_,_,_,_,h3,_⟩:=hI2 rfl rfl;exact(Dc h3).2.2.2.2.2.1
       |true=>
        obtain⟨_,V4,⟨_,_,_,_,h3,_⟩,rfl,_⟩:=hI3 rfl;exact(Dc ((((Aq V4.heap.size V4).alloc (Ak _) _).block _ (Bu h3)).trans h3)).2.2.2.2.2.1
     have HI1:=Ax hI1;have HI2:=Ax hI2;have HI3:=Ax hI3;clear hd hu hdj hdep hI0 hI1 hI2 hI3;simp only[Bt,Act.put,Ac,Ad,Ae] at hK ⊢
     go_simp
     (try go_wp2_with fail)
     refine hK.out _ _ ⟨fun _=>rfl,HI1.out,HI2.out,HI3.out⟩
    ·rw[Ao tG];refine Wz.mk (i:=3) rfl rfl rfl ?_;intro d' u V hd hu hdj hdep hI K hK;obtain⟨x0,x1,x2,rfl⟩:=bG hu;obtain⟨b0,b1,b2,rfl⟩:=bG hd;obtain⟨hI0,hI1,hI2,hI3⟩:=hI;have hb1:b1=false:=by simpa using hdj
     subst hb1;obtain rfl:=hI1 rfl
     have hb2:b2=false:=by
      cases b2 with
      |false=>rfl
      |true=>exact absurd (hI3 rfl).1 tG
     subst hb2;have HI0:=Ax hI0;clear hd hu hdj hdep hI0 hI1 hI2 hI3;simp only[Bt,Act.put,Ac,Ad,Ae] at hK ⊢
     go_simp
     go_at_call 67
     refine Hc0.out.mono ?_;rintro e V4 ⟨z4,v4,rfl,hr4,hm4⟩;have HA:=Ax (oA.of (x:= .int .i64 z4) (vk:= .slice ka ks.length kc) HN.out HAP.out hsz tE ⟨z4,v4,rfl,hr4,hm4⟩);clear hr4 hm4 Hc0
     (try go_wp2_with fail)
     refine hK.out _ _ ⟨HI0.out,(fun h=>by cases h),fun _ _=>HA.out,(fun h=>by cases h)⟩
    rw[Ao tG];refine Wz.mk (i:=4) rfl rfl rfl ?_;intro d' u V hd hu hdj hdep hI K hK;obtain⟨x0,x1,x2,rfl⟩:=bG hu;obtain⟨b0,b1,b2,rfl⟩:=bG hd;obtain⟨hI0,hI1,hI2,hI3⟩:=hI;have hb2:b2=false:=by simpa using hdj
    subst hb2;have hb1:b1=true:=by simpa using hdep
    subst hb1;have hA:=hI2 rfl rfl;obtain⟨z,v4,rfl,hrest⟩:=hA;have HA:Hid (oA B X b vl ts (t'::q') d nds p9 (ndC c (.slice ka ks.length kc)) (.slice ka ks.length kc) ks rj vj wd (.int .i64 z) V):=Ax ⟨z,v4,rfl,hrest⟩;have HI0:=Ax hI0;clear hd hu hdj hdep hI0 hI1 hI2 hI3 hrest;simp only[Bt,Act.put,Ac,Ad,Ae] at hK ⊢
    go_simp
    (try go_wp2_with fail)
    refine hK.out _ _ ⟨HI0.out,(fun h=>by cases h),(fun _ h=>by cases h),fun _=>⟨rfl,V,HA.out,rfl,rfl⟩⟩
   intro u V' hu hI;obtain⟨x0,x1,x2,rfl⟩:=bG hu;obtain⟨hI1,_,_,hI3⟩:=hI;obtain rfl:=hI1 rfl;obtain⟨_,V,⟨z,v4,rfl,hch4,hp4,hn4,hm4⟩,rfl,rfl⟩:=hI3 rfl;clear hI1 hI3 hu Hc0;simp only[Bt,Act.put,Ac,Ad,Ae];have hrow4:=HC.out.row_after hch4;have hal:=(Aq V.heap.size V).alloc (Ak _) (.cells #[.int .i64 z] 3);have Hrow5:=Ax (Di hrow4 hal);have HN5:=Ax (A1 V (.cells #[.int .i64 z] 3));have HZ5:Hid ((V.alloc (.cells #[.int .i64 z] 3)).heap.size=V.heap.size+1):=Ax tH;have HBZ:=Ax hal;have HCH4:=Ax hch4;have HP4:=Ax hp4;have HN4:=Ax hn4;have HM4:=Ax hm4;have hB4:=Al hBr hch4.only.size;clear hrow4 hal hch4 hp4 hn4 hm4;refine wpAnyH_ready (rs:=[5]) tF tH ?_;refine AllReadyH.cons (o:=⟨some 39,_,_,_,_,_⟩) (rs:=[]) rfl (fun K hK=>?_) AllReadyH.nil;refine step_append_lies _ vF _ _ _ vF B 3 i0 (.int .i64 0) 1 8 Tryz.underlying36 Hi0.out Hz0.out Hz1.out Hz2.out rfl tG (.slice ka ks.length kc) ks.length (Gq (Ct ks nds.length)) vF Hrow5.out ⟨V.heap.size,0,none⟩ 1 1 [.int .i64 z] vF vF (World.news_of_block (cs:= #[.int .i64 z]) HN5.out) tS tG tQ tE (by rw[HZ5.out];omega) (V.heap.size+1) HZ5.out ?_;intro g cap w6 hown6 hgrow6 hat6 hlt6;have hbx:=qC HC.out HCH4.out HP4.out HBZ.out hgrow6;obtain⟨_,_,_,_,_,n5,_,_,nf⟩:=Dc hbx;have nf5:=nf 5;have HA:=Ax (mZ HC.out hwp hBp HCH4.out HP4.out HN4.out HM4.out HBZ.out hgrow6 hown6 (hat6.imp id (fun e=>by omega)) hlt6);clear hHeld nf hbx hown6 hgrow6 hat6 hlt6 HM4 HP4 HN4 HBZ Hrow5 HN5 HZ5;refine hK.out _ _ trivial (fun hHeld=>?_);clear hK K
   try simp only[Act.put,Ac,Ad,Ae]
   refine QH 6 ⟨some 40,_,_,_,_,_⟩ (h:=?_)
   try simp only[Act.put,Ac,Ad,Ae]
   refine wpAnyH_ready (rs:=[7]) tF tH ?_;refine AllReadyH.cons (o:=⟨none,_,_,_,_,_⟩) (rs:=[]) rfl (fun K hK=>?_) AllReadyH.nil
   go_simp
   try go_wp2_with fail
   clear hHeld;refine hK.out _ _ ?_ (fun hHeld=>?_)
   ·trivial
   clear hK K
   try simp only[Act.put,Ac,Ad,Ae]
   refine wpAnyH_done tF ?_ _;refine NoPanic.normal ?_;obtain⟨W7,hW7⟩:∃W7,w6.setCell ⟨p9,5,none⟩ (.slice (some ⟨g,0,none⟩) (ks.length+1) cap)=W7:=⟨_,rfl⟩;rw[hW7] at HA ⊢;obtain⟨v7,ka7,kc7,hr7,hn7,hap7,hcase⟩:=HA.out;clear HA hW7 n5 nf5 hHeld HC HN HR HAP HCH4 Hi0 Hz0 Hz1 Hz2;have HR:=Ax hr7;have HN:=Ax hn7;have HAP:=Ax hap7;clear hr7 hn7 hap7;rcases hcase with ⟨a,q4,hq4,hsz4,hlt4,hC⟩|⟨er,q4,hq4,hx⟩
   ·have hx4:=HLA.out;rw[Eb,hq4] at hx4;simp only[ExR.next] at hx4;have HX4:=Ax hx4;have HNX:=Ax (Fu hC.rd);obtain⟨S,hS⟩:∃S:ByteArray,⟨(Gj q4).toArray⟩=S:=⟨_,rfl⟩;rw[hS] at HNX;have h44:decide (dl S=[44])=isH [44] q4:=by rw[←hS,Dj];exact J3 tH
    have h41:decide (dl S=[41])=isH [41] q4:=by rw[←hS,Dj];exact J3 tH
    have HC:=Ax hC;have hsa:=a.size_pos;have h44:(S.toList==[44])=isH [44] q4:=by rw[Az,←h44];exact Bool.eq_iff_iff.2 tH
    have h41:(S.toList==[41])=isH [41] q4:=by rw[Az,←h41];exact Bool.eq_iff_iff.2 tH
    have H44:=Ax h44;have H41:=Ax h41;clear hx4 hS h44 h41 hC hq4;go_wp2_with fail;refine HNX.out.mono ?_;rintro e V8 ⟨rfl,hb8⟩;have HC:=Ax (HC.out.below hb8);have HN:=Ax ((hb8.block _ (Bu HN.out)).trans HN.out);have HR:=Ax (HR.out.trans (Rch.of_below v7 hb8));obtain⟨_,_,_,_,_,n5,_⟩:=Dc HN.out;clear hb8 HNX;cases hm1:isH [44] q4 with
    |true=>
     have s44:=H44.out;rw[hm1] at s44;have h41:=Y7 (s':=[41]) hm1 tG;have s41:=H41.out;rw[h41] at s41;have hx4:=HX4.out;rw[hm1,h41] at hx4;simp only[Bool.true_and,Bool.false_and,Bool.or_false,if_true] at hx4;by_cases hmost:ks.length+1=c.most
     ·rw[Ap (by simpa using hmost)] at hx4;have HLE:Hid (xx= .error (14,q4)):=Ax hx4.symm;have f1:((((ks.length+1:Nat):Int))==(c.most:Int))=true:=by simp;omega
      have f2:(((ks.length:Int)+1)==(c.most:Int))=true:=by simp;omega
      have f3:(ks.length+1==c.most)=true:=by simp;omega
      clear hx4 hm1 h41 hmost HX4 H44 H41 HLA;have HE14:=Ax (Jg HC.out.rd 14 tG);go_wp2_with fail;refine HE14.out.mono ?_;rintro e V9 ⟨rfl,hx9,ho9,-⟩;have HX:=Ax (hx9.mono (cap':=nds.length+(t'::q').length) (by rw[Ab,Cd,Jf];omega) tE);have HN:=Ax (ho9.cells_of HN.out tK);have HR:=Ax (HR.out.trans (Rch.of_only v7 ho9));clear hx9 ho9 HE14 HC n5;obtain⟨a0,dd,hkb⟩:=HX.out.blk;obtain⟨k0,k1,k2,k3,k4,k5,_⟩:=Bd hkb;clear hkb;go_wp2_with fail;clear k0 k1 k2 k3 k4 k5 s44 s41 f1 f2 f3;have HM:=Ax (Dh HX.out ⟨#[41]⟩);go_wp2_with fail;refine HM.out.mono ?_;rintro e VM ⟨rfl,rfl⟩;clear HM;obtain⟨a0,dd,hkb⟩:=HX.out.blk;obtain⟨k0,k1,k2,k3,k4,k5,kf⟩:=Bd hkb;have kf2:=kf 2;obtain⟨x5,hx5⟩:∃x5,IntKind.i64.wrap (dd - 1)=x5:=⟨_,rfl⟩;have hx5':wrap64 (dd - 1)=x5:=by rw[←hx5];simp [IntKind.wrap_i64,wrap64]
      have HM5:=Ax (HX.out.deep x5);have ho5:=A3 V9 b 2 (.int .i64 x5);have hnb5:=ho5.cells_of HN.out tK;obtain⟨W5,hW5⟩:∃W5,V9.setCell ⟨b,2,none⟩ (.int .i64 x5)=W5:=⟨_,rfl⟩;exact zz8
     rw[Ao (by simpa using hmost)] at hx4;obtain⟨t5,q5,rfl⟩:=Cf hm1;rw[List.tail_cons] at hx4;have f1:((((ks.length+1:Nat):Int))==(c.most:Int))=false:=by simp;omega
     have f2:(((ks.length:Int)+1)==(c.most:Int))=false:=by simp;omega
     have f3:(ks.length+1==c.most)=false:=by simp;omega
     have hks':ks.length+1<c.most:=by omega
     have hC:=HC.out;obtain⟨k0,k1,k2,k3,k4,k5,kf⟩:=Bd hC.rd.blk;have kf1:=kf 1;have hbig:=hC.rd.big;have hst:=hC.rd.step;have ho9:=A3 V8 b 1 (.int .i64 (((ts.length - (q5.length+1):Nat):Int)+1));have hC9:=hC.turn ho9 hst;have hn9:=ho9.cells_of HN.out tK;obtain⟨W9,hW9⟩:∃W9,V8.setCell ⟨b,1,none⟩ (.int .i64 (((ts.length - (q5.length+1):Nat):Int)+1))=W9:=⟨_,rfl⟩;rw[hW9] at hC9 hn9 ho9;simp only[Aa] at hlt4 hsz4;have hms:Fj b ts W9=2*q5.length+1:=Hy hC9.rd;have HREL:Hid (bS w B X b vl ts (t'::q') d vt nds c p9 xx W9):=Ax ⟨v7,ka7,ks.length+1,kc7,HR.out.trans (Rch.of_only v7 ho9),hn9,HAP.out,.inl ⟨ks++[a],q5,by simp,by simp;omega,by rw[Jf];omega,by omega,hx4,hC9⟩⟩;have HW9:=Ax hW9;have HMS9:=Ax hms;clear hx4 hm1 h41 hmost HX4 H44 H41 HLA hC hC9 hst ho9 hn9 hW9 kf hms HC;go_wp2_with fail;go_roundw
     case rel=>first|(rw[HW9.out];exact HREL)|(rw[Aa,HW9.out];exact HREL)
     case measure=>first|(rw[HW9.out];have:=HMS.out;have:=HMS9.out;omega)|(rw[Aa,HW9.out];have:=HMS.out;have:=HMS9.out;omega)
    |false=>
     have s44:=H44.out;rw[hm1] at s44;have hx4:=HX4.out;rw[hm1] at hx4;simp only[Bool.false_and,Bool.false_or,Bool.false_eq_true,if_false] at hx4;cases hm2:isH [41] q4 with
     |true=>
      have s41:=H41.out;rw[hm2] at s41;rw[hm2] at hx4;simp only[Bool.true_and] at hx4;by_cases hles:ks.length+1<c.least
      ·rw[Ap (by simpa using hles)] at hx4;have HLE:Hid (xx= .error (14,q4)):=Ax hx4.symm;have g1:decide ((((ks.length+1:Nat):Int))<(c.least:Int))=true:=by simp;omega
       have g2:decide (((ks.length:Int)+1)<(c.least:Int))=true:=by simp;omega
       have g3:decide (ks.length+1<c.least)=true:=by simp;omega
       clear hx4 hm1 hm2 hles HX4 H44 H41 HLA;have HE14:=Ax (Jg HC.out.rd 14 tG);go_wp2_with fail;refine HE14.out.mono ?_;rintro e V9 ⟨rfl,hx9,ho9,-⟩;have HX:=Ax (hx9.mono (cap':=nds.length+(t'::q').length) (by rw[Ab,Cd,Jf];omega) tE);have HN:=Ax (ho9.cells_of HN.out tK);have HR:=Ax (HR.out.trans (Rch.of_only v7 ho9));clear hx9 ho9 HE14 HC n5;obtain⟨a0,dd,hkb⟩:=HX.out.blk;obtain⟨k0,k1,k2,k3,k4,k5,_⟩:=Bd hkb;clear hkb;go_wp2_with fail;clear k0 k1 k2 k3 k4 k5 s44 s41 g1 g2 g3;have HM:=Ax (Dh HX.out ⟨#[41]⟩);go_wp2_with fail;refine HM.out.mono ?_;rintro e VM ⟨rfl,rfl⟩;clear HM;obtain⟨a0,dd,hkb⟩:=HX.out.blk;obtain⟨k0,k1,k2,k3,k4,k5,kf⟩:=Bd hkb;have kf2:=kf 2;obtain⟨x5,hx5⟩:∃x5,IntKind.i64.wrap (dd - 1)=x5:=⟨_,rfl⟩;have hx5':wrap64 (dd - 1)=x5:=by rw[←hx5];simp [IntKind.wrap_i64,wrap64]
       have HM5:=Ax (HX.out.deep x5);have ho5:=A3 V9 b 2 (.int .i64 x5);have hnb5:=ho5.cells_of HN.out tK;obtain⟨W5,hW5⟩:∃W5,V9.setCell ⟨b,2,none⟩ (.int .i64 x5)=W5:=⟨_,rfl⟩;exact zz8
      rw[Ao (by simpa using hles)] at hx4;unfold Cy at hx4;rw[Ap hm2] at hx4;obtain⟨t5,q5,rfl⟩:=Cf hm2;rw[List.tail_cons] at hx4;have g1:decide ((((ks.length+1:Nat):Int))<(c.least:Int))=false:=by simp;omega
      have g2:decide (((ks.length:Int)+1)<(c.least:Int))=false:=by simp;omega
      have g3:decide (ks.length+1<c.least)=false:=by simp;omega
      have HLE:Hid (xx= .ok (Ex.mk ⟨c.op,v0,[],c.line,c.col⟩ (ks++[a]),q5)):=Ax hx4.symm;have HM2:=Ax hm2;have HMU:=Ax (Ia HC.out.rd [41] tH);obtain⟨k0,k1,k2,k3,k4,k5,_⟩:=Bd HC.out.rd.blk;simp only[Aa] at hlt4 hsz4;clear hx4 hm1 hm2 hles HX4 H44 H41 HLA;go_wp2_with fail;clear k0 k1 k2 k3 k4 k5 s44 s41 g1 g2 g3 n5;refine HMU.out.mono ?_;rintro e V9 ⟨rfl,ho9,hf9⟩;rw[Ap HM2.out,List.tail_cons] at hf9;have hC9:=HC.out.turn ho9 hf9;have HN:=Ax (ho9.cells_of HN.out tK);have HR:=Ax (HR.out.trans (Rch.of_only v7 ho9));obtain⟨k0,k1,k2,k3,k4,k5,kf⟩:=Bd hf9.blk;have kf2:=kf 2;have hd13:=hf9.hd;have hf10:=hf9.deep (d':=d) tE;have ho10:=A3 V9 b 2 (.int .i64 (d:Int));have hn10:=ho10.cells_of HN.out tK;have hrow10:=Bm hC9.row ho10 (fun g e hm=>Bi hC9.row hf9.blk tG uZ);have hnew:=hC9.new;obtain⟨W5,hW5⟩:∃W5,V9.setCell ⟨b,2,none⟩ (.int .i64 (d:Int))=W5:=⟨_,rfl⟩;rw[hW5] at hf10 ho10 hn10 hrow10;have HN5:=Ax hn10;have HW5:=Ax hW5;have HR5:=Ax (HR.out.trans (Rch.of_only v7 ho10));have HROW:=Ax hrow10;have HNEW:=Ax hnew;have HF10:=Ax (hf10.free (X:=X) fun x hx=>List.mem_append.2 (.inr hx));have hdd:((d+1:Nat):Int) - 1=(d:Int):=by omega
      clear HMU ho9 hf9 hC9 kf hf10 ho10 hn10 hrow10 hnew hW5 HC;go_upto_region 15 with fail
      first|rw[HW5.out]|(rw[show((d:Int)+1 - 1)=(d:Int) by omega,HW5.out])|(rw[hdd,HW5.out])
      clear k0 k1 k2 k3 k4 k5 kf2 hdd;obtain⟨m0,m1,m2,m3,m4,m5,m6,m7,_⟩:=Dc HN5.out;have hel:(Ct (ks++[a]) nds.length).length=ks.length+1:=by rw[Il];simp
      have hrow:=HROW.out;have hlen:(nds++Bz (ks++[a]) nds.length).length=nds.length+(Bf ks+a.size):=by rw[Ab,Cd,Jf]
      have hp:=Mg HF10.out (by rw[hlen];omega) (Al hB HR5.out.only.size) ⟨c.op,v0,[],c.line,c.col⟩ (Ct (ks++[a]) nds.length) ka7 kc7 (by rw[hel];rw[Ab] at hrow;exact hrow) (fun x hx hm=>by rw[hel] at hx;have h1:=HNEW.out x hx;have h2:=H.out.xl x hm;omega);rw[hel,hlen] at hp;have HP:Hid (Calls Tryz.prog 128 #[.pointer (some ⟨b,0,none⟩),.agg #[.int .u8 c.op,.int .u8 0,.int .i64 0,.string ⟨#[]⟩,.string ⟨#[]⟩,.slice ka7 (ks.length+1) kc7,.int .i64 c.line,.int .i64 c.col]] W5 _):=Ax hp;clear hp hrow hel hlen HROW HNEW;go_wp2_with fail;refine HP.out.mono ?_;rintro e V6 ⟨rfl,v6,hf6,hr6⟩;have hfl:nds++Bz (ks++[a]) nds.length++[⟨⟨c.op,v0,[],c.line,c.col⟩,Ct (ks++[a]) nds.length⟩]=nds++(Ex.mk ⟨c.op,v0,[],c.line,c.col⟩ (ks++[a])).flat nds.length:=by rw[Ws,List.append_assoc]
      rw[hfl] at hf6;have HF:=Ax (show B5 w B X b vl ts (t::t'::q') d vt nds xx (.returned (.int .i64 ((nds.length+(Bf ks+a.size):Nat):Int))) V6 from⟨_,v6,rfl,HR5.out.trans hr6,by rw[HLE.out];exact⟨by have:=Jf ks a;simp only[Ex.size]<;>omega,hf6⟩⟩);clear hf6 hr6 hfl HP m0 m1 m2 m3 m4 m5 m6 m7;exact zzo
     |false=>
      have s41:=H41.out;rw[hm2] at s41;rw[hm2] at hx4;simp only[Bool.false_and,Bool.false_eq_true,if_false] at hx4;unfold Cy at hx4;rw[Ao (by rw[hm2];decide)] at hx4;have HLE:Hid (xx= .error (4,q4)):=Ax hx4.symm;have HM2:=Ax hm2;have HMU:=Ax (Ia HC.out.rd [41] tH);obtain⟨k0,k1,k2,k3,k4,k5,_⟩:=Bd HC.out.rd.blk;clear hx4 hm1 hm2 HX4 H44 H41 HLA;go_wp2_with fail;clear k0 k1 k2 k3 k4 k5 s44 s41 n5;refine HMU.out.mono ?_;rintro e V9 ⟨rfl,ho9,hx9⟩;rw[Ao (by rw[HM2.out];decide)] at hx9;have HX:=Ax (hx9.mono (cap':=nds.length+(t'::q').length) (by rw[Ab,Cd,Jf];omega) tE);have HN:=Ax (ho9.cells_of HN.out tK);have HR:=Ax (HR.out.trans (Rch.of_only v7 ho9));clear hx9 ho9 HMU HC;obtain⟨a0,dd,hkb⟩:=HX.out.blk;obtain⟨k0,k1,k2,k3,k4,k5,kf⟩:=Bd hkb;have kf2:=kf 2;obtain⟨x5,hx5⟩:∃x5,IntKind.i64.wrap (dd - 1)=x5:=⟨_,rfl⟩;have hx5':wrap64 (dd - 1)=x5:=by rw[←hx5];simp [IntKind.wrap_i64,wrap64]
      have HM5:=Ax (HX.out.deep x5);have ho5:=A3 V9 b 2 (.int .i64 x5);have hnb5:=ho5.cells_of HN.out tK;obtain⟨W5,hW5⟩:∃W5,V9.setCell ⟨b,2,none⟩ (.int .i64 x5)=W5:=⟨_,rfl⟩;exact zz8
   have HLE:Hid (xx= .error (er,q4)):=Ax (by rw[←HLA.out,Eb,hq4];rfl);have HNX:=Ax (fL hx);have HX:=Ax hx;clear hx hq4 HLA HMS;go_wp2_with fail;refine HNX.out.mono ?_;rintro e V8 ⟨⟨S,rfl⟩,hb8⟩;have HX:=Ax (HX.out.below hb8);have HN:=Ax ((hb8.block _ (Bu HN.out)).trans HN.out);have HR:=Ax (HR.out.trans (Rch.of_below v7 hb8));obtain⟨_,_,_,_,_,n5,_⟩:=Dc HN.out;obtain⟨a0,dd,hkb⟩:=HX.out.blk;obtain⟨k0,k1,k2,k3,k4,k5,_⟩:=Bd hkb;have de:(er==0)=false:=Af.2 HX.out.ne;have de':(er !=0)=true:=by rw[bne,de];rfl
   have HSE:=Ax (gW HX.out 14);clear hkb hb8 HNX;cases s44:(S.toList==[44]) with
   |true=>
    have s41:(S.toList==[41])=false:=by rw[eq_of_beq s44];decide
    by_cases hmost:ks.length+1=c.most
    ·have f1:((((ks.length+1:Nat):Int))==(c.most:Int))=true:=by simp;omega
     have f2:(((ks.length:Int)+1)==(c.most:Int))=true:=by simp;omega
     have f3:(ks.length+1==c.most)=true:=by simp;omega
     clear hmost;go_wp2_with fail;refine HSE.out.mono ?_;rintro e V9 ⟨rfl,rfl⟩;go_wp2_with fail;clear n5 k0 k1 k2 k3 k4 k5 de de' HSE;have HM:=Ax (Dh HX.out ⟨#[41]⟩);go_wp2_with fail;refine HM.out.mono ?_;rintro e VM ⟨rfl,rfl⟩;clear HM;obtain⟨a0,dd,hkb⟩:=HX.out.blk;obtain⟨k0,k1,k2,k3,k4,k5,kf⟩:=Bd hkb;have kf2:=kf 2;obtain⟨x5,hx5⟩:∃x5,IntKind.i64.wrap (dd - 1)=x5:=⟨_,rfl⟩;have hx5':wrap64 (dd - 1)=x5:=by rw[←hx5];simp [IntKind.wrap_i64,wrap64]
     have HM5:=Ax (HX.out.deep x5);have ho5:=A3 V8 b 2 (.int .i64 x5);have hnb5:=ho5.cells_of HN.out tK;obtain⟨W5,hW5⟩:∃W5,V8.setCell ⟨b,2,none⟩ (.int .i64 x5)=W5:=⟨_,rfl⟩;exact zz8
    have f1:((((ks.length+1:Nat):Int))==(c.most:Int))=false:=by simp;omega
    have f2:(((ks.length:Int)+1)==(c.most:Int))=false:=by simp;omega
    have f3:(ks.length+1==c.most)=false:=by simp;omega
    clear hmost;go_wp2_with fail;clear n5 k0 k1 k2 k3 k4 k5 de de' HSE;have HM:=Ax (Dh HX.out ⟨#[41]⟩);go_wp2_with fail;refine HM.out.mono ?_;rintro e VM ⟨rfl,rfl⟩;clear HM;obtain⟨a0,dd,hkb⟩:=HX.out.blk;obtain⟨k0,k1,k2,k3,k4,k5,kf⟩:=Bd hkb;have kf2:=kf 2;obtain⟨x5,hx5⟩:∃x5,IntKind.i64.wrap (dd - 1)=x5:=⟨_,rfl⟩;have hx5':wrap64 (dd - 1)=x5:=by rw[←hx5];simp [IntKind.wrap_i64,wrap64]
    have HM5:=Ax (HX.out.deep x5);have ho5:=A3 V8 b 2 (.int .i64 x5);have hnb5:=ho5.cells_of HN.out tK;obtain⟨W5,hW5⟩:∃W5,V8.setCell ⟨b,2,none⟩ (.int .i64 x5)=W5:=⟨_,rfl⟩;exact zz8
   |false=>
    cases s41:(S.toList==[41]) with
    |true=>
     by_cases hles:ks.length+1<c.least
     ·have g1:decide ((((ks.length+1:Nat):Int))<(c.least:Int))=true:=by simp;omega
      have g2:decide (((ks.length:Int)+1)<(c.least:Int))=true:=by simp;omega
      have g3:decide (ks.length+1<c.least)=true:=by simp;omega
      clear hles;go_wp2_with fail;refine HSE.out.mono ?_;rintro e V9 ⟨rfl,rfl⟩;go_wp2_with fail;clear n5 k0 k1 k2 k3 k4 k5 de de' HSE;have HM:=Ax (Dh HX.out ⟨#[41]⟩);go_wp2_with fail;refine HM.out.mono ?_;rintro e VM ⟨rfl,rfl⟩;clear HM;obtain⟨a0,dd,hkb⟩:=HX.out.blk;obtain⟨k0,k1,k2,k3,k4,k5,kf⟩:=Bd hkb;have kf2:=kf 2;obtain⟨x5,hx5⟩:∃x5,IntKind.i64.wrap (dd - 1)=x5:=⟨_,rfl⟩;have hx5':wrap64 (dd - 1)=x5:=by rw[←hx5];simp [IntKind.wrap_i64,wrap64]
      have HM5:=Ax (HX.out.deep x5);have ho5:=A3 V8 b 2 (.int .i64 x5);have hnb5:=ho5.cells_of HN.out tK;obtain⟨W5,hW5⟩:∃W5,V8.setCell ⟨b,2,none⟩ (.int .i64 x5)=W5:=⟨_,rfl⟩;exact zz8
     have g1:decide ((((ks.length+1:Nat):Int))<(c.least:Int))=false:=by simp;omega
     have g2:decide (((ks.length:Int)+1)<(c.least:Int))=false:=by simp;omega
     have g3:decide (ks.length+1<c.least)=false:=by simp;omega
     clear hles;go_wp2_with fail;clear n5 k0 k1 k2 k3 k4 k5 de de' HSE;have HM:=Ax (Dh HX.out ⟨#[41]⟩);go_wp2_with fail;refine HM.out.mono ?_;rintro e VM ⟨rfl,rfl⟩;clear HM;obtain⟨a0,dd,hkb⟩:=HX.out.blk;obtain⟨k0,k1,k2,k3,k4,k5,kf⟩:=Bd hkb;have kf2:=kf 2;obtain⟨x5,hx5⟩:∃x5,IntKind.i64.wrap (dd - 1)=x5:=⟨_,rfl⟩;have hx5':wrap64 (dd - 1)=x5:=by rw[←hx5];simp [IntKind.wrap_i64,wrap64]
     have HM5:=Ax (HX.out.deep x5);have ho5:=A3 V8 b 2 (.int .i64 x5);have hnb5:=ho5.cells_of HN.out tK;obtain⟨W5,hW5⟩:∃W5,V8.setCell ⟨b,2,none⟩ (.int .i64 x5)=W5:=⟨_,rfl⟩;exact zz8
    |false=>
     go_wp2_with fail;clear n5 k0 k1 k2 k3 k4 k5 de de' HSE;have HM:=Ax (Dh HX.out ⟨#[41]⟩);go_wp2_with fail;refine HM.out.mono ?_;rintro e VM ⟨rfl,rfl⟩;clear HM;obtain⟨a0,dd,hkb⟩:=HX.out.blk;obtain⟨k0,k1,k2,k3,k4,k5,kf⟩:=Bd hkb;have kf2:=kf 2;obtain⟨x5,hx5⟩:∃x5,IntKind.i64.wrap (dd - 1)=x5:=⟨_,rfl⟩;have hx5':wrap64 (dd - 1)=x5:=by rw[←hx5];simp [IntKind.wrap_i64,wrap64]
     have HM5:=Ax (HX.out.deep x5);have ho5:=A3 V8 b 2 (.int .i64 x5);have hnb5:=ho5.cells_of HN.out tK;obtain⟨W5,hW5⟩:∃W5,V8.setCell ⟨b,2,none⟩ (.int .i64 x5)=W5:=⟨_,rfl⟩;exact zz8
  have HX:=Ax hx;have HLE:=Ax hxe;obtain⟨a0,dd,hkb⟩:=HX.out.blk;obtain⟨k0,k1,k2,k3,k4,k5,_⟩:=Bd hkb;have de:(er==0)=false:=Af.2 hx.ne;clear hkb hx hxe;go_wp2_with fail;clear k0 k1 k2 k3 k4 k5 de;have HM:=Ax (Dh HX.out ⟨#[41]⟩);go_wp2_with fail;refine HM.out.mono ?_;rintro e VM ⟨rfl,rfl⟩;clear HM;obtain⟨a0,dd,hkb⟩:=HX.out.blk;obtain⟨k0,k1,k2,k3,k4,k5,kf⟩:=Bd hkb;have kf2:=kf 2;obtain⟨x5,hx5⟩:∃x5,IntKind.i64.wrap (dd - 1)=x5:=⟨_,rfl⟩;have hx5':wrap64 (dd - 1)=x5:=by rw[←hx5];simp [IntKind.wrap_i64,wrap64]
  have HM5:=Ax (HX.out.deep x5);have ho5:=A3 wr b 2 (.int .i64 x5);have hnb5:=ho5.cells_of HN.out tK;obtain⟨W5,hW5⟩:∃W5,wr.setCell ⟨b,2,none⟩ (.int .i64 x5)=W5:=⟨_,rfl⟩;rw[hW5] at HM5 ho5 hnb5;have HN5:=Ax hnb5;have HW5:=Ax hW5;have HR5:=Ax (HR.out.trans (Rch.of_only vj ho5));clear hkb kf ho5 hnb5 hW5 hx5;go_upto_region 15 with fail
  rw[HW5.out];clear k0 k1 k2 k3 k4 k5 kf2 hx5';obtain⟨m0,m1,m2,m3,m4,m5,m6,m7,_⟩:=Dc HN5.out;have HP:=Ax (Ei HM5.out tE (Al hB HR5.out.only.size) ⟨c.op,v0,[],c.line,c.col⟩ ka kn kc);have HP:Hid (Calls Tryz.prog 128 #[.pointer (some ⟨b,0,none⟩),.agg #[.int .u8 c.op,.int .u8 0,.int .i64 0,.string ⟨#[]⟩,.string ⟨#[]⟩,.slice ka kn kc,.int .i64 c.line,.int .i64 c.col]] W5 _):=Ax HP.out;exact zzz
end Go.Proofs.YtmpfilddeglgbaaGreatDoor
