import Derived.Test.YtgfakdobajgnfaaGreatDoorQn30
import Derived.Test.YtgfakdobajgnfaaGreatDoorQn31
set_option maxRecDepth 100000
set_option maxHeartbeats 16000000
namespace Go.Proofs.YtgfakdobajgnfaaGreatDoor
open Go Go.RowKit
def Ey (B n:Nat)(w0:World)(T TS:TypeId)(c src:List Value)(bx:Array Value)(y:Value):List Bool->List Value->World->Prop
 |[b0,b1,b2,b3,b4,b5],[x0,x1,x2,x3,x4,x5],w=>Below B w0 w/\w0.heap.size<=w.heap.size/\
  (b0=true->b1=false->∃g,x0= .slice (some ⟨g,0,none⟩) 1 1/\w.ownsRow B T 2 x0 1 c)/\
  (b1=true->b0=true/\(b3=false->∃g k,x1= .slice (some ⟨g,0,none⟩) (1+n) k/\w.ownsRow B T 2 x1 (1+n) (c++src)))/\
  (b2=true->b3=false->∃g,x2= .slice (some ⟨g,0,none⟩) 1 1/\B<=g/\w.heap[g]? =some (.cells c.toArray T (0,0))/\(b0=true->b1=false->x0.ownBlock≠some g)/\(b1=true->x1.ownBlock≠some g))/\
  (b3=true->b1=true/\b2=true/\∃g k,x3= .slice (some ⟨g,0,none⟩) (1+n+1) k/\w.ownsRow B T 2 x3 (1+n+1) (c++src++c))/\
  (b4=true->Bx B TS bx x4 w)/\(b5=true->b3=true/\x5= .agg #[x3,y])
 |_,_,_=>False
section
variable {B n:Nat} {w0 w:World} {T TS:TypeId} {c src:List Value} {bx:Array Value} {y:Value} {b0 b1 b2 b3 b4 b5:Bool} {x0 x1 x2 x3 x4 x5:Value}
theorem Ey.start (u:List Value)(h:u.length=6):Ey B n w0 T TS c src bx y [false,false,false,false,false,false] u w0:=by
 obtain⟨x0,x1,x2,x3,x4,x5,rfl⟩:=Nm h;exact⟨Aq _ _,Ak _,(fun e=>by cases e),(fun e=>by cases e),(fun e=>by cases e),(fun e=>by cases e),(fun e=>by cases e),(fun e=>by cases e)⟩
theorem eE {v:Value}{m sz:Nat}{xs:List Value}{g:Nat}(h:w.ownsRow B T sz v m xs)(hg:v.ownBlock=some g):g<w.heap.size:=(h.lt g hg).2
theorem Ey.keep {w':World}(h:Ey B n w0 T TS c src bx y [b0,b1,b2,b3,b4,b5] [x0,x1,x2,x3,x4,x5] w)(hB:B<=w0.heap.size)(hb:Below w.heap.size w w'):Ey B n w0 T TS c src bx y [b0,b1,b2,b3,b4,b5] [x0,x1,x2,x3,x4,x5] w':=by
 obtain⟨h1,h2,h3,h4,h5,h6,h7,h8⟩:=h;refine⟨h1.trans (hb.mono nU),Al h2 hb.size,fun p q=>?_,fun p=>⟨(h4 p).1,fun q=>?_⟩,fun p q=>?_,fun p=>⟨(h6 p).1,(h6 p).2.1,?_⟩,fun p=>(h7 p).below hb,h8⟩
 ·obtain⟨g,e,o⟩:=h3 p q;exact⟨g,e,Cc o hb⟩
 ·obtain⟨g,k,e,o⟩:=(h4 p).2 q;exact⟨g,k,e,Cc o hb⟩
 ·obtain⟨g,e,o,k,r⟩:=h5 p q;exact⟨g,e,o,(hb.block g (Bm k)).trans k,r⟩
 obtain⟨g,k,e,o⟩:=(h6 p).2.2;exact⟨g,k,e,Cc o hb⟩
theorem Ey.low {d:List Bool}{u:List Value}(h:Ey B n w0 T TS c src bx y d u w):Below B w0 w:=by
 unfold Ey at h
 split at h
 ·exact h.1
 exact h.elim
theorem Ey.setA (h:Ey B n w0 T TS c src bx y [false,b1,b2,b3,b4,b5] [x0,x1,x2,x3,x4,x5] w)(hB:B<=w0.heap.size)(hc:c.length=2):Ey B n w0 T TS c src bx y [true,b1,b2,b3,b4,b5] [.slice (some ⟨w.heap.size,0,none⟩) 1 1,x1,x2,x3,x4,x5] (w.alloc (.cells c.toArray T)):=by
 have hb1:b1=false:=by
  cases b1 with
  |false=>rfl
  |true=>exact absurd (h.2.2.2.1 rfl).1 nV
 subst hb1
 have hlt:∀g,x2= .slice (some ⟨g,0,none⟩) 1 1->b2=true->b3=false->g<w.heap.size:=fun g e p q=>by
  obtain⟨g',e',_,k,_⟩:=h.2.2.2.2.1 p q;rw[e] at e';injection e' with e';injection e' with e';injection e' with e';subst e';exact Bm k
 have hz:=h.2.1;obtain⟨h1,h2,h3,h4,h5,h6,h7,h8⟩:=h.keep hB ((Aq _ w).alloc (Ak _) (.cells c.toArray T));refine⟨h1,h2,fun _ _=>⟨_,rfl,?_⟩,(fun e=>by cases e),fun p q=>?_,h6,h7,h8⟩
 ·have:=World.ownsRow_lit (base:=B) (e:=T) (size:=2) w c.toArray 1 (Al hB hz) nV (by simpa using hc)
  simpa using this
 obtain⟨g,e,o,k,_,r⟩:=h5 p q;refine⟨g,e,o,k,fun _ _ q2=>?_,r⟩
 have:=hlt g e p q
 simp only[Value.ownBlock,Option.some.injEq] at q2;omega
theorem Ey.setB (h:Ey B n w0 T TS c src bx y [b0,b1,false,b3,b4,b5] [x0,x1,x2,x3,x4,x5] w)(hB:B<=w0.heap.size):Ey B n w0 T TS c src bx y [b0,b1,true,b3,b4,b5] [x0,x1,.slice (some ⟨w.heap.size,0,none⟩) 1 1,x3,x4,x5] (w.alloc (.cells c.toArray T)):=by
 have hb3:b3=false:=by
  cases b3 with
  |false=>rfl
  |true=>exact absurd (h.2.2.2.2.2.1 rfl).2.1 nV
 subst hb3;have hk:=h.keep hB ((Aq _ w).alloc (Ak _) (.cells c.toArray T));have hz:=h.2.1;refine⟨hk.1,hk.2.1,hk.2.2.1,hk.2.2.2.1,fun _ _=>⟨_,rfl,Al hB hz,(MapKept.heap_alloc w _).1,fun p q e=>?_,fun p e=>?_⟩,(fun e=>by cases e),hk.2.2.2.2.2.2.1,hk.2.2.2.2.2.2.2⟩
 ·obtain⟨g,_,o⟩:=h.2.2.1 p q
  have:=eE o e
  omega
 obtain⟨g,k,_,o⟩:=(h.2.2.2.1 p).2 rfl
 have:=eE o e
 omega
theorem Ey.setE (h:Ey B n w0 T TS c src bx y [b0,b1,b2,b3,false,b5] [x0,x1,x2,x3,x4,x5] w)(hB:B<=w0.heap.size):Ey B n w0 T TS c src bx y [b0,b1,b2,b3,true,b5] [x0,x1,x2,x3,.pointer (some ⟨w.heap.size,0,none⟩),x5] (w.alloc (.cells bx TS)):=by
 have hk:=h.keep hB ((Aq _ w).alloc (Ak _) (.cells bx TS));exact⟨hk.1,hk.2.1,hk.2.2.1,hk.2.2.2.1,hk.2.2.2.2.1,hk.2.2.2.2.2.1,(fun _=>⟨_,rfl,Al hB h.2.1,(MapKept.heap_alloc w _).1⟩),hk.2.2.2.2.2.2.2⟩
theorem Ey.setC {w':World}{g k:Nat}(h:Ey B n w0 T TS c src bx y [true,false,b2,b3,b4,b5] [x0,x1,x2,x3,x4,x5] w)(hB:B<=w0.heap.size)(hT:T≠TS)
 (ho:w'.ownsRow B T 2 (.slice (some ⟨g,0,none⟩) (1+n) k) (1+n) (c++src)) (hg:w.grownBy w' x0.ownBlock) (hat:x0.ownBlock=some g\/g=w.heap.size):Ey B n w0 T TS c src bx y [true,true,b2,b3,b4,b5] [x0,.slice (some ⟨g,0,none⟩) (1+n) k,x2,x3,x4,x5] w':=by
 obtain⟨h1,h2,h3,h4,h5,h6,h7,h8⟩:=h
 have hb3:b3=false:=by
  cases b3 with
  |false=>rfl
  |true=>exact absurd (h6 rfl).1 nV
 subst hb3;obtain⟨_,_,o0⟩:=h3 rfl rfl;refine⟨Bn h1 (A8.of_grown hg x0.ownBlock.toList fun k hk=>by simp [hk]) (fun i hi=>Cf o0 i pJ) nU,Al h2 hg.size,(fun _ e=>by cases e),fun _=>⟨rfl,fun _=>⟨g,k,rfl,ho⟩⟩,fun p q=>?_,(fun e=>by cases e),fun p=>?_,h8⟩
 ·obtain⟨g2,e,o,kk,r1,r2⟩:=h5 p q;have hne:=r1 rfl rfl;refine⟨g2,e,o,(hg.block g2 (Bm kk) (Ne.symm hne)).trans kk,(fun _ e=>by cases e),fun _ e2=>?_⟩;simp only[Value.ownBlock,Option.some.injEq] at e2;rcases hat with hat|hat
  ·exact hne (by rw[hat,e2])
  have:=Bm kk
  omega
 obtain⟨q,e,hq,hh⟩:=h7 p;exact⟨q,e,hq,(hg.block q (Bm hh) (Ne.symm (Bf o0 hh hT))).trans hh⟩
theorem Ey.setD {w':World}{g k:Nat}(h:Ey B n w0 T TS c src bx y [b0,true,true,false,b4,b5] [x0,x1,x2,x3,x4,x5] w)(hB:B<=w0.heap.size)(hT:T≠TS)
 (ho:w'.ownsRow B T 2 (.slice (some ⟨g,0,none⟩) (1+n+1) k) (1+n+1) (c++src++c)) (hg:w.grownBy w' x1.ownBlock):Ey B n w0 T TS c src bx y [b0,true,true,true,b4,b5] [x0,x1,x2,.slice (some ⟨g,0,none⟩) (1+n+1) k,x4,x5] w':=by
 obtain⟨h1,h2,h3,h4,h5,h6,h7,h8⟩:=h;obtain⟨hb0,h4⟩:=h4 rfl;obtain⟨_,_,_,o1⟩:=h4 rfl;refine⟨Bn h1 (A8.of_grown hg x1.ownBlock.toList fun k hk=>by simp [hk]) (fun i hi=>Cf o1 i pJ) nU,Al h2 hg.size,(fun _ e=>by cases e),fun _=>⟨hb0,fun e=>by cases e⟩,(fun _ e=>by cases e),fun _=>⟨rfl,rfl,g,k,rfl,ho⟩,fun p=>?_,fun e=>absurd (h8 e).1 nV⟩;obtain⟨q,e,hq,hh⟩:=h7 p;exact⟨q,e,hq,(hg.block q (Bm hh) (Ne.symm (Bf o1 hh hT))).trans hh⟩
theorem Ey.setF (h:Ey B n w0 T TS c src bx y [b0,b1,b2,true,b4,b5] [x0,x1,x2,x3,x4,x5] w):Ey B n w0 T TS c src bx y [b0,b1,b2,true,b4,true] [x0,x1,x2,x3,x4,.agg #[x3,y]] w:=by
 obtain⟨h1,h2,h3,h4,h5,h6,h7,_⟩:=h;exact⟨h1,h2,h3,h4,h5,h6,h7,fun _=>⟨rfl,rfl⟩⟩
end
section
variable {P:Program} {ops:Array Oper} {S:World->Prop}
theorem dO.mk {Inv:List Bool->List Value->World->Prop}{a:Act}{ms:List Nat}{ss:List (Option Nat)}{dep:List (List Nat)}{j:Nat}(i:Nat)(o:Oper)(hi:ms[j]? =some i)(ho:ops[i]? =some o)(hs:ss[j]? =some o.dst)
 (h:∀(d:List Bool) (u:List Value) (w:World),d.length=ms.length->u.length=ms.length->d[j]? =some false->((dep.getD j []).all fun l=>d.getD l false)=true->Inv d u w->∃v,YieldsIf P ops S o v (Bl a ss u)/\Inv (d.set j true) (u.set j v) w):dO P ops S Inv a ms ss dep j:=by
 intro d u w h1 h2 h3 h4 h5 i' s hi' hs';rw[hi] at hi';rw[hs] at hs';injection hi' with hi';injection hs' with hs';subst hi' hs';obtain⟨v,hy,hI⟩:=h d u w h1 h2 h3 h4 h5;exact⟨o,v,ho,rfl,hy,hI⟩
end
theorem Kw {P:Program}{ops:Array Oper}{o:Oper}{a:Act}{w:World}{K:Act->World->Prop}{Q:Exit->Act->World->Prop}{E:Prop}(hgd:o.guard=none)(s x:Operand)(t:TypeId)
 (ho:o.op= .call {callee:= .builtin .append,args:= #[s,x],argTypes:= #[t,t]})
 (base:Nat) (e:TypeId) (i:TypeInfo) (z:Value) (size bytes:Nat) (ht:P.underlying t=some (.slice e)) (hi:P.info? e=some i) (hz:i.zero=some z)
 (hsize:i.size=size) (hby:i.bytes=bytes) (hzs:z.cells.size=size) (hsz:0<size)
 (g0 n c0:Nat) (xs:List Value) (hs:a.eval s= .slice (some ⟨g0,0,none⟩) n c0) (hown:w.ownsRow base e size (.slice (some ⟨g0,0,none⟩) n c0) n xs)
 (vx:Value) (m:Nat) (news:List Value) (hx:a.eval x=vx) (hsrc:(vx= .slice none 0 0/\m=0/\news=[])\/∃ad c,vx= .slice (some ad) m c/\news.length=m*size/\∀j u,news[j]? =some u->w.cell? (ad.add j)=some u)
 (h1:∀u∈news,u.oneCell'=true) (h63:n+m<=maxLen) (hbytes:(n+m)*bytes<=140737488355328) (hbase:base<=w.heap.size)
 (h:∀g cap w',w'.ownsRow base e size (.slice (some ⟨g,0,none⟩) (n+m) cap) (n+m) (xs++news)->w.grownBy w' (Value.ownBlock (.slice (some ⟨g0,0,none⟩) n c0))->(Value.ownBlock (.slice (some ⟨g0,0,none⟩) n c0)=some g\/g=w.heap.size)->K (a.put o.dst (.slice (some ⟨g,0,none⟩) (n+m) cap)) w'):
 if Region.wanted o (yielded ops a.tmps)=true then Oper.wp P o a w K Q else E:=by
 rcases hsrc with ⟨rfl,rfl,rfl⟩|⟨ad,c,rfl,hl,hnews⟩
 ·have hw:Region.wanted o (yielded ops a.tmps)=true:=by simp [Region.wanted,hgd]
  rw[Ap hw];have hrun:=run_append_owned_none (P:=P) w base t o.type e i size ht hi _ n xs hown;unfold Oper.wp;simp [execOp,ho,resolve,invoke,builtin,hs,hx,hrun,Result.andThen];exact h g0 c0 w (by simpa using hown) ⟨rfl,rfl,rfl,Ak _,fun _ _ _=>rfl⟩ (.inl rfl)
 rcases Nat.eq_zero_or_pos m with rfl|hm
 ·have hnil:news=[]:=List.eq_nil_of_length_eq_zero (by simpa using hl);subst hnil
  have hcap:n<=c0:=by
   rcases hown.2 with ⟨e0,_⟩|⟨g,cap,cur,e0,_,_,hc,_⟩
   ·cases e0
   injection e0 with _ _ e3;omega
  refine step_append_room hgd s x t ho e i size ht hi hsize g0 0 n c0 hs ad 0 c [] hx nW (fun j u hu=>by simp at hu) (fun u hu=>by cases hu) nU (fun j hj=>by simp at hj) ?_;exact h g0 c0 _ (by simpa[World.setCells] using hown) (⟨rfl,rfl,rfl,Ak _,fun _ _ _=>rfl⟩:w.grownBy w _) (.inl rfl)
 exact step_append_lies w hgd s x t ho base e i z size bytes ht hi hz hsize hby hzs hsz _ n xs hs hown ad m c news hx hl hnews h1 hm h63 hbytes hbase _ rfl fun g cap w' q1 q2 q3 _=>h g cap w' q1 q2 q3
open Go Go.ChangeShapes Go.WideShapes Go.ChangeAt Go.RowKit Go.Deep Go.Lib
def Ej:List (List UInt8×Int)->List Value
 |[]=>[]
 |x::l=> .string ⟨x.1.toArray⟩:: .int .u8 x.2::Ej l
theorem Oj:∀l,(Ej l).length=l.length*2
 |[]=>rfl
 |x::l=>by simp [Ej,Oj l];omega
theorem K7:∀l m,Ej (l++m)=Ej l++Ej m
 |[],m=>rfl
 |x::l,m=>by simp [Ej,K7 l m]
theorem Tv:∀l,∀u∈Ej l,u.oneCell'=true
 |[],u,h=>by cases h
 |x::l,u,h=>by
  rcases List.mem_cons.1 h with rfl|h
  ·rfl
  rcases List.mem_cons.1 h with rfl|h
  ·rfl
  exact Tv l u h
theorem Lg:∀{l:List (List UInt8×Int)} {i:Nat} (h:i<l.length),(Ej l)[i*2]? =some (.string ⟨l[i].1.toArray⟩)/\(Ej l)[i*2+1]? =some (.int .u8 l[i].2)
 |x::l,0,_=>⟨rfl,rfl⟩
 |x::l,i+1,h=>by
  have:=Lg (l:=l) (i:=i) oQ
  rw[show(i+1)*2=i*2+1+1 by omega];simpa[Ej] using this
theorem Nj.of_row {w:World}{B:Nat}{v:Value}{l:List (List UInt8×Int)}(hl:l.length<=1000000)(h:w.ownsRow B 71 2 v l.length (Ej l)):Nj w v l:=by
 rcases h.2 with ⟨e,h0⟩|⟨g,cap,cur,rfl,_,hg,hc,_⟩
 ·exact zxu
 refine⟨hl,_,_,rfl,fun i hi=>⟨g,0,rfl,?_,?_⟩⟩
 ·have:=h.cells (g:=g) rfl (i*2) _ (Lg hi).1
  simpa only[Addr.add_lit,Nat.zero_add] using this
 have:=h.cells (g:=g) rfl (i*2+1) _ (Lg hi).2
 simpa only[Addr.add_lit,Nat.zero_add,Nat.add_assoc] using this
theorem Xg.src {w V:World}{a:Option Addr}{c:Nat}{l:List (List UInt8×Int)}(h:Xg w (.slice a l.length c) l)(hV:Below w.heap.size w V):
 (Value.slice a l.length c= .slice none 0 0/\l.length=0/\Ej l=[])\/∃ad c',Value.slice a l.length c= .slice (some ad) l.length c'/\(Ej l).length=l.length*2/\∀j u,(Ej l)[j]? =some u->V.cell? (ad.add j)=some u:=by
 obtain⟨_,a',c',e,hn,hk⟩:=h;injection e with e1 _ e2;subst e1 e2;cases a with
 |none=>
  obtain⟨q1,q2⟩:=hn rfl
  have:l=[]:=List.eq_nil_of_length_eq_zero q1
  subst this q2;exact .inl ⟨rfl,rfl,rfl⟩
 |some ad=>
  refine .inr ⟨ad,c,rfl,Oj l,fun j u hj=>?_⟩;have hjl:j<l.length*2:=by rw[←Oj l];exact(List.getElem?_eq_some_iff.1 hj).1
  obtain⟨b,off,e,h0,h1⟩:=hk (j/2) nU;injection e with e;subst e;obtain⟨f0,f1⟩:=Lg (l:=l) (i:=j/2) nU;rw[Addr.add_lit];rcases Nat.mod_two_eq_zero_or_one j with hm|hm
  ·have e:j/2*2=j:=by omega
   rw[e] at f0 h0;rw[hj] at f0;injection f0 with f0;rw[f0];exact A6 hV h0
  have e:j/2*2+1=j:=by omega
  rw[Nat.add_assoc,e] at h1;rw[e,hj] at f1;injection f1 with f1;rw[f1];exact A6 hV h1
section
variable {H:Type} {enc:TypeId×Value->H} {w:World} {base:Nat} {spare:Nat->Bool} {held:Bool}
theorem cU {r:Reach}{b0:Nat}{v:Value}{d:DataW H}{p:List MemPlace}(hv:Value.okWide Tryz.prog w r b0 71 v)(h:DataW.Trod enc Tryz.prog w base spare held 71 v d p):
 ∃(on:List UInt8) (k:Int),v= .agg #[.string ⟨on.toArray⟩,.int .u8 k]/\(0<=k/\k<=255):=by
 obtain⟨v0,v1,y0,y1,n,rfl,_,_,h0,h1⟩:=Joins.open_agg2 Tryz.underlying71 nT nT hv h;obtain⟨nm,e0,_,_⟩:=DataW.trod_string Tryz.underlying9 h0;obtain⟨k,e1,_,hk⟩:=DataW.trod_int Tryz.underlying5 h1;simp only[List.cons.injEq,and_true] at e0 e1;subst e0 e1;exact⟨nm.data.toList,k,by simp,eN hk⟩
end
theorem jC:(Tryz.prog.info? 71).map (fun i=>(i.zero,i.size,i.bytes))=some (some (.agg #[.string ⟨#[]⟩,.int .u8 0]),2,24):=by kernel_rfl
theorem K6:∃i,Tryz.prog.info? 71=some i/\i.zero=some (.agg #[.string ⟨#[]⟩,.int .u8 0])/\i.size=2/\i.bytes=24:=by
 have h:=jC;cases hi:Tryz.prog.info? 71 with
 |none=>simp [hi] at h
 |some i=>
  exact zyc
structure L4 (w0:World)(sf:Int)(F:List (List UInt8×Int))(oa:Option Addr)(oc:Nat)(wr:World):Prop where
 row:wr.ownsRow (w0.heap.size+1) 71 2 (.slice oa F.length oc) F.length (Ej F)
 box:wr.heap[w0.heap.size]? =some (.cells #[.slice oa F.length oc,.int .u8 sf] 59 (0,0))
 below:Below w0.heap.size w0 wr
theorem L4.start (w0:World)(sf:Int):L4 w0 sf [] none 0 (w0.alloc (.cells #[.slice none 0 0,.int .u8 sf] 59)):=
 ⟨World.ownsRow_nil _ _ _ _,A0 _ _,(Aq _ _).alloc (Ak _) _⟩
theorem L4.size {w0 wr:World}{sf:Int}{F:List (List UInt8×Int)}{oa:Option Addr}{oc:Nat}(h:L4 w0 sf F oa oc wr):w0.heap.size+1<=wr.heap.size:=Ay h.box
theorem L4.keep {w0 wr w':World}{sf:Int}{F:List (List UInt8×Int)}{oa:Option Addr}{oc:Nat}(h:L4 w0 sf F oa oc wr)(hb:Below wr.heap.size wr w'):L4 w0 sf F oa oc w':=
 ⟨Cc h.row hb,(hb.block _ (Ay h.box)).trans h.box,h.below.trans (hb.mono h.below.size)⟩
theorem L4.lay {w0 wr w6:World}{sf:Int}{F:List (List UInt8×Int)}{oa:Option Addr}{oc g cap:Nat}{x:List UInt8×Int}(h:L4 w0 sf F oa oc wr)(ho:w6.ownsRow (w0.heap.size+1) 71 2 (.slice (some ⟨g,0,none⟩) (F.length+1) cap) (F.length+1) (Ej F++[.string ⟨x.1.toArray⟩,.int .u8 x.2]))
 (hg:wr.grownBy w6 (Value.ownBlock (.slice oa F.length oc))):L4 w0 sf (F++[x]) (some ⟨g,0,none⟩) cap (w6.setCell ⟨w0.heap.size,0,none⟩ (.slice (some ⟨g,0,none⟩) (F++[x]).length cap)):=by
 have hl:(F++[x]).length=F.length+1:=by simp
 rw[hl];have hbox:=(hg.block _ (Ay h.box) (Ne.symm (Bf h.row h.box nV))).trans h.box;have hsz:=h.size;refine⟨?_,?_,?_⟩
 ·rw[hl,K7]
  exact Bh ho (((A8.refl [w0.heap.size] w6)).setCell (.inl nW) _) (fun q hq hm=>by
   simp only[List.mem_singleton] at hm
   have:=Cf ho q hq
   omega)
 ·rw[hl];exact Joins.block_setCell hbox (i:=0) _
 exact(Bn h.below (A8.of_grown hg (Value.ownBlock (.slice oa F.length oc)).toList fun k hk=>by simp [hk]) (fun i hi=>by have:=Cf h.row i pJ;omega) nU).setCell (Ak _) _
open Go Go.RowKit Go.Lib Go.Sort Go.Shelf
theorem U5 {l:List UInt8}:(∀x∈zOf (Cm l),0<=x.h.op)/\∀x∈zOf (Cm l),Kt x.h:=by
 cases h:Cm l with
 |error p=>exact⟨fun x hx=>by simp [zOf] at hx,fun x hx=>by simp [zOf] at hx⟩
 |ok a=>exact⟨fun x hx=>(Te h x hx).1,fun x hx=>(Te h x hx).2⟩
def k9p (s:ByteArray):Int×(Int×Int)×Int:=ofP [([97],1)] 0 (zOf (Cm (dl s)))
theorem Xd (s:ByteArray)(w:World)(hs:s.size<=65536)(hR:Rd w)(b:Nat){va:Option Addr}{vc:Nat}(c0:w.cell? ⟨b,0,none⟩=some (.slice va 1 vc))(c1:w.cell? ⟨b,1,none⟩=some (.int .u8 0))(hv:Nj w (.slice va 1 vc) [([97],1)]):
 Calls Tryz.prog 66 #[.string s,.pointer (some ⟨b,0,none⟩)] w fun e w'=>e= .returned (T6 (k9p s))/\Below w.heap.size w w':=by
 obtain⟨W1,hW1⟩:∃W1,w.alloc (.cells #[.int .i64 0,.int .i64 0] 33)=W1:=⟨_,rfl⟩;have hb1:Below w.heap.size w W1:=by rw[←hW1];exact(Aq _ w).alloc (Ak _) _
 have hp1:=A0 w (.cells #[.int .i64 0,.int .i64 0] 33);rw[hW1] at hp1;have HRd:=Ax (lR (x:=Cm (dl s)) W1 hs rfl);have HW1:=Ax hW1;have HB1:=Ax hb1;have HP1:=Ax hp1;have HR:=Ax hR;have HV:=Ax hv;have C0:=Ax c0;have C1:=Ax c1;have hlt:=Ay hp1;clear hW1 hb1 hp1 hR hv c0 c1 hs;go_enter Tryz.func66,Tryz.ntmps66;go_upto_region 1 with fail
 rw[HW1.out];go_wp2_with fail;refine HRd.out.mono ?_;rintro e V ⟨a,k,c,rfl,ht,hb⟩;obtain⟨W2,hW2⟩:∃W2,V.alloc (.cells #[.int .i64 (pOf (Cm (dl s))).1.1,.int .i64 (pOf (Cm (dl s))).1.2] 33)=W2:=⟨_,rfl⟩;have hb2:Below V.heap.size V W2:=by rw[←hW2];exact(Aq _ V).alloc (Ak _) _
 have hbV:=HB1.out.trans (hb.mono HB1.out.size);have hbW:=hbV.trans (hb2.mono hbV.size);have hof:=Vw (ht.below hb2) U5.1 U5.2 (HR.out.below hbW) 0 (vars:=[([97],1)]) (HV.out.below hbW) nW (Int.le_refl 0);change Calls _ _ _ _ (fun e w'=>e= .returned (T6 (k9p s))/\Below W2.heap.size W2 w') at hof;obtain⟨p,hp⟩:∃p,k9p s=p:=⟨_,rfl⟩;rw[hp] at hof;have Hp:=Ax hp;obtain⟨pk,⟨px,py⟩,pe⟩:=p;unfold T6 at hof;simp only[Aa,List.length_nil,Nat.zero_add] at hof;have HO:=Ax hof;have HW2:=Ax hW2;have HBW:=Ax hbW;have c0:=A6 hbW C0.out;have c1:=A6 hbW C1.out;have HPl:=Ax ((hb2.block _ (by have:=hb.size;omega)).trans ((hb.block _ hlt).trans HP1.out));have hl2:=Ay HPl.out;clear ht hb hW2 hb2 hbV hbW hof hp HRd;go_upto_region 2 with fail
 rw[HW2.out];go_wp2_with fail;refine HO.out.mono ?_;rintro e V3 ⟨rfl,hb3⟩;obtain⟨y0,y1,yf⟩:=Be ((hb3.block _ hl2).trans HPl.out);have yf0:=yf 0;have yf1:=yf 1;have HB3:=Ax (HBW.out.trans (hb3.mono HBW.out.size));clear hb3 yf HO c0 c1;go_wp2_with fail;refine Au (v:= .tuple #[.int .u8 pk,.agg #[.int .i64 px,.int .i64 py],.int .i64 pe]) (by simp [results,Tryz.results66,go_sem, *]) rfl ?_;refine⟨by rw[Hp.out];rfl,?_⟩;exact(HB3.out.setCell oY _).setCell oY _
theorem fX:k9p ⟨#[63,97,32,43,32,49,46,53]⟩=(2,(0,0),0)/\k9p ⟨#[110,117,108,108,32,61,32,34,120,34]⟩=(4,(0,0),0)/\k9p ⟨#[49,32,60,32,34,120,34]⟩=(0,(1,3),8)/\k9p ⟨#[63,32,62,32,49]⟩=(0,(1,1),11):=
 ⟨by kernel_rfl,by kernel_rfl,by kernel_rfl,by kernel_rfl⟩
theorem kT (w:World)(hR:Rd w):Calls Tryz.prog 34 #[] w fun e w'=>e= .returned (.bool true)/\Below w.heap.size w w':=by
 have hmf:∀(fn:Fn) (first cap:Array Value) (w:World),(Instr.makeFunc fn first cap).run Tryz.prog w= .ok (.func fn first cap) w:=fun _ _ _ _=>rfl
 obtain⟨W1,hW1⟩:∃W1,(w.alloc (.cells #[.string ⟨#[97]⟩,.int .u8 1] 71)).alloc (.cells #[.slice (some ⟨w.heap.size,0,none⟩) 1 1,.int .u8 0] 59)=W1:=⟨_,rfl⟩;have hb0:Below w.heap.size w (w.alloc (.cells #[.string ⟨#[97]⟩,.int .u8 1] 71)):=(Aq _ w).alloc (Ak _) _;have hb1:Below w.heap.size w W1:=by rw[←hW1];exact hb0.alloc nW _
 have hp0:W1.heap[w.heap.size]? =some (.cells #[.string ⟨#[97]⟩,.int .u8 1] 71 (0,0)):=by
  rw[←hW1];exact(MapKept.heap_alloc (w.alloc (.cells #[.string ⟨#[97]⟩,.int .u8 1] 71)) _).2 w.heap.size nW|>.trans (A0 w _)
 have hp1:W1.heap[w.heap.size+1]? =some (.cells #[.slice (some ⟨w.heap.size,0,none⟩) 1 1,.int .u8 0] 59 (0,0)):=by
  rw[←hW1,show w.heap.size+1=(w.alloc (.cells #[.string ⟨#[97]⟩,.int .u8 1] 71)).heap.size by simp];exact A0 _ _
 have hK:∀(s:ByteArray) (V:World),Below W1.heap.size W1 V->s.size<=65536->Calls Tryz.prog 66 #[.string s,.pointer (some ⟨w.heap.size+1,0,none⟩)] V fun e w'=>e= .returned (T6 (k9p s))/\Below V.heap.size V w':=fun s V hV hs=>by
  obtain⟨c0,c1,_⟩:=Be ((hV.block _ (Ay hp1)).trans hp1);obtain⟨d0,d1,_⟩:=Be ((hV.block _ (Ay hp0)).trans hp0);refine Xd s V hs (hR.below (hb1.trans (hV.mono hb1.size))) (w.heap.size+1) c0 c1 ⟨by simp,_,_,rfl,fun i hi=>?_⟩;obtain rfl:i=0:=by simpa using hi
  exact⟨_,_,rfl,d0,d1⟩
 obtain⟨t0,t1,t2,t3⟩:=fX;have K0:=fun V hV=>hK ⟨#[63,97,32,43,32,49,46,53]⟩ V hV nV
 have K1:=fun V hV=>hK ⟨#[110,117,108,108,32,61,32,34,120,34]⟩ V hV nV
 have K2:=fun V hV=>hK ⟨#[49,32,60,32,34,120,34]⟩ V hV nV
 have K3:=fun V hV=>hK ⟨#[63,32,62,32,49]⟩ V hV nV
 rw[t0] at K0;rw[t1] at K1;rw[t2] at K2;rw[t3] at K3;unfold T6 at K0 K1 K2 K3;simp only at K0 K1 K2 K3;have HW1:=Ax hW1;have HB1:=Ax hb1;have HK0:=Ax K0;have HK1:=Ax K1;have HK2:=Ax K2;have HK3:=Ax K3;clear hW1 hb0 hb1 hp0 hp1 hK t0 t1 t2 t3 K0 K1 K2 K3 hR;go_enter Tryz.func34,Tryz.ntmps34;go_upto_region 2 with fail
 rw[HW1.out];have H0:=Ax (HK0.out W1 (Aq _ _));clear HW1;go_wp2_with fail;refine H0.out.mono ?_;rintro e V1 ⟨rfl,hb1⟩;obtain⟨X1,hX1⟩:∃X,V1.alloc (.cells #[.int .i64 0,.int .i64 0] 33)=X:=⟨_,rfl⟩;have hbX1:Below V1.heap.size V1 X1:=by rw[←hX1];exact(Aq _ _).alloc (Ak _) _
 have hB1:=hb1.trans (hbX1.mono hb1.size);have H1:=Ax (HK1.out X1 hB1);have HX1:=Ax hB1;clear hb1 hbX1 hB1 H0 HK0;subst hX1;go_wp2_with fail;refine H1.out.mono ?_;rintro e V2 ⟨rfl,hb2⟩;obtain⟨X2,hX2⟩:∃X,V2.alloc (.cells #[.int .i64 0,.int .i64 0] 33)=X:=⟨_,rfl⟩;have hbX2:Below V2.heap.size V2 X2:=by rw[←hX2];exact(Aq _ _).alloc (Ak _) _
 have hB2:=HX1.out.trans ((hb2.trans (hbX2.mono hb2.size)).mono HX1.out.size);have H2:=Ax (HK2.out X2 hB2);have HX2:=Ax hB2;clear hb2 hbX2 hB2 H1 HK1 HX1;subst hX2;go_wp2_with fail;refine H2.out.mono ?_;rintro e V3 ⟨rfl,hb3⟩;obtain⟨X3,hX3⟩:∃X,V3.alloc (.cells #[.int .i64 1,.int .i64 3] 33)=X:=⟨_,rfl⟩;have hbX3:Below V3.heap.size V3 X3:=by rw[←hX3];exact(Aq _ _).alloc (Ak _) _
 have hp3:=A0 V3 (.cells #[.int .i64 1,.int .i64 3] 33);rw[hX3] at hp3;have hB3:=HX2.out.trans ((hb3.trans (hbX3.mono hb3.size)).mono HX2.out.size);have H3:=Ax (HK3.out X3 hB3);have HX3:=Ax hB3;have HP3:=Ax hp3;clear hb3 hbX3 hp3 hB3 H2 HK2 HX2;go_wp2_with fail;refine H3.out.mono ?_;rintro e V4 ⟨rfl,hb4⟩;obtain⟨X4,hX4⟩:∃X,V4.alloc (.cells #[.int .i64 1,.int .i64 1] 33)=X:=⟨_,rfl⟩;have hbX4:Below V4.heap.size V4 X4:=by rw[←hX4];exact(Aq _ _).alloc (Ak _) _
 have hp4:=A0 V4 (.cells #[.int .i64 1,.int .i64 1] 33);rw[hX4] at hp4;have HX4:=Ax (HB1.out.trans ((HX3.out.trans ((hb4.trans (hbX4.mono hb4.size)).mono HX3.out.size)).mono HB1.out.size));have hp3:=(hbX4.block _ (Nat.lt_of_lt_of_le (Ay HP3.out) hb4.size)).trans ((hb4.block _ (Ay HP3.out)).trans HP3.out);obtain⟨p0,p1,_⟩:=Be hp3;obtain⟨q0,q1,_⟩:=Be hp4;clear hb4 hbX4 hp3 hp4 H3 HK3 HX3 HP3;go_wp2_with fail;go_ret;exact⟨rfl,HX4.out⟩
open Go Go.RowKit Go.Lib
theorem Yb {v:Value}{l:List Na}{sa:Option Addr}{sc:Nat}{vars:List (List UInt8×Int)}{sf okd k:Int}{on:List UInt8}(hsf:0<=sf)(hok:0<=okd)(w:World)(h:Qp w v l)(hS:Xg w (.slice sa vars.length sc) vars)(hR:Rd w):
 Calls Tryz.prog 13 #[v,.agg #[.slice sa vars.length sc,.int .u8 sf],.agg #[.string ⟨on.toArray⟩,.int .u8 okd],.int .i64 k] w fun e w'=>e= .returned (.bool true)/\Below w.heap.size w w':=by
 obtain⟨W1,hW1⟩:∃W,w.alloc (.cells #[.slice sa vars.length sc,.int .u8 sf] 59)=W:=⟨_,rfl⟩;have hbW1:Below w.heap.size w W1:=by rw[←hW1];exact(Aq _ w).alloc (Ak _) _
 have hpW1:=A0 w (.cells #[.slice sa vars.length sc,.int .u8 sf] 59);have hzW1:W1.heap.size=w.heap.size+1:=by rw[←hW1];simp
 rw[hW1] at hpW1;obtain⟨W,hW⟩:∃W,W1.alloc (.cells #[.string ⟨on.toArray⟩,.int .u8 okd] 71)=W:=⟨_,rfl⟩;have hbW2:Below W1.heap.size W1 W:=by rw[←hW];exact(Aq _ W1).alloc (Ak _) _
 have hpQ:=A0 W1 (.cells #[.string ⟨on.toArray⟩,.int .u8 okd] 71);have hzW:W.heap.size=w.heap.size+2:=by rw[←hW];simp [hzW1]
 rw[hW,hzW1] at hpQ;have hbW:=hbW1.trans (hbW2.mono hbW1.size);have hpS:=(hbW2.block _ (Ay hpW1)).trans hpW1;have hG:=Zk (h.below hbW) sa vars.length sc sf;obtain⟨n,hn⟩:∃n,vars.length=n:=⟨_,rfl⟩;obtain⟨gr,hgr⟩:∃g,I3 l vars.length=g:=⟨_,rfl⟩;rw[hgr] at hG;have HK:=fun(V:World) (hV:Below w.heap.size w V)=>Ax (kT V (hR.below hV))
 have HCell:Hid (∀V,Below (w.heap.size+2) W V->V.cell? ⟨w.heap.size,0,none⟩=some (.slice sa n sc)/\V.cell? ⟨w.heap.size,1,none⟩=some (.int .u8 sf)/\V.cell? ⟨w.heap.size+1,0,none⟩=some (.string ⟨on.toArray⟩)/\V.cell? ⟨w.heap.size+1,1,none⟩=some (.int .u8 okd)):=Ax fun V hV=>by
  obtain⟨p0,p1,_⟩:=Be ((hV.block _ nU).trans hpS);obtain⟨q0,q1,_⟩:=Be ((hV.block _ nU).trans hpQ);rw[hn] at p0;exact⟨p0,p1,q0,q1⟩
 have HLow:Hid (∀V,Below (w.heap.size+2) W V->Below w.heap.size w V):=Ax fun V hV=>hbW.trans (hV.mono nU)
 have HG:=Ax hG;have HW1:=Ax hW1;have HW:=Ax hW;have HzW:=Ax hzW;have hbm:∀{V:World},Below W.heap.size W V->Below (w.heap.size+2) W V:=fun hV=>by rw[hzW] at hV;exact hV
 cases gr with
 |true=>
  obtain⟨hlm,va,vc,rfl,_⟩:=h;rw[hn] at HG HW1 ⊢;obtain⟨s0,s1,o0,o1⟩:=HCell.out W (Aq _ _);clear hR hgr hG hW1 hbW1 hpW1 hzW1 hW hbW2 hpQ hzW hbW hpS hS hn;go_enter Tryz.func13,Tryz.ntmps13;go_upto_region 1 with fail
  rw[HW1.out,HW.out];go_wp2_with fail;refine HG.out.mono ?_;rintro e V ⟨rfl,hb⟩;have hbV:=HLow.out V (hbm hb);have HB:=Ax hbV;have HK':=HK V hbV;clear hb HG HK hbV s0 s1 o0 o1;exact zxh
 |false=>
  obtain⟨h70,h3,h40⟩:=Yl hgr;have h40:n<=40:=by omega
  obtain⟨zs,hzl,hz70,hz,hop,hfit⟩:=h.small h70 h3;have hv0:∀y∈vars,0<=y.2:=fun y hy=>(hS.1 y hy).1
  have hO:=fun(V:World) (hV:Below w.heap.size w V) (xa:Option Addr) (xc:Nat) (vs:List (List UInt8×Int)) (hvs:Nj V (.slice xa vs.length xc) vs) (h0:∀y∈vs,0<=y.2)=>Vw (hz.below hV) hop hfit (hR.below hV) sf hvs h0 hsf
  have hN:=fun(V:World) (hV:Below w.heap.size w V)=>Yf (hz.below hV) hop hfit (hR.below hV)
  have hzz:=hz;obtain⟨_,va,vc,rfl,_⟩:=hzz;obtain⟨m,hm⟩:∃m,zs.length=m:=⟨_,rfl⟩;rw[hm] at hO hN HG ⊢;rw[hm] at hz70;have HO:=Ax hO;have HN:=Ax hN;have HS:=Ax hS;have Hv0:=Ax hv0;have Hn:=Ax hn;rw[hn] at HG HW1 ⊢;obtain⟨s0,s1,o0,o1⟩:=HCell.out W (Aq _ _);clear hR hgr hG hW1 hbW1 hpW1 hzW1 hW hbW2 hpQ hzW hbW hpS hS hzl hz hop hfit hv0 hO hN h h3 hn hm h70
  have d30:decide ((30:Int)<(n:Int))=decide (30<n):=by
   by_cases e:30<n
   ·rw[Am e];exact Am nU
   rw[An e];exact An nU
  by_cases h30:30<n
  ·rw[Am h30] at d30;clear HO HN HS Hv0;go_enter Tryz.func13,Tryz.ntmps13;go_upto_region 1 with fail
   rw[HW1.out,HW.out];go_wp2_with fail;refine HG.out.mono ?_;rintro e V ⟨rfl,hb⟩;have hbV:=HLow.out V (hbm hb);obtain⟨s0,s1,o0,o1⟩:=HCell.out V (hbm hb);have HB:=Ax hbV;have HK':=HK V hbV;clear hb HG HK hbV;exact zxh
  rw[An h30] at d30;go_enter Tryz.func13,Tryz.ntmps13;go_upto_region 1 with fail
  rw[HW1.out,HW.out];go_wp2_with fail;refine HG.out.mono ?_;rintro e V ⟨rfl,hb⟩;have hbV:=hbm hb;obtain⟨s0,s1,o0,o1⟩:=HCell.out V hbV;have H1:=HO.out V (HLow.out V hbV) sa sc vars ((HS.out.rd (by rw[Hn.out];omega)).below (HLow.out V hbV)) Hv0.out;obtain⟨⟨a1,⟨x1,y1⟩,e1⟩,hp1⟩:∃p,ofP vars sf zs=p:=⟨_,rfl⟩;rw[hp1,Hn.out] at H1;unfold T6 at H1;simp only at H1;have H1:=Ax H1;have HP1:=Ax hp1;have HBV:=Ax hbV;clear hb hbV hp1 HG d30 HW HW1;go_wp2_with fail;refine H1.out.mono ?_;rintro e V1 ⟨rfl,hb1⟩;have hVz:w.heap.size+2<=V.heap.size:=by rw[←HzW.out];exact HBV.out.size
  obtain⟨X1,hX1⟩:∃X,V1.alloc (.cells #[.int .i64 x1,.int .i64 y1] 33)=X:=⟨_,rfl⟩;have hbX1:Below V1.heap.size V1 X1:=by rw[←hX1];exact(Aq _ _).alloc (Ak _) _
  have hpX1:=A0 V1 (.cells #[.int .i64 x1,.int .i64 y1] 33);rw[hX1] at hpX1;have hb1X:=hb1.trans (hbX1.mono hb1.size);have hB1:Below (w.heap.size+2) W X1:=HBV.out.trans (hb1X.mono hVz);have hXz:w.heap.size+2<=X1.heap.size:=Al hVz hb1X.size;obtain⟨s0,s1,o0,o1⟩:=HCell.out X1 hB1;have H2:=HN.out X1 (HLow.out X1 hB1);obtain⟨L,hL⟩:∃L,Ip zs=L:=⟨_,rfl⟩;rw[hL] at H2;have HL:=Ax hL;have H2:=Ax H2;have HX1:=Ax hX1;have HPl1:=Ax hpX1;have HB1:=Ax hB1;clear hb1 hX1 hbX1 hpX1 hb1X hB1 hL H1 HN hVz;go_upto_region 4 with fail
  (try rw[HX1.out])
  clear HX1;go_wp2_with fail;refine H2.out.mono ?_;rintro e V2 ⟨nv,rfl,hT,hb2⟩;obtain⟨hLl,na,nc,rfl,hTc⟩:=hT;have HTc:=Ax hTc;have HBV2:=Ax (HB1.out.trans (hb2.mono hXz));have HPl2:=Ax ((hb2.block _ (Ay HPl1.out)).trans HPl1.out);have hV2z:w.heap.size+2<=V2.heap.size:=Al hXz hb2.size;clear hb2 hTc H2 HB1 HPl1 s0 s1 o0 o1 hXz;go_wp2_with fail
  go_loopw [47] (fun v47 wr=>∃(i:Nat),i<=L.length/\v47= .int .i64 i/\Hid (Below V2.heap.size V2 wr/\∀j (h:j<L.length),j<i->(L[j]==on)=false)) (fun v47 _=>L.length - (intOf v47).toNat)
  case atStart=>exact⟨0,Nat.zero_le _,rfl,Aq _ V2,fun j _ h=>absurd h (Nat.not_lt_zero _)⟩
  obtain⟨wo,rfl⟩:∃wo:World,wo=wr:=⟨_,rfl⟩;obtain⟨i,hi,rfl,hq⟩:=hrel;obtain⟨hbq,hno⟩:=hq.out;have hbo:Below (w.heap.size+2) W wo:=HBV2.out.trans (hbq.mono hV2z);obtain⟨s0,s1,o0,o1⟩:=HCell.out wo hbo;by_cases hiL:i<L.length
  ·obtain⟨b,off,rfl,hc⟩:=HTc.out i hiL;have hc:=A6 hbq hc;have HNx:=fun he=>Ax (gQ (p:=fun x=>x==on) hno hiL he)
   obtain⟨x,hx⟩:∃x,L[i]=x:=⟨_,rfl⟩;simp only[hx] at hc HNx;have j0:(0:Int)<=(i:Int):=by omega
   have j1:(i:Int)<(L.length:Int):=by omega
   have j2:decide ((i:Int)<(L.length:Int))=true:=Am j1;have HBq:=Ax hbq;have HBo:=Ax hbo;by_cases he:(x==on)=true
   ·have HK':=HK wo (HLow.out wo hbo);clear hx hq hbq hno hbo HNx HK HO HS HCell;go_wp2_with fail;refine HK'.out.mono ?_;rintro e V3 ⟨rfl,hb3⟩;have HB3:=Ax ((HLow.out wo HBo.out).trans (hb3.mono (HLow.out wo HBo.out).size));clear hb3 HK';go_wp2_with fail;go_ret;exact⟨rfl,HB3.out⟩
   have he:(x==on)=false:=by simpa using he
   have HNx:=HNx he;have HR2:Hid (Below V2.heap.size V2 wo/\∀j (h:j<L.length),j<i+1->(L[j]==on)=false):=Ax ⟨HBq.out,HNx.out⟩;clear hx hq hbq hno hbo HNx HK HO HS HCell;go_wp2_with fail;go_roundw
   case rel=>exact⟨i+1,by omega,by go_num,HR2⟩
   case measure=>simp [intOf];omega
  obtain rfl:i=L.length:=by omega
  have j2:decide ((L.length:Int)<(L.length:Int))=false:=by simp
  have hmore:ofP ([(on,okd)]++vars++[(on,okd)]) sf zs=(a1,(x1,y1),e1):=by
   rw[iN (o:=(on,okd)) (fun n hn=>?_)]
   ·exact HP1.out
   rw[HL.out] at hn;obtain⟨j,hj,rfl⟩:=List.getElem_of_mem hn
   have:=hno j hj hj
   rw[Af] at this ⊢;exact Ne.symm this
  have HMore:=Ax hmore;have HPlo:=Ax ((hbq.block _ (Ay HPl2.out)).trans HPl2.out)
  have HTo:=Ax (show ∀j (h:j<L.length),∃b off,na=some ⟨b,off,none⟩/\wo.cell? ⟨b,off+j,none⟩=some (.string ⟨L[j].toArray⟩) from fun j h=>by
   obtain⟨b,off,e,hc⟩:=HTc.out j h
   exact⟨b,off,e,A6 hbq hc⟩)
  have hoz:w.heap.size+2<=wo.heap.size:=Al hV2z hbq.size;have HBo:=Ax hbo;clear hq hbq hno hbo hmore HPl2 HTc HBV2 hV2z;go_upto_region 11 with fail
  have HSrc:Hid (∀V,Below (w.heap.size+2) W V->((Value.slice sa n sc= .slice none 0 0/\n=0/\Ej vars=[])\/∃ad c',Value.slice sa n sc= .slice (some ad) n c'/\(Ej vars).length=n*2/\∀j u,(Ej vars)[j]? =some u->V.cell? (ad.add j)=some u)):=Ax fun V hV=>by
   have:=HS.out.src (HLow.out V hV)
   rw[Hn.out] at this;exact this
  obtain⟨i0,hi0,hz0,hz1,hz2⟩:=K6;have Hi0:=Ax hi0;have Hy0:=Ax hz0;have Hy1:=Ax hz1;have Hy2:=Ax hz2;obtain⟨wd,hwd⟩:∃W,wo.drew=W:=⟨_,rfl⟩;have hbd:Below wo.heap.size wo wd:=by rw[←hwd];exact(Aq _ _).drew
  have HBd:=Ax (HBo.out.trans (hbd.mono hoz));have hdz:w.heap.size+2<=wd.heap.size:=Al hoz hbd.size;have HPld:=Ax ((hbd.block _ (Ay HPlo.out)).trans HPlo.out)
  have HTd:=Ax (show ∀j (h:j<L.length),∃b off,na=some ⟨b,off,none⟩/\wd.cell? ⟨b,off+j,none⟩=some (.string ⟨L[j].toArray⟩) from fun j h=>by
   obtain⟨b,off,e,hc⟩:=HTo.out j h
   exact⟨b,off,e,A6 hbd hc⟩)
  have HWD:=Ax hwd;clear hi0 hz0 hz1 hz2 hwd hbd HPlo HTo;refine wp_region_noPanic ?_;refine wp_region_held_drew (S:=fun V=>V.cell? ⟨w.heap.size,0,none⟩=some (.slice sa n sc)/\V.cell? ⟨w.heap.size,1,none⟩=some (.int .u8 sf)/\V.cell? ⟨w.heap.size+1,0,none⟩=some (.string ⟨on.toArray⟩)/\V.cell? ⟨w.heap.size+1,1,none⟩=some (.int .u8 okd)) nT ?_ (fun hHeld=>?_)
  ·exact HCell.out _ HBo.out.drew
  rw[HWD.out] at hHeld ⊢;clear HWD HBo;refine wpAnyH_take (i:=0) (oi:=⟨some 57,_,_,_,_,_⟩) (v:=?_) rfl nT nT nT (fun _ _ _ h=>h) (Or.inl ⟨by rfl,?_⟩) nX ?_;rotate_left
  ·(intro w hSw;(try dsimp only at hSw);(first|(go_simp;done)|(go_simp;with_reducible rfl)))
  try simp only[Act.put,Ac,Ad,Ae]
  refine wpAnyH_take (i:=2) (oi:=⟨some 59,_,_,_,_,_⟩) (v:=?_) rfl nT nT nT (fun _ _ _ h=>h) (Or.inl ⟨by rfl,?_⟩) nX ?_;rotate_left
  ·(intro w hSw;(try dsimp only at hSw);(first|(go_simp;done)|(go_simp;with_reducible rfl)))
  try simp only[Act.put,Ac,Ad,Ae]
  refine wpAnyH_take (i:=3) (oi:=⟨some 60,_,_,_,_,_⟩) (v:=?_) rfl nT nT nT (fun _ _ _ h=>h) (Or.inl ⟨by rfl,?_⟩) nX ?_;rotate_left
  ·(intro w hSw;(try dsimp only at hSw);(first|(go_simp;done)|(go_simp;with_reducible rfl)))
  try simp only[Act.put,Ac,Ad,Ae]
  refine wpAnyH_take (i:=5) (oi:=⟨some 62,_,_,_,_,_⟩) (v:=?_) rfl nT nT nT (fun _ _ _ h=>h) (Or.inl ⟨by rfl,?_⟩) nX ?_;rotate_left
  ·(intro w hSw;(try dsimp only at hSw);(first|(go_simp;done)|(go_simp;with_reducible rfl)))
  try simp only[Act.put,Ac,Ad,Ae]
  refine wpAnyH_take (i:=8) (oi:=⟨some 65,_,_,_,_,_⟩) (v:=?_) rfl nT nT nT (fun _ _ _ h=>h) (Or.inl ⟨by rfl,?_⟩) nX ?_;rotate_left
  ·(intro w hSw;(try dsimp only at hSw);(first|(go_simp;done)|(go_simp;with_reducible rfl)))
  try simp only[Act.put,Ac,Ad,Ae]
  refine wpAnyH_take (i:=9) (oi:=⟨some 66,_,_,_,_,_⟩) (v:=?_) rfl nT nT nT (fun _ _ _ h=>h) (Or.inl ⟨by rfl,?_⟩) nX ?_;rotate_left
  ·(intro w hSw;(try dsimp only at hSw);(first|(go_simp;done)|(go_simp;with_reducible rfl)))
  try simp only[Act.put,Ac,Ad,Ae]
  refine Dy (Inv:=Ey wd.heap.size n wd 71 59 [.string ⟨on.toArray⟩,.int .u8 okd] (Ej vars) #[.slice none 0 0,.int .u8 0] (.int .u8 sf)) 6 [1,4,6,7,11,10] [some 58,some 61,some 63,some 64,some 15,some 67] [[],[0],[],[1,2],[],[3]] [false,false,false,false,false,true] nT (fun _ _ _ _ _ h=>h) nT (fun _ _ _ hI=>HCell.out _ (HBd.out.trans (hI.low.mono hdz))) (Ey.start _ rfl) ?_ ?_
  ·refine lt6 ?_ ?_ ?_ ?_ ?_ ?_
   ·rw[Ao nV];refine N3.mk (i:=1) (o:=⟨some 58,_,_,_,_,_⟩) rfl rfl rfl ?_;intro d' u V hd hu hdj hdep hI K hK;obtain⟨x0,x1,x2,x3,x4,x5,rfl⟩:=Nm hu;obtain⟨b0,b1,b2,b3,b4,b5,rfl⟩:=Nm hd;have hbj:b0=false:=by simpa using hdj
    subst hbj;have HI:=Ax (Ey.setA hI (Ak _) rfl);exact zx5
   ·rw[Ao nV];refine N3.mk (i:=4) (o:=⟨some 61,_,_,_,_,_⟩) rfl rfl rfl ?_;intro d' u V hd hu hdj hdep hI K hK;obtain⟨x0,x1,x2,x3,x4,x5,rfl⟩:=Nm hu;obtain⟨b0,b1,b2,b3,b4,b5,rfl⟩:=Nm hd;have hbj:b1=false:=by simpa using hdj
    subst hbj;have hb0:b0=true:=by simpa using hdep
    subst hb0;obtain⟨g0,rfl,ho0⟩:=hI.2.2.1 rfl rfl;have hVz:wd.heap.size<=V.heap.size:=hI.2.1;have Hsrc:=Ax (HSrc.out V (HBd.out.trans (hI.1.mono hdz)));have Ho0:=Ax ho0;have HI:=Ax hI;clear hd hu hdj hdep hI ho0;refine Kw pF (.tmp 58) (.tmp 60) 57 pF wd.heap.size 71 i0 (.agg #[.string ⟨#[]⟩,.int .u8 0]) 2 24 Tryz.underlying57 Hi0.out Hy0.out Hy1.out Hy2.out rfl nV g0 1 1 [.string ⟨on.toArray⟩,.int .u8 okd] pF Ho0.out (.slice sa n sc) n (Ej vars) pF Hsrc.out (Tv _) oF nU hVz ?_;intro g cap w' hown hgrow hat;exact hK.out _ _ (Ey.setC HI.out (Ak _) nV hown hgrow hat)
   ·rw[Ao nV];refine N3.mk (i:=6) (o:=⟨some 63,_,_,_,_,_⟩) rfl rfl rfl ?_;intro d' u V hd hu hdj hdep hI K hK;obtain⟨x0,x1,x2,x3,x4,x5,rfl⟩:=Nm hu;obtain⟨b0,b1,b2,b3,b4,b5,rfl⟩:=Nm hd;have hbj:b2=false:=by simpa using hdj
    subst hbj;have HI:=Ax (Ey.setB hI (Ak _));exact zx5
   ·rw[Ao nV];refine N3.mk (i:=7) (o:=⟨some 64,_,_,_,_,_⟩) rfl rfl rfl ?_;intro d' u V hd hu hdj hdep hI K hK;obtain⟨x0,x1,x2,x3,x4,x5,rfl⟩:=Nm hu;obtain⟨b0,b1,b2,b3,b4,b5,rfl⟩:=Nm hd;have hbj:b3=false:=by simpa using hdj
    subst hbj;have hb12:b1=true/\b2=true:=by simpa using hdep
    obtain⟨rfl,rfl⟩:=hb12;obtain⟨g1,k1,rfl,ho1⟩:=(hI.2.2.2.1 rfl).2 rfl;obtain⟨g2,rfl,_,hk2,_⟩:=hI.2.2.2.2.1 rfl rfl;have hVz:wd.heap.size<=V.heap.size:=hI.2.1;have Ho1:=Ax ho1;have Hk2:=Ax hk2;have HI:=Ax hI;clear hd hu hdj hdep hI ho1 hk2;refine Kw pF (.tmp 61) (.tmp 63) 57 pF wd.heap.size 71 i0 (.agg #[.string ⟨#[]⟩,.int .u8 0]) 2 24 Tryz.underlying57 Hi0.out Hy0.out Hy1.out Hy2.out rfl nV g1 (1+n) k1 ([.string ⟨on.toArray⟩,.int .u8 okd]++Ej vars) pF Ho1.out (.slice (some ⟨g2,0,none⟩) 1 1) 1 [.string ⟨on.toArray⟩,.int .u8 okd] pF (.inr ⟨⟨g2,0,none⟩,1,rfl,rfl,World.news_of_block (cs:= #[.string ⟨on.toArray⟩,.int .u8 okd]) Hk2.out⟩) oH oF nU hVz ?_;intro g cap w' hown hgrow hat;exact hK.out _ _ (Ey.setD HI.out (Ak _) nV hown hgrow)
   ·rw[Ao nV];refine N3.mk (i:=11) (o:=⟨some 15,_,_,_,_,_⟩) rfl rfl rfl ?_;intro d' u V hd hu hdj hdep hI K hK;obtain⟨x0,x1,x2,x3,x4,x5,rfl⟩:=Nm hu;obtain⟨b0,b1,b2,b3,b4,b5,rfl⟩:=Nm hd;have hbj:b4=false:=by simpa using hdj
    subst hbj;have HI:=Ax (Ey.setE hI (Ak _));exact zx5
   rw[Ap nV];refine dO.mk 10 ⟨some 67,_,_,_,_,_⟩ rfl rfl rfl ?_;intro d' u V hd hu hdj hdep hI;obtain⟨x0,x1,x2,x3,x4,x5,rfl⟩:=Nm hu;obtain⟨b0,b1,b2,b3,b4,b5,rfl⟩:=Nm hd;have hb3:b3=true:=by simpa using hdep
   subst hb3;obtain⟨_,_,g,kc,rfl,_⟩:=hI.2.2.2.2.2.1 rfl;refine⟨.agg #[.slice (some ⟨g,0,none⟩) (1+n+1) kc,.int .u8 sf],Or.inl ⟨by rfl,fun W hSW=>?_⟩,Ey.setF hI⟩;clear hd hu hdj hdep hI;simp only[Bl,Act.put,Ac,Ad,Ae]
   (try dsimp only at hSW)
   (first|(go_simp;done)|(go_simp;with_reducible rfl))
  intro u V3 hu hI;obtain⟨u0,u1,u2,u3,u4,u5,rfl⟩:=Nm hu;obtain⟨hlow,hlz,_,_,_,h6,h7,h8⟩:=hI;obtain⟨_,_,g3,k3,rfl,ho3⟩:=h6 rfl;obtain⟨p,rfl,hp,hpb⟩:=h7 rfl;obtain⟨_,rfl⟩:=h8 rfl;obtain⟨f0,f1,ff⟩:=Be hpb;have ff0:=ff 0;have ff1:=ff 1;obtain⟨Z,hZ⟩:∃Z,(V3.setCell ⟨p,0,none⟩ (.slice (some ⟨g3,0,none⟩) (1+n+1) k3)).setCell ⟨p,1,none⟩ (.int .u8 sf)=Z:=⟨_,rfl⟩;have hbZ:Below wd.heap.size wd Z:=by rw[←hZ];exact(hlow.setCell hp _).setCell hp _
  have honly:A8 [p] V3 Z:=by rw[←hZ];exact((A8.refl [p] V3).setCell (.inl nW) _).setCell (.inl nW) _
  have hrowZ:=Bh ho3 honly (fun q hq hm=>by
   simp only[List.mem_singleton] at hm;subst hm
   exact Bf ho3 hpb nV hq)
  have hboxZ:Z.heap[p]? =some (.cells #[.slice (some ⟨g3,0,none⟩) (1+n+1) k3,.int .u8 sf] 59 (0,0)):=by
   rw[←hZ];exact Joins.block_setCell (Joins.block_setCell hpb (i:=0) _) (i:=1) _
  have hBZ:=HBd.out.trans (hbZ.mono hdz);have hlen:([(on,okd)]++vars++[(on,okd)]).length=1+n+1:=by simp [Hn.out];omega
  have hsl:Nj Z (.slice (some ⟨g3,0,none⟩) ([(on,okd)]++vars++[(on,okd)]).length k3) ([(on,okd)]++vars++[(on,okd)]):=by
   refine Nj.of_row (B:=wd.heap.size) (by rw[hlen];omega) ?_;rw[hlen,K7,K7];exact hrowZ
  have H3:=HO.out Z (HLow.out Z hBZ) (some ⟨g3,0,none⟩) k3 _ hsl (fun y hy=>by
   rcases List.mem_append.1 hy with hy|hy
   ·rcases List.mem_append.1 hy with hy|hy
    ·simp only[List.mem_singleton] at hy;subst hy;exact hok
    exact Hv0.out y hy
   simp only[List.mem_singleton] at hy;subst hy;exact hok)
  rw[HMore.out,hlen] at H3;unfold T6 at H3;simp only at H3;have H3:=Ax H3;have HBZ:=Ax hBZ;have HZ:=Ax hZ;have hzz:w.heap.size+2<=Z.heap.size:=Al hdz hbZ.size;have HPlZ:=Ax ((hbZ.block _ (Ay HPld.out)).trans HPld.out)
  have HTZ:=Ax (show ∀j (h:j<L.length),∃b off,na=some ⟨b,off,none⟩/\Z.cell? ⟨b,off+j,none⟩=some (.string ⟨L[j].toArray⟩) from fun j h=>by
   obtain⟨b,off,e,hc⟩:=HTd.out j h
   exact⟨b,off,e,A6 hbZ hc⟩)
  have HbxZ:=Ax hboxZ;clear hu hlow hlz h6 h7 h8 hp hpb ff ho3 hZ hbZ honly hrowZ hboxZ hBZ hsl HPld HTd HSrc Hi0 Hy0 Hy1 Hy2 HBd hdz;simp only[Bl,Act.put,Ac,Ad,Ae];refine wpAnyH_ready (rs:=[12]) nT nW ?_;refine AllReadyH.cons (o:=⟨none,_,_,_,_,_⟩) (rs:=[]) rfl (fun K hK=>?_) AllReadyH.nil
  go_simp
  try go_wp2_with fail
  rw[HZ.out];clear hHeld f0 f1 ff0 ff1;refine hK.out _ _ ?_ (fun hHeld=>?_)
  ·exact HCell.out _ HBZ.out
  clear hK K HZ
  try simp only[Act.put,Ac,Ad,Ae]
  refine wpAnyH_done nT ?_ _;refine NoPanic.normal ?_;clear hHeld;obtain⟨z0,z1,_⟩:=Be HbxZ.out;go_wp2_with fail;refine H3.out.mono ?_;rintro e V4 ⟨rfl,hb4⟩;obtain⟨X4,hX4⟩:∃X,V4.alloc (.cells #[.int .i64 x1,.int .i64 y1] 33)=X:=⟨_,rfl⟩;have hbX4:Below V4.heap.size V4 X4:=by rw[←hX4];exact(Aq _ _).alloc (Ak _) _
  have hpX4:=A0 V4 (.cells #[.int .i64 x1,.int .i64 y1] 33);rw[hX4] at hpX4;have hb4X:=hb4.trans (hbX4.mono hb4.size);have HB4:=Ax (HBZ.out.trans (hb4X.mono hzz));have h4z:w.heap.size+2<=X4.heap.size:=Al hzz hb4X.size;obtain⟨q0,q1,_⟩:=Be ((hb4X.block _ (Ay HPlZ.out)).trans HPlZ.out);obtain⟨r0,r1,_⟩:=Be hpX4
  have HT4:=Ax (show ∀j (h:j<L.length),∃b off,na=some ⟨b,off,none⟩/\X4.cell? ⟨b,off+j,none⟩=some (.string ⟨L[j].toArray⟩) from fun j h=>by
   obtain⟨b,off,e,hc⟩:=HTZ.out j h
   exact⟨b,off,e,A6 hb4X hc⟩)
  have HX4:=Ax hX4;clear hb4 hX4 hbX4 hpX4 hb4X HPlZ HTZ HbxZ HBZ H3 z0 z1;go_upto_region 13 with fail
  (try rw[HX4.out])
  clear HX4;have t1:(a1==a1)=true:=beq_self_eq_true _;have t2:(x1==x1)=true:=beq_self_eq_true _;have t3:(y1==y1)=true:=beq_self_eq_true _;have t4:(e1==e1)=true:=beq_self_eq_true _;by_cases he:e1=0
  ·subst he;have a5:decide ((5:Int)<a1)=false:=An (by have:=mJ (vars:=vars) (self:=sf) (l:=zs);rw[HP1.out] at this;simp only at this;omega);by_cases hL0:L.length=0
   ·have z0:((L.length:Int)==0)=true:=by rw[beq_iff_eq];omega
    have HK':=HK X4 (HLow.out X4 HB4.out);clear HK HO HS;exact zyr
   have z0:((L.length:Int)==0)=false:=by rw[Af];omega
   have z0':(L.length==0)=false:=by rw[Af];omega
   obtain⟨j,hj,hje⟩:=gB k L.length nU;obtain⟨b9,off9,rfl,hg⟩:=HT4.out j hj;obtain⟨gn,hgn⟩:∃x,L[j]=x:=⟨_,rfl⟩;rw[hgn] at hg;have Hgn:=Ax (show gn∈Ip zs by rw[HL.out,←hgn];exact List.getElem_mem hj);obtain⟨s0,s1,o0,o1⟩:=HCell.out X4 HB4.out;clear hgn HT4;go_upto_region 18 with fail
   obtain⟨X5,hX5⟩:∃X,X4.alloc (.cells #[.slice none 0 0,.int .u8 sf] 59)=X:=⟨_,rfl⟩;have hbX5:Below X4.heap.size X4 X5:=by rw[←hX5];exact(Aq _ _).alloc (Ak _) _
   have hF0:L4 X4 sf [] none 0 X5:=by rw[←hX5];exact L4.start X4 sf
   have HF0:Hid (L4 X4 sf [] none 0 X5):=Ax hF0;have HX5:=Ax hX5;clear hX5 hF0 q0 q1 r0 r1 t1 t2 t3 t4 a5;go_upto_region 19 with fail
   (try rw[HX5.out])
   obtain⟨s0,s1,o0,o1⟩:=HCell.out X5 (HB4.out.trans (hbX5.mono h4z));clear HX5 hbX5 z0 z0' hje hg;go_wp2_with fail
   go_loopw [128] (fun v128 wr=>∃(i:Nat) (F:List (List UInt8×Int)) (oa:Option Addr) (oc:Nat),i<=n/\v128= .int .i64 i/\Hid ((vars.take i).filter (fun x=>x.1 !=gn)=F)/\Hid (L4 X4 sf F oa oc wr)) (fun v128 _=>n - (intOf v128).toNat)
   case atStart=>exact⟨0,[],none,0,Nat.zero_le _,rfl,rfl,HF0⟩
   clear HF0 s0 s1 o0 o1;obtain⟨wo,rfl⟩:∃wo:World,wo=wr:=⟨_,rfl⟩;obtain⟨i,F,oa,oc,hi,rfl,hF,hq⟩:=hrel;have hw0:=hq.out;have hbo:Below (w.heap.size+2) W wo:=HB4.out.trans (hw0.below.mono h4z)
   have hFl:F.length<=40:=by
    rw[←hF.out];refine Al (List.length_filter_le _ _) ?_;simp;omega
   by_cases hin:i<n
   ·have hiv:i<vars.length:=by rw[Hn.out];exact hin
    obtain⟨_,a9,c9,ea,_,hcv⟩:=HS.out;obtain⟨b,off,eb,d0,d1⟩:=hcv i hiv;injection ea with ea _ _;subst ea;subst eb;have hlo:=HLow.out wo hbo;have d0:=A6 hlo d0;have d1:=A6 hlo d1
    have hst:(vars.take (i+1)).filter (fun x=>x.1 !=gn)=if(vars[i].1==gn)=true then F else F++[vars[i]]:=by
     rw[List.take_succ_eq_append_getElem hiv,List.filter_append,hF.out];by_cases e:(vars[i].1==gn)=true
     ·rw[Ap e,List.filter_cons_of_neg (by simp only[bne,e];decide)];simp
     have e':(vars[i].1==gn)=false:=by simpa using e
     rw[Ao e,List.filter_cons_of_pos (by simp only[bne,e'];decide)];rfl
    obtain⟨⟨xn,xk⟩,hx⟩:∃x,vars[i]=x:=⟨_,rfl⟩;rw[hx] at d0 d1 hst;simp only at d0 d1 hst;obtain⟨R1,hR1⟩:∃R,wo.alloc (.cells #[.string ⟨xn.toArray⟩,.int .u8 xk] 71)=R:=⟨_,rfl⟩;have hbR1:Below wo.heap.size wo R1:=by rw[←hR1];exact(Aq _ _).alloc (Ak _) _
    have hpR1:=A0 wo (.cells #[.string ⟨xn.toArray⟩,.int .u8 xk] 71);rw[hR1] at hpR1;have hf1:=hw0.keep hbR1;obtain⟨m0,m1,_⟩:=Be hpR1;obtain⟨f0,f1,ff⟩:=Be hf1.box;have j0:(0:Int)<=(i:Int):=by omega
    have j1:(i:Int)<(n:Int):=by omega
    have j2:decide ((i:Int)<(n:Int))=true:=Am j1;have Hst:=Ax hst;have HR1:=Ax hR1;have HF1:=Ax hf1;clear hx hst hR1 hbR1 hpR1 hf1 hq hw0 hbo hcv hlo ff HO HK;go_upto_region 22 with fail
    rw[HR1.out];clear HR1 d0 d1;by_cases he2:(xn==gn)=true
    ·have HH:Hid ((vars.take (i+1)).filter (fun x=>x.1 !=gn)=F):=Ax (by rw[Hst.out,Ap he2]);clear Hst hF;go_wp2_with fail;go_roundw
     case rel=>exact⟨i+1,F,oa,oc,by omega,by go_num,HH,HF1⟩
     case measure=>simp [intOf];omega
    have HH:Hid ((vars.take (i+1)).filter (fun x=>x.1 !=gn)=F++[(xn,xk)]):=Ax (by rw[Hst.out,Ao he2]);have he2:(xn==gn)=false:=by simpa using he2
    obtain⟨i0,hi0,hz0,hz1,hz2⟩:=K6;have Hi0:=Ax hi0;have Hy0:=Ax hz0;have Hy1:=Ax hz1;have Hy2:=Ax hz2;have HF2:=Ax (HF1.out.keep ((Aq _ R1).alloc (Ak _) (.cells #[.string ⟨xn.toArray⟩,.int .u8 xk] 71)));have HN2:=Ax (A0 R1 (.cells #[.string ⟨xn.toArray⟩,.int .u8 xk] 71));have HZ2:Hid ((R1.alloc (.cells #[.string ⟨xn.toArray⟩,.int .u8 xk] 71)).heap.size=R1.heap.size+1):=Ax nW;have hs1:=HF1.out.size;clear Hst hF hi0 hz0 hz1 hz2
    go_wp2_with (first
     |(
      refine wpList_append_lies _ rfl (.tmp 137) (.tmp 139) _ rfl (X4.heap.size+1) 71 i0 (.agg #[.string ⟨#[]⟩,.int .u8 0]) 2 24 Tryz.underlying57 Hi0.out Hy0.out Hy1.out Hy2.out rfl nV (.slice oa F.length oc) F.length (Ej F) rfl HF2.out.row ⟨R1.heap.size,0,none⟩ 1 1 [.string ⟨xn.toArray⟩,.int .u8 xk] rfl rfl (World.news_of_block (cs:= #[.string ⟨xn.toArray⟩,.int .u8 xk]) HN2.out) oH nV oF nU (by rw[HZ2.out];omega) (R1.heap.size+1) HZ2.out ?_;intro g6 cap w6 hown6 hgrow6 hat6 hlt6;have HF6:=Ax (L4.lay (x:=(xn,xk)) HF2.out hown6 hgrow6);have hb6:=(hgrow6.block _ (Ay HF2.out.box) (Ne.symm (Bf HF2.out.row HF2.out.box nV))).trans HF2.out.box;obtain⟨_,_,ff6⟩:=Be hb6;obtain⟨f60,_,_⟩:=Be hb6;have ff60:=ff6 0
      clear hown6 hgrow6 hat6 hlt6 hb6 ff6 HN2 HZ2 hs1 HF1 HF2 Hi0 Hy0 Hy1 Hy2 m0 m1 f0 f1))
    go_roundw
    case rel=>exact⟨i+1,by omega,by go_num,F++[(xn,xk)],HH,some ⟨g6,0,none⟩,cap,by simpa using HF6⟩
    case measure=>simp [intOf];omega
   obtain rfl:i=n:=by omega
   have hFe:vars.filter (fun x=>x.1 !=gn)=F:=by
    have:=hF.out
    rwa [List.take_of_length_le (by rw[Hn.out];exact Ak _)] at this
   have H5:=HO.out wo (HLow.out wo hbo) oa oc F (Nj.of_row nU hw0.row) (fun y hy=>by
    rw[←hFe] at hy
    exact Hv0.out y ((List.mem_filter.1 hy).1))
   have h11:=gV (vars:=vars) (self:=sf) (l:=zs) (by rw[HP1.out]) Hgn.out;rw[hFe] at h11;obtain⟨⟨a4,⟨x4,y4⟩,e4⟩,hp4⟩:∃p,ofP F sf zs=p:=⟨_,rfl⟩;rw[hp4] at H5 h11;simp only at h11;subst h11;unfold T6 at H5;simp only at H5;obtain⟨f0,f1,_⟩:=Be hw0.box;have j2:decide ((i:Int)<(i:Int))=false:=by simp
   have hoz:w.heap.size+2<=wo.heap.size:=Al h4z hw0.below.size;have H5:=Ax H5;have HBo:=Ax hbo;clear hF hq hw0 hFe hp4 hbo HO HS;go_wp2_with fail;refine H5.out.mono ?_;rintro e V5 ⟨rfl,hb5⟩;obtain⟨X6,hX6⟩:∃X,V5.alloc (.cells #[.int .i64 x4,.int .i64 y4] 33)=X:=⟨_,rfl⟩;have hbX6:Below V5.heap.size V5 X6:=by rw[←hX6];exact(Aq _ _).alloc (Ak _) _
   have hB6:=HBo.out.trans ((hb5.trans (hbX6.mono hb5.size)).mono hoz);have HK':=HK X6 (HLow.out X6 hB6);have HB6:=Ax (HLow.out X6 hB6);have HX6:=Ax hX6;clear hb5 hX6 hbX6 hB6 H5 HK f0 f1;go_upto_region 26 with fail
   (try rw[HX6.out])
   clear HX6;go_wp2_with fail;refine HK'.out.mono ?_;rintro e V7 ⟨rfl,hb7⟩;have HB7:=Ax (HB6.out.trans (hb7.mono HB6.out.size));clear hb7 HK';go_wp2_with fail;go_ret;exact⟨rfl,HB7.out⟩
  have ha:a1=0:=by have:=iY (vars:=vars) (self:=sf) (l:=zs) (by rw[HP1.out];exact he);rw[HP1.out] at this;exact this
  subst ha;have te:(e1==0)=false:=Af.2 he;have te2:(e1 !=0)=true:=by simp [bne,te]
  have HK':=HK X4 (HLow.out X4 HB4.out);clear HK HO HS;by_cases hL0:L.length=0
  ·have z0:((L.length:Int)==0)=true:=by rw[beq_iff_eq];omega
   exact zyr
  have z0:((L.length:Int)==0)=false:=by rw[Af];omega
  exact zyr
end Go.Proofs.YtgfakdobajgnfaaGreatDoor
