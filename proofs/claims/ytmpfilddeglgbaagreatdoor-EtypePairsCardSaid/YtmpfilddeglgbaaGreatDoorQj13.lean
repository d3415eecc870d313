import Derived.Test.YtmpfilddeglgbaaGreatDoorQj12
set_option maxRecDepth 100000
set_option maxHeartbeats 16000000
namespace Go.Proofs.YtmpfilddeglgbaaGreatDoor
open Go Go.RowKit Go.Lib
def L5 (k:Int):Int×Int:=if 5<k then(0,8) else(k,0)
def Mk (h:Hd)(vars:List (List UInt8×Int))(self:Int):Int×Int:=
 if h.op=1 then(h.v.1,0) else if h.op=2 then(match Ma h.name vars with|some k=>L5 k|none=>(0,11)) else if self=0 then(0,11) else L5 self
theorem Wg (n:List UInt8):∀l:List (List UInt8×Int),(∃i,∃h:i<l.length,Pw l (fun x=>x.1==n)=(i:Int)/\Ma n l=some l[i].2)\/(Pw l (fun x=>x.1==n)= -1/\Ma n l=none)
 |[]=> .inr ⟨rfl,rfl⟩
 |x::l=>by
  by_cases hx:(x.1==n)=true
  ·refine .inl ⟨0,by simp,?_,by rw[Ma,Ap hx];rfl⟩;exact Wx (k:=0) tH (fun j _ h=>absurd h (Nat.not_lt_zero _)) hx
  have hx':(x.1==n)=false:=by simpa using hx
  have hi:(x::l).findIdx? (fun x=>x.1==n)=(l.findIdx? (fun x=>x.1==n)).map (· +1):=by rw[List.findIdx?_cons,hx'];rfl
  have hf:Ma n (x::l)=Ma n l:=by rw[Ma,Ao hx]
  unfold Pw;rw[hi,hf];rcases Wg n l with ⟨i,h,h1,h2⟩|⟨h1,h2⟩
  ·unfold Pw at h1;cases hc:l.findIdx? (fun x=>x.1==n) with
   |none=>rw[hc] at h1;simp only at h1;omega
   |some j=>
    rw[hc] at h1;simp only at h1;refine .inl ⟨i+1,by simpa using h,?_,h2⟩
    show((j+1:Nat):Int)=_
    omega
  unfold Pw at h1;cases hc:l.findIdx? (fun x=>x.1==n) with
  |none=>exact .inr ⟨rfl,h2⟩
  |some j=>rw[hc] at h1;simp only at h1;omega
theorem gO (x:List UInt8×Int)(n:List UInt8)(b:Nat)(w:World)(hc:w.cell? ⟨b,4,none⟩=some (.string ⟨n.toArray⟩)):Calls Tryz.prog 76 #[.agg #[.string ⟨x.1.toArray⟩,.int .u8 x.2],.pointer (some ⟨b,0,none⟩)] w fun e w'=>e= .returned (.bool (x.1==n))/\Below w.heap.size w w':=by
 obtain⟨xn,xk⟩:=x;have hlt:=Ca hc;go_enter Tryz.func76,Tryz.ntmps76;go_wp2_with fail;go_ret;exact⟨rfl,(Aq _ _).alloc (Ak _) _⟩
theorem nL (op vk vn:Int)(vs nm:List UInt8)(ka:Option Addr)(kn kc:Nat)(ln cl:Int){va:Option Addr}{vc:Nat}{vars:List (List UInt8×Int)}(self:Int)(w:World)(hv:Zq w (.slice va vars.length vc) vars):
 Calls Tryz.prog 43 #[.agg #[.int .u8 op,.int .u8 vk,.int .i64 vn,.string ⟨vs.toArray⟩,.string ⟨nm.toArray⟩,.slice ka kn kc,.int .i64 ln,.int .i64 cl],.agg #[.slice va vars.length vc,.int .u8 self]] w fun e w'=>
  e= .returned (.tuple #[.int .u8 (Mk ⟨op,(vk,vn,vs),nm,ln,cl⟩ vars self).1,.int .i64 (Mk ⟨op,(vk,vn,vs),nm,ln,cl⟩ vars self).2])/\Below w.heap.size w w':=by
 have hlm:=hv.1;obtain⟨W1,hW1⟩:∃W1,w.alloc (.cells #[.int .u8 op,.int .u8 vk,.int .i64 vn,.string ⟨vs.toArray⟩,.string ⟨nm.toArray⟩,.slice ka kn kc,.int .i64 ln,.int .i64 cl] 38)=W1:=⟨_,rfl⟩;have hp1:=A1 w (.cells #[.int .u8 op,.int .u8 vk,.int .i64 vn,.string ⟨vs.toArray⟩,.string ⟨nm.toArray⟩,.slice ka kn kc,.int .i64 ln,.int .i64 cl] 38);have hb1:Below w.heap.size w W1:=by rw[←hW1];exact(Aq _ w).alloc (Ak _) _
 have hz1:W1.heap.size=w.heap.size+1:=by rw[←hW1];simp
 rw[hW1] at hp1;obtain⟨W2,hW2⟩:∃W2,W1.alloc (.cells #[.slice va vars.length vc,.int .u8 self] 45)=W2:=⟨_,rfl⟩;have hp2:=A1 W1 (.cells #[.slice va vars.length vc,.int .u8 self] 45);have hb2:Below W1.heap.size W1 W2:=by rw[←hW2];exact(Aq _ W1).alloc (Ak _) _
 rw[hW2] at hp2;rw[hz1] at hp2;have hp1':=(hb2.block _ (Ay hp1)).trans hp1;obtain⟨n0,n1,n2,n3,n4,n5,n6,n7,_⟩:=B1 hp1';obtain⟨s0,s1,_⟩:=Su hp2;have hb:=hb1.trans (hb2.mono hb1.size);have HB:=Ax hb;have HW1:=Ax hW1;have HW2:=Ax hW2
 have Hi:=Ax (dB 76 #[.pointer (some ⟨w.heap.size,0,none⟩)] (fun x=>x.1==nm) (enters_of Tryz.func76 tF rfl) vars W2 (hv.below hb)
  fun t V _ hV=>gO t nm w.heap.size V (Ba hV n4))
 have HX:=Ax (Wg nm vars);have Hvr:=Ax (hv.below hb).2;have hsz:=Ay hp2;clear hW1 hp1 hb1 hz1 hW2 hp2 hb2 hp1' hb hv;unfold Mk;simp only;by_cases h1:op=1
 ·subst h1;rw[Ap rfl];clear Hi HX Hvr;exact zyq
 have g1:(op==1)=false:=Af.2 h1;rw[Ao h1];by_cases h2:op=2
 ·subst h2;rw[Ap rfl];rcases HX.out with ⟨i,hi,e1,e2⟩|⟨e1,e2⟩
  ·rw[e1] at Hi;rw[e2];simp only;obtain⟨a',c',ev,hcell⟩:=Hvr.out;injection ev with ev1 _ ev2;subst ev1 ev2;obtain⟨bv,ov,rfl,_,c1⟩:=hcell i hi;obtain⟨k,hk⟩:∃k,vars[i].2=k:=⟨_,rfl⟩;rw[hk] at c1 ⊢;have j0:(0:Int)<=(i:Int):=by omega
   have j1:(i:Int)<(vars.length:Int):=by omega
   have j2:decide ((i:Int)<0)=false:=An tE;have Hs0:=Ax s0;have Hc1:=Ax c1;clear HX Hvr e1 e2 hcell hk c1 g1 h1;unfold L5;by_cases h5:5<k
   all_goals
    first
     |(have g5:decide (5<k)=true:=Am h5;rw[Ap h5];clear h5)
     |(have g5:decide (5<k)=false:=An h5;rw[Ao h5];clear h5)
    go_enter Tryz.func43,Tryz.ntmps43;go_upto_region 1 with fail
    rw[HW1.out,HW2.out];clear HW1 HW2;go_wp2_with fail;refine Hi.out.mono ?_;rintro e V ⟨rfl,hb⟩;have s0:=Ba hb Hs0.out;have c1:=Ba hb Hc1.out;have HB2:=Ax (HB.out.trans (hb.mono HB.out.size));clear hb Hi HB;go_wp2_with fail;go_ret2;exact⟨rfl,HB2.out⟩
  rw[e1] at Hi;rw[e2];simp only;clear HX Hvr e1 e2 g1 h1;go_enter Tryz.func43,Tryz.ntmps43;go_upto_region 1 with fail
  rw[HW1.out,HW2.out];clear HW1 HW2;go_wp2_with fail;refine Hi.out.mono ?_;rintro e V ⟨rfl,hb⟩;have HB2:=Ax (HB.out.trans (hb.mono HB.out.size));clear hb Hi HB;go_wp2_with fail;go_ret2;exact⟨rfl,HB2.out⟩
 have g2:(op==2)=false:=Af.2 h2;rw[Ao h2];clear Hi HX Hvr h1 h2;by_cases h0:self=0
 ·subst h0;rw[Ap rfl];exact zyq
 have g0:(self==0)=false:=Af.2 h0;rw[Ao h0];unfold L5;clear h0;by_cases h5:5<self
 ·have g5:decide (5<self)=true:=Am h5;rw[Ap h5];clear h5;exact zyq
 have g5:decide (5<self)=false:=An h5;rw[Ao h5];clear h5;exact zyq
open Go Go.RowKit Go.Lib
def Fa (op:Int)(ks:List Int):Int:=match J1 op with
 |some c=>if Qw c.1 ks then c.2 else 255
 |none=>
  if op=7\/op=8 then(if Ml (ks.getD 0 0) (ks.getD 1 0) then 4 else 255)
  else if 9<=op/\op<=12 then(if Ml (ks.getD 0 0) (ks.getD 1 0) && (Fx 0 ks !=255||Qw 3 ks) then 4 else 255)
  else if op=26 then(if Qw 4 [ks.getD 0 0] && (ks.getD 1 0==ks.getD 2 0||ks.getD 1 0==0||ks.getD 2 0==0) then max (ks.getD 1 0) (ks.getD 2 0) else 255)
  else Fx 0 ks
open Go Go.RowKit Go.Lib Go.Sort Go.Shelf
def D4 (op:Int):Nat×Nat:=if(4<=op/\op<=5)\/(7<=op/\op<=16)\/op=21\/op=24\/op=25 then(2,2) else if op=6\/op=17\/op=18\/op=22\/op=23 then(1,1)
 else if op=19\/op=20 then(1,8) else if op=26 then(3,3) else(0,0)
structure Xu (h:Hd)(k:Nat):Prop where
 few:(D4 h.op).1<=k
 many:k<=(D4 h.op).2
 op1:1<=h.op
 op2:h.op<=26
 line:1<=h.line
 col:1<=h.col
 v:h.op≠1->h.v=v0
 name:h.op=2->I1 h.name=true
 anon:h.op≠2->h.name=[]
theorem Je {h:Hd}{k:Nat}(o:Int)(ho:h.op=o)(hk:(D4 o).1<=k/\k<=(D4 o).2/\1<=o/\o<=26)(hl:1<=h.line)(hc:1<=h.col)(hv:o≠1->h.v=v0)(hn:o=2->I1 h.name=true)(ha:o≠2->h.name=[]):Xu h k:=by
 subst ho;exact⟨hk.1,hk.2.1,hk.2.2.1,hk.2.2.2,hl,hc,hv,hn,ha⟩
theorem Nh {r:List Tkn}:∀{l:List (List UInt8×Int)},Be r l≠0->Be r l∈l.map Prod.snd
 |[],h=>absurd rfl h
 |(s,o)::l,h=>by
  unfold Be at h ⊢;by_cases e:isH s r=true
  ·rw[Ap e];exact Ai
  rw[Ao e] at h ⊢;exact Aj _ (Nh h)
theorem Oe (n:Nat):∀o∈(Bp n).map Prod.snd,(4<=o/\o<=5)\/(7<=o/\o<=16):=by
 unfold Bp
 repeat' split
 all_goals first|decide|(intro o ho;cases ho)
theorem Ud {l:List UInt8}{ts:List Tkn}(h:Ev l= .ok ts){a:Ex}{q:List Tkn}(hx:A9 0 0 ts= .ok (a,q)):a.All Xu:=by
 refine Wv (P:=Xu) (W:=fun t=>Qp t.w/\1<=t.line/\1<=t.col) ?_ ?_ ?_ ?_ (.lvl 0) 0 ts vB trivial (fun t ht=>⟨Qg h t ht,(Ln h t ht).1,(Ln h t ht).2.2.1⟩) a q hx
 ·rintro t hd ⟨hf,hl,hc⟩ he;unfold B8 at he;by_cases h1:t.w.k=4\/t.w.k=5\/t.w.k=6
  ·rw[Ap h1] at he;injection he with he;subst he;exact Je 1 rfl tG hl hc (fun e=>absurd rfl e) (fun e=>absurd e tG) fun _=>rfl
  rw[Ao h1] at he;by_cases h2:t.w.k=2
  ·rw[Ap h2] at he;injection he with he;subst he;refine Je 2 rfl tG hl hc (fun _=>rfl) (fun _=>?_) fun e=>absurd rfl e
   show I1 t.w.t=true;cases hf with
   |var _ ht _=>exact ht
   |name h _ _=>omega
   |self h _ _=>omega
   |num h _ _=>omega
   |str h _ _ _=>omega
   |sym h _ _=>omega
   |sign h _ _=>omega
  rw[Ao h2] at he;by_cases h3:t.w.k=3
  ·rw[Ap h3] at he;injection he with he;subst he;exact Je 3 rfl tG hl hc (fun _=>rfl) (fun e=>absurd e tG) fun _=>rfl
  rw[Ao h3] at he;by_cases h4:t.w.k=1
  ·rw[Ap h4] at he;cases hcl:De t.w.t with
   |some c=>rw[hcl] at he;cases he
   |none=>
    rw[hcl] at he;cases hll:Lf t.w.t with
    |none=>rw[hll] at he;cases he
    |some v=>
     rw[hll] at he;injection he with he;subst he;exact Je 1 rfl tG hl hc (fun e=>absurd rfl e) (fun e=>absurd e tG) fun _=>rfl
  rw[Ao h4] at he;cases he
 ·rintro n t hn ⟨hf,hl,hc⟩;rcases hn with rfl|rfl
  ·exact Je 6 rfl tG hl hc (fun _=>rfl) (fun e=>absurd e tG) fun _=>rfl
  exact Je 17 rfl tG hl hc (fun _=>rfl) (fun e=>absurd e tG) fun _=>rfl
 ·rintro n t r ⟨hf,hl,hc⟩ hz;have ho:=Oe n _ (Nh hz);obtain⟨o,hoo⟩:∃o,Be (t::r) (Bp n)=o:=⟨_,rfl⟩;rw[hoo] at ho ⊢
  have hk:D4 o=(2,2):=by
   unfold D4;rw[Ap tE]
  refine⟨?_,?_,?_,?_,hl,hc,fun _=>rfl,fun e=>?_,fun _=>rfl⟩
  ·show(D4 o).1<=2
   rw[hk];decide
  ·show 2<=(D4 o).2;rw[hk];decide
  ·show 1<=o;omega
  ·show o<=26;omega
  have:o=2:=e
  omega
 rintro t c k ⟨hf,hl,hc⟩ he h1 h2;obtain⟨_,hcl,hln,hco,_⟩:=Pd he
 have hk:D4 c.op=(c.least,c.most)/\18<=c.op/\c.op<=26:=by
  unfold De at hcl
  repeat' split at hcl
  all_goals first|(injection hcl with hcl;injection hcl with e1 e2;injection e2 with e2 e3;rw[←e1,←e2,←e3];decide)|cases hcl
 refine⟨?_,?_,?_,?_,?_,?_,fun _=>rfl,fun e=>?_,fun _=>rfl⟩
 ·show(D4 c.op).1<=k
  rw[hk.1];exact h1
 ·show k<=(D4 c.op).2;rw[hk.1];exact h2
 ·show 1<=c.op;omega
 ·show c.op<=26;omega
 ·show 1<=c.line;omega
 ·show 1<=c.col;omega
 have:c.op=2:=e
 omega
open Go Go.RowKit Go.Lib Go.Sort Go.Shelf
def Ha (w:World)(b:Nat)(l:List Nat):Prop:=w.heap[b]? =some (.cells (Gq l).toArray 3 (0,0))
theorem Ha.cell {w:World}{b:Nat}{l:List Nat}(h:Ha w b l){i:Nat}{x:Nat}(hx:l[i]? =some x):w.cell? ⟨b,i,none⟩=some (.int .i64 (x:Int)):=by
 unfold Ha at h;simp only[World.cell?,h];simp [Gq,hx]
theorem Ha.frozen {w:World}{b:Nat}{l:List Nat}(h:Ha w b l)(i:Nat):w.frozen? ⟨b,i,none⟩=false:=by
 unfold Ha at h;simp only[World.frozen?,h];simp
theorem Ha.set {w:World}{b:Nat}{l:List Nat}(h:Ha w b l)(i x:Nat):Ha (w.setCell ⟨b,i,none⟩ (.int .i64 (x:Int))) b (l.set i x):=by
 unfold Ha at h ⊢;rw[A2 h];congr 2;apply Array.ext';simp [Gq,List.map_set]
theorem Ha.below {w w':World}{b:Nat}{l:List Nat}(h:Ha w b l)(hb:Below w.heap.size w w'):Ha w' b l:=(hb.block b (Ay h)).trans h
theorem Wk {l:List UInt8}{p:(Int×Int)×Int}(h:Bj l= .error p):p.2≠0:=by
 unfold Bj at h;cases hl:Ev l with
 |error e=>
  obtain⟨a,b,q⟩:=e;rw[hl] at h;injection h with h
  have:=((Lx _ l 1 1 (Ak _) tG).1 a b q hl).2.2
  rw[←h];show q≠0;omega
 |ok ts=>
  rw[hl] at h;simp only at h;cases hx:A9 0 0 ts with
  |error e=>
   obtain⟨er,q⟩:=e;rw[hx] at h;injection h with h
   have:=Zj (.lvl 0) 0 ts vB _ (show exE (.lvl 0) 0 ts=_ from hx)
   rw[←h];show er≠0;simp only at this;omega
  |ok x=>
   obtain⟨a,q⟩:=x;rw[hx] at h;simp only at h
   split at h
   ·injection h with h;rw[←h]
    show(7:Int)≠0
    decide
   split at h
   ·cases h
   injection h with h;rw[←h]
   show(4:Int)≠0
   decide
theorem D0 {l:List UInt8}{a:Ex}(h:Bj l= .ok a):∃ts,Ev l= .ok ts/\A9 0 0 ts= .ok (a,[])/\a.size<=60:=by
 unfold Bj at h;cases hl:Ev l with
 |error e=>rw[hl] at h;cases h
 |ok ts=>
  rw[hl] at h;simp only at h;cases hx:A9 0 0 ts with
  |error e=>rw[hx] at h;cases h
  |ok x=>
   obtain⟨b,q⟩:=x;rw[hx] at h;simp only at h
   split at h
   ·cases h
   rename_i h60
   split at h
   ·rename_i hq
    injection h with h;subst h;subst hq;exact⟨ts,rfl,hx,by omega⟩
   cases h
theorem kO {l:List UInt8}{a:Ex}(h:Bj l= .ok a):a.All Xu:=by
 obtain⟨ts,h1,h2,_⟩:=D0 h;exact Ud h1 h2
theorem nM (op:Int):(D4 op).2<=8:=by
 unfold D4
 repeat' split
 all_goals decide
theorem U4 {l:List UInt8}{a:Ex}(h:Bj l= .ok a):sN (a.flat 0):=fun n hn=>by
 have h1:=T3 a 0 (kO h) n hn;have h2:=h1.many;have h3:=nM n.h.op;omega
open Go Go.RowKit Go.Lib Go.Sort Go.Shelf
theorem Below.drewN' {B:Nat}{a:World}:∀(n:Nat) {w:World},Below B a w->Below B a (w.drewN n)
 |0,_,h=>h
 |n+1,_,h=>(Below.drewN' n h).drew
open Go Go.Lib
theorem Ir:∀(k:Nat) (l:List UInt8) (a b a' b':Int) (ts:List Tkn),l.length<=k->LX l a b= .ok ts->∃us,LX l a' b'= .ok us/\us.map Tkn.w=ts.map Tkn.w
 |k,l,a,b,a',b',ts,hk,h=>by
  refine Jh (P:=fun l=>l.length<=k->LX l a b= .ok ts->∃us,LX l a' b'= .ok us/\us.map Tkn.w=ts.map Tkn.w) l ?_ ?_ ?_ ?_ ?_ ?_ hk h
  ·rintro rfl _ h;rw[Iy] at h;injection h with h;subst h;exact⟨[],Iy _ _,rfl⟩
  ·rintro r rfl hk h;obtain⟨k,rfl⟩:∃j,k=j+1:=⟨k - 1,by rw[Aa] at hk;omega⟩;rw[Kl] at h ⊢;exact Ir k r _ _ _ _ ts uE h
  ·rintro r rfl hk h;obtain⟨k,rfl⟩:∃j,k=j+1:=⟨k - 1,by rw[Aa] at hk;omega⟩;rw[E8] at h ⊢;exact Ir k r _ _ _ _ ts uE h
  ·rintro r rfl hk h;obtain⟨k,rfl⟩:∃j,k=j+1:=⟨k - 1,by rw[Aa] at hk;omega⟩;have hp:=Fv (q:=Eo) (c:=59) (r:=r) tG;rw[L6] at h ⊢;exact Ir k _ _ _ _ _ ts tX h
  ·rintro c r e rfl hc hw hk h;rw[L7 hc hw] at h;cases h
  rintro c r w n rfl hc hw hk h;obtain⟨k,rfl⟩:∃j,k=j+1:=⟨k - 1,by rw[Aa] at hk;omega⟩;obtain⟨hn,hnl⟩:=Eg hw;rw[Dl hc hw] at h;cases hx:LX ((c::r).drop n) a (b+n) with
  |error e=>rw[hx] at h;cases h
  |ok vs=>
   rw[hx] at h;injection h with h;subst h;obtain⟨us,h1,h2⟩:=Ir k _ a (b+n) a' (b'+n) vs tX hx;refine⟨⟨w,a',b'⟩::us,?_,by simp [h2]⟩;rw[Dl hc hw,h1];rfl
theorem cE (r:List UInt8):Bh (40::r)= .ok (⟨7,[40],v0⟩,1):=by
 unfold Bh;simp only;rw[Ao tG,Ao tG,Ao tG,Ao tG,Ao (by rintro ⟨h,_⟩;exact absurd h tG)];unfold Es
 have h2:(40::r).take 2∉Ez:=by
  cases r with
  |nil=>decide
  |cons c r=>
   simp [Ez]
 rw[Ao h2,Ap (by rw[List.take_succ_cons,List.take_zero];decide)];rfl
theorem pG (a b:Int):LX [41] a b= .ok [⟨⟨7,[41],v0⟩,a,b⟩]:=rfl
theorem Qa (l r:List UInt8)(a b:Int):LX (40::(l++10::r)) a b=G5 ⟨⟨7,[40],v0⟩,a,b⟩ (F0 (LX l a (b+1)) (LX r (a+(l.count 10:Nat)+1) 1)):=by
 rw[Dl ⟨by decide,by decide,by decide⟩ (cE _),List.drop_one,List.tail_cons,P6 r _ l _ _ (Ak _)];rfl
def F1 (t:Tkn):Prop:=t.w=⟨7,[40],v0⟩
def Fq (t:Tkn):Prop:=t.w=⟨7,[41],v0⟩
theorem fQ {t:Tkn}(h:Fq t)(post:List Tkn):Xy (t::post):=fun s hs=>by
 unfold Fq at h
 show(decide (t.w.t=s) && (decide (t.w.k=1)||decide (t.w.k=7)))=false
 rw[h]
 have:¬[41]=s:=fun e=>hs e.symm
 simp [this]
theorem Xl {t:Tkn}(h:F1 t)(r:List Tkn)(s:List UInt8):isH s (t::r)=decide (s=[40]):=by
 unfold F1 at h
 show(decide (t.w.t=s) && (decide (t.w.k=1)||decide (t.w.k=7)))=_
 rw[h];by_cases e:s=[40]
 ·subst e;decide
 have:¬[40]=s:=fun h=>e h.symm
 simp [this,e]
theorem O8 {p s:Tkn}(hp:F1 p)(hs:Fq s){ts us post:List Tkn}{a:Ex}(ha:A9 0 0 ts= .ok (a,[]))(hu:us.map Tkn.w=ts.map Tkn.w)(d:Nat):
 (∃q,A9 7 d (p::(us++s::post))= .error (12,q))\/∃a',A9 7 d (p::(us++s::post))= .ok (a',post)/\a'.bare=a.bare:=by
 have hl:B8 p=none:=by unfold F1 at hp;unfold B8;rw[hp];rfl
 have hc:Cu p=none:=by unfold F1 at hp;unfold Cu;rw[hp];rfl
 rw[Bs];simp only[hl,hc];unfold B4;rw[Xl hp,Ap tH];by_cases hd:d=12
 ·rw[Ap hd];exact .inl ⟨_,rfl⟩
 rw[Ao hd,List.tail_cons];have hx:=oR (d+1) (s::post) (fQ hs post) (.lvl 0) 0 ts vB (.lvl 0) us rfl hu a [] ha;rw[Nat.zero_add] at hx;rcases hx with ⟨_,q1,e⟩|⟨a',q',e,h1,h2⟩
 ·show(∃q,(A9 0 (d+1) (us++s::post)).next Cy= .error (12,q))\/∃a',(A9 0 (d+1) (us++s::post)).next Cy= .ok (a',post)/\a'.bare=a.bare
  rw[show A9 0 (d+1) (us++s::post)=_ from e];exact .inl ⟨_,rfl⟩
 have:q'=[]:=by simpa using h2
 subst this
 show(∃q,(A9 0 (d+1) (us++s::post)).next Cy= .error (12,q))\/∃a',(A9 0 (d+1) (us++s::post)).next Cy= .ok (a',post)/\a'.bare=a.bare
 rw[show A9 0 (d+1) (us++s::post)=_ from e];refine .inr ⟨a',?_,h1⟩;unfold Fq at hs
 have:isH [41] ([]++s::post)=true:=by
  show(decide (s.w.t=[41]) && (decide (s.w.k=1)||decide (s.w.k=7)))=true
  rw[hs];decide
 simp only[ExR.next];unfold Cy;rw[Ap this];rfl
theorem Jd {r:List Tkn}{d:Nat}{a:Ex}{post:List Tkn}(hpre:∀n,isH (Ea n) r=false)(m:Nat)(hpost:∀n,m<=n->Be post (Bp n)=0):∀(k n:Nat),n+k=7->m<=n->A9 7 d r= .ok (a,post)->A9 n d r= .ok (a,post)
 |0,n,hk,_,h=>by
  rw[show n=7 by omega];exact h
 |k+1,n,hk,hm,h=>by
  have ih:=Jd hpre m hpost k (n+1) tE tE h;by_cases h26:n=2\/n=6
  ·rw[Ec h26,hpre n,Ao tG];exact ih
  rw[D1 tE tE,ih];simp only[ExR.next];rw[Dp,Ap (hpost n hm)]
theorem Mf {r:List Tkn}{d:Nat}{p:Int×List Tkn}(hpre:∀n,isH (Ea n) r=false):∀(k n:Nat),n+k=7->A9 7 d r= .error p->A9 n d r= .error p
 |0,n,hk,h=>by
  rw[show n=7 by omega];exact h
 |k+1,n,hk,h=>by
  have ih:=Mf hpre k (n+1) tE h;by_cases h26:n=2\/n=6
  ·rw[Ec h26,hpre n,Ao tG];exact ih
  rw[D1 tE tE,ih];rfl
theorem Iv {p:Tkn}(hp:F1 p)(r:List Tkn)(n:Nat):isH (Ea n) (p::r)=false:=by
 rw[Xl hp];unfold Ea
 split<;>decide
theorem Ji:∀(l:List (List UInt8×Int)),Be [] l=0
 |[]=>rfl
 |(s,o)::l=>by
  unfold Be;rw[Ao (by simp [isH])];exact Ji l
open Go Go.RowKit Go.Lib Go.Sort Go.Shelf
theorem Yi {a b:Ex}(h:a.bare=b.bare):E6 ((a.flat 0).map Nd.z) ((b.flat 0).map Nd.z)=true:=by
 rw[Ls]
 have:=Ar (List.map Nd.z) (fX h 0)
 rw[List.map_map,List.map_map] at this ⊢;exact this
open Go Go.RowKit Go.Lib Go.Sort Go.Shelf
def I7:List (List UInt8×Int×Nat):=
 [([111,114],4,0),([97,110,100],5,1),([61],7,3),([60,62],8,3),([60],9,3),([60,61],10,3),([62],11,3),([62,61],12,3),([43],13,4),([45],14,4),([42],15,5),([47],16,5)]
def N3 (s:List UInt8):Int:=if s=[111,114]\/s=[97,110,100] then 1 else 7
def Vf (s:List UInt8)(t:Tkn):Prop:=t.w=⟨N3 s,s,v0⟩
theorem oT {s:List UInt8}{t:Tkn}(h:Vf s t)(r:List Tkn)(u:List UInt8):isH u (t::r)=decide (s=u):=by
 unfold Vf at h
 show(decide (t.w.t=u) && (decide (t.w.k=1)||decide (t.w.k=7)))=_
 rw[h]
 show(decide (s=u) && (decide (N3 s=1)||decide (N3 s=7)))=_
 have:(decide (N3 s=1)||decide (N3 s=7))=true:=by
  unfold N3
  split<;>rfl
 rw[this,Bool.and_true]
theorem Jy {x:List UInt8×Int×Nat}(hx:x∈I7){t:Tkn}(h:Vf x.1 t)(r:List Tkn)(n:Nat):Be (t::r) (Bp n)=if n=x.2.2 then x.2.1 else 0:=by
 have key:∀l:List (List UInt8×Int),Be (t::r) l=(l.find? fun y=>decide (x.1=y.1)).elim 0 Prod.snd:=fun l=>by
  induction l with
  |nil=>rfl
  |cons y l ih=>
   unfold Be;rw[oT h,List.find?_cons];by_cases e:x.1=y.1
   ·rw[Ap wC];simp [e]
   rw[Ao wC,ih];simp [e]
 rw[key];clear key h;by_cases h5:n<=5
 ·revert n
  revert x
  decide
 rw[Nk tE]
 have:n≠x.2.2:=by
  have:x.2.2<=5:=by
   revert x
   decide
  omega
 rw[Ao this];rfl
theorem eT {r:List Tkn}{d:Nat}{a:Ex}{post:List Tkn}(hpre:∀n,isH (Ea n) r=false)(m m':Nat)(hm7:m'<=7)(hpost:∀n,m<=n->n<m'->Be post (Bp n)=0):∀(k n:Nat),n+k=m'->m<=n->A9 m' d r= .ok (a,post)->A9 n d r= .ok (a,post)
 |0,n,hk,_,h=>by
  rw[show n=m' by omega];exact h
 |k+1,n,hk,hm,h=>by
  have ih:=eT hpre m m' hm7 hpost k (n+1) tE tE h;by_cases h26:n=2\/n=6
  ·rw[Ec h26,hpre n,Ao tG];exact ih
  rw[D1 tE tE,ih];simp only[ExR.next];rw[Dp,Ap (hpost n hm tE)]
theorem iP {x:List UInt8×Int×Nat}(hx:x∈I7):x.2.2<=5/\x.2.2≠2/\x.2.1≠0:=by
 revert x
 decide
theorem cT {x:List UInt8×Int×Nat}(hx:x∈I7){p1 s1 o p2 s2:Tkn}(h1:F1 p1)(h2:Fq s1)(h3:Vf x.1 o)(h4:F1 p2)(h5:Fq s2){ts us ts' us':List Tkn}{a b:Ex}(ha:A9 0 0 ts= .ok (a,[]))(hb:A9 0 0 ts'= .ok (b,[]))(hu:us.map Tkn.w=ts.map Tkn.w)(hu':us'.map Tkn.w=ts'.map Tkn.w):
 (∃q,A9 0 0 (p1::(us++s1::(o::p2::(us'++[s2]))))= .error (12,q))\/
 ∃a' b' l c,A9 0 0 (p1::(us++s1::(o::p2::(us'++[s2]))))= .ok (.mk ⟨x.2.1,v0,[],l,c⟩ [a',b'],[])/\a'.bare=a.bare/\b'.bare=b.bare:=by
 obtain⟨k1,k2,k3⟩:=iP hx;rcases O8 h1 h2 (post:=o::p2::(us'++[s2])) ha hu 0 with ⟨q,e⟩|⟨a',e,hba⟩
 ·exact .inl ⟨q,Mf (fun n=>Iv h1 _ n) 7 0 rfl e⟩
 have e1:=Jd (fun n=>Iv h1 _ n) (x.2.2+1) (fun n hn=>by rw[Jy hx h3,Ao tE]) (7 - (x.2.2+1)) (x.2.2+1) tE (Ak _) e;rcases O8 h4 h5 (post:=[]) hb hu' 0 with ⟨q,g⟩|⟨b',g,hbb⟩
 ·have g1:=Mf (fun n=>Iv h4 _ n) (7 - (x.2.2+1)) (x.2.2+1) tE g
  have e2:A9 x.2.2 0 (p1::(us++s1::(o::p2::(us'++[s2]))))= .error (12,q):=by
   rw[D1 k1 k2,e1];simp only[ExR.next];rw[Dp,Ao (by rw[Jy hx h3,Ap rfl];exact k3),List.tail_cons,g1];rfl
  refine .inl ⟨q,?_⟩
  have up:∀(k n:Nat),n+k=x.2.2->A9 n 0 (p1::(us++s1::(o::p2::(us'++[s2]))))= .error (12,q):=fun k=>by
   induction k with
   |zero=>intro n hn;rw[show n=x.2.2 by omega];exact e2
   |succ k ih=>
    intro n hn
    have:=ih (n+1) tE
    by_cases h26:n=2\/n=6
    ·rw[Ec h26,Iv h1 _ n,Ao tG];exact this
    rw[D1 tE tE,this];rfl
  exact up x.2.2 0 tE
 have g1:=Jd (fun n=>Iv h4 _ n) 0 (fun n _=>Ji _) (7 - (x.2.2+1)) (x.2.2+1) tE tE g
 have e2:A9 x.2.2 0 (p1::(us++s1::(o::p2::(us'++[s2]))))= .ok (.mk ⟨x.2.1,v0,[],(plH (o::p2::(us'++[s2]))).1,(plH (o::p2::(us'++[s2]))).2⟩ [a',b'],[]):=by
  rw[D1 k1 k2,e1];simp only[ExR.next];rw[Dp,Ao (by rw[Jy hx h3,Ap rfl];exact k3),List.tail_cons,g1];simp only[ExR.next];rw[Jy hx h3,Ap rfl];by_cases hn3:x.2.2=3
  ·rw[Ap hn3]
  rw[Ao hn3,Dp,Ap (Ji _)]
 exact .inr ⟨a',b',_,_,eT (fun n=>Iv h1 _ n) 0 x.2.2 tE (fun n _ _=>Ji _) x.2.2 0 tE (Ak _) e2,hba,hbb⟩
theorem rF (r:List UInt8)(hs:Xe r)(a b:Int):LX (41::r) a b=G5 ⟨⟨7,[41],v0⟩,a,b⟩ (LX r a (b+1)):=by
 have h:Bh [41]= .ok (⟨7,[41],v0⟩,1):=rfl;have h2:Bh (41::r)= .ok (⟨7,[41],v0⟩,1):=Rm h hs;rw[Dl ⟨by decide,by decide,by decide⟩ h2];rfl
theorem gV {x:List UInt8×Int×Nat}(hx:x∈I7):Bh x.1= .ok (⟨N3 x.1,x.1,v0⟩,x.1.length)/\∃c r,x.1=c::r/\Ja c:=by
 unfold Ja;simp only[I7,List.mem_cons,List.not_mem_nil,or_false] at hx;rcases hx with rfl|rfl|rfl|rfl|rfl|rfl|rfl|rfl|rfl|rfl|rfl|rfl<;>exact⟨rfl,_,_,rfl,by decide⟩
theorem eH {x:List UInt8×Int×Nat}(hx:x∈I7)(r:List UInt8)(hs:Xe r)(a b:Int):LX (x.1++r) a b=G5 ⟨⟨N3 x.1,x.1,v0⟩,a,b⟩ (LX r a (b+(x.1.length:Nat))):=by
 obtain⟨h,c,q,e,hc⟩:=gV hx;have h2:=Rm h hs;rw[List.take_length] at h2;rw[e] at h2 ⊢;rw[List.cons_append] at h2 ⊢;rw[Dl hc h2,←List.cons_append,List.drop_left]
theorem Oo (r:List UInt8):Xe (32::r):=fun c h=> .inr (by simpa using h.symm)
def I2 (l o m:List UInt8):List UInt8:=40::(l++10::41::32::(o++32::40::(m++[10,41])))
theorem Yk {x:List UInt8×Int×Nat}(hx:x∈I7){l m:List UInt8}{ts ts':List Tkn}(h:Ev l= .ok ts)(h':Ev m= .ok ts'):
 ∃p1 us s1 o p2 us' s2,Ev (I2 l x.1 m)= .ok (p1::(us++s1::(o::p2::(us'++[s2]))))/\F1 p1/\Fq s1/\Vf x.1 o/\F1 p2/\Fq s2/\us.map Tkn.w=ts.map Tkn.w/\us'.map Tkn.w=ts'.map Tkn.w:=by
 obtain⟨us,h1,h2⟩:=Ir _ l 1 1 1 2 ts (Ak _) h;obtain⟨us',h3,h4⟩:=Ir _ m 1 1 (1+(l.count 10:Nat)+1) (1+1+1+(x.1.length:Nat)+1+1) ts' (Ak _) h'
 have e:Ev (I2 l x.1 m)= .ok (⟨⟨7,[40],v0⟩,1,1⟩::(us++⟨⟨7,[41],v0⟩,1+(l.count 10:Nat)+1,1⟩::(⟨⟨N3 x.1,x.1,v0⟩,1+(l.count 10:Nat)+1,1+1+1⟩::⟨⟨7,[40],v0⟩,1+(l.count 10:Nat)+1,1+1+1+(x.1.length:Nat)+1⟩::(us'++[⟨⟨7,[41],v0⟩,1+(l.count 10:Nat)+1+(m.count 10:Nat)+1,1⟩])))):=by
  unfold I2;rw[Ns,Qa,show(1:Int)+1=2 from rfl,h1,rF _ (Oo _),E8,eH hx _ (Oo _),E8,show[10,41]=(10:UInt8)::[41] from rfl,Qa,h3,pG];rfl
 exact⟨_,us,_,_,_,us',_,e,rfl,rfl,rfl,rfl,rfl,h2,h4⟩
theorem S9 {x:List UInt8×Int×Nat}(hx:x∈I7){l m:List UInt8}{a b:Ex}(h:Bj l= .ok a)(h':Bj m= .ok b):
 (∃p q,Bj (I2 l x.1 m)= .error (p,q)/\(q=12\/q=7/\60<a.size+b.size+1))\/
 ∃a' b' y z,Bj (I2 l x.1 m)= .ok (.mk ⟨x.2.1,v0,[],y,z⟩ [a',b'])/\a'.bare=a.bare/\b'.bare=b.bare/\a.size+b.size+1<=60:=by
 obtain⟨ts,t1,t2,_⟩:=D0 h;obtain⟨ts',t3,t4,_⟩:=D0 h';obtain⟨p1,us,s1,o,p2,us',s2,e,g1,g2,g3,g4,g5,g6,g7⟩:=Yk hx t1 t3;rcases cT hx g1 g2 g3 g4 g5 t2 t4 g6 g7 with ⟨q,e2⟩|⟨a',b',y,z,e2,e3,e4⟩
 ·refine .inl ⟨Mz (p1::(us++s1::(o::p2::(us'++[s2])))) q,12,?_,.inl rfl⟩;simp only[Bj,e,e2]
 have z1:=Qi e3;have z2:=Qi e4
 have z3:(Ex.mk ⟨x.2.1,v0,[],y,z⟩ [a',b']).size=a.size+b.size+1:=by
  rw[Ex.size,Bf,Bf,Bf];omega
 by_cases h60:60<a.size+b.size+1
 ·refine .inl ⟨Mz (p1::(us++s1::(o::p2::(us'++[s2])))) (p1::(us++s1::(o::p2::(us'++[s2])))),7,?_,.inr ⟨rfl,h60⟩⟩;simp only[Bj,e,e2];rw[Ap tE]
 refine .inr ⟨a',b',y,z,?_,e3,e4,by omega⟩;simp only[Bj,e,e2];rw[Ao tE,Ap trivial]
end Go.Proofs.YtmpfilddeglgbaaGreatDoor
