import Derived.Test.YtmpfilddeglgbaaGreatDoorQj13
set_option maxRecDepth 100000
set_option maxHeartbeats 16000000
namespace Go.Proofs.YtmpfilddeglgbaaGreatDoor
open Go Go.Lib
def Sep (r:List UInt8):Prop:=∀c,r.head? =some c->c=32\/c=40\/c=41\/c=44
theorem Sep.nam {r:List UInt8}(h:Sep r):∀c,r.head? =some c->Cg c=false:=fun c hc=>by
 rcases h c hc with rfl|rfl|rfl|rfl<;>rfl
theorem Sep.dig {r:List UInt8}(h:Sep r):∀c,r.head? =some c->Bb c=false:=fun c hc=>by
 rcases h c hc with rfl|rfl|rfl|rfl<;>rfl
theorem Sep.point {r:List UInt8}(h:Sep r):r.head?≠some 46:=fun e=>by
 rcases h _ e with h|h|h|h<;>cases h
theorem qO:Sep []:=fun c h=>by cases h
theorem Lc {c:UInt8}(r:List UInt8)(h:c=32\/c=40\/c=41\/c=44):Sep (c::r):=fun d hd=>by
 injection hd with hd;subst hd;exact h
theorem Zx (n:Nat)(r:List UInt8)(h:r.head?≠some 46):Cj n r=n:=by
 unfold Cj
 split
 ·exact absurd rfl h
 rfl
theorem cB {t r:List UInt8}(h:Br t=t.length)(hr:Sep r):Br (t++r)=t.length:=by
 rw[Fz] at h ⊢;rw[En t r hr.dig];have hle:A5 Bb t<=t.length:=Cm Bb t;rw[List.drop_append_of_le_length hle];by_cases hf:A5 Bb t=t.length
 ·rw[hf,List.drop_length,List.nil_append,Zx _ _ hr.point]
 obtain⟨x,hx⟩:∃x,t.drop (A5 Bb t)=x:=⟨_,rfl⟩;have hxl:x.length=t.length - A5 Bb t:=by rw[←hx,List.length_drop]
 rw[hx] at h ⊢;unfold Cj at h ⊢
 split at h
 ·rename_i c q
  by_cases hd:Bb c=true
  ·rw[Ap hd] at h;rw[show 46::c::q++r=46::c::(q++r) from rfl];simp only;rw[Ap hd,←List.cons_append,En (c::q) r hr.dig];exact h
  rw[Ao hd] at h;omega
 omega
theorem gD {w:Wd}(hf:Qp w)(hk:w.k≠7){r:List UInt8}(hr:Sep r):Bh (F3 w++r)= .ok (w,(F3 w).length)/\∃c q,F3 w=c::q/\Ja c:=by
 obtain⟨k,t,v⟩:=w
 have nm:∀{t:List UInt8},I1 t=true->∃c q,t=c::q/\Dm c=true/\A5 Cg (t++r)=t.length/\t.length<=12:=fun{t} h=>by
  obtain⟨h1,h2,h3,c,q,e,hc⟩:=Fm h;exact⟨c,q,e,hc,Ld t r (fun b hb=>by have:=List.all_eq_true.1 h3 b hb;exact this) hr.nam,h2⟩
 have lowBeg:∀{c:UInt8},Dm c=true->Ja c:=fun{c} h=>by
  refine⟨?_,?_,?_⟩<;>rintro rfl<;>cases h
 cases hf with
 |name h ht hv=>
  simp only at h ht hv;subst h hv;obtain⟨c,q,e,hc,hs,hl⟩:=nm ht;show Bh (t++r)= .ok (⟨1,t,v0⟩,t.length)/\∃c q,t=c::q/\Ja c
  refine⟨?_,c,q,e,lowBeg hc⟩;subst e;rw[List.cons_append];unfold Bh;simp only;rw[Ap hc,←List.cons_append,hs];unfold Cx;rw[List.take_left,Ao uC]
 |var h ht hv=>
  simp only at h ht hv;subst h hv;obtain⟨c,q,e,hc,hs,hl⟩:=nm ht;show Bh (63::t++r)= .ok (⟨2,t,v0⟩,(63::t).length)/\∃c q,63::t=c::q/\Ja c
  refine⟨?_,63,t,rfl,by unfold Ja;decide⟩;have hm:Dt (63::(t++r))=true:=by subst e;exact hc
  rw[List.cons_append];unfold Bh;simp only;rw[Ao tG,Ao tG,Ao tG,Ap trivial,Ap hm,hs];unfold Cx;rw[List.take_left,Ao uC];rw[Aa,Nat.add_comm]
 |self h ht hv=>
  simp only at h ht hv;subst h ht hv;show Bh (63::r)= .ok (⟨3,[],v0⟩,1)/\∃c q,[(63:UInt8)]=c::q/\Ja c
  refine⟨?_,63,[],rfl,by unfold Ja;decide⟩
  have hm:Dt (63::r)=false:=by
   cases r with
   |nil=>rfl
   |cons c r=>rcases hr c rfl with rfl|rfl|rfl|rfl<;>rfl
  unfold Bh;simp only;rw[Ao tG,Ao tG,Ao tG,Ap trivial,hm,Ao tG]
 |num h ht hm=>
  simp only at h ht hm;subst h;obtain⟨c,q,e,hd,hn⟩:=hm;show Bh (t++r)= .ok (⟨4,t,v⟩,t.length)/\∃c q,t=c::q/\Ja c
  refine⟨?_,c,q,e,?_⟩
  ·have hnl:=cB hn hr
   have hlow:¬Dm c=true:=by
    unfold Bb at hd;unfold Dm;simp only[Bool.and_eq_true,decide_eq_true_eq] at hd ⊢;omega
   subst e;rw[List.cons_append] at hnl ⊢;unfold Bh;simp only;rw[Ao hlow,Ap hd];unfold Jk;rw[hnl,←List.cons_append,List.take_left,ht]
  refine⟨?_,?_,?_⟩<;>rintro rfl<;>cases hd
 |str h ht hm hs=>
  simp only at h ht hm hs;subst h;show Bh (34::(t++[34])++r)= .ok (⟨5,t,v⟩,(34::(t++[34])).length)/\∃c q,34::(t++[34])=c::q/\Ja c
  refine⟨?_,34,_,rfl,by unfold Ja;decide⟩;have hsp:=Kt false (t++[34]) r (by rw[hs,Ab];simp);rw[hs,List.take_of_length_le tH] at hsp;rw[List.cons_append];unfold Bh;simp only;rw[Ao tG,Ao tG,Ap trivial,Gk,hsp]
  have hdr:((34::(t++[34]++r)).drop (1+t.length)).head? =some 34:=by
   rw[Nat.add_comm,List.drop_succ_cons,List.append_assoc,List.drop_left];rfl
  rw[Ap hdr]
  have htk:(34::(t++[34]++r)).take (t.length+2)=34::t++[34]:=by
   rw[show(34:UInt8)::(t++[34]++r)=(34::t++[34])++r by simp,show t.length+2=(34::t++[34]).length by simp,List.take_left]
  rw[htk,ht];simp only;rw[List.append_assoc,List.take_left];simp
 |sym h ht hv=>
  simp only at h ht hv;subst h hv;obtain⟨c,q,e,hc,hs,hl⟩:=nm ht;show Bh (35::t++r)= .ok (⟨6,t,(5,0,t)⟩,(35::t).length)/\∃c q,35::t=c::q/\Ja c
  refine⟨?_,35,t,rfl,by unfold Ja;decide⟩;have hm:Dt (35::(t++r))=true:=by subst e;exact hc
  rw[List.cons_append];unfold Bh;simp only;rw[Ao tG,Ao tG,Ao tG,Ao tG,Ap ⟨trivial,hm⟩,hs];unfold Cx;rw[List.take_left,Ao uC];rw[Aa,Nat.add_comm]
 |sign h _ _=>exact absurd h hk
theorem rG {w:Wd}(hf:Qp w)(hk:w.k≠7){r:List UInt8}(hr:Sep r)(a b:Int):LX (F3 w++r) a b=G5 ⟨w,a,b⟩ (LX r a (b+((F3 w).length:Nat))):=by
 obtain⟨h,c,q,e,hc⟩:=gD hf hk hr;rw[e] at h ⊢;rw[List.cons_append] at h ⊢;rw[Dl hc h,←List.cons_append,List.drop_left]
theorem rS {c:UInt8}(h:c=40\/c=41\/c=44\/c=45)(r:List UInt8)(a b:Int):LX (c::r) a b=G5 ⟨⟨7,[c],v0⟩,a,b⟩ (LX r a (b+1)):=by
 have hw:Bh (c::r)= .ok (⟨7,[c],v0⟩,1):=by
  unfold Bh;simp only
  rw[Ao vA,Ao vA,Ao vA,Ao vA,
   Ao (by rintro ⟨e,_⟩;rcases h with rfl|rfl|rfl|rfl<;>cases e)]
  unfold Es
  have h2:(c::r).take 2∉Ez:=by
   cases r with
   |nil=>rcases h with rfl|rfl|rfl|rfl<;>decide
   |cons d r=>rcases h with rfl|rfl|rfl|rfl<;>simp [Ez]
  rw[Ao h2,Ap (by rw[List.take_succ_cons,List.take_zero];rcases h with rfl|rfl|rfl|rfl<;>decide)];rfl
 rw[Dl (by unfold Ja;rcases h with rfl|rfl|rfl|rfl<;>decide) hw];rfl
theorem Rc (t:Tkn)(x:Except (Int×Int×Int) (List Tkn)):G5 t x=F0 (.ok [t]) x:=by
 cases x<;>rfl
theorem gI (us vs:List Tkn)(x:Except (Int×Int×Int) (List Tkn)):F0 (.ok us) (F0 (.ok vs) x)=F0 (.ok (us++vs)) x:=by
 cases x with
 |error e=>rfl
 |ok ts=>simp [F0]
open Go Go.Lib
def O5 (op:Int):List UInt8×Nat:=
 if op=4 then([111,114],0) else if op=5 then([97,110,100],1) else if op=6 then([110,111,116,32],2)
 else if op=7 then([61],3) else if op=8 then([60,62],3) else if op=9 then([60],3) else if op=10 then([60,61],3) else if op=11 then([62],3) else if op=12 then([62,61],3)
 else if op=13 then([43],4) else if op=14 then([45],4) else if op=15 then([42],5) else if op=16 then([47],5) else if op=17 then([45],6)
 else if op=18 then([97,98,115],8) else if op=19 then([109,105,110],8) else if op=20 then([109,97,120],8) else if op=21 then([109,111,100],8) else if op=22 then([108,101,110,103,116,104],8)
 else if op=23 then([117,112,112,101,114],8) else if op=24 then([99,111,110,116,97,105,110,115],8) else if op=25 then([115,116,97,114,116,115],8) else if op=26 then([105,102],8) else([],8)
def C5 (op:Int):List UInt8:=(O5 op).1
def A8 (op:Int):Nat:=(O5 op).2
def Lo (op:Int):Prop:=op=4\/op=5\/op=7\/op=8\/op=9\/op=10\/op=11\/op=12\/op=13\/op=14\/op=15\/op=16
theorem eL {op:Int}(h:Lo op):(C5 op,op,A8 op)∈I7:=by
 exact zwx
theorem Ys {op:Int}(h:Lo op):A8 op<=5/\A8 op≠2:=by
 exact zwx
theorem pB {op:Int}(h:Lo op):D4 op=(2,2):=by
 exact zwx
def Gf (op:Int):Prop:=op=18\/op=19\/op=20\/op=21\/op=22\/op=23\/op=24\/op=25\/op=26
theorem G9 {op:Int}(h:Gf op):A8 op=8:=by
 rcases h with rfl|rfl|rfl|rfl|rfl|rfl|rfl|rfl|rfl<;>rfl
theorem Qx {op:Int}(h:Gf op)(l c:Int):Cu ⟨⟨1,C5 op,v0⟩,l,c⟩=some ⟨op,(D4 op).1,(D4 op).2,l,c⟩/\B8 ⟨⟨1,C5 op,v0⟩,l,c⟩=none/\Qp ⟨1,C5 op,v0⟩/\1<=(D4 op).1/\(D4 op).2<=8:=by
 rcases h with rfl|rfl|rfl|rfl|rfl|rfl|rfl|rfl|rfl<;>exact⟨rfl,rfl,.name rfl tG rfl,by decide,by decide⟩
theorem Tl {t:Tkn}{c:Cl}(h:Cu t=some c):Gf c.op/\c.least=(D4 c.op).1/\c.most=(D4 c.op).2:=by
 obtain⟨_,h2,_⟩:=Pd h;obtain⟨op,le,mo,l,k⟩:=c;simp only at h2 ⊢;unfold De at h2
 repeat' split at h2
 all_goals first
  |(cases h2;done)
  |(injection h2 with h2
    simp only[Prod.mk.injEq] at h2;obtain⟨rfl,rfl,rfl⟩:=h2
    exact⟨by unfold Gf;decide,rfl,rfl⟩)
theorem Ou {op:Int}(h1:1<=op)(h3:op<=3):A8 op=8:=by
 obtain rfl|rfl|rfl:op=1\/op=2\/op=3:=by omega
 all_goals rfl
def Km (h:Hd):List UInt8:=if h.op=1 then Da h.v.1 h.v.2.1 h.v.2.2 else if h.op=2 then 63::h.name else[63]
def I3 (h:Hd):Wd:=
 if h.op=2 then⟨2,h.name,v0⟩ else if h.op=3 then⟨3,[],v0⟩ else if h.v.1=1\/h.v.1=2 then⟨4,Po h.v.1 h.v.2.1 h.v.2.2,h.v⟩
 else if h.v.1=3 then⟨5,Me h.v.2.2,h.v⟩ else if h.v.1=5 then⟨6,h.v.2.2,h.v⟩ else⟨1,Po h.v.1 h.v.2.1 h.v.2.2,v0⟩
theorem fY {t:Tkn}{h:Hd}(hf:Qp t.w)(he:B8 t=some h):I3 h=t.w/\F3 t.w=Km h/\(Km h).length<=402/\t.w.k≠7/\1<=h.op/\h.op<=3:=by
 obtain⟨⟨k,t,v⟩,l,c⟩:=t;unfold B8 at he;simp only at he;cases hf with
 |name hk ht hv=>
  simp only at hk ht hv;subst hk hv;rw[Ao tG,Ao tG,Ao tG,Ap rfl] at he
  have key:∀v,Lf t=some v->h=⟨1,v,[],l,c⟩->I3 h=⟨1,t,v0⟩/\F3 ⟨1,t,v0⟩=Km h/\(Km h).length<=402/\(1:Int)≠7/\1<=h.op/\h.op<=3:=fun v hl hh=>by
   subst hh;unfold Lf at hl;by_cases h1:t=[116,114,117,101]
   ·rw[Ap h1] at hl;injection hl with hl;subst hl h1;exact⟨rfl,rfl,(by decide:(Da 4 1 []).length<=402),by decide,(by decide:(1:Int)<=1),(by decide:(1:Int)<=3)⟩
   rw[Ao h1] at hl;by_cases h2:t=[102,97,108,115,101]
   ·rw[Ap h2] at hl;injection hl with hl;subst hl h2;exact⟨rfl,rfl,(by decide:(Da 4 0 []).length<=402),by decide,(by decide:(1:Int)<=1),(by decide:(1:Int)<=3)⟩
   rw[Ao h2] at hl;by_cases h3:t=[110,117,108,108]
   ·rw[Ap h3] at hl;injection hl with hl;subst hl h3;exact⟨rfl,rfl,(by decide:(Da 0 0 []).length<=402),by decide,(by decide:(1:Int)<=1),(by decide:(1:Int)<=3)⟩
   rw[Ao h3] at hl;cases hl
  cases hc:De t with
  |some x=>rw[hc] at he;cases he
  |none=>
   rw[hc] at he;cases hl:Lf t with
   |none=>rw[hl] at he;cases he
   |some v=>
    rw[hl] at he;injection he with he;exact key v hl he.symm
 |var hk ht hv=>
  simp only at hk ht hv;subst hk hv;rw[Ao tG,Ap rfl] at he;injection he with he;subst he;refine⟨rfl,rfl,?_,by simp,by simp,by simp⟩
  have:=(Fm ht).2.1
  show(63::t).length<=402
  simp only[Aa];omega
 |self hk ht hv=>
  simp only at hk ht hv;subst hk ht hv;rw[Ao tG,Ao tG,Ap rfl] at he;injection he with he;subst he;exact⟨rfl,rfl,(by decide:[(63:UInt8)].length<=402),(by decide:(3:Int)≠7),(by decide:(1:Int)<=3),(by decide:(3:Int)<=3)⟩
 |num hk ht hm=>
  simp only at hk ht hm;subst hk;rw[Ap tG] at he;injection he with he;subst he;obtain⟨vk,vn,vs⟩:=v;obtain⟨h1,h2,h3,h4⟩:=Xb ht;obtain⟨c1,q,e,hd,hn⟩:=hm;have hkd:=Vb h1 (n:=vn);rw[h2,T9 e (.inr hd)] at hkd;have hk12:vk=1\/vk=2:=by split at hkd<;>omega
  have hT':Km ⟨1,(vk,vn,vs),[],l,c⟩=t:=by
   show Da vk vn vs=t;unfold Da;rw[Ap h1,h2]
  refine⟨?_,hT'.symm▸rfl,by rw[hT'];exact h4,by simp,by simp,by simp⟩
  show(if vk=1\/vk=2 then(⟨4,Po vk vn vs,(vk,vn,vs)⟩:Wd) else _)=_
  rw[Ap hk12,h2]
 |str hk ht hm hs=>
  simp only at hk ht hm hs;subst hk;rw[Ap tG] at he;injection he with he;subst he;obtain⟨vk,vn,vs⟩:=v;obtain⟨h1,h2,h3,h4⟩:=Xb ht;have hkd:=Vb h1 (n:=vn);rw[h2] at hkd;have hk3:vk=3:=by rw[←hkd];rfl
  subst hk3;have h5:34::(Me vs++[34])=34::t++[34]:=h2
  have h6:Me vs=t:=by
   rw[List.cons_append] at h5;injection h5 with _ h5;exact List.append_cancel_right h5
  have hT:Km ⟨1,(3,vn,vs),[],l,c⟩=34::(t++[34]):=by
   show Da 3 vn vs=_;unfold Da;rw[Ap h1,h2];rfl
  refine⟨?_,hT.symm▸rfl,?_,by simp,by simp,by simp⟩
  ·show(⟨5,Me vs,(3,vn,vs)⟩:Wd)=_
   rw[h6]
  rw[hT];simpa using h4
 |sym hk ht hv=>
  simp only at hk ht hv;subst hk hv;rw[Ap tG] at he;injection he with he;subst he
  have hT:Km ⟨1,(5,0,t),[],l,c⟩=35::t:=by
   show Da 5 0 t=_;unfold Da;rw[Ap (by show(decide ((0:Int)=0) && I1 t)=true;rw[ht];rfl)];rfl
  refine⟨rfl,hT.symm▸rfl,?_,by simp,by simp,by simp⟩;rw[hT]
  have:=(Fm ht).2.1
  simp only[Aa];omega
 |sign hk _ _=>
  simp only at hk;subst hk;rw[Ao tG,Ao tG,Ao tG,Ao tG] at he;cases he
structure Mr (h:Hd):Prop where
 form:Qp (I3 h)
 ne7:(I3 h).k≠7
 again:∀l c,(B8 ⟨I3 h,l,c⟩).map Hd.bare=some h.bare
 spell:F3 (I3 h)=Km h
 short:(Km h).length<=402
theorem pS {t:Tkn}{h:Hd}(hf:Qp t.w)(he:B8 t=some h):Mr h:=by
 obtain⟨h1,h2,h3,h4,_,_⟩:=fY hf he;refine⟨h1▸hf,h1▸h4,fun l c=>?_,h1▸h2,h3⟩;rw[h1,Tv (t:=t) (t':=⟨t.w,l,c⟩) rfl,he];rfl
structure F8 (h:Hd)(k:Nat):Prop where
 few:(D4 h.op).1<=k
 many:k<=(D4 h.op).2
 op1:1<=h.op
 op2:h.op<=26
 leaf:h.op<=3->Mr h
 inner:3<h.op->h.v=v0/\h.name=[]
theorem Nv {l:List UInt8}{a:Ex}(h:Bj l= .ok a):a.All F8:=by
 obtain⟨ts,h1,h2,_⟩:=D0 h;have hn:=Ud h1 h2
 have hl:a.All (fun h k=>h.op<=3->Mr h):=by
  refine Wv (P:=fun h _=>h.op<=3->Mr h) (W:=fun t=>Qp t.w) ?_ ?_ ?_ ?_ (.lvl 0) 0 ts vB trivial (fun t ht=>Qg h1 t ht) a [] h2
  ·exact fun t hd hf he _=>pS hf he
  ·intro n t hn _ h3
   have:=(show 3<K4 n by rcases hn with rfl|rfl<;>decide)
   have h4:K4 n<=3:=h3;omega
  ·intro n t q _ hz h3
   have:=Oe n _ (Nh hz)
   simp only at h3;omega
  intro t c k _ hc _ _ h3;have h4:=(Tl hc).1;unfold Gf at h4;simp only at h3;omega
 refine(hn.and hl).mono fun h k hh=>⟨hh.1.few,hh.1.many,hh.1.op1,hh.1.op2,hh.2,fun h3=>⟨hh.1.v tE,hh.1.anon tE⟩⟩
open Go Go.Lib
def Nc (t:List UInt8):List UInt8:=40::(t++[41])
def Um (l:List (Int×List UInt8))(k least:Nat):List UInt8:=match l[k]? with
 |none=>[]
 |some p=>if A8 p.1<least then Nc p.2 else p.2
def P3 (h:Hd)(l:List (Int×List UInt8)):List UInt8:=
 if h.op<=3 then Km h else if A8 h.op=8 then C5 h.op++Nc (Gl [44,32] (l.map Prod.snd))
 else if A8 h.op=2\/A8 h.op=6 then C5 h.op++Um l 0 (A8 h.op)
 else if A8 h.op=3 then Um l 0 4++32::(C5 h.op++32::Um l 1 4)
 else Um l 0 (A8 h.op)++32::(C5 h.op++32::Um l 1 (A8 h.op+1))
mutual
def Ex.text:Ex->List UInt8| .mk h ks=>P3 h (Jv ks)
def Jv:List Ex->List (Int×List UInt8)|[]=>[]|e::es=>(e.hd.op,e.text)::Jv es
end
theorem J5:∀l:List Ex,Jv l=l.map fun e=>(e.hd.op,e.text)
 |[]=>rfl
 |e::l=>by rw[Jv,J5 l,List.map_cons]
def Iz (n:Nat)(e:Ex):List UInt8:=if A8 e.hd.op<n then Nc e.text else e.text
def Ey (s:List UInt8):Wd:=⟨7,s,v0⟩
def aJ (ws:List Wd):List Wd:=Ey [40]::(ws++[Ey [41]])
def Yt (l:List (Int×List Wd))(k least:Nat):List Wd:=match l[k]? with
 |none=>[]
 |some p=>if A8 p.1<least then aJ p.2 else p.2
def N4:List (List Wd)->List Wd
 |[]=>[]
 |[x]=>x
 |x::y::r=>x++Ey [44]::N4 (y::r)
def Td (op:Int):Wd:=⟨N3 (C5 op),C5 op,v0⟩
def Ze (h:Hd)(l:List (Int×List Wd)):List Wd:=
 if h.op<=3 then[I3 h] else if A8 h.op=8 then⟨1,C5 h.op,v0⟩::aJ (N4 (l.map Prod.snd))
 else if A8 h.op=2 then⟨1,[110,111,116],v0⟩::Yt l 0 2 else if A8 h.op=6 then Ey [45]::Yt l 0 6
 else if A8 h.op=3 then Yt l 0 4++Td h.op::Yt l 1 4
 else Yt l 0 (A8 h.op)++Td h.op::Yt l 1 (A8 h.op+1)
mutual
def Ex.words:Ex->List Wd| .mk h ks=>Ze h (Re ks)
def Re:List Ex->List (Int×List Wd)|[]=>[]|e::es=>(e.hd.op,e.words)::Re es
end
theorem S3:∀l:List Ex,Re l=l.map fun e=>(e.hd.op,e.words)
 |[]=>rfl
 |e::l=>by rw[Re,S3 l,List.map_cons]
def Bq (n:Nat)(e:Ex):List Wd:=if A8 e.hd.op<n then aJ e.words else e.words
def bO (l:List (Int×Nat))(k least:Nat):Nat:=match l[k]? with
 |none=>0
 |some p=>if A8 p.1<least then p.2+1 else p.2
def aK:List Nat->Nat
 |[]=>0
 |n::l=>max n (aK l)
def Z6 (h:Hd)(l:List (Int×Nat)):Nat:=
 if h.op<=3 then 0 else if A8 h.op=8 then 1+aK (l.map Prod.snd)
 else if A8 h.op=2\/A8 h.op=6 then 1+bO l 0 (A8 h.op)
 else if A8 h.op=3 then max (bO l 0 4) (bO l 1 4)
 else max (bO l 0 (A8 h.op)) (bO l 1 (A8 h.op+1))
mutual
def Ex.need:Ex->Nat| .mk h ks=>Z6 h (Qm ks)
def Qm:List Ex->List (Int×Nat)|[]=>[]|e::es=>(e.hd.op,e.need)::Qm es
end
theorem Te:∀l:List Ex,Qm l=l.map fun e=>(e.hd.op,e.need)
 |[]=>rfl
 |e::l=>by rw[Qm,Te l,List.map_cons]
def Cc (n:Nat)(e:Ex):Nat:=if A8 e.hd.op<n then e.need+1 else e.need
def Fc (n:Nat):Nat:=if n=3 then 4 else n
theorem Yl (n:Nat):n<=Fc n:=by unfold Fc;split<;>omega
inductive Zk:Hd->List Ex->Prop where
 |leaf {h} (h1:1<=h.op) (h3:h.op<=3) (ok:Mr h):Zk h []
 |pre {h} {e} (n:Nat) (hn:n=2\/n=6) (ho:h.op=K4 n):Zk h [e]
 |mid {h} {e f} (hi:Lo h.op):Zk h [e,f]
 |call {h} {e es} (hc:Gf h.op) (h1:(D4 h.op).1<=(e::es).length) (h2:(e::es).length<=(D4 h.op).2):Zk h (e::es)
theorem G6 {h:Hd}{ks:List Ex}(g:F8 h ks.length):Zk h ks:=by
 have h1:=g.few;have h2:=g.many;have o1:=g.op1;have o2:=g.op2;have hc:h.op<=3\/(h.op=6\/h.op=17)\/Lo h.op\/Gf h.op:=by unfold Lo Gf;omega
 rcases hc with hc|hc|hc|hc
 ·have:D4 h.op=(0,0):=by
   obtain e|e|e:h.op=1\/h.op=2\/h.op=3:=by omega
   all_goals rw[e];rfl
  rw[this] at h2
  have:ks=[]:=List.eq_nil_of_length_eq_zero (Nat.le_zero.1 h2)
  subst this;exact .leaf o1 hc (g.leaf hc)
 ·have:D4 h.op=(1,1):=by
   rcases hc with e|e<;>rw[e]<;>rfl
  rw[this] at h1 h2
  match ks,h1,h2 with
  |[e],_,_=>
   rcases hc with q|q
   ·exact .pre 2 (.inl rfl) q
   exact .pre 6 (.inr rfl) q
  |[],h1,_=>exact absurd h1 tH
  |_::_::_,_,h2=>exact absurd h2 tH
 ·rw[pB hc] at h1 h2
  match ks,h1,h2 with
  |[e,f],_,_=>exact .mid hc
  |[],h1,_=>exact absurd h1 tH
  |[_],h1,_=>exact absurd h1 tH
  |_::_::_::_,_,h2=>exact absurd h2 tH
 cases ks with
 |nil=>
  have:=(Qx hc 0 0).2.2.2.1
  simp only[List.length_nil] at h1;omega
 |cons e es=>exact .call hc h1 h2
theorem Nw {n:Nat}(hn:n=2\/n=6):A8 (K4 n)=n/\3<K4 n:=by
 rcases hn with rfl|rfl<;>decide
theorem Zs {op:Int}(h:Lo op):¬op<=3:=by unfold Lo at h;omega
theorem Sa {op:Int}(h:Gf op):¬op<=3:=by unfold Gf at h;omega
theorem bX (e:Ex)(es:List Ex)(n:Nat):Um (Jv (e::es)) 0 n=Iz n e:=rfl
theorem kQ (e f:Ex)(es:List Ex)(n:Nat):Um (Jv (e::f::es)) 1 n=Iz n f:=rfl
theorem X9 (e:Ex)(es:List Ex)(n:Nat):Yt (Re (e::es)) 0 n=Bq n e:=rfl
theorem mD (e f:Ex)(es:List Ex)(n:Nat):Yt (Re (e::f::es)) 1 n=Bq n f:=rfl
theorem aY (e:Ex)(es:List Ex)(n:Nat):bO (Qm (e::es)) 0 n=Cc n e:=rfl
theorem nE (e f:Ex)(es:List Ex)(n:Nat):bO (Qm (e::f::es)) 1 n=Cc n f:=rfl
theorem Lu {h:Hd}(h3:h.op<=3)(ks:List Ex):(Ex.mk h ks).text=Km h/\(Ex.mk h ks).words=[I3 h]/\(Ex.mk h ks).need=0:=by
 refine⟨?_,?_,?_⟩
 ·rw[Ex.text];unfold P3;rw[Ap h3]
 ·rw[Ex.words];unfold Ze;rw[Ap h3]
 rw[Ex.need];unfold Z6;rw[Ap h3]
theorem Ky {h:Hd}{n:Nat}(hn:n=2\/n=6)(ho:h.op=K4 n)(e:Ex):(Ex.mk h [e]).text=C5 (K4 n)++Iz n e/\(Ex.mk h [e]).words=(if n=2 then⟨1,[110,111,116],v0⟩ else Ey [45])::Bq n e/\(Ex.mk h [e]).need=1+Cc n e:=by
 obtain⟨hl,hg⟩:=Nw hn;have h3:¬K4 n<=3:=by omega
 have h8:¬n=8:=by omega
 refine⟨?_,?_,?_⟩
 ·rw[Ex.text];unfold P3;rw[ho,Ao h3,hl,Ao h8,Ap hn,bX]
 ·rw[Ex.words];unfold Ze;rw[ho,Ao h3,hl,Ao h8];rcases hn with rfl|rfl
  ·rw[Ap rfl,X9,Ap rfl]
  rw[Ao tG,Ap rfl,X9,Ao tG]
 rw[Ex.need];unfold Z6;rw[ho,Ao h3,hl,Ao h8,Ap hn,aY]
theorem L4 {h:Hd}(hi:Lo h.op)(e f:Ex):(Ex.mk h [e,f]).text=Iz (Fc (A8 h.op)) e++32::(C5 h.op++32::Iz (A8 h.op+1) f)/\(Ex.mk h [e,f]).words=Bq (Fc (A8 h.op)) e++Td h.op::Bq (A8 h.op+1) f/\
 (Ex.mk h [e,f]).need=max (Cc (Fc (A8 h.op)) e) (Cc (A8 h.op+1) f):=by
 obtain⟨h5,h2⟩:=Ys hi;have h8:¬A8 h.op=8:=by omega
 have h26:¬(A8 h.op=2\/A8 h.op=6):=by omega
 have h6:¬A8 h.op=6:=by omega
 refine⟨?_,?_,?_⟩
 ·rw[Ex.text];unfold P3 Fc;rw[Ao (Zs hi),Ao h8,Ao h26,bX,kQ,bX,kQ];by_cases h3:A8 h.op=3
  ·rw[Ap h3,Ap h3,h3]
  rw[Ao h3,Ao h3]
 ·rw[Ex.words];unfold Ze Fc;rw[Ao (Zs hi),Ao h8,Ao h2,Ao h6,X9,mD,X9,mD];by_cases h3:A8 h.op=3
  ·rw[Ap h3,Ap h3,h3]
  rw[Ao h3,Ao h3]
 rw[Ex.need];unfold Z6 Fc;rw[Ao (Zs hi),Ao h8,Ao h26,aY,nE,aY,nE];by_cases h3:A8 h.op=3
 ·rw[Ap h3,Ap h3,h3]
 rw[Ao h3,Ao h3]
theorem I6 {h:Hd}(hc:Gf h.op)(ks:List Ex):(Ex.mk h ks).text=C5 h.op++Nc (Gl [44,32] (ks.map Ex.text))/\(Ex.mk h ks).words=⟨1,C5 h.op,v0⟩::aJ (N4 (ks.map Ex.words))/\(Ex.mk h ks).need=1+aK (ks.map Ex.need):=by
 refine⟨?_,?_,?_⟩
 ·rw[Ex.text];unfold P3;rw[Ao (Sa hc),Ap (G9 hc),J5,List.map_map];rfl
 ·rw[Ex.words];unfold Ze;rw[Ao (Sa hc),Ap (G9 hc),S3,List.map_map];rfl
 rw[Ex.need];unfold Z6;rw[Ao (Sa hc),Ap (G9 hc),Te,List.map_map];rfl
theorem eR {l:List Nat}{n:Nat}(h:n∈l):n<=aK l:=by
 induction l with
 |nil=>cases h
 |cons m l ih=>
  unfold aK;rcases List.mem_cons.1 h with rfl|h
  ·omega
  have:=ih h;omega
theorem qX {l:List Nat}{k:Nat}(h:∀n∈l,n<=k):aK l<=k:=by
 induction l with
 |nil=>exact Nat.zero_le _
 |cons m l ih=>
  unfold aK;have h1:=h m Ai;have h2:=ih fun n hn=>h n (Aj _ hn)
  omega
open Go Go.Lib
def isW (s:List UInt8)(w:Wd):Bool:=decide (w.t=s) && (decide (w.k=1)||decide (w.k=7))
theorem Sk (s:List UInt8)(t:Tkn)(r:List Tkn):isH s (t::r)=isW s t.w:=rfl
theorem Jm (s u:List UInt8):isW s (Ey u)=decide (u=s):=by
 unfold isW Ey;simp
theorem Iw {t:Tkn}{u:List UInt8}(h:t.w=Ey u)(s:List UInt8)(r:List Tkn):isH s (t::r)=decide (u=s):=by
 rw[Sk,h,Jm]
theorem O9 {t:Tkn}{u:List UInt8}(h:t.w=Ey u)(r:List Tkn)(n:Nat)(hu:u=[41]\/u=[44]):Be (t::r) (Bp n)=0:=by
 have key:∀l:List (List UInt8×Int),(∀x∈l,x.1≠[41]/\x.1≠[44])->Be (t::r) l=0:=fun l=>by
  induction l with
  |nil=>intro _;rfl
  |cons y l ih=>
   intro hy;unfold Be
   have:=hy y Ai
   rw[Iw h,Ao (by rcases hu with rfl|rfl<;>simp<;>intro e<;>first|exact this.1 e.symm|exact this.2 e.symm)];exact ih fun x hx=>hy x (Aj _ hx)
 refine key _ ?_;unfold Bp
 repeat' split
 all_goals first|decide|(intro x hx;cases hx)
theorem jT (h:Hd)(h3:Mr h)(n:Nat):isW (Ea n) (I3 h)=false:=by
 have hk:=h3.again 0 0;cases hb:isW (Ea n) (I3 h) with
 |false=>rfl
 |true=>
  unfold isW at hb;simp only[Bool.and_eq_true,Bool.or_eq_true,decide_eq_true_eq] at hb;obtain⟨hb1,hb2⟩:=hb;have hk1:(I3 h).k=1:=by rcases hb2 with e|e;exact e;exact absurd e h3.ne7
  unfold B8 at hk;simp only[hk1,hb1] at hk;have c1:De (Ea n)=none:=by unfold Ea;split<;>rfl
  have c2:Lf (Ea n)=none:=by unfold Ea;split<;>rfl
  rw[Ao tG,Ao tG,Ao tG,Ap trivial,c1,c2] at hk;cases hk
theorem Tg:∀(k:Nat) (a:Ex),a.size<=k->a.All F8->∃w r,a.words=w::r/\∀j,(j=2\/j=6)->isW (Ea j) w=true->A8 a.hd.op<=j
 |0,a,hk,_=>absurd a.size_pos tE
 |k+1,.mk h ks,hk,hg=>by
  have at':∀(n:Nat) (e:Ex),e.size<=k->e.All F8->∃w r,Bq n e=w::r/\∀j,(j=2\/j=6)->isW (Ea j) w=true->n<=j:=fun n e hs he=>by
   unfold Bq
   split
   ·refine⟨_,_,rfl,fun j hj hw=>?_⟩;rw[Jm] at hw;rcases hj with rfl|rfl<;>simp [Ea] at hw
   rename_i hn
   obtain⟨w,r,h1,h2⟩:=Tg k e hs he;exact⟨w,r,h1,fun j hj hw=>by have:=h2 j hj hw;omega⟩
  rw[Ex.All] at hg;show ∃w r,(Ex.mk h ks).words=w::r/\∀j,(j=2\/j=6)->isW (Ea j) w=true->A8 h.op<=j
  rw[Ex.size] at hk;cases G6 hg.1 with
  |leaf h1 h3 ok=>
   refine⟨_,_,(Lu h3 []).2.1,fun j hj hw=>?_⟩;rw[jT h ok] at hw;cases hw
  |pre n hn ho=>
   refine⟨_,_,(Ky hn ho _).2.1,fun j hj hw=>?_⟩;rw[ho,(Nw hn).1];rcases hn with rfl|rfl<;>rcases hj with rfl|rfl<;>first|omega|(revert hw;decide)
  |mid hi=>
   rename_i e f
   rw[Bf,Bf] at hk;obtain⟨w,r,h1,h2⟩:=at' (Fc (A8 h.op)) e tE hg.2.1;refine⟨w,_,by rw[(L4 hi e f).2.1,h1];rfl,fun j hj hw=>?_⟩
   have:=h2 j hj hw
   have:=Yl (A8 h.op)
   omega
  |call hc _ _=>
   refine⟨_,_,(I6 hc _).2.1,fun j hj hw=>?_⟩;exfalso;unfold isW at hw;simp only[Bool.and_eq_true,decide_eq_true_eq] at hw;have h1:=hw.1;rcases hj with rfl|rfl<;>rcases hc with e|e|e|e|e|e|e|e|e<;>rw[e] at h1<;>cases h1
theorem Xd {n:Nat}{a:Ex}(hg:a.All F8):∃w r,Bq n a=w::r/\∀j,(j=2\/j=6)->isW (Ea j) w=true->n<=j/\A8 a.hd.op<=j:=by
 unfold Bq
 split
 ·refine⟨_,_,rfl,fun j hj hw=>?_⟩;rw[Jm] at hw;rcases hj with rfl|rfl<;>simp [Ea] at hw
 obtain⟨w,r,h1,h2⟩:=Tg _ a (Ak _) hg;exact⟨w,r,h1,fun j hj hw=>by have:=h2 j hj hw;omega⟩
theorem map_cons {ts:List Tkn}{w:Wd}{r:List Wd}(h:ts.map Tkn.w=w::r):∃t q,ts=t::q/\t.w=w/\q.map Tkn.w=r:=by
 cases ts with
 |nil=>cases h
 |cons t q=>
  simp only[List.map_cons,List.cons.injEq] at h;exact⟨t,q,rfl,h.1,h.2⟩
theorem Sn {ts:List Tkn}{r s:List Wd}(h:ts.map Tkn.w=r++s):∃p q,ts=p++q/\p.map Tkn.w=r/\q.map Tkn.w=s:=by
 obtain⟨p,q,h1,h2,h3⟩:=List.map_eq_append_iff.1 h;exact⟨p,q,h1,h2,h3⟩
def Ib (a:Ex)(n:Nat):Prop:=∀d ts post,d+Cc n a<=12->ts.map Tkn.w=Bq n a->(∀m,n<=m->Be post (Bp m)=0)->∃a',A9 n d (ts++post)= .ok (a',post)/\a'.bare=a.bare
def Pn (a:Ex)(n:Nat):Prop:=∀d ts post,d+Cc n a<=12->ts.map Tkn.w=Bq n a->(∀m,n<m->Be post (Bp m)=0)->∃a',a'.bare=a.bare/\A9 n d (ts++post)=Ty n a' d post
theorem We {a:Ex}{n:Nat}(h:Pn a n):Ib a n:=fun d ts post hd hw hp=>by
 obtain⟨a',h1,h2⟩:=h d ts post hd hw fun m hm=>hp m tE
 refine⟨a',?_,h1⟩;rw[h2,Dp,Ap (hp n (Ak _))]
theorem Qy {a:Ex}{lo hi:Nat}(hhi:hi<=7)(hsame:∀n,lo<=n->n<=hi->Bq n a=Bq hi a/\Cc n a=Cc hi a)
 (hpre:∀n,lo<=n->n<hi->(n=2\/n=6)->∀ts post,ts.map Tkn.w=Bq hi a->isH (Ea n) (ts++post)=false) (h:Ib a hi):
 ∀(k n:Nat),n+k=hi->lo<=n->Ib a n/\(n<hi->n<=5->n≠2->Pn a n)
 |0,n,hk,hlo=>by
  obtain rfl:n=hi:=by omega
  exact⟨h,fun h=>absurd h (Nat.lt_irrefl _)⟩
 |k+1,n,hk,hlo=>by
  obtain⟨ih,_⟩:=Qy hhi hsame hpre h k (n+1) tE tE;obtain⟨s1,s2⟩:=hsame n hlo tE;obtain⟨s3,s4⟩:=hsame (n+1) tE tE;by_cases h26:n=2\/n=6
  ·refine⟨fun d ts post hd hw hp=>?_,fun _ h5 h2=>by omega⟩;rw[s2] at hd;rw[s1] at hw;obtain⟨a',h1,h2⟩:=ih d ts post (by rw[s4];exact hd) (by rw[s3];exact hw) fun m hm=>hp m tE
   refine⟨a',?_,h2⟩;rw[Ec h26,hpre n hlo tE h26 ts post hw,Ao tG];exact h1
  have hr:Pn a n:=fun d ts post hd hw hp=>by
   rw[s2] at hd;rw[s1] at hw;obtain⟨a',h1,h2⟩:=ih d ts post (by rw[s4];exact hd) (by rw[s3];exact hw) fun m hm=>hp m tE
   refine⟨a',h2,?_⟩;rw[D1 tE tE,h1];rfl
  exact⟨We hr,fun _ _ _=>hr⟩
theorem Th {c:Cl}{d:Nat}:∀(es:List Ex) (e:Ex) (done:List Ex) (ts post:List Tkn) (s:Tkn),(∀x∈e::es,Ib x 0)->(∀x∈e::es,d+x.need<=12)->c.least<=done.length+(e::es).length->done.length+(e::es).length<=c.most->
 ts.map Tkn.w=N4 ((e::es).map Ex.words)->s.w=Ey [41]->∃ks,D8 c done d (ts++s::post)= .ok (.mk ⟨c.op,v0,[],c.line,c.col⟩ (done++ks),post)/\ks.map Ex.bare=(e::es).map Ex.bare
 |[],e,done,ts,post,s,hp,hd,h1,h2,hw,hs=>by
  have hn:Cc 0 e=e.need:=by unfold Cc;rw[Ao tE]
  have hw0:Bq 0 e=e.words:=by unfold Bq;rw[Ao tE]
  obtain⟨a',h3,h4⟩:=hp e Ai d ts (s::post) (by rw[hn];exact hd e Ai) (by rw[hw0];exact hw) (fun m _=>O9 hs post m (.inl rfl));refine⟨[a'],?_,by simp [h4]⟩;rw[Eb,h3];simp only[ExR.next];have e44:isH [44] (s::post)=false:=by rw[Iw hs];decide
  have e41:isH [41] (s::post)=true:=by rw[Iw hs];decide
  simp only[Aa,List.length_nil] at h1;rw[e44,e41,Ao tL,Ao tH];unfold Cy;rw[Ap e41,List.tail_cons]
 |y::r,e,done,ts,post,s,hp,hd,h1,h2,hw,hs=>by
  have hn:Cc 0 e=e.need:=by unfold Cc;rw[Ao tE]
  have hw0:Bq 0 e=e.words:=by unfold Bq;rw[Ao tE]
  have hw':ts.map Tkn.w=e.words++Ey [44]::N4 ((y::r).map Ex.words):=hw;obtain⟨p,q,rfl,hpw,hq⟩:=Sn hw';obtain⟨k,q,rfl,hkw,hq⟩:=map_cons hq;obtain⟨a',h3,h4⟩:=hp e Ai d p (k::(q++s::post)) (by rw[hn];exact hd e Ai) (by rw[hw0];exact hpw) (fun m _=>O9 hkw _ m (.inr rfl));obtain⟨ks,h5,h6⟩:=Th (c:=c) (d:=d) r y (done++[a']) q post s (fun x hx=>hp x (Aj _ hx)) (fun x hx=>hd x (Aj _ hx)) (by simp only[Ab,Aa,List.length_nil] at h1 ⊢;omega) (by simp only[Ab,Aa,List.length_nil] at h2 ⊢;omega) hq hs;refine⟨a'::ks,?_,by simp [h4,h6]⟩;have e44:isH [44] (k::(q++s::post))=true:=by rw[Iw hkw];decide
  have e41:isH [41] (k::(q++s::post))=false:=by rw[Iw hkw];decide
  simp only[Aa] at h2;rw[List.append_assoc,List.cons_append,Eb,h3];simp only[ExR.next];rw[e44,e41,Ao tL,Ap rfl,List.tail_cons,h5,List.append_assoc];rfl
theorem lJ {h:Hd}{a e:Ex}(o:Int)(ho:h.op=o)(hi:h.v=v0/\h.name=[])(ha:a.bare=e.bare)(l c:Int):(Ex.mk ⟨o,v0,[],l,c⟩ [a]).bare=(Ex.mk h [e]).bare:=by
 obtain⟨op,v,nm,l',c'⟩:=h;simp only at ho hi;obtain⟨rfl,rfl⟩:=hi;subst ho;exact Kd rfl (by simp [ha])
theorem Y2 {h:Hd}{a b e f:Ex}(hi:h.v=v0/\h.name=[])(ha:a.bare=e.bare)(hb:b.bare=f.bare)(l c:Int):(Ex.mk ⟨h.op,v0,[],l,c⟩ [a,b]).bare=(Ex.mk h [e,f]).bare:=by
 obtain⟨op,v,nm,l',c'⟩:=h;simp only at hi;obtain⟨rfl,rfl⟩:=hi;exact Kd rfl (by simp [ha,hb])
theorem Jt {P:Hd->Nat->Prop}:∀{l:List Ex},Kb P l->∀e∈l,e.All P
 |[],_,e,h=>by cases h
 |x::l,hl,e,h=>by
  rcases List.mem_cons.1 h with rfl|h
  ·exact hl.1
  exact Jt hl.2 e h
theorem K9:∀{l:List Ex} {e:Ex},e∈l->e.size<=Bf l
 |[],e,h=>by cases h
 |x::l,e,h=>by
  rw[Bf];rcases List.mem_cons.1 h with rfl|h
  ·omega
  have:=K9 h;omega
theorem Rv:∀(k:Nat) (a:Ex),a.size<=k->a.All F8->(∀n,n<=7->Ib a n)/\∀n,n<=5->n≠2->n≠3->Pn a n
 |0,a,hk,_=>absurd a.size_pos tE
 |k+1,.mk h ks,hk,hg=>by
  have hgood:=hg;rw[Ex.size] at hk;rw[Ex.All] at hg;have ihk:∀e∈ks,(∀n,n<=7->Ib e n)/\∀n,n<=5->n≠2->n≠3->Pn e n:=fun e he=>Rv k e (by have:=K9 he;omega) (Jt hg.2 e he)
  have base:∃L,L<=7/\(A8 h.op=L\/A8 h.op=8/\L=7)/\Ib (.mk h ks) L/\(L<=5->L≠2->L≠3->Pn (.mk h ks) L):=by
   cases G6 hg.1 with
   |leaf h1 h3 ok=>
    refine⟨7,by omega,.inr ⟨Ou h1 h3,rfl⟩,fun d ts post _ hw _=>?_,fun h=>absurd h tE⟩;unfold Bq at hw;rw[Ao (by show ¬A8 h.op<7;rw[Ou h1 h3];omega),(Lu h3 []).2.1] at hw;obtain⟨t,q,rfl,ht,hq⟩:=map_cons hw
    have:q=[]:=by simpa using hq
    subst this;have hag:=ok.again t.line t.col;rw[←ht] at hag;rw[Bs];show ∃a',(match B8 t,Cu t with|some h,_=>(.ok (.mk h [],post):ExR)|none,some c=>B4 d post fun q'=>D8 c [] (d+1) q'|none,none=>B4 d (t::post) fun q'=>(A9 0 (d+1) q').next Cy)= .ok (a',post)/\_
    cases hl:B8 t with
    |none=>rw[show(⟨t.w,t.line,t.col⟩:Tkn)=t from rfl,hl] at hag;cases hag
    |some x=>
     rw[show(⟨t.w,t.line,t.col⟩:Tkn)=t from rfl,hl] at hag;injection hag with hag;exact⟨.mk x [],rfl,Kd hag rfl⟩
   |pre n hn ho=>
    rename_i e
    obtain⟨hl,hg3⟩:=Nw hn;refine⟨n,by omega,.inl (by rw[ho,hl]),fun d ts post hd hw hp=>?_,fun h5 h2=>absurd hn tE⟩;have hlo:¬A8 (Ex.mk h [e]).hd.op<n:=by show ¬A8 h.op<n;rw[ho,hl];omega
    unfold Bq at hw;unfold Cc at hd;rw[Ao hlo] at hw hd;rw[(Ky hn ho e).2.1] at hw;rw[(Ky hn ho e).2.2] at hd;obtain⟨t,q,rfl,ht,hq⟩:=map_cons hw
    have his:isH (Ea n) (t::q++post)=true:=by
     rw[List.cons_append,Sk,ht];rcases hn with rfl|rfl<;>decide
    obtain⟨a',h1,h2⟩:=(ihk e Ai).1 n tE (d+1) q post tE hq hp;have h1':A9 n (d+1) ((t::q++post).tail)= .ok (a',post):=h1;refine⟨.mk ⟨K4 n,v0,[],t.line,t.col⟩ [a'],?_,lJ _ ho (hg.1.inner (by rw[ho];exact hg3)) h2 _ _⟩;rw[Ec hn,Ap his,Ao tE,h1'];rfl
   |mid hi=>
    rename_i e f
    obtain⟨hl5,hl2⟩:=Ys hi;have hin:=hg.1.inner (by have:=Zs hi;omega);obtain⟨L,hL⟩:∃L,A8 h.op=L:=⟨_,rfl⟩
    have hsig:∀{t:Tkn},t.w=Td h.op->∀r m,Be (t::r) (Bp m)=if m=L then h.op else 0:=fun{t} ht r m=>by
     have:=Jy (eL hi) (t:=t) (by unfold Vf;exact ht) r m
     rw[←hL];exact this
    have hop0:h.op≠0:=by have:=Zs hi;omega
    have words:∀{ts:List Tkn},ts.map Tkn.w=Bq L (.mk h [e,f])->∃p t q,ts=p++t::q/\p.map Tkn.w=Bq (Fc L) e/\t.w=Td h.op/\q.map Tkn.w=Bq (L+1) f:=fun{ts} hw=>by
     unfold Bq at hw;rw[Ao (by show ¬A8 h.op<L;omega),(L4 hi e f).2.1,hL] at hw;obtain⟨p,q,rfl,hp,hq⟩:=Sn hw;obtain⟨t,q,rfl,ht,hq⟩:=map_cons hq;exact⟨p,t,q,rfl,hp,ht,hq⟩
    have needs:∀{d:Nat},d+Cc L (.mk h [e,f])<=12->d+Cc (Fc L) e<=12/\d+Cc (L+1) f<=12:=fun{d} hd=>by
     unfold Cc at hd;rw[Ao (by show ¬A8 h.op<L;omega),(L4 hi e f).2.2,hL] at hd;omega
    rw[hL] at hl5 hl2;refine⟨L,by omega,.inl hL,?_⟩;by_cases h3:L=3
    ·subst h3;refine⟨fun d ts post hd hw hp=>?_,fun _ _ h=>absurd rfl h⟩;obtain⟨p,t,q,rfl,hpw,ht,hq⟩:=words hw;obtain⟨hd1,hd2⟩:=needs hd;obtain⟨a',h1,h2⟩:=(ihk e Ai).1 4 tE d p (t::(q++post)) hd1 hpw fun m hm=>by rw[hsig ht,Ao tE]
     obtain⟨b',h4,h5⟩:=(ihk f (Aj _ Ai)).1 4 tE d q post hd2 hq fun m hm=>hp m tE
     refine⟨.mk ⟨h.op,v0,[],t.line,t.col⟩ [a',b'],?_,Y2 hin h2 h5 _ _⟩;rw[List.append_assoc,List.cons_append,D1 tE tE,h1];simp only[ExR.next];rw[Dp,hsig ht,Ap rfl,Ao hop0,List.tail_cons,h4];rfl
    have hll:Fc L=L:=by unfold Fc;rw[Ao h3]
    have hrow:Pn (.mk h [e,f]) L:=fun d ts post hd hw hp=>by
     obtain⟨p,t,q,rfl,hpw,ht,hq⟩:=words hw;obtain⟨hd1,hd2⟩:=needs hd;rw[hll] at hpw hd1;obtain⟨a',h1,h2⟩:=(ihk e Ai).2 L hl5 hl2 h3 d p (t::(q++post)) hd1 hpw fun m hm=>by rw[hsig ht,Ao tE]
     obtain⟨b',h4,h5⟩:=(ihk f (Aj _ Ai)).1 (L+1) tE d q post hd2 hq fun m hm=>hp m tE
     refine⟨.mk ⟨h.op,v0,[],t.line,t.col⟩ [a',b'],Y2 hin h1 h5 _ _,?_⟩;rw[List.append_assoc,List.cons_append,h2,Dp,hsig ht,Ap rfl,Ao hop0,List.tail_cons,h4];simp only[ExR.next];rw[Ao h3];rfl
    exact⟨We hrow,fun _ _ _=>hrow⟩
   |call hc hfew hmany=>
    rename_i e es
    have hin:=hg.1.inner (by have:=Sa hc;omega);refine⟨7,by omega,.inr ⟨G9 hc,rfl⟩,fun d ts post hd hw hp=>?_,fun h=>absurd h tE⟩;have hlo:¬A8 (Ex.mk h (e::es)).hd.op<7:=by show ¬A8 h.op<7;rw[G9 hc];omega
    unfold Bq at hw;unfold Cc at hd;rw[Ao hlo] at hw hd;rw[(I6 hc _).2.1] at hw;rw[(I6 hc _).2.2] at hd;obtain⟨t,q,rfl,ht,hq⟩:=map_cons hw;obtain⟨o,q,rfl,ho,hq⟩:=map_cons hq;obtain⟨us,q,rfl,hu,hq⟩:=Sn hq;obtain⟨s,q,rfl,hs,hq⟩:=map_cons hq
    have:q=[]:=by simpa using hq
    subst this;obtain⟨c1,c2,_⟩:=Qx hc t.line t.col;rw[←ht] at c1 c2;have hop:isH [40] (o::(us++s::post))=true:=by rw[Iw ho];decide
    have hmx:∀x∈e::es,d+1+x.need<=12:=fun x hx=>by
     have:=eR (List.mem_map_of_mem (f:=Ex.need) hx)
     omega
    obtain⟨ks',h1,h2⟩:=Th (c:=⟨h.op,(D4 h.op).1,(D4 h.op).2,t.line,t.col⟩) (d:=d+1) es e [] us post s (fun x hx=>(ihk x hx).1 0 tE) hmx (by simpa using hfew) (by simpa using hmany) hu hs;rw[show t::o::(us++[s])++post=t::o::(us++s::post) by simp,Bs];refine⟨.mk ⟨h.op,v0,[],t.line,t.col⟩ ks',?_,?_⟩
    ·show(match B8 t,Cu t with|some h,_=>(.ok (.mk h [],o::(us++s::post)):ExR)|none,some c=>B4 d (o::(us++s::post)) fun q'=>D8 c [] (d+1) q'|none,none=>B4 d (t::o::(us++s::post)) fun q'=>(A9 0 (d+1) q').next Cy)=_
     rw[show(⟨t.w,t.line,t.col⟩:Tkn)=t from rfl] at c1 c2;rw[c1,c2];simp only;unfold B4;rw[Ap hop,Ao tE,List.tail_cons];exact h1
    obtain⟨op,v,nm,l',c'⟩:=h;simp only at hin;obtain⟨rfl,rfl⟩:=hin;exact Kd rfl h2
  obtain⟨L,hL7,hLl,hpL,hrL⟩:=base
  have hge:∀n,n<=L->¬A8 (Ex.mk h ks).hd.op<n:=fun n hn=>by
   show ¬A8 h.op<n;omega
  have low:∀n,n<=L->Ib (.mk h ks) n/\(n<L->n<=5->n≠2->Pn (.mk h ks) n):=fun n hn=>
   Qy (lo:=0) hL7 (fun m _ hm=>⟨by unfold Bq;rw[Ao (hge m hm),Ao (hge L (Ak _))],by unfold Cc;rw[Ao (hge m hm),Ao (hge L (Ak _))]⟩)
    (fun m _ hm h26 ts post hw=>by
     obtain⟨w,r,h1,h2⟩:=Xd (n:=L) hgood;rw[h1] at hw;obtain⟨t,q,rfl,ht,_⟩:=map_cons hw;rw[List.cons_append,Sk,ht];cases hb:isW (Ea m) w with
     |false=>rfl
     |true=>
      have:=(h2 m h26 hb).1
      omega) hpL (L - n) n tE (Nat.zero_le _)
  have par:Ib (.mk h ks) 7\/L=7:=by
   by_cases h7:L=7
   ·exact .inr h7
   refine .inl fun d ts post hd hw hp=>?_
   have hlt:A8 (Ex.mk h ks).hd.op<7:=by show A8 h.op<7;omega
   unfold Bq at hw;unfold Cc at hd;rw[Ap hlt] at hw hd;obtain⟨o,q,rfl,ho,hq⟩:=map_cons hw;obtain⟨us,q,rfl,hu,hq⟩:=Sn hq;obtain⟨s,q,rfl,hs,hq⟩:=map_cons hq
   have:q=[]:=by simpa using hq
   subst this;have hu0:us.map Tkn.w=Bq 0 (.mk h ks):=by unfold Bq;rw[Ao tE];exact hu
   have hn0:Cc 0 (.mk h ks)=(Ex.mk h ks).need:=by unfold Cc;rw[Ao tE]
   obtain⟨a',h1,h2⟩:=(low 0 (Nat.zero_le _)).1 (d+1) us (s::post) (by rw[hn0];omega) hu0 fun m _=>O9 hs post m (.inl rfl)
   have hlf:B8 o=none:=by unfold B8;rw[ho];rfl
   have hcf:Cu o=none:=by unfold Cu;rw[ho];rfl
   have e40:isH [40] (o::(us++s::post))=true:=by rw[Iw ho];decide
   have e41:isH [41] (s::post)=true:=by rw[Iw hs];decide
   refine⟨a',?_,h2⟩;rw[show o::(us++[s])++post=o::(us++s::post) by simp,Bs];simp only[hlf,hcf];unfold B4;rw[Ap e40,Ao tE,List.tail_cons]
   show(A9 0 (d+1) (us++s::post)).next Cy=_
   rw[h1];simp only[ExR.next];unfold Cy;rw[Ap e41,List.tail_cons]
  have high:∀n,L<n->n<=7->Ib (.mk h ks) n/\(n<7->n<=5->n≠2->Pn (.mk h ks) n):=fun n hn h7=>by
   have hlt:∀m,L<m->m<=7->A8 (Ex.mk h ks).hd.op<m:=fun m hm hm7=>by show A8 h.op<m;omega
   rcases par with par|par
   ·exact Qy (lo:=L+1) (Ak 7) (fun m hm hm7=>⟨by unfold Bq;rw[Ap (hlt m tE hm7),Ap (hlt 7 tE tE)],by unfold Cc;rw[Ap (hlt m tE hm7),Ap (hlt 7 tE tE)]⟩)
     (fun m hm hm7 h26 ts post hw=>by
      unfold Bq at hw;rw[Ap (hlt 7 tE tE)] at hw;obtain⟨t,q,rfl,ht,_⟩:=map_cons hw;rw[List.cons_append,Sk,ht,Jm]
      rcases h26 with rfl|rfl<;>rfl) par (7 - n) n tE tE
   omega
  refine⟨fun n hn=>?_,fun n h5 h2 h3=>?_⟩
  ·by_cases hnl:n<=L
   ·exact(low n hnl).1
   exact(high n tE hn).1
  by_cases hnl:n<L
  ·exact(low n tE).2 hnl h5 h2
  by_cases he:n=L
  ·subst he;exact hrL h5 h2 h3
  exact(high n tE tE).2 tE h5 h2
open Go Go.Lib
def Dn (l:List Wd):Nat:=l.countP (isW [40])
def E7 (l:List Tkn):Nat:=Dn (l.map Tkn.w)
theorem Qs (l m:List Wd):Dn (l++m)=Dn l+Dn m:=List.countP_append
theorem Fr (w:Wd)(l:List Wd):Dn (w::l)=Dn l+if isW [40] w=true then 1 else 0:=List.countP_cons
theorem U9 (l:List Wd):Dn (aJ l)=Dn l+1:=by
 unfold aJ;rw[Fr,Qs,Jm,Fr,Jm];rfl
theorem Ke (t:Tkn)(l:List Tkn):E7 (t::l)=E7 l+if isW [40] t.w=true then 1 else 0:=Fr _ _
theorem Jc (t:Tkn)(l:List Tkn):E7 l<=E7 (t::l):=by rw[Ke];omega
theorem C6 (n:Nat)(a:Ex):Dn (Bq n a)=Dn a.words+if A8 a.hd.op<n then 1 else 0:=by
 unfold Bq
 split
 ·rw[U9]
 rfl
theorem D6 (n:Nat)(a:Ex):Cc n a=a.need+if A8 a.hd.op<n then 1 else 0:=by
 unfold Cc
 split<;>rfl
theorem R9 {n m:Nat}(h:n<=m)(a:Ex):Cc n a<=Cc m a/\Dn (Bq n a)<=Dn (Bq m a):=by
 rw[D6,D6,C6,C6];by_cases h1:A8 a.hd.op<n
 ·rw[Ap h1,Ap tE];omega
 rw[Ao h1];omega
theorem rH (m:Nat)(a:Ex):Cc m a<=Cc 0 a+1/\Dn (Bq m a)<=Dn (Bq 0 a)+1:=by
 rw[D6,D6,C6,C6];constructor<;>split<;>omega
def N1 (l:List Ex):Nat:=(l.map fun e=>Dn e.words).sum
theorem oI (l m:List Ex):N1 (l++m)=N1 l+N1 m:=by simp [N1]
theorem Ug:∀l:List Ex,Dn (N4 (l.map Ex.words))=N1 l
 |[]=>rfl
 |[e]=>by simp [N4,N1]
 |e::f::l=>by
  show Dn (e.words++Ey [44]::N4 ((f::l).map Ex.words))=_;rw[Qs,Fr,Ug (f::l),Jm];simp [N1]
theorem dE (h:Hd):Dn [I3 h]=0:=by
 have:isW [40] (I3 h)=false:=by
  have hx:∀w:Wd,w.t≠[40]->isW [40] w=false:=fun w hw=>by unfold isW;rw[An hw];rfl
  have hy:∀w:Wd,w.k≠1->w.k≠7->isW [40] w=false:=fun w h1 h7=>by unfold isW;rw[An h1,An h7];simp
  unfold I3
  split
  ·exact hy _ tH tH
  split
  ·exact hy _ tH tH
  split
  ·exact hy _ tH tH
  split
  ·exact hy _ tH tH
  split
  ·exact hy _ tH tH
  rename_i h12 h3 h5
  refine hx _ ?_;show Po h.v.1 h.v.2.1 h.v.2.2≠[40];unfold Po;rw[Ao (fun e=>h12 (.inl e)),Ao (fun e=>h12 (.inr e)),Ao h3];by_cases h4:h.v.1=4
  ·rw[Ap h4];split<;>decide
  rw[Ao h4,Ao h5];decide
 rw[Fr,this];rfl
theorem cK {op:Int}(h:Gf op)(k:Int)(ws:List Wd):Dn (⟨k,C5 op,v0⟩::ws)=Dn ws:=by
 have:isW [40] ⟨k,C5 op,v0⟩=false:=by
  have hw:C5 op≠[40]:=by rcases h with rfl|rfl|rfl|rfl|rfl|rfl|rfl|rfl|rfl<;>decide
  unfold isW;rw[An hw];rfl
 rw[Fr,this];rfl
theorem lP {op:Int}(h:Lo op)(ws:List Wd):Dn (Td op::ws)=Dn ws:=by
 have:isW [40] (Td op)=false:=by
  have hw:C5 op≠[40]:=by rcases h with rfl|rfl|rfl|rfl|rfl|rfl|rfl|rfl|rfl|rfl|rfl|rfl<;>decide
  unfold isW Td;rw[An hw];rfl
 rw[Fr,this];rfl
theorem mX {t:Tkn}{h:Hd}(he:B8 t=some h):1<=h.op/\h.op<=3:=by
 unfold B8 at he
 repeat' split at he
 all_goals first
  |(cases he;done)
  |(injection he with he;subst he;constructor<;>simp;done)
  |skip
 cases hl:Lf t.w.t with
 |none=>rw[hl] at he;cases he
 |some v=>rw[hl] at he;injection he with he;subst he;constructor<;>simp
instance (op:Int):Decidable (Lo op):=by unfold Lo;infer_instance
theorem nD {r:List Tkn}{n:Nat}(h:Be r (Bp n)≠0):Lo (Be r (Bp n))/\A8 (Be r (Bp n))=n:=by
 have hin:=Nh h;obtain⟨h5,h2⟩:=Li h;obtain⟨o,ho⟩:∃o,Be r (Bp n)=o:=⟨_,rfl⟩;rw[ho] at hin ⊢;clear h ho;obtain rfl|rfl|rfl|rfl|rfl:n=0\/n=1\/n=3\/n=4\/n=5:=by omega
 ·exact(by decide:∀o∈(Bp 0).map Prod.snd,Lo o/\A8 o=0) o hin
 ·exact(by decide:∀o∈(Bp 1).map Prod.snd,Lo o/\A8 o=1) o hin
 ·exact(by decide:∀o∈(Bp 3).map Prod.snd,Lo o/\A8 o=3) o hin
 ·exact(by decide:∀o∈(Bp 4).map Prod.snd,Lo o/\A8 o=4) o hin
 exact(by decide:∀o∈(Bp 5).map Prod.snd,Lo o/\A8 o=5) o hin
theorem gS:∀(td:F7) (d:Nat) (r:List Tkn),td.ok->match td with
 | .lvl n=>d<=12->∀a q,exE (.lvl n) d r= .ok (a,q)->d+Cc n a<=12/\Dn (Bq n a)+E7 q<=E7 r
 | .row n b=>d+Cc (Fc n) b<=12->∀a q,exE (.row n b) d r= .ok (a,q)->d+Cc n a<=12/\Dn (Bq n a)+E7 q<=Dn (Bq (Fc n) b)+E7 r
 | .args c ks=>Gf c.op->(∀x∈ks,d+x.need<=12)->d<=12->∀a q,exE (.args c ks) d r= .ok (a,q)->∃ks',a= .mk ⟨c.op,v0,[],c.line,c.col⟩ ks'/\(∀x∈ks',d+x.need<=12)/\N1 ks'+E7 q<=N1 ks+E7 r:=by
 refine Ph (P:=fun td d r=>match td with
  | .lvl n=>d<=12->∀a q,exE (.lvl n) d r= .ok (a,q)->d+Cc n a<=12/\Dn (Bq n a)+E7 q<=E7 r
  | .row n b=>d+Cc (Fc n) b<=12->∀a q,exE (.row n b) d r= .ok (a,q)->d+Cc n a<=12/\Dn (Bq n a)+E7 q<=Dn (Bq (Fc n) b)+E7 r
  | .args c ks=>Gf c.op->(∀x∈ks,d+x.need<=12)->d<=12->∀a q,exE (.args c ks) d r= .ok (a,q)->∃ks',a= .mk ⟨c.op,v0,[],c.line,c.col⟩ ks'/\(∀x∈ks',d+x.need<=12)/\N1 ks'+E7 q<=N1 ks+E7 r) ?_ ?_ ?_ ?_ ?_
 ·intro n d r hn h1 h2 hd a q h;rw[show exE (.lvl n) d r=_ from Ec hn] at h;by_cases hp:isH (Ea n) r=true
  ·rw[Ap hp] at h;obtain⟨t,q0,rfl⟩:=Cf hp;by_cases hd12:d=12
   ·rw[Ap hd12] at h;cases h
   rw[Ao hd12] at h;obtain⟨a',q',h3,h4⟩:=Ds h;injection h4 with h4;simp only[Prod.mk.injEq] at h4;obtain⟨rfl,rfl⟩:=h4;obtain⟨i1,i2⟩:=h1 t q0 rfl hp hd12 tE a' q' h3;have hl:=(Nw hn).1;have hlo:¬A8 (Ex.mk ⟨K4 n,v0,[],(plH (t::q0)).1,(plH (t::q0)).2⟩ [a']).hd.op<n:=by show ¬A8 (K4 n)<n;omega
   have:=Jc t q0
   rw[D6,C6,Ao hlo,(Ky hn rfl a').2.2,(Ky hn rfl a').2.1];refine⟨by omega,?_⟩;rw[Fr]
   have:isW [40] (if n=2 then(⟨1,[110,111,116],v0⟩:Wd) else Ey [45])=false:=by rcases hn with rfl|rfl<;>decide
   rw[this];simp only[Bool.false_eq_true,if_false];omega
  rw[Ao hp] at h;obtain⟨i1,i2⟩:=h2 wK hd a q h;obtain⟨m1,m2⟩:=R9 (show n<=n+1 by omega) a;omega
 ·intro d r h1 h2 hd a q h;rw[show exE (.lvl 7) d r=_ from Bs d r] at h;cases r with
  |nil=>cases h
  |cons t r=>
   simp only at h;cases hl:B8 t with
   |some x=>
    rw[hl] at h;injection h with h;simp only[Prod.mk.injEq] at h;obtain⟨rfl,rfl⟩:=h;obtain⟨o1,o3⟩:=mX hl;have hlo:¬A8 (Ex.mk x []).hd.op<7:=by show ¬A8 x.op<7;rw[Ou o1 o3];omega
    have:=Jc t r
    rw[D6,C6,Ao hlo,(Lu o3 []).2.2,(Lu o3 []).2.1,dE];omega
   |none=>
    cases hc:Cu t with
    |some c=>
     rw[hl,hc] at h;simp only at h;obtain⟨ho,hd12,h⟩:=Kr h;obtain⟨t',q',rfl⟩:=Cf ho;have hcc:=(Tl hc).1;obtain⟨ks',rfl,i1,i2⟩:=h1 t t' q' c rfl hl hc ho hd12 hcc (fun x hx=>by cases hx) tE a q h;have hlo:¬A8 (Ex.mk ⟨c.op,v0,[],c.line,c.col⟩ ks').hd.op<7:=by show ¬A8 c.op<7;rw[G9 hcc];omega
     have e1:=I6 (h:=⟨c.op,v0,[],c.line,c.col⟩) hcc ks';rw[D6,C6,Ao hlo,e1.2.2,e1.2.1,cK hcc,U9,Ug]
     have hm:=qX (l:=ks'.map Ex.need) (k:=12 - (d+1)) (fun n hn=>by
      obtain⟨x,hx,rfl⟩:=List.mem_map.1 hn
      have:=i1 x hx
      omega)
     rw[Ke,Ke,Ap (show isW [40] t'.w=true from ho)];simp only[N1,List.map_nil,List.sum_nil,Nat.zero_add] at i2;refine⟨by omega,?_⟩;simp only[N1];omega
    |none=>
     rw[hl,hc] at h;simp only at h;obtain⟨ho,hd12,h⟩:=Kr h;obtain⟨a',q',h3,h4⟩:=Ds h;obtain⟨rfl,h41,rfl⟩:=L3 h4;obtain⟨t',q'',rfl⟩:=Cf h41;obtain⟨i1,i2⟩:=h2 t r rfl hl hc ho hd12 tE _ _ h3;obtain⟨m1,m2⟩:=rH 7 a
     have:=Jc t' q''
     rw[Ke,Ap (show isW [40] t.w=true from ho)];rw[List.tail_cons];omega
 ·intro n d r h5 h2 h1 h3 hd a q h;rw[show exE (.lvl n) d r=_ from D1 h5 h2] at h;obtain⟨b,q',h4,h6⟩:=Ds h;obtain⟨i1,i2⟩:=h1 hd b q' h4;have hle:Fc n<=n+1:=by unfold Fc;split<;>omega
  obtain⟨m1,m2⟩:=R9 hle b;obtain⟨i3,i4⟩:=h3 b q' h4 tE a q h6;omega
 ·intro n b d r h1 hd a q h;rw[show exE (.row n b) d r=_ from Dp n b d r] at h;by_cases hz:Be r (Bp n)=0
  ·rw[Ap hz] at h;injection h with h;simp only[Prod.mk.injEq] at h;obtain⟨rfl,rfl⟩:=h;obtain⟨m1,m2⟩:=R9 (Yl n) b;omega
  rw[Ao hz] at h;obtain⟨t,q0,rfl⟩:=Fe hz;obtain⟨h5,h2⟩:=Li hz;obtain⟨hi,hlv⟩:=nD hz;obtain⟨g1,g2⟩:=h1 t q0 rfl hz h5 h2;obtain⟨c,q',h3,h4⟩:=Ds h;rw[List.tail_cons] at h3;obtain⟨i1,i2⟩:=g1 (by have:=(R9 (Nat.zero_le (Fc n)) b).1;omega) c q' h3
  have:=Jc t q0
  have e1:=L4 (h:=⟨Be (t::q0) (Bp n),v0,[],(plH (t::q0)).1,(plH (t::q0)).2⟩) hi b c;have hlo:¬A8 (Ex.mk ⟨Be (t::q0) (Bp n),v0,[],(plH (t::q0)).1,(plH (t::q0)).2⟩ [b,c]).hd.op<n:=by show ¬A8 (Be (t::q0) (Bp n))<n;omega
  simp only[hlv] at e1
  have hnode:d+Cc n (Ex.mk ⟨Be (t::q0) (Bp n),v0,[],(plH (t::q0)).1,(plH (t::q0)).2⟩ [b,c])<=12/\Dn (Bq n (Ex.mk ⟨Be (t::q0) (Bp n),v0,[],(plH (t::q0)).1,(plH (t::q0)).2⟩ [b,c]))+E7 q'<=Dn (Bq (Fc n) b)+E7 (t::q0):=by
   rw[D6,C6,Ao hlo,e1.2.2,e1.2.1,Qs,lP hi];omega
  by_cases hn3:n=3
  ·rw[Ap hn3] at h4;injection h4 with h4;simp only[Prod.mk.injEq] at h4;obtain⟨rfl,rfl⟩:=h4;exact hnode
  rw[Ao hn3] at h4;have hll:Fc n=n:=by unfold Fc;rw[Ao hn3]
  obtain⟨i3,i4⟩:=g2 c q' h3 (by rw[hll];exact hnode.1) a q h4;rw[hll] at i4 hnode ⊢;omega
 intro c ks d r h1 h2 hc hks hd a q h;rw[show exE (.args c ks) d r=_ from Eb c ks d r] at h;obtain⟨b,q',h3,h4⟩:=Ds h;obtain⟨i1,i2⟩:=h1 hd b q' h3
 have hb0:Cc 0 b=b.need/\Dn (Bq 0 b)=Dn b.words:=by
  rw[D6,C6,Ao tE];exact⟨rfl,rfl⟩
 have hks':∀x∈ks++[b],d+x.need<=12:=fun x hx=>by
  rcases List.mem_append.1 hx with hx|hx
  ·exact hks x hx
  rw[List.mem_singleton.1 hx];omega
 have hsum:N1 (ks++[b])=N1 ks+Dn b.words:=by rw[oI];simp [N1]
 split at h4
 ·cases h4
 split at h4
 ·rename_i h44
  obtain⟨t,q0,rfl⟩:=Cf h44;obtain⟨ks',e,i3,i4⟩:=h2 b t q0 h3 h44 hc hks' hd a q h4
  have:=Jc t q0
  exact⟨ks',e,i3,by omega⟩
 obtain⟨rfl,h41,rfl⟩:=L3 h4;obtain⟨t,q0,rfl⟩:=Cf h41
 have:=Jc t q0
 refine⟨_,rfl,hks',?_⟩;rw[List.tail_cons];omega
theorem aL {l:List UInt8}{a:Ex}(h:Bj l= .ok a):a.need<=12/\∃ts,Ev l= .ok ts/\Dn a.words<=E7 ts:=by
 obtain⟨ts,h1,h2,_⟩:=D0 h;obtain⟨i1,i2⟩:=gS (.lvl 0) 0 ts vB tE a [] h2;rw[D6,Ao tE] at i1;rw[C6,Ao tE] at i2;exact⟨by omega,ts,h1,by omega⟩
def Dr (t:List UInt8)(ws:List Wd)(r:List UInt8):Prop:=∀x y,∃us x' y',us.map Tkn.w=ws/\LX (t++r) x y=F0 (.ok us) (LX r x' y')
theorem Dr.app {t u r:List UInt8}{ws vs:List Wd}(h:Dr t ws (u++r))(k:Dr u vs r):Dr (t++u) (ws++vs) r:=fun x y=>by
 obtain⟨us,x1,y1,h1,h2⟩:=h x y;obtain⟨us',x2,y2,h3,h4⟩:=k x1 y1;exact⟨us++us',x2,y2,by rw[List.map_append,h1,h3],by rw[List.append_assoc,h2,h4,gI]⟩
theorem Dr.cons {c:UInt8}{u r:List UInt8}{ws vs:List Wd}(h:Dr [c] ws (u++r))(k:Dr u vs r):Dr (c::u) (ws++vs) r:=Dr.app (t:=[c]) h k
theorem Lr {c:UInt8}(h:c=40\/c=41\/c=44\/c=45)(r:List UInt8):Dr [c] [Ey [c]] r:=fun x y=>
 ⟨[⟨⟨7,[c],v0⟩,x,y⟩],x,y+1,rfl,by rw[List.cons_append,List.nil_append,rS h,Rc]⟩
theorem gF (x:Except (Int×Int×Int) (List Tkn)):F0 (.ok []) x=x:=by cases x<;>rfl
theorem Kk (r:List UInt8):Dr [32] [] r:=fun x y=>⟨[],x,y+1,rfl,by rw[List.cons_append,List.nil_append,E8,gF]⟩
theorem O0 {w:Wd}(hf:Qp w)(hk:w.k≠7){r:List UInt8}(hr:Sep r):Dr (F3 w) [w] r:=fun x y=>
 ⟨[⟨w,x,y⟩],x,_,rfl,by rw[rG hf hk hr,Rc]⟩
theorem kW {op:Int}(h:Lo op)(r:List UInt8):Dr (C5 op) [Td op] (32::r):=fun x y=>
 ⟨[⟨Td op,x,y⟩],x,_,rfl,by rw[eH (eL h) (32::r) (Oo r),Rc];rfl⟩
theorem U8 {t r:List UInt8}{ws:List Wd}(h:Dr t ws (41::r)):Dr (Nc t) (aJ ws) r:=by
 have h1:=Dr.app (t:=[40]) (u:=t++[41]) (r:=r) (ws:=[Ey [40]]) (vs:=ws++[Ey [41]]) (Lr tH _) (Dr.app uB (Lr tH r));exact h1
theorem T1 {r:List UInt8}:∀l:List Ex,l≠[]->(∀e∈l,∀r,Sep r->Dr e.text e.words r)->Dr (Gl [44,32] (l.map Ex.text)) (N4 (l.map Ex.words)) (41::r)
 |[],h,_=>absurd rfl h
 |[e],_,h=>h e Ai _ (Lc r tH)
 |e::f::l,_,h=>by
  have ih:=T1 (r:=r) (f::l) tH fun x hx=>h x (Aj _ hx)
  show Dr (e.text++([44,32]++Gl [44,32] ((f::l).map Ex.text))) (e.words++Ey [44]::N4 ((f::l).map Ex.words)) (41::r);refine Dr.app (h e Ai _ wJ) ?_;exact Dr.app (t:=[44]) (u:=32::Gl [44,32] ((f::l).map Ex.text)) (ws:=[Ey [44]]) (Lr tH _) (Dr.app (t:=[32]) (ws:=[]) (Kk _) ih)
theorem Tr:∀(k:Nat) (a:Ex),a.size<=k->a.All F8->∀r,Sep r->Dr a.text a.words r
 |0,a,hk,_,_,_=>absurd a.size_pos tE
 |k+1,.mk h ks,hk,hg,r,hr=>by
  rw[Ex.size] at hk;rw[Ex.All] at hg;have ih:∀e∈ks,∀r,Sep r->Dr e.text e.words r:=fun e he r hr=>Tr k e (by have:=K9 he;omega) (Jt hg.2 e he) r hr
  have ihA:∀e∈ks,∀n r,Sep r->Dr (Iz n e) (Bq n e) r:=fun e he n r hr=>by
   unfold Iz Bq
   split
   ·exact U8 (ih e he _ (Lc r tH))
   exact ih e he r hr
  cases G6 hg.1 with
  |leaf h1 h3 ok=>
   rw[(Lu h3 []).1,(Lu h3 []).2.1,←ok.spell];exact O0 ok.form ok.ne7 hr
  |pre n hn ho=>
   rename_i e
   rw[(Ky hn ho e).1,(Ky hn ho e).2.1];rcases hn with rfl|rfl
   ·rw[Ap rfl];refine Dr.app (t:=[110,111,116]) (u:=32::Iz 2 e) (ws:=[⟨1,[110,111,116],v0⟩]) ?_ (Dr.app (t:=[32]) (ws:=[]) (Kk _) (ihA e Ai 2 r hr));exact O0 (w:=⟨1,[110,111,116],v0⟩) (.name rfl tG rfl) tG wJ
   rw[Ao tG];exact Dr.app (t:=[45]) (ws:=[Ey [45]]) (Lr tH _) (ihA e Ai 6 r hr)
  |mid hi=>
   rename_i e f
   rw[(L4 hi e f).1,(L4 hi e f).2.1];refine Dr.app (ihA e Ai _ _ wJ) ?_;refine Dr.app (t:=[32]) (ws:=[]) (Kk _) ?_;refine Dr.app (ws:=[Td h.op]) (kW hi _) ?_;exact Dr.app (t:=[32]) (ws:=[]) (Kk _) (ihA f (Aj _ Ai) _ r hr)
  |call hc q1 q2=>
   rename_i e es
   rw[(I6 hc _).1,(I6 hc _).2.1];have hcw:=Qx hc 0 0;refine Dr.app (ws:=[⟨1,C5 h.op,v0⟩]) ?_ (U8 (T1 _ tH ih));exact O0 (w:=⟨1,C5 h.op,v0⟩) hcw.2.2.1 tH wJ
theorem lC {a:Ex}(hg:a.All F8):∃us,Ev a.text= .ok us/\us.map Tkn.w=a.words:=by
 obtain⟨us,x,y,h1,h2⟩:=Tr _ a (Ak _) hg [] qO 1 1;rw[List.append_nil,Iy] at h2;refine⟨us,?_,h1⟩;rw[Ns,h2];simp [F0]
theorem Ts:∀(k:Nat) (a:Ex),a.size<=k->a.All F8->a.text.length+4<=420*a.size
 |0,a,hk,_=>absurd a.size_pos tE
 |k+1,.mk h ks,hk,hg=>by
  rw[Ex.size] at hk ⊢;rw[Ex.All] at hg;have ih:∀e∈ks,e.text.length+4<=420*e.size:=fun e he=>Ts k e (by have:=K9 he;omega) (Jt hg.2 e he)
  have ihA:∀e∈ks,∀n,(Iz n e).length+2<=420*e.size:=fun e he n=>by
   have:=ih e he
   unfold Iz Nc
   split
   ·simp only[Aa,Ab,List.length_nil];omega
   omega
  cases G6 hg.1 with
  |leaf h1 h3 ok=>
   rw[(Lu h3 []).1]
   have:=ok.short
   simp only[Bf];omega
  |pre n hn ho=>
   rename_i e
   rw[(Ky hn ho e).1];have h1:=ihA e Ai n;have h2:(C5 (K4 n)).length<=4:=by rcases hn with rfl|rfl<;>decide
   simp only[Bf,Ab];omega
  |mid hi=>
   rename_i e f
   rw[(L4 hi e f).1];have h1:=ihA e Ai (Fc (A8 h.op));have h3:=ihA f (Aj _ Ai) (A8 h.op+1);have h2:(C5 h.op).length<=3:=by rcases hi with e|e|e|e|e|e|e|e|e|e|e|e<;>rw[e]<;>decide
   simp only[Bf,Ab,Aa];omega
  |call hc q1 q2=>
   rename_i e es
   rw[(I6 hc _).1];have h2:(C5 h.op).length<=8:=by rcases hc with e|e|e|e|e|e|e|e|e<;>rw[e]<;>decide
   have key:∀l:List Ex,(∀e∈l,e.text.length+4<=420*e.size)->(Gl [44,32] (l.map Ex.text)).length<=420*Bf l:=fun l=>by
    induction l with
    |nil=>intro _;exact Nat.zero_le _
    |cons x l ih=>
     intro hl;have h3:=hl x Ai;have h4:=ih fun e he=>hl e (Aj _ he)
     cases l with
     |nil=>simp only[List.map_cons,List.map_nil,Gl,Bf];omega
     |cons y l=>
      rw[Bf]
      show(x.text++([44,32]++Gl [44,32] ((y::l).map Ex.text))).length<=_
      simp only[Ab,Aa,List.length_nil] at h4 ⊢;omega
   have h5:=key (e::es) ih;unfold Nc;simp only[Ab,Aa,List.length_nil] at h5 ⊢;omega
theorem gB {l:List UInt8}{a:Ex}(h:Bj l= .ok a):∃a',Bj a.text= .ok a'/\a'.bare=a.bare:=by
 have hg:=Nv h;obtain⟨h12,_⟩:=aL h;obtain⟨_,_,_,h60⟩:=D0 h;obtain⟨us,h1,h2⟩:=lC hg;have hw:us.map Tkn.w=Bq 0 a:=by unfold Bq;rw[Ao tE];exact h2
 have hn:Cc 0 a=a.need:=by unfold Cc;rw[Ao tE]
 obtain⟨a',h3,h4⟩:=(Rv _ a (Ak _) hg).1 0 tE 0 us [] (by rw[hn];omega) hw fun m _=>Ji _
 rw[List.append_nil] at h3;have hz:=Qi h4;refine⟨a',?_,h4⟩;simp only[Bj,h1,h3];rw[Ao tE,Ap trivial]
end Go.Proofs.YtmpfilddeglgbaaGreatDoor
