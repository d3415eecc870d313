import Derived.Test.YtgfakdobajgnfaaGreatDoorQt14
set_option maxRecDepth 100000
set_option maxHeartbeats 16000000
namespace Go.Proofs.YtgfakdobajgnfaaGreatDoor
open Go Go.Lib
def Sep (r:List UInt8):Prop:=∀c,r.head? =some c->c=32\/c=40\/c=41\/c=44
theorem Sep.nam {r:List UInt8}(h:Sep r):∀c,r.head? =some c->Cn c=false:=fun c hc=>by
 rcases h c hc with rfl|rfl|rfl|rfl<;>rfl
theorem Sep.dig {r:List UInt8}(h:Sep r):∀c,r.head? =some c->Bc c=false:=fun c hc=>by
 rcases h c hc with rfl|rfl|rfl|rfl<;>rfl
theorem Sep.point {r:List UInt8}(h:Sep r):r.head?≠some 46:=fun e=>by
 rcases h _ e with h|h|h|h<;>cases h
theorem oR:Sep []:=fun c h=>by cases h
theorem Ku {c:UInt8}(r:List UInt8)(h:c=32\/c=40\/c=41\/c=44):Sep (c::r):=fun d hd=>by
 injection hd with hd;subst hd;exact h
theorem Yl (n:Nat)(r:List UInt8)(h:r.head?≠some 46):Cj n r=n:=by
 unfold Cj
 split
 ·exact absurd rfl h
 rfl
theorem aK {t r:List UInt8}(h:Br t=t.length)(hr:Sep r):Br (t++r)=t.length:=by
 rw[Fm] at h ⊢;rw[K4 t r hr.dig];have hle:A7 Bc t<=t.length:=C2 Bc t;rw[List.drop_append_of_le_length hle];by_cases hf:A7 Bc t=t.length
 ·rw[hf,List.drop_length,List.nil_append,Yl _ _ hr.point]
 obtain⟨x,hx⟩:∃x,t.drop (A7 Bc t)=x:=⟨_,rfl⟩;have hxl:x.length=t.length - A7 Bc t:=by rw[←hx,List.length_drop]
 rw[hx] at h ⊢;unfold Cj at h ⊢
 split at h
 ·rename_i c q
  by_cases hd:Bc c=true
  ·rw[Ap hd] at h;rw[show 46::c::q++r=46::c::(q++r) from rfl];simp only;rw[Ap hd,←List.cons_append,K4 (c::q) r hr.dig];exact h
  rw[Ao hd] at h;omega
 omega
theorem dT {w:Wd}(hf:Pv w)(hk:w.k≠7){r:List UInt8}(hr:Sep r):Bq (Fv w++r)= .ok (w,(Fv w).length)/\∃c q,Fv w=c::q/\Iz c:=by
 obtain⟨k,t,v⟩:=w
 have nm:∀{t:List UInt8},Ir t=true->∃c q,t=c::q/\Dx c=true/\A7 Cn (t++r)=t.length/\t.length<=12:=fun{t} h=>by
  obtain⟨h1,h2,h3,c,q,e,hc⟩:=Em h;exact⟨c,q,e,hc,Kx t r (fun b hb=>by have:=List.all_eq_true.1 h3 b hb;exact this) hr.nam,h2⟩
 have lowBeg:∀{c:UInt8},Dx c=true->Iz c:=fun{c} h=>by
  refine⟨?_,?_,?_⟩<;>rintro rfl<;>cases h
 cases hf with
 |name h ht hv=>
  simp only at h ht hv;subst h hv;obtain⟨c,q,e,hc,hs,hl⟩:=nm ht;show Bq (t++r)= .ok (⟨1,t,v0⟩,t.length)/\∃c q,t=c::q/\Iz c
  refine⟨?_,c,q,e,lowBeg hc⟩;subst e;rw[List.cons_append];unfold Bq;simp only;rw[Ap hc,←List.cons_append,hs];unfold C0;rw[List.take_left,Ao tV]
 |var h ht hv=>
  simp only at h ht hv;subst h hv;obtain⟨c,q,e,hc,hs,hl⟩:=nm ht;show Bq (63::t++r)= .ok (⟨2,t,v0⟩,(63::t).length)/\∃c q,63::t=c::q/\Iz c
  refine⟨?_,63,t,rfl,by unfold Iz;decide⟩;have hm:D6 (63::(t++r))=true:=by subst e;exact hc
  rw[List.cons_append];unfold Bq;simp only;rw[Ao qP,Ao qP,Ao qP,Ap trivial,Ap hm,hs];unfold C0;rw[List.take_left,Ao tV];rw[Aa,Nat.add_comm]
 |self h ht hv=>
  simp only at h ht hv;subst h ht hv;show Bq (63::r)= .ok (⟨3,[],v0⟩,1)/\∃c q,[(63:UInt8)]=c::q/\Iz c
  refine⟨?_,63,[],rfl,by unfold Iz;decide⟩
  have hm:D6 (63::r)=false:=by
   cases r with
   |nil=>rfl
   |cons c r=>rcases hr c rfl with rfl|rfl|rfl|rfl<;>rfl
  unfold Bq;simp only;rw[Ao qP,Ao qP,Ao qP,Ap trivial,hm,Ao qP]
 |num h ht hm=>
  simp only at h ht hm;subst h;obtain⟨c,q,e,hd,hn⟩:=hm;show Bq (t++r)= .ok (⟨4,t,v⟩,t.length)/\∃c q,t=c::q/\Iz c
  refine⟨?_,c,q,e,?_⟩
  ·have hnl:=aK hn hr
   have hlow:¬Dx c=true:=by
    unfold Bc at hd;unfold Dx;simp only[Bool.and_eq_true,decide_eq_true_eq] at hd ⊢;omega
   subst e;rw[List.cons_append] at hnl ⊢;unfold Bq;simp only;rw[Ao hlow,Ap hd];unfold Lv;rw[hnl,←List.cons_append,List.take_left,ht]
  refine⟨?_,?_,?_⟩<;>rintro rfl<;>cases hd
 |str h ht hm hs=>
  simp only at h ht hm hs;subst h;show Bq (34::(t++[34])++r)= .ok (⟨5,t,v⟩,(34::(t++[34])).length)/\∃c q,34::(t++[34])=c::q/\Iz c
  refine⟨?_,34,_,rfl,by unfold Iz;decide⟩;have hsp:=Kf false (t++[34]) r (by rw[hs,Ab];simp);rw[hs,List.take_of_length_le qQ] at hsp;rw[List.cons_append];unfold Bq;simp only;rw[Ao qP,Ao qP,Ap trivial,Gc,hsp]
  have hdr:((34::(t++[34]++r)).drop (1+t.length)).head? =some 34:=by
   rw[Nat.add_comm,List.drop_succ_cons,List.append_assoc,List.drop_left];rfl
  rw[Ap hdr]
  have htk:(34::(t++[34]++r)).take (t.length+2)=34::t++[34]:=by
   rw[show(34:UInt8)::(t++[34]++r)=(34::t++[34])++r by simp,show t.length+2=(34::t++[34]).length by simp,List.take_left]
  rw[htk,ht];simp only;rw[List.append_assoc,List.take_left];simp
 |sym h ht hv=>
  simp only at h ht hv;subst h hv;obtain⟨c,q,e,hc,hs,hl⟩:=nm ht;show Bq (35::t++r)= .ok (⟨6,t,(5,0,t)⟩,(35::t).length)/\∃c q,35::t=c::q/\Iz c
  refine⟨?_,35,t,rfl,by unfold Iz;decide⟩;have hm:D6 (35::(t++r))=true:=by subst e;exact hc
  rw[List.cons_append];unfold Bq;simp only;rw[Ao qP,Ao qP,Ao qP,Ao qP,Ap ⟨trivial,hm⟩,hs];unfold C0;rw[List.take_left,Ao tV];rw[Aa,Nat.add_comm]
 |sign h _ _=>exact absurd h hk
theorem oE {w:Wd}(hf:Pv w)(hk:w.k≠7){r:List UInt8}(hr:Sep r)(a b:Int):LX (Fv w++r) a b=Qu ⟨w,a,b⟩ (LX r a (b+((Fv w).length:Nat))):=by
 obtain⟨h,c,q,e,hc⟩:=dT hf hk hr;rw[e] at h ⊢;rw[List.cons_append] at h ⊢;rw[Iu hc h,←List.cons_append,List.drop_left]
theorem oY {c:UInt8}(h:c=40\/c=41\/c=44\/c=45)(r:List UInt8)(a b:Int):LX (c::r) a b=Qu ⟨⟨7,[c],v0⟩,a,b⟩ (LX r a (b+1)):=by
 have hw:Bq (c::r)= .ok (⟨7,[c],v0⟩,1):=by
  unfold Bq;simp only
  rw[Ao sK,Ao sK,Ao sK,Ao sK,
   Ao (by rintro ⟨e,_⟩;rcases h with rfl|rfl|rfl|rfl<;>cases e)]
  unfold Fj
  have h2:(c::r).take 2∉F4:=by
   cases r with
   |nil=>rcases h with rfl|rfl|rfl|rfl<;>decide
   |cons d r=>rcases h with rfl|rfl|rfl|rfl<;>simp [F4]
  rw[Ao h2,Ap (by rw[List.take_succ_cons,List.take_zero];rcases h with rfl|rfl|rfl|rfl<;>decide)];rfl
 rw[Iu (by unfold Iz;rcases h with rfl|rfl|rfl|rfl<;>decide) hw];rfl
theorem Qk (t:Tkn)(x:Except (Int×Int×Int) (List Tkn)):Qu t x=Ik (.ok [t]) x:=by
 cases x<;>rfl
theorem fF (us vs:List Tkn)(x:Except (Int×Int×Int) (List Tkn)):Ik (.ok us) (Ik (.ok vs) x)=Ik (.ok (us++vs)) x:=by
 cases x with
 |error e=>rfl
 |ok ts=>simp [Ik]
open Go Go.Lib
def K2 (op:Int):List UInt8×Nat:=
 if op=4 then([111,114],0) else if op=5 then([97,110,100],1) else if op=6 then([110,111,116,32],2)
 else if op=7 then([61],3) else if op=8 then([60,62],3) else if op=9 then([60],3) else if op=10 then([60,61],3) else if op=11 then([62],3) else if op=12 then([62,61],3)
 else if op=13 then([43],4) else if op=14 then([45],4) else if op=15 then([42],5) else if op=16 then([47],5) else if op=17 then([45],6)
 else if op=18 then([97,98,115],8) else if op=19 then([109,105,110],8) else if op=20 then([109,97,120],8) else if op=21 then([109,111,100],8) else if op=22 then([108,101,110,103,116,104],8)
 else if op=23 then([117,112,112,101,114],8) else if op=24 then([99,111,110,116,97,105,110,115],8) else if op=25 then([115,116,97,114,116,115],8) else if op=26 then([105,102],8) else([],8)
def Cc (op:Int):List UInt8:=(K2 op).1
def A4 (op:Int):Nat:=(K2 op).2
def Er (op:Int):Prop:=op=4\/op=5\/op=7\/op=8\/op=9\/op=10\/op=11\/op=12\/op=13\/op=14\/op=15\/op=16
theorem cJ {op:Int}(h:Er op):(Cc op,op,A4 op)∈Ov:=by
 exact zws
theorem Te {op:Int}(h:Er op):A4 op<=5/\A4 op≠2:=by
 exact zws
theorem Rm {op:Int}(h:Er op):Dk op=(2,2):=by
 exact zws
def Cm (op:Int):Prop:=op=18\/op=19\/op=20\/op=21\/op=22\/op=23\/op=24\/op=25\/op=26
theorem Ew {op:Int}(h:Cm op):A4 op=8:=by
 rcases h with rfl|rfl|rfl|rfl|rfl|rfl|rfl|rfl|rfl<;>rfl
theorem P3 {op:Int}(h:Cm op)(l c:Int):D5 ⟨⟨1,Cc op,v0⟩,l,c⟩=some ⟨op,(Dk op).1,(Dk op).2,l,c⟩/\Cz ⟨⟨1,Cc op,v0⟩,l,c⟩=none/\Pv ⟨1,Cc op,v0⟩/\1<=(Dk op).1/\(Dk op).2<=8:=by
 rcases h with rfl|rfl|rfl|rfl|rfl|rfl|rfl|rfl|rfl<;>exact⟨rfl,rfl,.name rfl qP rfl,by decide,by decide⟩
theorem Sx {t:Tkn}{c:Cl}(h:D5 t=some c):Cm c.op/\c.least=(Dk c.op).1/\c.most=(Dk c.op).2:=by
 obtain⟨_,h2,_⟩:=O4 h;obtain⟨op,le,mo,l,k⟩:=c;simp only at h2 ⊢;unfold Dg at h2
 repeat' split at h2
 all_goals first
  |(cases h2;done)
  |(injection h2 with h2
    simp only[Prod.mk.injEq] at h2;obtain⟨rfl,rfl,rfl⟩:=h2
    exact⟨by unfold Cm;decide,rfl,rfl⟩)
theorem K7 {op:Int}(h1:1<=op)(h3:op<=3):A4 op=8:=by
 obtain rfl|rfl|rfl:op=1\/op=2\/op=3:=by omega
 all_goals rfl
def J6 (h:Hd):List UInt8:=if h.op=1 then C5 h.v.1 h.v.2.1 h.v.2.2 else if h.op=2 then 63::h.name else[63]
def Jy (h:Hd):Wd:=
 if h.op=2 then⟨2,h.name,v0⟩ else if h.op=3 then⟨3,[],v0⟩ else if h.v.1=1\/h.v.1=2 then⟨4,Nc h.v.1 h.v.2.1 h.v.2.2,h.v⟩
 else if h.v.1=3 then⟨5,Ks h.v.2.2,h.v⟩ else if h.v.1=5 then⟨6,h.v.2.2,h.v⟩ else⟨1,Nc h.v.1 h.v.2.1 h.v.2.2,v0⟩
theorem fQ {t:Tkn}{h:Hd}(hf:Pv t.w)(he:Cz t=some h):Jy h=t.w/\Fv t.w=J6 h/\(J6 h).length<=402/\t.w.k≠7/\1<=h.op/\h.op<=3:=by
 obtain⟨⟨k,t,v⟩,l,c⟩:=t;unfold Cz at he;simp only at he;cases hf with
 |name hk ht hv=>
  simp only at hk ht hv;subst hk hv;rw[Ao qP,Ao qP,Ao qP,Ap rfl] at he
  have key:∀v,Lk t=some v->h=⟨1,v,[],l,c⟩->Jy h=⟨1,t,v0⟩/\Fv ⟨1,t,v0⟩=J6 h/\(J6 h).length<=402/\(1:Int)≠7/\1<=h.op/\h.op<=3:=fun v hl hh=>by
   subst hh;unfold Lk at hl;by_cases h1:t=[116,114,117,101]
   ·rw[Ap h1] at hl;injection hl with hl;subst hl h1;exact⟨rfl,rfl,(by decide:(C5 4 1 []).length<=402),by decide,(by decide:(1:Int)<=1),(by decide:(1:Int)<=3)⟩
   rw[Ao h1] at hl;by_cases h2:t=[102,97,108,115,101]
   ·rw[Ap h2] at hl;injection hl with hl;subst hl h2;exact⟨rfl,rfl,(by decide:(C5 4 0 []).length<=402),by decide,(by decide:(1:Int)<=1),(by decide:(1:Int)<=3)⟩
   rw[Ao h2] at hl;by_cases h3:t=[110,117,108,108]
   ·rw[Ap h3] at hl;injection hl with hl;subst hl h3;exact⟨rfl,rfl,(by decide:(C5 0 0 []).length<=402),by decide,(by decide:(1:Int)<=1),(by decide:(1:Int)<=3)⟩
   rw[Ao h3] at hl;cases hl
  cases hc:Dg t with
  |some x=>rw[hc] at he;cases he
  |none=>
   rw[hc] at he;cases hl:Lk t with
   |none=>rw[hl] at he;cases he
   |some v=>
    rw[hl] at he;injection he with he;exact key v hl he.symm
 |var hk ht hv=>
  simp only at hk ht hv;subst hk hv;rw[Ao qP,Ap rfl] at he;injection he with he;subst he;refine⟨rfl,rfl,?_,by simp,by simp,by simp⟩
  have:=(Em ht).2.1
  show(63::t).length<=402
  simp only[Aa];omega
 |self hk ht hv=>
  simp only at hk ht hv;subst hk ht hv;rw[Ao qP,Ao qP,Ap rfl] at he;injection he with he;subst he;exact⟨rfl,rfl,(by decide:[(63:UInt8)].length<=402),(by decide:(3:Int)≠7),(by decide:(1:Int)<=3),(by decide:(3:Int)<=3)⟩
 |num hk ht hm=>
  simp only at hk ht hm;subst hk;rw[Ap qP] at he;injection he with he;subst he;obtain⟨vk,vn,vs⟩:=v;obtain⟨h1,h2,h3,h4⟩:=Wf ht;obtain⟨c1,q,e,hd,hn⟩:=hm;have hkd:=Uj h1 (n:=vn);rw[h2,So e (.inr hd)] at hkd;have hk12:vk=1\/vk=2:=by split at hkd<;>omega
  have hT':J6 ⟨1,(vk,vn,vs),[],l,c⟩=t:=by
   show C5 vk vn vs=t;unfold C5;rw[Ap h1,h2]
  refine⟨?_,hT'.symm▸rfl,by rw[hT'];exact h4,by simp,by simp,by simp⟩
  show(if vk=1\/vk=2 then(⟨4,Nc vk vn vs,(vk,vn,vs)⟩:Wd) else _)=_
  rw[Ap hk12,h2]
 |str hk ht hm hs=>
  simp only at hk ht hm hs;subst hk;rw[Ap qP] at he;injection he with he;subst he;obtain⟨vk,vn,vs⟩:=v;obtain⟨h1,h2,h3,h4⟩:=Wf ht;have hkd:=Uj h1 (n:=vn);rw[h2] at hkd;have hk3:vk=3:=by rw[←hkd];rfl
  subst hk3;have h5:34::(Ks vs++[34])=34::t++[34]:=h2
  have h6:Ks vs=t:=by
   rw[List.cons_append] at h5;injection h5 with _ h5;exact List.append_cancel_right h5
  have hT:J6 ⟨1,(3,vn,vs),[],l,c⟩=34::(t++[34]):=by
   show C5 3 vn vs=_;unfold C5;rw[Ap h1,h2];rfl
  refine⟨?_,hT.symm▸rfl,?_,by simp,by simp,by simp⟩
  ·show(⟨5,Ks vs,(3,vn,vs)⟩:Wd)=_
   rw[h6]
  rw[hT];simpa using h4
 |sym hk ht hv=>
  simp only at hk ht hv;subst hk hv;rw[Ap qP] at he;injection he with he;subst he
  have hT:J6 ⟨1,(5,0,t),[],l,c⟩=35::t:=by
   show C5 5 0 t=_;unfold C5;rw[Ap (by show(decide ((0:Int)=0) && Ir t)=true;rw[ht];rfl)];rfl
  refine⟨rfl,hT.symm▸rfl,?_,by simp,by simp,by simp⟩;rw[hT]
  have:=(Em ht).2.1
  simp only[Aa];omega
 |sign hk _ _=>
  simp only at hk;subst hk;rw[Ao qP,Ao qP,Ao qP,Ao qP] at he;cases he
structure Qj (h:Hd):Prop where
 form:Pv (Jy h)
 ne7:(Jy h).k≠7
 again:∀l c,(Cz ⟨Jy h,l,c⟩).map Hd.bare=some h.bare
 spell:Fv (Jy h)=J6 h
 short:(J6 h).length<=402
theorem oD {t:Tkn}{h:Hd}(hf:Pv t.w)(he:Cz t=some h):Qj h:=by
 obtain⟨h1,h2,h3,h4,_,_⟩:=fQ hf he;refine⟨h1▸hf,h1▸h4,fun l c=>?_,h1▸h2,h3⟩;rw[h1,Y8 (t:=t) (t':=⟨t.w,l,c⟩) rfl,he];rfl
structure Gm (h:Hd)(k:Nat):Prop where
 few:(Dk h.op).1<=k
 many:k<=(Dk h.op).2
 op1:1<=h.op
 op2:h.op<=26
 leaf:h.op<=3->Qj h
 inner:3<h.op->h.v=v0/\h.name=[]
theorem Mo {l:List UInt8}{a:Ex}(h:Cf l= .ok a):a.All Gm:=by
 obtain⟨ts,h1,h2,_⟩:=Ii h;have hn:=Sz h1 h2
 have hl:a.All (fun h k=>h.op<=3->Qj h):=by
  refine Vt (P:=fun h _=>h.op<=3->Qj h) (W:=fun t=>Pv t.w) ?_ ?_ ?_ ?_ (.lvl 0) 0 ts sS trivial (fun t ht=>O2 h1 t ht) a [] h2
  ·exact fun t hd hf he _=>oD hf he
  ·intro n t hn _ h3
   have:=(show 3<Kh n by rcases hn with rfl|rfl<;>decide)
   have h4:Kh n<=3:=h3;omega
  ·intro n t q _ hz h3
   have:=Nv n _ (L7 hz)
   simp only at h3;omega
  intro t c k _ hc _ _ h3;have h4:=(Sx hc).1;unfold Cm at h4;simp only at h3;omega
 refine(hn.and hl).mono fun h k hh=>⟨hh.1.few,hh.1.many,hh.1.op1,hh.1.op2,hh.2,fun h3=>⟨hh.1.v qO,hh.1.anon qO⟩⟩
open Go Go.Lib
def Kt (t:List UInt8):List UInt8:=40::(t++[41])
def Tl (l:List (Int×List UInt8))(k least:Nat):List UInt8:=match l[k]? with
 |none=>[]
 |some p=>if A4 p.1<least then Kt p.2 else p.2
def Pg (h:Hd)(l:List (Int×List UInt8)):List UInt8:=
 if h.op<=3 then J6 h else if A4 h.op=8 then Cc h.op++Kt (Ei [44,32] (l.map Prod.snd))
 else if A4 h.op=2\/A4 h.op=6 then Cc h.op++Tl l 0 (A4 h.op)
 else if A4 h.op=3 then Tl l 0 4++32::(Cc h.op++32::Tl l 1 4)
 else Tl l 0 (A4 h.op)++32::(Cc h.op++32::Tl l 1 (A4 h.op+1))
mutual
def Ex.text:Ex->List UInt8| .mk h ks=>Pg h (Jb ks)
def Jb:List Ex->List (Int×List UInt8)|[]=>[]|e::es=>(e.hd.op,e.text)::Jb es
end
theorem Ji:∀l:List Ex,Jb l=l.map fun e=>(e.hd.op,e.text)
 |[]=>rfl
 |e::l=>by rw[Jb,Ji l,List.map_cons]
def Km (n:Nat)(e:Ex):List UInt8:=if A4 e.hd.op<n then Kt e.text else e.text
def Es (s:List UInt8):Wd:=⟨7,s,v0⟩
def Z2 (ws:List Wd):List Wd:=Es [40]::(ws++[Es [41]])
def X4 (l:List (Int×List Wd))(k least:Nat):List Wd:=match l[k]? with
 |none=>[]
 |some p=>if A4 p.1<least then Z2 p.2 else p.2
def Nm:List (List Wd)->List Wd
 |[]=>[]
 |[x]=>x
 |x::y::r=>x++Es [44]::Nm (y::r)
def R8 (op:Int):Wd:=⟨Pa (Cc op),Cc op,v0⟩
def Yf (h:Hd)(l:List (Int×List Wd)):List Wd:=
 if h.op<=3 then[Jy h] else if A4 h.op=8 then⟨1,Cc h.op,v0⟩::Z2 (Nm (l.map Prod.snd))
 else if A4 h.op=2 then⟨1,[110,111,116],v0⟩::X4 l 0 2 else if A4 h.op=6 then Es [45]::X4 l 0 6
 else if A4 h.op=3 then X4 l 0 4++R8 h.op::X4 l 1 4
 else X4 l 0 (A4 h.op)++R8 h.op::X4 l 1 (A4 h.op+1)
mutual
def Ex.words:Ex->List Wd| .mk h ks=>Yf h (P5 ks)
def P5:List Ex->List (Int×List Wd)|[]=>[]|e::es=>(e.hd.op,e.words)::P5 es
end
theorem Sg:∀l:List Ex,P5 l=l.map fun e=>(e.hd.op,e.words)
 |[]=>rfl
 |e::l=>by rw[P5,Sg l,List.map_cons]
def Bo (n:Nat)(e:Ex):List Wd:=if A4 e.hd.op<n then Z2 e.words else e.words
def Z9 (l:List (Int×Nat))(k least:Nat):Nat:=match l[k]? with
 |none=>0
 |some p=>if A4 p.1<least then p.2+1 else p.2
def Zu:List Nat->Nat
 |[]=>0
 |n::l=>max n (Zu l)
def Xf (h:Hd)(l:List (Int×Nat)):Nat:=
 if h.op<=3 then 0 else if A4 h.op=8 then 1+Zu (l.map Prod.snd)
 else if A4 h.op=2\/A4 h.op=6 then 1+Z9 l 0 (A4 h.op)
 else if A4 h.op=3 then max (Z9 l 0 4) (Z9 l 1 4)
 else max (Z9 l 0 (A4 h.op)) (Z9 l 1 (A4 h.op+1))
mutual
def Ex.need:Ex->Nat| .mk h ks=>Xf h (P4 ks)
def P4:List Ex->List (Int×Nat)|[]=>[]|e::es=>(e.hd.op,e.need)::P4 es
end
theorem Sh:∀l:List Ex,P4 l=l.map fun e=>(e.hd.op,e.need)
 |[]=>rfl
 |e::l=>by rw[P4,Sh l,List.map_cons]
def Cd (n:Nat)(e:Ex):Nat:=if A4 e.hd.op<n then e.need+1 else e.need
def E9 (n:Nat):Nat:=if n=3 then 4 else n
theorem Yp (n:Nat):n<=E9 n:=by unfold E9;split<;>omega
inductive Xv:Hd->List Ex->Prop where
 |leaf {h} (h1:1<=h.op) (h3:h.op<=3) (ok:Qj h):Xv h []
 |pre {h} {e} (n:Nat) (hn:n=2\/n=6) (ho:h.op=Kh n):Xv h [e]
 |mid {h} {e f} (hi:Er h.op):Xv h [e,f]
 |call {h} {e es} (hc:Cm h.op) (h1:(Dk h.op).1<=(e::es).length) (h2:(e::es).length<=(Dk h.op).2):Xv h (e::es)
theorem Lb {h:Hd}{ks:List Ex}(g:Gm h ks.length):Xv h ks:=by
 have h1:=g.few;have h2:=g.many;have o1:=g.op1;have o2:=g.op2;have hc:h.op<=3\/(h.op=6\/h.op=17)\/Er h.op\/Cm h.op:=by unfold Er Cm;omega
 rcases hc with hc|hc|hc|hc
 ·have:Dk h.op=(0,0):=by
   obtain e|e|e:h.op=1\/h.op=2\/h.op=3:=by omega
   all_goals rw[e];rfl
  rw[this] at h2
  have:ks=[]:=List.eq_nil_of_length_eq_zero (Nat.le_zero.1 h2)
  subst this;exact .leaf o1 hc (g.leaf hc)
 ·have:Dk h.op=(1,1):=by
   rcases hc with e|e<;>rw[e]<;>rfl
  rw[this] at h1 h2
  match ks,h1,h2 with
  |[e],_,_=>
   rcases hc with q|q
   ·exact .pre 2 (.inl rfl) q
   exact .pre 6 (.inr rfl) q
  |[],h1,_=>exact absurd h1 qQ
  |_::_::_,_,h2=>exact absurd h2 qQ
 ·rw[Rm hc] at h1 h2
  match ks,h1,h2 with
  |[e,f],_,_=>exact .mid hc
  |[],h1,_=>exact absurd h1 qQ
  |[_],h1,_=>exact absurd h1 qQ
  |_::_::_::_,_,h2=>exact absurd h2 qQ
 cases ks with
 |nil=>
  have:=(P3 hc 0 0).2.2.2.1
  simp only[List.length_nil] at h1;omega
 |cons e es=>exact .call hc h1 h2
theorem Ml {n:Nat}(hn:n=2\/n=6):A4 (Kh n)=n/\3<Kh n:=by
 rcases hn with rfl|rfl<;>decide
theorem Xm {op:Int}(h:Er op):¬op<=3:=by unfold Er at h;omega
theorem Rk {op:Int}(h:Cm op):¬op<=3:=by unfold Cm at h;omega
theorem Z8 (e:Ex)(es:List Ex)(n:Nat):Tl (Jb (e::es)) 0 n=Km n e:=rfl
theorem iY (e f:Ex)(es:List Ex)(n:Nat):Tl (Jb (e::f::es)) 1 n=Km n f:=rfl
theorem Vi (e:Ex)(es:List Ex)(n:Nat):X4 (P5 (e::es)) 0 n=Bo n e:=rfl
theorem kK (e f:Ex)(es:List Ex)(n:Nat):X4 (P5 (e::f::es)) 1 n=Bo n f:=rfl
theorem bC (e:Ex)(es:List Ex)(n:Nat):Z9 (P4 (e::es)) 0 n=Cd n e:=rfl
theorem lA (e f:Ex)(es:List Ex)(n:Nat):Z9 (P4 (e::f::es)) 1 n=Cd n f:=rfl
theorem K6 {h:Hd}(h3:h.op<=3)(ks:List Ex):(Ex.mk h ks).text=J6 h/\(Ex.mk h ks).words=[Jy h]/\(Ex.mk h ks).need=0:=by
 refine⟨?_,?_,?_⟩
 ·rw[Ex.text];unfold Pg;rw[Ap h3]
 ·rw[Ex.words];unfold Yf;rw[Ap h3]
 rw[Ex.need];unfold Xf;rw[Ap h3]
theorem Mi {h:Hd}{n:Nat}(hn:n=2\/n=6)(ho:h.op=Kh n)(e:Ex):(Ex.mk h [e]).text=Cc (Kh n)++Km n e/\(Ex.mk h [e]).words=(if n=2 then⟨1,[110,111,116],v0⟩ else Es [45])::Bo n e/\(Ex.mk h [e]).need=1+Cd n e:=by
 obtain⟨hl,hg⟩:=Ml hn;have h3:¬Kh n<=3:=by omega
 have h8:¬n=8:=by omega
 refine⟨?_,?_,?_⟩
 ·rw[Ex.text];unfold Pg;rw[ho,Ao h3,hl,Ao h8,Ap hn,Z8]
 ·rw[Ex.words];unfold Yf;rw[ho,Ao h3,hl,Ao h8];rcases hn with rfl|rfl
  ·rw[Ap rfl,Vi,Ap rfl]
  rw[Ao qP,Ap rfl,Vi,Ao qP]
 rw[Ex.need];unfold Xf;rw[ho,Ao h3,hl,Ao h8,Ap hn,bC]
theorem Oa {h:Hd}(hi:Er h.op)(e f:Ex):(Ex.mk h [e,f]).text=Km (E9 (A4 h.op)) e++32::(Cc h.op++32::Km (A4 h.op+1) f)/\(Ex.mk h [e,f]).words=Bo (E9 (A4 h.op)) e++R8 h.op::Bo (A4 h.op+1) f/\
 (Ex.mk h [e,f]).need=max (Cd (E9 (A4 h.op)) e) (Cd (A4 h.op+1) f):=by
 obtain⟨h5,h2⟩:=Te hi;have h8:¬A4 h.op=8:=by omega
 have h26:¬(A4 h.op=2\/A4 h.op=6):=by omega
 have h6:¬A4 h.op=6:=by omega
 refine⟨?_,?_,?_⟩
 ·rw[Ex.text];unfold Pg E9;rw[Ao (Xm hi),Ao h8,Ao h26,Z8,iY,Z8,iY];by_cases h3:A4 h.op=3
  ·rw[Ap h3,Ap h3,h3]
  rw[Ao h3,Ao h3]
 ·rw[Ex.words];unfold Yf E9;rw[Ao (Xm hi),Ao h8,Ao h2,Ao h6,Vi,kK,Vi,kK];by_cases h3:A4 h.op=3
  ·rw[Ap h3,Ap h3,h3]
  rw[Ao h3,Ao h3]
 rw[Ex.need];unfold Xf E9;rw[Ao (Xm hi),Ao h8,Ao h26,bC,lA,bC,lA];by_cases h3:A4 h.op=3
 ·rw[Ap h3,Ap h3,h3]
 rw[Ao h3,Ao h3]
theorem Lj {h:Hd}(hc:Cm h.op)(ks:List Ex):(Ex.mk h ks).text=Cc h.op++Kt (Ei [44,32] (ks.map Ex.text))/\(Ex.mk h ks).words=⟨1,Cc h.op,v0⟩::Z2 (Nm (ks.map Ex.words))/\(Ex.mk h ks).need=1+Zu (ks.map Ex.need):=by
 refine⟨?_,?_,?_⟩
 ·rw[Ex.text];unfold Pg;rw[Ao (Rk hc),Ap (Ew hc),Ji,List.map_map];rfl
 ·rw[Ex.words];unfold Yf;rw[Ao (Rk hc),Ap (Ew hc),Sg,List.map_map];rfl
 rw[Ex.need];unfold Xf;rw[Ao (Rk hc),Ap (Ew hc),Sh,List.map_map];rfl
theorem nC {l:List Nat}{n:Nat}(h:n∈l):n<=Zu l:=by
 induction l with
 |nil=>cases h
 |cons m l ih=>
  unfold Zu;rcases List.mem_cons.1 h with rfl|h
  ·omega
  have:=ih h;omega
theorem mQ {l:List Nat}{k:Nat}(h:∀n∈l,n<=k):Zu l<=k:=by
 induction l with
 |nil=>exact Nat.zero_le _
 |cons m l ih=>
  unfold Zu;have h1:=h m Ai;have h2:=ih fun n hn=>h n (Aj _ hn)
  omega
open Go Go.Lib
def isW (s:List UInt8)(w:Wd):Bool:=decide (w.t=s) && (decide (w.k=1)||decide (w.k=7))
theorem Rl (s:List UInt8)(t:Tkn)(r:List Tkn):isH s (t::r)=isW s t.w:=rfl
theorem Jk (s u:List UInt8):isW s (Es u)=decide (u=s):=by
 unfold isW Es;simp
theorem Ij {t:Tkn}{u:List UInt8}(h:t.w=Es u)(s:List UInt8)(r:List Tkn):isH s (t::r)=decide (u=s):=by
 rw[Rl,h,Jk]
theorem Nw {t:Tkn}{u:List UInt8}(h:t.w=Es u)(r:List Tkn)(n:Nat)(hu:u=[41]\/u=[44]):Bn (t::r) (Bs n)=0:=by
 have key:∀l:List (List UInt8×Int),(∀x∈l,x.1≠[41]/\x.1≠[44])->Bn (t::r) l=0:=fun l=>by
  induction l with
  |nil=>intro _;rfl
  |cons y l ih=>
   intro hy;unfold Bn
   have:=hy y Ai
   rw[Ij h,Ao (by rcases hu with rfl|rfl<;>simp<;>intro e<;>first|exact this.1 e.symm|exact this.2 e.symm)];exact ih fun x hx=>hy x (Aj _ hx)
 refine key _ ?_;unfold Bs
 repeat' split
 all_goals first|decide|(intro x hx;cases hx)
theorem lP (h:Hd)(h3:Qj h)(n:Nat):isW (Fc n) (Jy h)=false:=by
 have hk:=h3.again 0 0;cases hb:isW (Fc n) (Jy h) with
 |false=>rfl
 |true=>
  unfold isW at hb;simp only[Bool.and_eq_true,Bool.or_eq_true,decide_eq_true_eq] at hb;obtain⟨hb1,hb2⟩:=hb;have hk1:(Jy h).k=1:=by rcases hb2 with e|e;exact e;exact absurd e h3.ne7
  unfold Cz at hk;simp only[hk1,hb1] at hk;have c1:Dg (Fc n)=none:=by unfold Fc;split<;>rfl
  have c2:Lk (Fc n)=none:=by unfold Fc;split<;>rfl
  rw[Ao qP,Ao qP,Ao qP,Ap trivial,c1,c2] at hk;cases hk
theorem Tb:∀(k:Nat) (a:Ex),a.size<=k->a.All Gm->∃w r,a.words=w::r/\∀j,(j=2\/j=6)->isW (Fc j) w=true->A4 a.hd.op<=j
 |0,a,hk,_=>absurd a.size_pos qO
 |k+1,.mk h ks,hk,hg=>by
  have at':∀(n:Nat) (e:Ex),e.size<=k->e.All Gm->∃w r,Bo n e=w::r/\∀j,(j=2\/j=6)->isW (Fc j) w=true->n<=j:=fun n e hs he=>by
   unfold Bo
   split
   ·refine⟨_,_,rfl,fun j hj hw=>?_⟩;rw[Jk] at hw;rcases hj with rfl|rfl<;>simp [Fc] at hw
   rename_i hn
   obtain⟨w,r,h1,h2⟩:=Tb k e hs he;exact⟨w,r,h1,fun j hj hw=>by have:=h2 j hj hw;omega⟩
  rw[Ex.All] at hg;show ∃w r,(Ex.mk h ks).words=w::r/\∀j,(j=2\/j=6)->isW (Fc j) w=true->A4 h.op<=j
  rw[Ex.size] at hk;cases Lb hg.1 with
  |leaf h1 h3 ok=>
   refine⟨_,_,(K6 h3 []).2.1,fun j hj hw=>?_⟩;rw[lP h ok] at hw;cases hw
  |pre n hn ho=>
   refine⟨_,_,(Mi hn ho _).2.1,fun j hj hw=>?_⟩;rw[ho,(Ml hn).1];rcases hn with rfl|rfl<;>rcases hj with rfl|rfl<;>first|omega|(revert hw;decide)
  |mid hi=>
   rename_i e f
   rw[Bi,Bi] at hk;obtain⟨w,r,h1,h2⟩:=at' (E9 (A4 h.op)) e qO hg.2.1;refine⟨w,_,by rw[(Oa hi e f).2.1,h1];rfl,fun j hj hw=>?_⟩
   have:=h2 j hj hw
   have:=Yp (A4 h.op)
   omega
  |call hc _ _=>
   refine⟨_,_,(Lj hc _).2.1,fun j hj hw=>?_⟩;exfalso;unfold isW at hw;simp only[Bool.and_eq_true,decide_eq_true_eq] at hw;have h1:=hw.1;rcases hj with rfl|rfl<;>rcases hc with e|e|e|e|e|e|e|e|e<;>rw[e] at h1<;>cases h1
theorem Vk {n:Nat}{a:Ex}(hg:a.All Gm):∃w r,Bo n a=w::r/\∀j,(j=2\/j=6)->isW (Fc j) w=true->n<=j/\A4 a.hd.op<=j:=by
 unfold Bo
 split
 ·refine⟨_,_,rfl,fun j hj hw=>?_⟩;rw[Jk] at hw;rcases hj with rfl|rfl<;>simp [Fc] at hw
 obtain⟨w,r,h1,h2⟩:=Tb _ a (Ak _) hg;exact⟨w,r,h1,fun j hj hw=>by have:=h2 j hj hw;omega⟩
theorem map_cons {ts:List Tkn}{w:Wd}{r:List Wd}(h:ts.map Tkn.w=w::r):∃t q,ts=t::q/\t.w=w/\q.map Tkn.w=r:=by
 cases ts with
 |nil=>cases h
 |cons t q=>
  simp only[List.map_cons,List.cons.injEq] at h;exact⟨t,q,rfl,h.1,h.2⟩
theorem R1 {ts:List Tkn}{r s:List Wd}(h:ts.map Tkn.w=r++s):∃p q,ts=p++q/\p.map Tkn.w=r/\q.map Tkn.w=s:=by
 obtain⟨p,q,h1,h2,h3⟩:=List.map_eq_append_iff.1 h;exact⟨p,q,h1,h2,h3⟩
def G8 (a:Ex)(n:Nat):Prop:=∀d ts post,d+Cd n a<=12->ts.map Tkn.w=Bo n a->(∀m,n<=m->Bn post (Bs m)=0)->∃a',Bd n d (ts++post)= .ok (a',post)/\a'.bare=a.bare
def O3 (a:Ex)(n:Nat):Prop:=∀d ts post,d+Cd n a<=12->ts.map Tkn.w=Bo n a->(∀m,n<m->Bn post (Bs m)=0)->∃a',a'.bare=a.bare/\Bd n d (ts++post)=R9 n a' d post
theorem Ug {a:Ex}{n:Nat}(h:O3 a n):G8 a n:=fun d ts post hd hw hp=>by
 obtain⟨a',h1,h2⟩:=h d ts post hd hw fun m hm=>hp m qO
 refine⟨a',?_,h1⟩;rw[h2,Fr,Ap (hp n (Ak _))]
theorem Qn {a:Ex}{lo hi:Nat}(hhi:hi<=7)(hsame:∀n,lo<=n->n<=hi->Bo n a=Bo hi a/\Cd n a=Cd hi a)
 (hpre:∀n,lo<=n->n<hi->(n=2\/n=6)->∀ts post,ts.map Tkn.w=Bo hi a->isH (Fc n) (ts++post)=false) (h:G8 a hi):
 ∀(k n:Nat),n+k=hi->lo<=n->G8 a n/\(n<hi->n<=5->n≠2->O3 a n)
 |0,n,hk,hlo=>by
  obtain rfl:n=hi:=by omega
  exact⟨h,fun h=>absurd h (Nat.lt_irrefl _)⟩
 |k+1,n,hk,hlo=>by
  obtain⟨ih,_⟩:=Qn hhi hsame hpre h k (n+1) qO qO;obtain⟨s1,s2⟩:=hsame n hlo qO;obtain⟨s3,s4⟩:=hsame (n+1) qO qO;by_cases h26:n=2\/n=6
  ·refine⟨fun d ts post hd hw hp=>?_,fun _ h5 h2=>by omega⟩;rw[s2] at hd;rw[s1] at hw;obtain⟨a',h1,h2⟩:=ih d ts post (by rw[s4];exact hd) (by rw[s3];exact hw) fun m hm=>hp m qO
   refine⟨a',?_,h2⟩;rw[Gx h26,hpre n hlo qO h26 ts post hw,Ao qP];exact h1
  have hr:O3 a n:=fun d ts post hd hw hp=>by
   rw[s2] at hd;rw[s1] at hw;obtain⟨a',h1,h2⟩:=ih d ts post (by rw[s4];exact hd) (by rw[s3];exact hw) fun m hm=>hp m qO
   refine⟨a',h2,?_⟩;rw[Hu qO qO,h1];rfl
  exact⟨Ug hr,fun _ _ _=>hr⟩
theorem Sk {c:Cl}{d:Nat}:∀(es:List Ex) (e:Ex) (done:List Ex) (ts post:List Tkn) (s:Tkn),(∀x∈e::es,G8 x 0)->(∀x∈e::es,d+x.need<=12)->c.least<=done.length+(e::es).length->done.length+(e::es).length<=c.most->
 ts.map Tkn.w=Nm ((e::es).map Ex.words)->s.w=Es [41]->∃ks,F1 c done d (ts++s::post)= .ok (.mk ⟨c.op,v0,[],c.line,c.col⟩ (done++ks),post)/\ks.map Ex.bare=(e::es).map Ex.bare
 |[],e,done,ts,post,s,hp,hd,h1,h2,hw,hs=>by
  have hn:Cd 0 e=e.need:=by unfold Cd;rw[Ao qO]
  have hw0:Bo 0 e=e.words:=by unfold Bo;rw[Ao qO]
  obtain⟨a',h3,h4⟩:=hp e Ai d ts (s::post) (by rw[hn];exact hd e Ai) (by rw[hw0];exact hw) (fun m _=>Nw hs post m (.inl rfl));refine⟨[a'],?_,by simp [h4]⟩;rw[F0,h3];simp only[ExR.next];have e44:isH [44] (s::post)=false:=by rw[Ij hs];decide
  have e41:isH [41] (s::post)=true:=by rw[Ij hs];decide
  simp only[Aa,List.length_nil] at h1;rw[e44,e41,Ao qV,Ao qQ];unfold Dp;rw[Ap e41,List.tail_cons]
 |y::r,e,done,ts,post,s,hp,hd,h1,h2,hw,hs=>by
  have hn:Cd 0 e=e.need:=by unfold Cd;rw[Ao qO]
  have hw0:Bo 0 e=e.words:=by unfold Bo;rw[Ao qO]
  have hw':ts.map Tkn.w=e.words++Es [44]::Nm ((y::r).map Ex.words):=hw;obtain⟨p,q,rfl,hpw,hq⟩:=R1 hw';obtain⟨k,q,rfl,hkw,hq⟩:=map_cons hq;obtain⟨a',h3,h4⟩:=hp e Ai d p (k::(q++s::post)) (by rw[hn];exact hd e Ai) (by rw[hw0];exact hpw) (fun m _=>Nw hkw _ m (.inr rfl));obtain⟨ks,h5,h6⟩:=Sk (c:=c) (d:=d) r y (done++[a']) q post s (fun x hx=>hp x (Aj _ hx)) (fun x hx=>hd x (Aj _ hx)) (by simp only[Ab,Aa,List.length_nil] at h1 ⊢;omega) (by simp only[Ab,Aa,List.length_nil] at h2 ⊢;omega) hq hs;refine⟨a'::ks,?_,by simp [h4,h6]⟩;have e44:isH [44] (k::(q++s::post))=true:=by rw[Ij hkw];decide
  have e41:isH [41] (k::(q++s::post))=false:=by rw[Ij hkw];decide
  simp only[Aa] at h2;rw[List.append_assoc,List.cons_append,F0,h3];simp only[ExR.next];rw[e44,e41,Ao qV,Ap rfl,List.tail_cons,h5,List.append_assoc];rfl
theorem jO {h:Hd}{a e:Ex}(o:Int)(ho:h.op=o)(hi:h.v=v0/\h.name=[])(ha:a.bare=e.bare)(l c:Int):(Ex.mk ⟨o,v0,[],l,c⟩ [a]).bare=(Ex.mk h [e]).bare:=by
 obtain⟨op,v,nm,l',c'⟩:=h;simp only at ho hi;obtain⟨rfl,rfl⟩:=hi;subst ho;exact Rn rfl (by simp [ha])
theorem Y7 {h:Hd}{a b e f:Ex}(hi:h.v=v0/\h.name=[])(ha:a.bare=e.bare)(hb:b.bare=f.bare)(l c:Int):(Ex.mk ⟨h.op,v0,[],l,c⟩ [a,b]).bare=(Ex.mk h [e,f]).bare:=by
 obtain⟨op,v,nm,l',c'⟩:=h;simp only at hi;obtain⟨rfl,rfl⟩:=hi;exact Rn rfl (by simp [ha,hb])
theorem Pt {P:Hd->Nat->Prop}:∀{l:List Ex},Jr P l->∀e∈l,e.All P
 |[],_,e,h=>by cases h
 |x::l,hl,e,h=>by
  rcases List.mem_cons.1 h with rfl|h
  ·exact hl.1
  exact Pt hl.2 e h
theorem Mw:∀{l:List Ex} {e:Ex},e∈l->e.size<=Bi l
 |[],e,h=>by cases h
 |x::l,e,h=>by
  rw[Bi];rcases List.mem_cons.1 h with rfl|h
  ·omega
  have:=Mw h;omega
theorem Q7:∀(k:Nat) (a:Ex),a.size<=k->a.All Gm->(∀n,n<=7->G8 a n)/\∀n,n<=5->n≠2->n≠3->O3 a n
 |0,a,hk,_=>absurd a.size_pos qO
 |k+1,.mk h ks,hk,hg=>by
  have hgood:=hg;rw[Ex.size] at hk;rw[Ex.All] at hg;have ihk:∀e∈ks,(∀n,n<=7->G8 e n)/\∀n,n<=5->n≠2->n≠3->O3 e n:=fun e he=>Q7 k e (by have:=Mw he;omega) (Pt hg.2 e he)
  have base:∃L,L<=7/\(A4 h.op=L\/A4 h.op=8/\L=7)/\G8 (.mk h ks) L/\(L<=5->L≠2->L≠3->O3 (.mk h ks) L):=by
   cases Lb hg.1 with
   |leaf h1 h3 ok=>
    refine⟨7,by omega,.inr ⟨K7 h1 h3,rfl⟩,fun d ts post _ hw _=>?_,fun h=>absurd h qO⟩;unfold Bo at hw;rw[Ao (by show ¬A4 h.op<7;rw[K7 h1 h3];omega),(K6 h3 []).2.1] at hw;obtain⟨t,q,rfl,ht,hq⟩:=map_cons hw
    have:q=[]:=by simpa using hq
    subst this;have hag:=ok.again t.line t.col;rw[←ht] at hag;rw[Bw];show ∃a',(match Cz t,D5 t with|some h,_=>(.ok (.mk h [],post):ExR)|none,some c=>Ca d post fun q'=>F1 c [] (d+1) q'|none,none=>Ca d (t::post) fun q'=>(Bd 0 (d+1) q').next Dp)= .ok (a',post)/\_
    cases hl:Cz t with
    |none=>rw[show(⟨t.w,t.line,t.col⟩:Tkn)=t from rfl,hl] at hag;cases hag
    |some x=>
     rw[show(⟨t.w,t.line,t.col⟩:Tkn)=t from rfl,hl] at hag;injection hag with hag;exact⟨.mk x [],rfl,Rn hag rfl⟩
   |pre n hn ho=>
    rename_i e
    obtain⟨hl,hg3⟩:=Ml hn;refine⟨n,by omega,.inl (by rw[ho,hl]),fun d ts post hd hw hp=>?_,fun h5 h2=>absurd hn qO⟩;have hlo:¬A4 (Ex.mk h [e]).hd.op<n:=by show ¬A4 h.op<n;rw[ho,hl];omega
    unfold Bo at hw;unfold Cd at hd;rw[Ao hlo] at hw hd;rw[(Mi hn ho e).2.1] at hw;rw[(Mi hn ho e).2.2] at hd;obtain⟨t,q,rfl,ht,hq⟩:=map_cons hw
    have his:isH (Fc n) (t::q++post)=true:=by
     rw[List.cons_append,Rl,ht];rcases hn with rfl|rfl<;>decide
    obtain⟨a',h1,h2⟩:=(ihk e Ai).1 n qO (d+1) q post qO hq hp;have h1':Bd n (d+1) ((t::q++post).tail)= .ok (a',post):=h1;refine⟨.mk ⟨Kh n,v0,[],t.line,t.col⟩ [a'],?_,jO _ ho (hg.1.inner (by rw[ho];exact hg3)) h2 _ _⟩;rw[Gx hn,Ap his,Ao qO,h1'];rfl
   |mid hi=>
    rename_i e f
    obtain⟨hl5,hl2⟩:=Te hi;have hin:=hg.1.inner (by have:=Xm hi;omega);obtain⟨L,hL⟩:∃L,A4 h.op=L:=⟨_,rfl⟩
    have hsig:∀{t:Tkn},t.w=R8 h.op->∀r m,Bn (t::r) (Bs m)=if m=L then h.op else 0:=fun{t} ht r m=>by
     have:=Zb (cJ hi) (t:=t) (by unfold cG;exact ht) r m
     rw[←hL];exact this
    have hop0:h.op≠0:=by have:=Xm hi;omega
    have words:∀{ts:List Tkn},ts.map Tkn.w=Bo L (.mk h [e,f])->∃p t q,ts=p++t::q/\p.map Tkn.w=Bo (E9 L) e/\t.w=R8 h.op/\q.map Tkn.w=Bo (L+1) f:=fun{ts} hw=>by
     unfold Bo at hw;rw[Ao (by show ¬A4 h.op<L;omega),(Oa hi e f).2.1,hL] at hw;obtain⟨p,q,rfl,hp,hq⟩:=R1 hw;obtain⟨t,q,rfl,ht,hq⟩:=map_cons hq;exact⟨p,t,q,rfl,hp,ht,hq⟩
    have needs:∀{d:Nat},d+Cd L (.mk h [e,f])<=12->d+Cd (E9 L) e<=12/\d+Cd (L+1) f<=12:=fun{d} hd=>by
     unfold Cd at hd;rw[Ao (by show ¬A4 h.op<L;omega),(Oa hi e f).2.2,hL] at hd;omega
    rw[hL] at hl5 hl2;refine⟨L,by omega,.inl hL,?_⟩;by_cases h3:L=3
    ·subst h3;refine⟨fun d ts post hd hw hp=>?_,fun _ _ h=>absurd rfl h⟩;obtain⟨p,t,q,rfl,hpw,ht,hq⟩:=words hw;obtain⟨hd1,hd2⟩:=needs hd;obtain⟨a',h1,h2⟩:=(ihk e Ai).1 4 qO d p (t::(q++post)) hd1 hpw fun m hm=>by rw[hsig ht,Ao qO]
     obtain⟨b',h4,h5⟩:=(ihk f (Aj _ Ai)).1 4 qO d q post hd2 hq fun m hm=>hp m qO
     refine⟨.mk ⟨h.op,v0,[],t.line,t.col⟩ [a',b'],?_,Y7 hin h2 h5 _ _⟩;rw[List.append_assoc,List.cons_append,Hu qO qO,h1];simp only[ExR.next];rw[Fr,hsig ht,Ap rfl,Ao hop0,List.tail_cons,h4];rfl
    have hll:E9 L=L:=by unfold E9;rw[Ao h3]
    have hrow:O3 (.mk h [e,f]) L:=fun d ts post hd hw hp=>by
     obtain⟨p,t,q,rfl,hpw,ht,hq⟩:=words hw;obtain⟨hd1,hd2⟩:=needs hd;rw[hll] at hpw hd1;obtain⟨a',h1,h2⟩:=(ihk e Ai).2 L hl5 hl2 h3 d p (t::(q++post)) hd1 hpw fun m hm=>by rw[hsig ht,Ao qO]
     obtain⟨b',h4,h5⟩:=(ihk f (Aj _ Ai)).1 (L+1) qO d q post hd2 hq fun m hm=>hp m qO
     refine⟨.mk ⟨h.op,v0,[],t.line,t.col⟩ [a',b'],Y7 hin h1 h5 _ _,?_⟩;rw[List.append_assoc,List.cons_append,h2,Fr,hsig ht,Ap rfl,Ao hop0,List.tail_cons,h4];simp only[ExR.next];rw[Ao h3];rfl
    exact⟨Ug hrow,fun _ _ _=>hrow⟩
   |call hc hfew hmany=>
    rename_i e es
    have hin:=hg.1.inner (by have:=Rk hc;omega);refine⟨7,by omega,.inr ⟨Ew hc,rfl⟩,fun d ts post hd hw hp=>?_,fun h=>absurd h qO⟩;have hlo:¬A4 (Ex.mk h (e::es)).hd.op<7:=by show ¬A4 h.op<7;rw[Ew hc];omega
    unfold Bo at hw;unfold Cd at hd;rw[Ao hlo] at hw hd;rw[(Lj hc _).2.1] at hw;rw[(Lj hc _).2.2] at hd;obtain⟨t,q,rfl,ht,hq⟩:=map_cons hw;obtain⟨o,q,rfl,ho,hq⟩:=map_cons hq;obtain⟨us,q,rfl,hu,hq⟩:=R1 hq;obtain⟨s,q,rfl,hs,hq⟩:=map_cons hq
    have:q=[]:=by simpa using hq
    subst this;obtain⟨c1,c2,_⟩:=P3 hc t.line t.col;rw[←ht] at c1 c2;have hop:isH [40] (o::(us++s::post))=true:=by rw[Ij ho];decide
    have hmx:∀x∈e::es,d+1+x.need<=12:=fun x hx=>by
     have:=nC (List.mem_map_of_mem (f:=Ex.need) hx)
     omega
    obtain⟨ks',h1,h2⟩:=Sk (c:=⟨h.op,(Dk h.op).1,(Dk h.op).2,t.line,t.col⟩) (d:=d+1) es e [] us post s (fun x hx=>(ihk x hx).1 0 qO) hmx (by simpa using hfew) (by simpa using hmany) hu hs;rw[show t::o::(us++[s])++post=t::o::(us++s::post) by simp,Bw];refine⟨.mk ⟨h.op,v0,[],t.line,t.col⟩ ks',?_,?_⟩
    ·show(match Cz t,D5 t with|some h,_=>(.ok (.mk h [],o::(us++s::post)):ExR)|none,some c=>Ca d (o::(us++s::post)) fun q'=>F1 c [] (d+1) q'|none,none=>Ca d (t::o::(us++s::post)) fun q'=>(Bd 0 (d+1) q').next Dp)=_
     rw[show(⟨t.w,t.line,t.col⟩:Tkn)=t from rfl] at c1 c2;rw[c1,c2];simp only;unfold Ca;rw[Ap hop,Ao qO,List.tail_cons];exact h1
    obtain⟨op,v,nm,l',c'⟩:=h;simp only at hin;obtain⟨rfl,rfl⟩:=hin;exact Rn rfl h2
  obtain⟨L,hL7,hLl,hpL,hrL⟩:=base
  have hge:∀n,n<=L->¬A4 (Ex.mk h ks).hd.op<n:=fun n hn=>by
   show ¬A4 h.op<n;omega
  have low:∀n,n<=L->G8 (.mk h ks) n/\(n<L->n<=5->n≠2->O3 (.mk h ks) n):=fun n hn=>
   Qn (lo:=0) hL7 (fun m _ hm=>⟨by unfold Bo;rw[Ao (hge m hm),Ao (hge L (Ak _))],by unfold Cd;rw[Ao (hge m hm),Ao (hge L (Ak _))]⟩)
    (fun m _ hm h26 ts post hw=>by
     obtain⟨w,r,h1,h2⟩:=Vk (n:=L) hgood;rw[h1] at hw;obtain⟨t,q,rfl,ht,_⟩:=map_cons hw;rw[List.cons_append,Rl,ht];cases hb:isW (Fc m) w with
     |false=>rfl
     |true=>
      have:=(h2 m h26 hb).1
      omega) hpL (L - n) n qO (Nat.zero_le _)
  have par:G8 (.mk h ks) 7\/L=7:=by
   by_cases h7:L=7
   ·exact .inr h7
   refine .inl fun d ts post hd hw hp=>?_
   have hlt:A4 (Ex.mk h ks).hd.op<7:=by show A4 h.op<7;omega
   unfold Bo at hw;unfold Cd at hd;rw[Ap hlt] at hw hd;obtain⟨o,q,rfl,ho,hq⟩:=map_cons hw;obtain⟨us,q,rfl,hu,hq⟩:=R1 hq;obtain⟨s,q,rfl,hs,hq⟩:=map_cons hq
   have:q=[]:=by simpa using hq
   subst this;have hu0:us.map Tkn.w=Bo 0 (.mk h ks):=by unfold Bo;rw[Ao qO];exact hu
   have hn0:Cd 0 (.mk h ks)=(Ex.mk h ks).need:=by unfold Cd;rw[Ao qO]
   obtain⟨a',h1,h2⟩:=(low 0 (Nat.zero_le _)).1 (d+1) us (s::post) (by rw[hn0];omega) hu0 fun m _=>Nw hs post m (.inl rfl)
   have hlf:Cz o=none:=by unfold Cz;rw[ho];rfl
   have hcf:D5 o=none:=by unfold D5;rw[ho];rfl
   have e40:isH [40] (o::(us++s::post))=true:=by rw[Ij ho];decide
   have e41:isH [41] (s::post)=true:=by rw[Ij hs];decide
   refine⟨a',?_,h2⟩;rw[show o::(us++[s])++post=o::(us++s::post) by simp,Bw];simp only[hlf,hcf];unfold Ca;rw[Ap e40,Ao qO,List.tail_cons]
   show(Bd 0 (d+1) (us++s::post)).next Dp=_
   rw[h1];simp only[ExR.next];unfold Dp;rw[Ap e41,List.tail_cons]
  have high:∀n,L<n->n<=7->G8 (.mk h ks) n/\(n<7->n<=5->n≠2->O3 (.mk h ks) n):=fun n hn h7=>by
   have hlt:∀m,L<m->m<=7->A4 (Ex.mk h ks).hd.op<m:=fun m hm hm7=>by show A4 h.op<m;omega
   rcases par with par|par
   ·exact Qn (lo:=L+1) (Ak 7) (fun m hm hm7=>⟨by unfold Bo;rw[Ap (hlt m qO hm7),Ap (hlt 7 qO qO)],by unfold Cd;rw[Ap (hlt m qO hm7),Ap (hlt 7 qO qO)]⟩)
     (fun m hm hm7 h26 ts post hw=>by
      unfold Bo at hw;rw[Ap (hlt 7 qO qO)] at hw;obtain⟨t,q,rfl,ht,_⟩:=map_cons hw;rw[List.cons_append,Rl,ht,Jk]
      rcases h26 with rfl|rfl<;>rfl) par (7 - n) n qO qO
   omega
  refine⟨fun n hn=>?_,fun n h5 h2 h3=>?_⟩
  ·by_cases hnl:n<=L
   ·exact(low n hnl).1
   exact(high n qO hn).1
  by_cases hnl:n<L
  ·exact(low n qO).2 hnl h5 h2
  by_cases he:n=L
  ·subst he;exact hrL h5 h2 h3
  exact(high n qO qO).2 qO h5 h2
open Go Go.Lib
def Dr (l:List Wd):Nat:=l.countP (isW [40])
def Et (l:List Tkn):Nat:=Dr (l.map Tkn.w)
theorem Qd (l m:List Wd):Dr (l++m)=Dr l+Dr m:=List.countP_append
theorem Fe (w:Wd)(l:List Wd):Dr (w::l)=Dr l+if isW [40] w=true then 1 else 0:=List.countP_cons
theorem Tu (l:List Wd):Dr (Z2 l)=Dr l+1:=by
 unfold Z2;rw[Fe,Qd,Jk,Fe,Jk];rfl
theorem J8 (t:Tkn)(l:List Tkn):Et (t::l)=Et l+if isW [40] t.w=true then 1 else 0:=Fe _ _
theorem I2 (t:Tkn)(l:List Tkn):Et l<=Et (t::l):=by rw[J8];omega
theorem C8 (n:Nat)(a:Ex):Dr (Bo n a)=Dr a.words+if A4 a.hd.op<n then 1 else 0:=by
 unfold Bo
 split
 ·rw[Tu]
 rfl
theorem E0 (n:Nat)(a:Ex):Cd n a=a.need+if A4 a.hd.op<n then 1 else 0:=by
 unfold Cd
 split<;>rfl
theorem Ro {n m:Nat}(h:n<=m)(a:Ex):Cd n a<=Cd m a/\Dr (Bo n a)<=Dr (Bo m a):=by
 rw[E0,E0,C8,C8];by_cases h1:A4 a.hd.op<n
 ·rw[Ap h1,Ap qO];omega
 rw[Ao h1];omega
theorem mA (m:Nat)(a:Ex):Cd m a<=Cd 0 a+1/\Dr (Bo m a)<=Dr (Bo 0 a)+1:=by
 rw[E0,E0,C8,C8];constructor<;>split<;>omega
def Nh (l:List Ex):Nat:=(l.map fun e=>Dr e.words).sum
theorem kI (l m:List Ex):Nh (l++m)=Nh l+Nh m:=by simp [Nh]
theorem Tc:∀l:List Ex,Dr (Nm (l.map Ex.words))=Nh l
 |[]=>rfl
 |[e]=>by simp [Nm,Nh]
 |e::f::l=>by
  show Dr (e.words++Es [44]::Nm ((f::l).map Ex.words))=_;rw[Qd,Fe,Tc (f::l),Jk];simp [Nh]
theorem bJ (h:Hd):Dr [Jy h]=0:=by
 have:isW [40] (Jy h)=false:=by
  have hx:∀w:Wd,w.t≠[40]->isW [40] w=false:=fun w hw=>by unfold isW;rw[An hw];rfl
  have hy:∀w:Wd,w.k≠1->w.k≠7->isW [40] w=false:=fun w h1 h7=>by unfold isW;rw[An h1,An h7];simp
  unfold Jy
  split
  ·exact hy _ qQ qQ
  split
  ·exact hy _ qQ qQ
  split
  ·exact hy _ qQ qQ
  split
  ·exact hy _ qQ qQ
  split
  ·exact hy _ qQ qQ
  rename_i h12 h3 h5
  refine hx _ ?_;show Nc h.v.1 h.v.2.1 h.v.2.2≠[40];unfold Nc;rw[Ao (fun e=>h12 (.inl e)),Ao (fun e=>h12 (.inr e)),Ao h3];by_cases h4:h.v.1=4
  ·rw[Ap h4];split<;>decide
  rw[Ao h4,Ao h5];decide
 rw[Fe,this];rfl
theorem bI {op:Int}(h:Cm op)(k:Int)(ws:List Wd):Dr (⟨k,Cc op,v0⟩::ws)=Dr ws:=by
 have:isW [40] ⟨k,Cc op,v0⟩=false:=by
  have hw:Cc op≠[40]:=by rcases h with rfl|rfl|rfl|rfl|rfl|rfl|rfl|rfl|rfl<;>decide
  unfold isW;rw[An hw];rfl
 rw[Fe,this];rfl
theorem jD {op:Int}(h:Er op)(ws:List Wd):Dr (R8 op::ws)=Dr ws:=by
 have:isW [40] (R8 op)=false:=by
  have hw:Cc op≠[40]:=by rcases h with rfl|rfl|rfl|rfl|rfl|rfl|rfl|rfl|rfl|rfl|rfl|rfl<;>decide
  unfold isW R8;rw[An hw];rfl
 rw[Fe,this];rfl
theorem iJ {t:Tkn}{h:Hd}(he:Cz t=some h):1<=h.op/\h.op<=3:=by
 unfold Cz at he
 repeat' split at he
 all_goals first
  |(cases he;done)
  |(injection he with he;subst he;constructor<;>simp;done)
  |skip
 cases hl:Lk t.w.t with
 |none=>rw[hl] at he;cases he
 |some v=>rw[hl] at he;injection he with he;subst he;constructor<;>simp
instance (op:Int):Decidable (Er op):=by unfold Er;infer_instance
theorem jV {r:List Tkn}{n:Nat}(h:Bn r (Bs n)≠0):Er (Bn r (Bs n))/\A4 (Bn r (Bs n))=n:=by
 have hin:=L7 h;obtain⟨h5,h2⟩:=Mf h;obtain⟨o,ho⟩:∃o,Bn r (Bs n)=o:=⟨_,rfl⟩;rw[ho] at hin ⊢;clear h ho;obtain rfl|rfl|rfl|rfl|rfl:n=0\/n=1\/n=3\/n=4\/n=5:=by omega
 ·exact(by decide:∀o∈(Bs 0).map Prod.snd,Er o/\A4 o=0) o hin
 ·exact(by decide:∀o∈(Bs 1).map Prod.snd,Er o/\A4 o=1) o hin
 ·exact(by decide:∀o∈(Bs 3).map Prod.snd,Er o/\A4 o=3) o hin
 ·exact(by decide:∀o∈(Bs 4).map Prod.snd,Er o/\A4 o=4) o hin
 exact(by decide:∀o∈(Bs 5).map Prod.snd,Er o/\A4 o=5) o hin
theorem dA:∀(td:Gu) (d:Nat) (r:List Tkn),td.ok->match td with
 | .lvl n=>d<=12->∀a q,exE (.lvl n) d r= .ok (a,q)->d+Cd n a<=12/\Dr (Bo n a)+Et q<=Et r
 | .row n b=>d+Cd (E9 n) b<=12->∀a q,exE (.row n b) d r= .ok (a,q)->d+Cd n a<=12/\Dr (Bo n a)+Et q<=Dr (Bo (E9 n) b)+Et r
 | .args c ks=>Cm c.op->(∀x∈ks,d+x.need<=12)->d<=12->∀a q,exE (.args c ks) d r= .ok (a,q)->∃ks',a= .mk ⟨c.op,v0,[],c.line,c.col⟩ ks'/\(∀x∈ks',d+x.need<=12)/\Nh ks'+Et q<=Nh ks+Et r:=by
 refine R2 (P:=fun td d r=>match td with
  | .lvl n=>d<=12->∀a q,exE (.lvl n) d r= .ok (a,q)->d+Cd n a<=12/\Dr (Bo n a)+Et q<=Et r
  | .row n b=>d+Cd (E9 n) b<=12->∀a q,exE (.row n b) d r= .ok (a,q)->d+Cd n a<=12/\Dr (Bo n a)+Et q<=Dr (Bo (E9 n) b)+Et r
  | .args c ks=>Cm c.op->(∀x∈ks,d+x.need<=12)->d<=12->∀a q,exE (.args c ks) d r= .ok (a,q)->∃ks',a= .mk ⟨c.op,v0,[],c.line,c.col⟩ ks'/\(∀x∈ks',d+x.need<=12)/\Nh ks'+Et q<=Nh ks+Et r) ?_ ?_ ?_ ?_ ?_
 ·intro n d r hn h1 h2 hd a q h;rw[show exE (.lvl n) d r=_ from Gx hn] at h;by_cases hp:isH (Fc n) r=true
  ·rw[Ap hp] at h;obtain⟨t,q0,rfl⟩:=Cu hp;by_cases hd12:d=12
   ·rw[Ap hd12] at h;cases h
   rw[Ao hd12] at h;obtain⟨a',q',h3,h4⟩:=Ev h;injection h4 with h4;simp only[Prod.mk.injEq] at h4;obtain⟨rfl,rfl⟩:=h4;obtain⟨i1,i2⟩:=h1 t q0 rfl hp hd12 qO a' q' h3;have hl:=(Ml hn).1;have hlo:¬A4 (Ex.mk ⟨Kh n,v0,[],(plH (t::q0)).1,(plH (t::q0)).2⟩ [a']).hd.op<n:=by show ¬A4 (Kh n)<n;omega
   have:=I2 t q0
   rw[E0,C8,Ao hlo,(Mi hn rfl a').2.2,(Mi hn rfl a').2.1];refine⟨by omega,?_⟩;rw[Fe]
   have:isW [40] (if n=2 then(⟨1,[110,111,116],v0⟩:Wd) else Es [45])=false:=by rcases hn with rfl|rfl<;>decide
   rw[this];simp only[Bool.false_eq_true,if_false];omega
  rw[Ao hp] at h;obtain⟨i1,i2⟩:=h2 tX hd a q h;obtain⟨m1,m2⟩:=Ro (show n<=n+1 by omega) a;omega
 ·intro d r h1 h2 hd a q h;rw[show exE (.lvl 7) d r=_ from Bw d r] at h;cases r with
  |nil=>cases h
  |cons t r=>
   simp only at h;cases hl:Cz t with
   |some x=>
    rw[hl] at h;injection h with h;simp only[Prod.mk.injEq] at h;obtain⟨rfl,rfl⟩:=h;obtain⟨o1,o3⟩:=iJ hl;have hlo:¬A4 (Ex.mk x []).hd.op<7:=by show ¬A4 x.op<7;rw[K7 o1 o3];omega
    have:=I2 t r
    rw[E0,C8,Ao hlo,(K6 o3 []).2.2,(K6 o3 []).2.1,bJ];omega
   |none=>
    cases hc:D5 t with
    |some c=>
     rw[hl,hc] at h;simp only at h;obtain⟨ho,hd12,h⟩:=Mu h;obtain⟨t',q',rfl⟩:=Cu ho;have hcc:=(Sx hc).1;obtain⟨ks',rfl,i1,i2⟩:=h1 t t' q' c rfl hl hc ho hd12 hcc (fun x hx=>by cases hx) qO a q h;have hlo:¬A4 (Ex.mk ⟨c.op,v0,[],c.line,c.col⟩ ks').hd.op<7:=by show ¬A4 c.op<7;rw[Ew hcc];omega
     have e1:=Lj (h:=⟨c.op,v0,[],c.line,c.col⟩) hcc ks';rw[E0,C8,Ao hlo,e1.2.2,e1.2.1,bI hcc,Tu,Tc]
     have hm:=mQ (l:=ks'.map Ex.need) (k:=12 - (d+1)) (fun n hn=>by
      obtain⟨x,hx,rfl⟩:=List.mem_map.1 hn
      have:=i1 x hx
      omega)
     rw[J8,J8,Ap (show isW [40] t'.w=true from ho)];simp only[Nh,List.map_nil,List.sum_nil,Nat.zero_add] at i2;refine⟨by omega,?_⟩;simp only[Nh];omega
    |none=>
     rw[hl,hc] at h;simp only at h;obtain⟨ho,hd12,h⟩:=Mu h;obtain⟨a',q',h3,h4⟩:=Ev h;obtain⟨rfl,h41,rfl⟩:=Pe h4;obtain⟨t',q'',rfl⟩:=Cu h41;obtain⟨i1,i2⟩:=h2 t r rfl hl hc ho hd12 qO _ _ h3;obtain⟨m1,m2⟩:=mA 7 a
     have:=I2 t' q''
     rw[J8,Ap (show isW [40] t.w=true from ho)];rw[List.tail_cons];omega
 ·intro n d r h5 h2 h1 h3 hd a q h;rw[show exE (.lvl n) d r=_ from Hu h5 h2] at h;obtain⟨b,q',h4,h6⟩:=Ev h;obtain⟨i1,i2⟩:=h1 hd b q' h4;have hle:E9 n<=n+1:=by unfold E9;split<;>omega
  obtain⟨m1,m2⟩:=Ro hle b;obtain⟨i3,i4⟩:=h3 b q' h4 qO a q h6;omega
 ·intro n b d r h1 hd a q h;rw[show exE (.row n b) d r=_ from Fr n b d r] at h;by_cases hz:Bn r (Bs n)=0
  ·rw[Ap hz] at h;injection h with h;simp only[Prod.mk.injEq] at h;obtain⟨rfl,rfl⟩:=h;obtain⟨m1,m2⟩:=Ro (Yp n) b;omega
  rw[Ao hz] at h;obtain⟨t,q0,rfl⟩:=Fo hz;obtain⟨h5,h2⟩:=Mf hz;obtain⟨hi,hlv⟩:=jV hz;obtain⟨g1,g2⟩:=h1 t q0 rfl hz h5 h2;obtain⟨c,q',h3,h4⟩:=Ev h;rw[List.tail_cons] at h3;obtain⟨i1,i2⟩:=g1 (by have:=(Ro (Nat.zero_le (E9 n)) b).1;omega) c q' h3
  have:=I2 t q0
  have e1:=Oa (h:=⟨Bn (t::q0) (Bs n),v0,[],(plH (t::q0)).1,(plH (t::q0)).2⟩) hi b c;have hlo:¬A4 (Ex.mk ⟨Bn (t::q0) (Bs n),v0,[],(plH (t::q0)).1,(plH (t::q0)).2⟩ [b,c]).hd.op<n:=by show ¬A4 (Bn (t::q0) (Bs n))<n;omega
  simp only[hlv] at e1
  have hnode:d+Cd n (Ex.mk ⟨Bn (t::q0) (Bs n),v0,[],(plH (t::q0)).1,(plH (t::q0)).2⟩ [b,c])<=12/\Dr (Bo n (Ex.mk ⟨Bn (t::q0) (Bs n),v0,[],(plH (t::q0)).1,(plH (t::q0)).2⟩ [b,c]))+Et q'<=Dr (Bo (E9 n) b)+Et (t::q0):=by
   rw[E0,C8,Ao hlo,e1.2.2,e1.2.1,Qd,jD hi];omega
  by_cases hn3:n=3
  ·rw[Ap hn3] at h4;injection h4 with h4;simp only[Prod.mk.injEq] at h4;obtain⟨rfl,rfl⟩:=h4;exact hnode
  rw[Ao hn3] at h4;have hll:E9 n=n:=by unfold E9;rw[Ao hn3]
  obtain⟨i3,i4⟩:=g2 c q' h3 (by rw[hll];exact hnode.1) a q h4;rw[hll] at i4 hnode ⊢;omega
 intro c ks d r h1 h2 hc hks hd a q h;rw[show exE (.args c ks) d r=_ from F0 c ks d r] at h;obtain⟨b,q',h3,h4⟩:=Ev h;obtain⟨i1,i2⟩:=h1 hd b q' h3
 have hb0:Cd 0 b=b.need/\Dr (Bo 0 b)=Dr b.words:=by
  rw[E0,C8,Ao qO];exact⟨rfl,rfl⟩
 have hks':∀x∈ks++[b],d+x.need<=12:=fun x hx=>by
  rcases List.mem_append.1 hx with hx|hx
  ·exact hks x hx
  rw[List.mem_singleton.1 hx];omega
 have hsum:Nh (ks++[b])=Nh ks+Dr b.words:=by rw[kI];simp [Nh]
 split at h4
 ·cases h4
 split at h4
 ·rename_i h44
  obtain⟨t,q0,rfl⟩:=Cu h44;obtain⟨ks',e,i3,i4⟩:=h2 b t q0 h3 h44 hc hks' hd a q h4
  have:=I2 t q0
  exact⟨ks',e,i3,by omega⟩
 obtain⟨rfl,h41,rfl⟩:=Pe h4;obtain⟨t,q0,rfl⟩:=Cu h41
 have:=I2 t q0
 refine⟨_,rfl,hks',?_⟩;rw[List.tail_cons];omega
theorem Zg {l:List UInt8}{a:Ex}(h:Cf l= .ok a):a.need<=12/\∃ts,Fu l= .ok ts/\Dr a.words<=Et ts:=by
 obtain⟨ts,h1,h2,_⟩:=Ii h;obtain⟨i1,i2⟩:=dA (.lvl 0) 0 ts sS qO a [] h2;rw[E0,Ao qO] at i1;rw[C8,Ao qO] at i2;exact⟨by omega,ts,h1,by omega⟩
def Dq (t:List UInt8)(ws:List Wd)(r:List UInt8):Prop:=∀x y,∃us x' y',us.map Tkn.w=ws/\LX (t++r) x y=Ik (.ok us) (LX r x' y')
theorem Dq.app {t u r:List UInt8}{ws vs:List Wd}(h:Dq t ws (u++r))(k:Dq u vs r):Dq (t++u) (ws++vs) r:=fun x y=>by
 obtain⟨us,x1,y1,h1,h2⟩:=h x y;obtain⟨us',x2,y2,h3,h4⟩:=k x1 y1;exact⟨us++us',x2,y2,by rw[List.map_append,h1,h3],by rw[List.append_assoc,h2,h4,fF]⟩
theorem Dq.cons {c:UInt8}{u r:List UInt8}{ws vs:List Wd}(h:Dq [c] ws (u++r))(k:Dq u vs r):Dq (c::u) (ws++vs) r:=Dq.app (t:=[c]) h k
theorem Lp {c:UInt8}(h:c=40\/c=41\/c=44\/c=45)(r:List UInt8):Dq [c] [Es [c]] r:=fun x y=>
 ⟨[⟨⟨7,[c],v0⟩,x,y⟩],x,y+1,rfl,by rw[List.cons_append,List.nil_append,oY h,Qk]⟩
theorem dE (x:Except (Int×Int×Int) (List Tkn)):Ik (.ok []) x=x:=by cases x<;>rfl
theorem Kc (r:List UInt8):Dq [32] [] r:=fun x y=>⟨[],x,y+1,rfl,by rw[List.cons_append,List.nil_append,Ma,dE]⟩
theorem Oe {w:Wd}(hf:Pv w)(hk:w.k≠7){r:List UInt8}(hr:Sep r):Dq (Fv w) [w] r:=fun x y=>
 ⟨[⟨w,x,y⟩],x,_,rfl,by rw[oE hf hk hr,Qk]⟩
theorem jM {op:Int}(h:Er op)(r:List UInt8):Dq (Cc op) [R8 op] (32::r):=fun x y=>
 ⟨[⟨R8 op,x,y⟩],x,_,rfl,by rw[lV (cJ h) (32::r) (Zm r),Qk];rfl⟩
theorem Ty {t r:List UInt8}{ws:List Wd}(h:Dq t ws (41::r)):Dq (Kt t) (Z2 ws) r:=by
 have h1:=Dq.app (t:=[40]) (u:=t++[41]) (r:=r) (ws:=[Es [40]]) (vs:=ws++[Es [41]]) (Lp qQ _) (Dq.app rI (Lp qQ r));exact h1
theorem Sv {r:List UInt8}:∀l:List Ex,l≠[]->(∀e∈l,∀r,Sep r->Dq e.text e.words r)->Dq (Ei [44,32] (l.map Ex.text)) (Nm (l.map Ex.words)) (41::r)
 |[],h,_=>absurd rfl h
 |[e],_,h=>h e Ai _ (Ku r qQ)
 |e::f::l,_,h=>by
  have ih:=Sv (r:=r) (f::l) qQ fun x hx=>h x (Aj _ hx)
  show Dq (e.text++([44,32]++Ei [44,32] ((f::l).map Ex.text))) (e.words++Es [44]::Nm ((f::l).map Ex.words)) (41::r);refine Dq.app (h e Ai _ tW) ?_;exact Dq.app (t:=[44]) (u:=32::Ei [44,32] ((f::l).map Ex.text)) (ws:=[Es [44]]) (Lp qQ _) (Dq.app (t:=[32]) (ws:=[]) (Kc _) ih)
theorem Sj:∀(k:Nat) (a:Ex),a.size<=k->a.All Gm->∀r,Sep r->Dq a.text a.words r
 |0,a,hk,_,_,_=>absurd a.size_pos qO
 |k+1,.mk h ks,hk,hg,r,hr=>by
  rw[Ex.size] at hk;rw[Ex.All] at hg;have ih:∀e∈ks,∀r,Sep r->Dq e.text e.words r:=fun e he r hr=>Sj k e (by have:=Mw he;omega) (Pt hg.2 e he) r hr
  have ihA:∀e∈ks,∀n r,Sep r->Dq (Km n e) (Bo n e) r:=fun e he n r hr=>by
   unfold Km Bo
   split
   ·exact Ty (ih e he _ (Ku r qQ))
   exact ih e he r hr
  cases Lb hg.1 with
  |leaf h1 h3 ok=>
   rw[(K6 h3 []).1,(K6 h3 []).2.1,←ok.spell];exact Oe ok.form ok.ne7 hr
  |pre n hn ho=>
   rename_i e
   rw[(Mi hn ho e).1,(Mi hn ho e).2.1];rcases hn with rfl|rfl
   ·rw[Ap rfl];refine Dq.app (t:=[110,111,116]) (u:=32::Km 2 e) (ws:=[⟨1,[110,111,116],v0⟩]) ?_ (Dq.app (t:=[32]) (ws:=[]) (Kc _) (ihA e Ai 2 r hr));exact Oe (w:=⟨1,[110,111,116],v0⟩) (.name rfl qP rfl) qP tW
   rw[Ao qP];exact Dq.app (t:=[45]) (ws:=[Es [45]]) (Lp qQ _) (ihA e Ai 6 r hr)
  |mid hi=>
   rename_i e f
   rw[(Oa hi e f).1,(Oa hi e f).2.1];refine Dq.app (ihA e Ai _ _ tW) ?_;refine Dq.app (t:=[32]) (ws:=[]) (Kc _) ?_;refine Dq.app (ws:=[R8 h.op]) (jM hi _) ?_;exact Dq.app (t:=[32]) (ws:=[]) (Kc _) (ihA f (Aj _ Ai) _ r hr)
  |call hc q1 q2=>
   rename_i e es
   rw[(Lj hc _).1,(Lj hc _).2.1];have hcw:=P3 hc 0 0;refine Dq.app (ws:=[⟨1,Cc h.op,v0⟩]) ?_ (Ty (Sv _ qQ ih));exact Oe (w:=⟨1,Cc h.op,v0⟩) hcw.2.2.1 qQ tW
theorem iP {a:Ex}(hg:a.All Gm):∃us,Fu a.text= .ok us/\us.map Tkn.w=a.words:=by
 obtain⟨us,x,y,h1,h2⟩:=Sj _ a (Ak _) hg [] oR 1 1;rw[List.append_nil,L4] at h2;refine⟨us,?_,h1⟩;rw[Wg,h2];simp [Ik]
theorem S9:∀(k:Nat) (a:Ex),a.size<=k->a.All Gm->a.text.length+4<=420*a.size
 |0,a,hk,_=>absurd a.size_pos qO
 |k+1,.mk h ks,hk,hg=>by
  rw[Ex.size] at hk ⊢;rw[Ex.All] at hg;have ih:∀e∈ks,e.text.length+4<=420*e.size:=fun e he=>S9 k e (by have:=Mw he;omega) (Pt hg.2 e he)
  have ihA:∀e∈ks,∀n,(Km n e).length+2<=420*e.size:=fun e he n=>by
   have:=ih e he
   unfold Km Kt
   split
   ·simp only[Aa,Ab,List.length_nil];omega
   omega
  cases Lb hg.1 with
  |leaf h1 h3 ok=>
   rw[(K6 h3 []).1]
   have:=ok.short
   simp only[Bi];omega
  |pre n hn ho=>
   rename_i e
   rw[(Mi hn ho e).1];have h1:=ihA e Ai n;have h2:(Cc (Kh n)).length<=4:=by rcases hn with rfl|rfl<;>decide
   simp only[Bi,Ab];omega
  |mid hi=>
   rename_i e f
   rw[(Oa hi e f).1];have h1:=ihA e Ai (E9 (A4 h.op));have h3:=ihA f (Aj _ Ai) (A4 h.op+1);have h2:(Cc h.op).length<=3:=by rcases hi with e|e|e|e|e|e|e|e|e|e|e|e<;>rw[e]<;>decide
   simp only[Bi,Ab,Aa];omega
  |call hc q1 q2=>
   rename_i e es
   rw[(Lj hc _).1];have h2:(Cc h.op).length<=8:=by rcases hc with e|e|e|e|e|e|e|e|e<;>rw[e]<;>decide
   have key:∀l:List Ex,(∀e∈l,e.text.length+4<=420*e.size)->(Ei [44,32] (l.map Ex.text)).length<=420*Bi l:=fun l=>by
    induction l with
    |nil=>intro _;exact Nat.zero_le _
    |cons x l ih=>
     intro hl;have h3:=hl x Ai;have h4:=ih fun e he=>hl e (Aj _ he)
     cases l with
     |nil=>simp only[List.map_cons,List.map_nil,Ei,Bi];omega
     |cons y l=>
      rw[Bi]
      show(x.text++([44,32]++Ei [44,32] ((y::l).map Ex.text))).length<=_
      simp only[Ab,Aa,List.length_nil] at h4 ⊢;omega
   have h5:=key (e::es) ih;unfold Kt;simp only[Ab,Aa,List.length_nil] at h5 ⊢;omega
theorem gF {l:List UInt8}{a:Ex}(h:Cf l= .ok a):∃a',Cf a.text= .ok a'/\a'.bare=a.bare:=by
 have hg:=Mo h;obtain⟨h12,_⟩:=Zg h;obtain⟨_,_,_,h60⟩:=Ii h;obtain⟨us,h1,h2⟩:=iP hg;have hw:us.map Tkn.w=Bo 0 a:=by unfold Bo;rw[Ao qO];exact h2
 have hn:Cd 0 a=a.need:=by unfold Cd;rw[Ao qO]
 obtain⟨a',h3,h4⟩:=(Q7 _ a (Ak _) hg).1 0 qO 0 us [] (by rw[hn];omega) hw fun m _=>Ud _
 rw[List.append_nil] at h3;have hz:=gE h4;refine⟨a',?_,h4⟩;simp only[Cf,h1,h3];rw[Ao qO,Ap trivial]
end Go.Proofs.YtgfakdobajgnfaaGreatDoor
