import Derived.Test.YtgfakdobajgnfaaGreatDoorQe12
set_option maxRecDepth 100000
set_option maxHeartbeats 16000000
namespace Go.Proofs.YtgfakdobajgnfaaGreatDoor
open Go Go.Lib
def Sep (r:List UInt8):Prop:=∀c,r.head? =some c->c=32\/c=40\/c=41\/c=44
theorem Sep.nam {r:List UInt8}(h:Sep r):∀c,r.head? =some c->B7 c=false:=fun c hc=>by
 rcases h c hc with rfl|rfl|rfl|rfl<;>rfl
theorem Sep.dig {r:List UInt8}(h:Sep r):∀c,r.head? =some c->A3 c=false:=fun c hc=>by
 rcases h c hc with rfl|rfl|rfl|rfl<;>rfl
theorem Sep.point {r:List UInt8}(h:Sep r):r.head?≠some 46:=fun e=>by
 rcases h _ e with h|h|h|h<;>cases h
theorem oU:Sep []:=fun c h=>by cases h
theorem Ln {c:UInt8}(r:List UInt8)(h:c=32\/c=40\/c=41\/c=44):Sep (c::r):=fun d hd=>by
 injection hd with hd
 subst hd
 exact h
theorem Ya (n:Nat)(r:List UInt8)(h:r.head?≠some 46):Cc n r=n:=by
 unfold Cc
 split
 ·exact absurd rfl h
 ·rfl
theorem bC {t r:List UInt8}(h:Bg t=t.length)(hr:Sep r):Bg (t++r)=t.length:=by
 rw[F8] at h ⊢
 rw[Ej t r hr.dig]
 have hle:Ay A3 t<=t.length:=Cd A3 t
 rw[List.drop_append_of_le_length hle]
 by_cases hf:Ay A3 t=t.length
 ·rw[hf,List.drop_length,List.nil_append,Ya _ _ hr.point]
 ·obtain⟨x,hx⟩:∃x,t.drop (Ay A3 t)=x:=⟨_,rfl⟩
  have hxl:x.length=t.length - Ay A3 t:=by rw[←hx,List.length_drop]
  rw[hx] at h ⊢
  unfold Cc at h ⊢
  split at h
  ·rename_i c q
   by_cases hd:A3 c=true
   ·rw[if_pos hd] at h
    rw[show 46::c::q++r=46::c::(q++r) from rfl]
    simp only
    rw[if_pos hd,←List.cons_append,Ej (c::q) r hr.dig]
    exact h
   ·rw[if_neg hd] at h
    omega
  ·omega
theorem gI {w:Wd}(hf:Qg w)(hk:w.k≠7){r:List UInt8}(hr:Sep r):Bf (Dz w++r)= .ok (w,(Dz w).length)/\∃c q,Dz w=c::q/\Jh c:=by
 obtain⟨k,t,v⟩:=w
 have nm:∀{t:List UInt8},I8 t=true->∃c q,t=c::q/\Dk c=true/\Ay B7 (t++r)=t.length/\t.length<=12:=fun{t} h=>by
  obtain⟨h1,h2,h3,c,q,e,hc⟩:=Fa h
  exact⟨c,q,e,hc,Lq t r (fun b hb=>by have:=List.all_eq_true.1 h3 b hb;exact this) hr.nam,h2⟩
 have lowBeg:∀{c:UInt8},Dk c=true->Jh c:=fun{c} h=>by
  refine⟨?_,?_,?_⟩<;>rintro rfl<;>cases h
 cases hf with
 |name h ht hv=>
  simp only at h ht hv
  subst h hv
  obtain⟨c,q,e,hc,hs,hl⟩:=nm ht
  show Bf (t++r)= .ok (⟨1,t,v0⟩,t.length)/\∃c q,t=c::q/\Jh c
  refine⟨?_,c,q,e,lowBeg hc⟩
  subst e
  rw[List.cons_append]
  unfold Bf
  simp only
  rw[if_pos hc,←List.cons_append,hs]
  unfold Cq
  rw[List.take_left,if_neg uE]
 |var h ht hv=>
  simp only at h ht hv
  subst h hv
  obtain⟨c,q,e,hc,hs,hl⟩:=nm ht
  show Bf (63::t++r)= .ok (⟨2,t,v0⟩,(63::t).length)/\∃c q,63::t=c::q/\Jh c
  refine⟨?_,63,t,rfl,by unfold Jh;decide⟩
  have hm:Dp (63::(t++r))=true:=by subst e;exact hc
  rw[List.cons_append]
  unfold Bf
  simp only
  rw[if_neg rB,if_neg rB,if_neg rB,if_pos trivial,if_pos hm,hs]
  unfold Cq
  rw[List.take_left,if_neg uE]
  rw[Aa,Nat.add_comm]
 |self h ht hv=>
  simp only at h ht hv
  subst h ht hv
  show Bf (63::r)= .ok (⟨3,[],v0⟩,1)/\∃c q,[(63:UInt8)]=c::q/\Jh c
  refine⟨?_,63,[],rfl,by unfold Jh;decide⟩
  have hm:Dp (63::r)=false:=by
   cases r with
   |nil=>rfl
   |cons c r=>rcases hr c rfl with rfl|rfl|rfl|rfl<;>rfl
  unfold Bf
  simp only
  rw[if_neg rB,if_neg rB,if_neg rB,if_pos trivial,hm,if_neg rB]
 |num h ht hm=>
  simp only at h ht hm
  subst h
  obtain⟨c,q,e,hd,hn⟩:=hm
  show Bf (t++r)= .ok (⟨4,t,v⟩,t.length)/\∃c q,t=c::q/\Jh c
  refine⟨?_,c,q,e,?_⟩
  ·have hnl:=bC hn hr
   have hlow:¬Dk c=true:=by
    unfold A3 at hd
    unfold Dk
    simp only[Bool.and_eq_true,decide_eq_true_eq] at hd ⊢
    omega
   subst e
   rw[List.cons_append] at hnl ⊢
   unfold Bf
   simp only
   rw[if_neg hlow,if_pos hd]
   unfold Ke
   rw[hnl,←List.cons_append,List.take_left,ht]
  ·refine⟨?_,?_,?_⟩<;>rintro rfl<;>cases hd
 |str h ht hm hs=>
  simp only at h ht hm hs
  subst h
  show Bf (34::(t++[34])++r)= .ok (⟨5,t,v⟩,(34::(t++[34])).length)/\∃c q,34::(t++[34])=c::q/\Jh c
  refine⟨?_,34,_,rfl,by unfold Jh;decide⟩
  have hsp:=Lc false (t++[34]) r (by rw[hs,Ab];simp)
  rw[hs,List.take_of_length_le rC] at hsp
  rw[List.cons_append]
  unfold Bf
  simp only
  rw[if_neg rB,if_neg rB,if_pos trivial,Gy,hsp]
  have hdr:((34::(t++[34]++r)).drop (1+t.length)).head? =some 34:=by
   rw[Nat.add_comm,List.drop_succ_cons,List.append_assoc,List.drop_left]
   rfl
  rw[if_pos hdr]
  have htk:(34::(t++[34]++r)).take (t.length+2)=34::t++[34]:=by
   rw[show(34:UInt8)::(t++[34]++r)=(34::t++[34])++r by simp,show t.length+2=(34::t++[34]).length by simp,List.take_left]
  rw[htk,ht]
  simp only
  rw[List.append_assoc,List.take_left]
  simp
 |sym h ht hv=>
  simp only at h ht hv
  subst h hv
  obtain⟨c,q,e,hc,hs,hl⟩:=nm ht
  show Bf (35::t++r)= .ok (⟨6,t,(5,0,t)⟩,(35::t).length)/\∃c q,35::t=c::q/\Jh c
  refine⟨?_,35,t,rfl,by unfold Jh;decide⟩
  have hm:Dp (35::(t++r))=true:=by subst e;exact hc
  rw[List.cons_append]
  unfold Bf
  simp only
  rw[if_neg rB,if_neg rB,if_neg rB,if_neg rB,if_pos ⟨trivial,hm⟩,hs]
  unfold Cq
  rw[List.take_left,if_neg uE]
  rw[Aa,Nat.add_comm]
 |sign h _ _=>exact absurd h hk
theorem nL {w:Wd}(hf:Qg w)(hk:w.k≠7){r:List UInt8}(hr:Sep r)(a b:Int):LX (Dz w++r) a b=Mq ⟨w,a,b⟩ (LX r a (b+((Dz w).length:Nat))):=by
 obtain⟨h,c,q,e,hc⟩:=gI hf hk hr
 rw[e] at h ⊢
 rw[List.cons_append] at h ⊢
 rw[Ez hc h,←List.cons_append,List.drop_left]
theorem pI {c:UInt8}(h:c=40\/c=41\/c=44\/c=45)(r:List UInt8)(a b:Int):LX (c::r) a b=Mq ⟨⟨7,[c],v0⟩,a,b⟩ (LX r a (b+1)):=by
 have hw:Bf (c::r)= .ok (⟨7,[c],v0⟩,1):=by
  unfold Bf
  simp only
  rw[if_neg sX,if_neg sX,if_neg sX,if_neg sX,
   if_neg (by rintro ⟨e,_⟩;rcases h with rfl|rfl|rfl|rfl<;>cases e)]
  unfold E8
  have h2:(c::r).take 2∉E4:=by
   cases r with
   |nil=>rcases h with rfl|rfl|rfl|rfl<;>decide
   |cons d r=>rcases h with rfl|rfl|rfl|rfl<;>simp [E4]
  rw[if_neg h2,if_pos (by rw[List.take_succ_cons,List.take_zero];rcases h with rfl|rfl|rfl|rfl<;>decide)]
  rfl
 rw[Ez (by unfold Jh;rcases h with rfl|rfl|rfl|rfl<;>decide) hw]
 rfl
theorem Qs (t:Tkn)(x:Except (Int×Int×Int) (List Tkn)):Mq t x=Gb (.ok [t]) x:=by
 cases x<;>rfl
theorem gH (us vs:List Tkn)(x:Except (Int×Int×Int) (List Tkn)):Gb (.ok us) (Gb (.ok vs) x)=Gb (.ok (us++vs)) x:=by
 cases x with
 |error e=>rfl
 |ok ts=>simp [Gb]
open Go Go.Lib
def Mj (op:Int):List UInt8×Nat:=
 if op=4 then([111,114],0) else if op=5 then([97,110,100],1) else if op=6 then([110,111,116,32],2)
 else if op=7 then([61],3) else if op=8 then([60,62],3) else if op=9 then([60],3) else if op=10 then([60,61],3) else if op=11 then([62],3) else if op=12 then([62,61],3)
 else if op=13 then([43],4) else if op=14 then([45],4) else if op=15 then([42],5) else if op=16 then([47],5) else if op=17 then([45],6)
 else if op=18 then([97,98,115],8) else if op=19 then([109,105,110],8) else if op=20 then([109,97,120],8) else if op=21 then([109,111,100],8) else if op=22 then([108,101,110,103,116,104],8)
 else if op=23 then([117,112,112,101,114],8) else if op=24 then([99,111,110,116,97,105,110,115],8) else if op=25 then([115,116,97,114,116,115],8) else if op=26 then([105,102],8) else([],8)
def Cf (op:Int):List UInt8:=(Mj op).1
def Az (op:Int):Nat:=(Mj op).2
def Fw (op:Int):Prop:=op=4\/op=5\/op=7\/op=8\/op=9\/op=10\/op=11\/op=12\/op=13\/op=14\/op=15\/op=16
theorem Xi {op:Int}(h:Fw op):(Cf op,op,Az op)∈Jg:=by
 exact zx2
theorem Yg {op:Int}(h:Fw op):Az op<=5/\Az op≠2:=by
 exact zx2
theorem nB {op:Int}(h:Fw op):Ew op=(2,2):=by
 exact zx2
def Fq (op:Int):Prop:=op=18\/op=19\/op=20\/op=21\/op=22\/op=23\/op=24\/op=25\/op=26
theorem Ij {op:Int}(h:Fq op):Az op=8:=by
 rcases h with rfl|rfl|rfl|rfl|rfl|rfl|rfl|rfl|rfl<;>rfl
theorem Q5 {op:Int}(h:Fq op)(l c:Int):Cx ⟨⟨1,Cf op,v0⟩,l,c⟩=some ⟨op,(Ew op).1,(Ew op).2,l,c⟩/\Ce ⟨⟨1,Cf op,v0⟩,l,c⟩=none/\Qg ⟨1,Cf op,v0⟩/\1<=(Ew op).1/\(Ew op).2<=8:=by
 rcases h with rfl|rfl|rfl|rfl|rfl|rfl|rfl|rfl|rfl<;>exact⟨rfl,rfl,.name rfl rB rfl,by decide,by decide⟩
theorem Sy {t:Tkn}{c:Cl}(h:Cx t=some c):Fq c.op/\c.least=(Ew c.op).1/\c.most=(Ew c.op).2:=by
 obtain⟨_,h2,_⟩:=Pz h
 obtain⟨op,le,mo,l,k⟩:=c
 simp only at h2 ⊢
 unfold Dd at h2
 repeat' split at h2
 all_goals first
  |(cases h2;done)
  |(injection h2 with h2
    simp only[Prod.mk.injEq] at h2
    obtain⟨rfl,rfl,rfl⟩:=h2
    exact⟨by unfold Fq;decide,rfl,rfl⟩)
theorem Pf {op:Int}(h1:1<=op)(h3:op<=3):Az op=8:=by
 obtain rfl|rfl|rfl:op=1\/op=2\/op=3:=by omega
 all_goals rfl
def Ks (h:Hd):List UInt8:=if h.op=1 then C9 h.v.1 h.v.2.1 h.v.2.2 else if h.op=2 then 63::h.name else[63]
def Ko (h:Hd):Wd:=
 if h.op=2 then⟨2,h.name,v0⟩ else if h.op=3 then⟨3,[],v0⟩ else if h.v.1=1\/h.v.1=2 then⟨4,Q8 h.v.1 h.v.2.1 h.v.2.2,h.v⟩
 else if h.v.1=3 then⟨5,Mt h.v.2.2,h.v⟩ else if h.v.1=5 then⟨6,h.v.2.2,h.v⟩ else⟨1,Q8 h.v.1 h.v.2.1 h.v.2.2,v0⟩
theorem eC {t:Tkn}{h:Hd}(hf:Qg t.w)(he:Ce t=some h):Ko h=t.w/\Dz t.w=Ks h/\(Ks h).length<=402/\t.w.k≠7/\1<=h.op/\h.op<=3:=by
 obtain⟨⟨k,t,v⟩,l,c⟩:=t
 unfold Ce at he
 simp only at he
 cases hf with
 |name hk ht hv=>
  simp only at hk ht hv
  subst hk hv
  rw[if_neg rB,if_neg rB,if_neg rB,if_pos rfl] at he
  have key:∀v,Lx t=some v->h=⟨1,v,[],l,c⟩->Ko h=⟨1,t,v0⟩/\Dz ⟨1,t,v0⟩=Ks h/\(Ks h).length<=402/\(1:Int)≠7/\1<=h.op/\h.op<=3:=fun v hl hh=>by
   subst hh
   unfold Lx at hl
   by_cases h1:t=[116,114,117,101]
   ·rw[if_pos h1] at hl
    injection hl with hl
    subst hl h1
    exact⟨rfl,rfl,(by decide:(C9 4 1 []).length<=402),by decide,(by decide:(1:Int)<=1),(by decide:(1:Int)<=3)⟩
   rw[if_neg h1] at hl
   by_cases h2:t=[102,97,108,115,101]
   ·rw[if_pos h2] at hl
    injection hl with hl
    subst hl h2
    exact⟨rfl,rfl,(by decide:(C9 4 0 []).length<=402),by decide,(by decide:(1:Int)<=1),(by decide:(1:Int)<=3)⟩
   rw[if_neg h2] at hl
   by_cases h3:t=[110,117,108,108]
   ·rw[if_pos h3] at hl
    injection hl with hl
    subst hl h3
    exact⟨rfl,rfl,(by decide:(C9 0 0 []).length<=402),by decide,(by decide:(1:Int)<=1),(by decide:(1:Int)<=3)⟩
   rw[if_neg h3] at hl
   cases hl
  cases hc:Dd t with
  |some x=>rw[hc] at he;cases he
  |none=>
   rw[hc] at he
   cases hl:Lx t with
   |none=>rw[hl] at he;cases he
   |some v=>
    rw[hl] at he
    injection he with he
    exact key v hl he.symm
 |var hk ht hv=>
  simp only at hk ht hv
  subst hk hv
  rw[if_neg rB,if_pos rfl] at he
  injection he with he
  subst he
  refine⟨rfl,rfl,?_,by simp,by simp,by simp⟩
  have:=(Fa ht).2.1
  show(63::t).length<=402
  simp only[Aa]
  omega
 |self hk ht hv=>
  simp only at hk ht hv
  subst hk ht hv
  rw[if_neg rB,if_neg rB,if_pos rfl] at he
  injection he with he
  subst he
  exact⟨rfl,rfl,(by decide:[(63:UInt8)].length<=402),(by decide:(3:Int)≠7),(by decide:(1:Int)<=3),(by decide:(3:Int)<=3)⟩
 |num hk ht hm=>
  simp only at hk ht hm
  subst hk
  rw[if_pos rB] at he
  injection he with he
  subst he
  obtain⟨vk,vn,vs⟩:=v
  obtain⟨h1,h2,h3,h4⟩:=Xg ht
  obtain⟨c1,q,e,hd,hn⟩:=hm
  have hkd:=U8 h1 (n:=vn)
  rw[h2,Tp e (.inr hd)] at hkd
  have hk12:vk=1\/vk=2:=by split at hkd<;>omega
  have hT':Ks ⟨1,(vk,vn,vs),[],l,c⟩=t:=by
   show C9 vk vn vs=t
   unfold C9
   rw[if_pos h1,h2]
  refine⟨?_,hT'.symm▸rfl,by rw[hT'];exact h4,by simp,by simp,by simp⟩
  show(if vk=1\/vk=2 then(⟨4,Q8 vk vn vs,(vk,vn,vs)⟩:Wd) else _)=_
  rw[if_pos hk12,h2]
 |str hk ht hm hs=>
  simp only at hk ht hm hs
  subst hk
  rw[if_pos rB] at he
  injection he with he
  subst he
  obtain⟨vk,vn,vs⟩:=v
  obtain⟨h1,h2,h3,h4⟩:=Xg ht
  have hkd:=U8 h1 (n:=vn)
  rw[h2] at hkd
  have hk3:vk=3:=by rw[←hkd];rfl
  subst hk3
  have h5:34::(Mt vs++[34])=34::t++[34]:=h2
  have h6:Mt vs=t:=by
   rw[List.cons_append] at h5
   injection h5 with _ h5
   exact List.append_cancel_right h5
  have hT:Ks ⟨1,(3,vn,vs),[],l,c⟩=34::(t++[34]):=by
   show C9 3 vn vs=_
   unfold C9
   rw[if_pos h1,h2]
   rfl
  refine⟨?_,hT.symm▸rfl,?_,by simp,by simp,by simp⟩
  ·show(⟨5,Mt vs,(3,vn,vs)⟩:Wd)=_
   rw[h6]
  ·rw[hT]
   simpa using h4
 |sym hk ht hv=>
  simp only at hk ht hv
  subst hk hv
  rw[if_pos rB] at he
  injection he with he
  subst he
  have hT:Ks ⟨1,(5,0,t),[],l,c⟩=35::t:=by
   show C9 5 0 t=_
   unfold C9
   rw[if_pos (by show(decide ((0:Int)=0) && I8 t)=true;rw[ht];rfl)]
   rfl
  refine⟨rfl,hT.symm▸rfl,?_,by simp,by simp,by simp⟩
  rw[hT]
  have:=(Fa ht).2.1
  simp only[Aa]
  omega
 |sign hk _ _=>
  simp only at hk
  subst hk
  rw[if_neg rB,if_neg rB,if_neg rB,if_neg rB] at he
  cases he
structure Qn (h:Hd):Prop where
 form:Qg (Ko h)
 ne7:(Ko h).k≠7
 again:∀l c,(Ce ⟨Ko h,l,c⟩).map Hd.bare=some h.bare
 spell:Dz (Ko h)=Ks h
 short:(Ks h).length<=402
theorem oV {t:Tkn}{h:Hd}(hf:Qg t.w)(he:Ce t=some h):Qn h:=by
 obtain⟨h1,h2,h3,h4,_,_⟩:=eC hf he
 refine⟨h1▸hf,h1▸h4,fun l c=>?_,h1▸h2,h3⟩
 rw[h1,Td (t:=t) (t':=⟨t.w,l,c⟩) rfl,he]
 rfl
structure F4 (h:Hd)(k:Nat):Prop where
 few:(Ew h.op).1<=k
 many:k<=(Ew h.op).2
 op1:1<=h.op
 op2:h.op<=26
 leaf:h.op<=3->Qn h
 inner:3<h.op->h.v=v0/\h.name=[]
theorem Ei {l:List UInt8}{a:Ex}(h:Bn l= .ok a):a.All F4:=by
 obtain⟨ts,h1,h2,_⟩:=Dx h
 have hn:=S2 h1 h2
 have hl:a.All (fun h k=>h.op<=3->Qn h):=by
  refine Xa (P:=fun h _=>h.op<=3->Qn h) (W:=fun t=>Qg t.w) ?_ ?_ ?_ ?_ (.lvl 0) 0 ts sY trivial (fun t ht=>Pl h1 t ht) a [] h2
  ·exact fun t hd hf he _=>oV hf he
  ·intro n t hn _ h3
   have:=(show 3<J2 n by rcases hn with rfl|rfl<;>decide)
   have h4:J2 n<=3:=h3
   omega
  ·intro n t q _ hz h3
   have:=Om n _ (Nm hz)
   simp only at h3
   omega
  ·intro t c k _ hc _ _ h3
   have h4:=(Sy hc).1
   unfold Fq at h4
   simp only at h3
   omega
 refine(hn.and hl).mono fun h k hh=>⟨hh.1.few,hh.1.many,hh.1.op1,hh.1.op2,hh.2,fun h3=>⟨hh.1.v rA,hh.1.anon rA⟩⟩
open Go Go.Lib
def Ms (t:List UInt8):List UInt8:=40::(t++[41])
def Uj (l:List (Int×List UInt8))(k least:Nat):List UInt8:=match l[k]? with
 |none=>[]
 |some p=>if Az p.1<least then Ms p.2 else p.2
def Qa (h:Hd)(l:List (Int×List UInt8)):List UInt8:=
 if h.op<=3 then Ks h else if Az h.op=8 then Cf h.op++Ms (Gc [44,32] (l.map Prod.snd))
 else if Az h.op=2\/Az h.op=6 then Cf h.op++Uj l 0 (Az h.op)
 else if Az h.op=3 then Uj l 0 4++32::(Cf h.op++32::Uj l 1 4)
 else Uj l 0 (Az h.op)++32::(Cf h.op++32::Uj l 1 (Az h.op+1))
mutual
def Ex.text:Ex->List UInt8| .mk h ks=>Qa h (Gp ks)
def Gp:List Ex->List (Int×List UInt8)|[]=>[]|e::es=>(e.hd.op,e.text)::Gp es
end
theorem Ki:∀l:List Ex,Gp l=l.map fun e=>(e.hd.op,e.text)
 |[]=>rfl
 |e::l=>by rw[Gp,Ki l,List.map_cons]
def Ev (n:Nat)(e:Ex):List UInt8:=if Az e.hd.op<n then Ms e.text else e.text
def E7 (s:List UInt8):Wd:=⟨7,s,v0⟩
def aZ (ws:List Wd):List Wd:=E7 [40]::(ws++[E7 [41]])
def X9 (l:List (Int×List Wd))(k least:Nat):List Wd:=match l[k]? with
 |none=>[]
 |some p=>if Az p.1<least then aZ p.2 else p.2
def Oh:List (List Wd)->List Wd
 |[]=>[]
 |[x]=>x
 |x::y::r=>x++E7 [44]::Oh (y::r)
def S1 (op:Int):Wd:=⟨Od (Cf op),Cf op,v0⟩
def Y3 (h:Hd)(l:List (Int×List Wd)):List Wd:=
 if h.op<=3 then[Ko h] else if Az h.op=8 then⟨1,Cf h.op,v0⟩::aZ (Oh (l.map Prod.snd))
 else if Az h.op=2 then⟨1,[110,111,116],v0⟩::X9 l 0 2 else if Az h.op=6 then E7 [45]::X9 l 0 6
 else if Az h.op=3 then X9 l 0 4++S1 h.op::X9 l 1 4
 else X9 l 0 (Az h.op)++S1 h.op::X9 l 1 (Az h.op+1)
mutual
def Ex.words:Ex->List Wd| .mk h ks=>Y3 h (Qv ks)
def Qv:List Ex->List (Int×List Wd)|[]=>[]|e::es=>(e.hd.op,e.words)::Qv es
end
theorem Ub:∀l:List Ex,Qv l=l.map fun e=>(e.hd.op,e.words)
 |[]=>rfl
 |e::l=>by rw[Qv,Ub l,List.map_cons]
def Bc (n:Nat)(e:Ex):List Wd:=if Az e.hd.op<n then aZ e.words else e.words
def aI (l:List (Int×Nat))(k least:Nat):Nat:=match l[k]? with
 |none=>0
 |some p=>if Az p.1<least then p.2+1 else p.2
def Z5:List Nat->Nat
 |[]=>0
 |n::l=>max n (Z5 l)
def Yp (h:Hd)(l:List (Int×Nat)):Nat:=
 if h.op<=3 then 0 else if Az h.op=8 then 1+Z5 (l.map Prod.snd)
 else if Az h.op=2\/Az h.op=6 then 1+aI l 0 (Az h.op)
 else if Az h.op=3 then max (aI l 0 4) (aI l 1 4)
 else max (aI l 0 (Az h.op)) (aI l 1 (Az h.op+1))
mutual
def Ex.need:Ex->Nat| .mk h ks=>Yp h (Qo ks)
def Qo:List Ex->List (Int×Nat)|[]=>[]|e::es=>(e.hd.op,e.need)::Qo es
end
theorem Uf:∀l:List Ex,Qo l=l.map fun e=>(e.hd.op,e.need)
 |[]=>rfl
 |e::l=>by rw[Qo,Uf l,List.map_cons]
def B2 (n:Nat)(e:Ex):Nat:=if Az e.hd.op<n then e.need+1 else e.need
def E9 (n:Nat):Nat:=if n=3 then 4 else n
theorem X3 (n:Nat):n<=E9 n:=by unfold E9;split<;>omega
inductive Zv:Hd->List Ex->Prop where
 |leaf {h} (h1:1<=h.op) (h3:h.op<=3) (ok:Qn h):Zv h []
 |pre {h} {e} (n:Nat) (hn:n=2\/n=6) (ho:h.op=J2 n):Zv h [e]
 |mid {h} {e f} (hi:Fw h.op):Zv h [e,f]
 |call {h} {e es} (hc:Fq h.op) (h1:(Ew h.op).1<=(e::es).length) (h2:(e::es).length<=(Ew h.op).2):Zv h (e::es)
theorem Gn {h:Hd}{ks:List Ex}(g:F4 h ks.length):Zv h ks:=by
 have h1:=g.few
 have h2:=g.many
 have o1:=g.op1
 have o2:=g.op2
 have hc:h.op<=3\/(h.op=6\/h.op=17)\/Fw h.op\/Fq h.op:=by unfold Fw Fq;omega
 rcases hc with hc|hc|hc|hc
 ·have:Ew h.op=(0,0):=by
   obtain e|e|e:h.op=1\/h.op=2\/h.op=3:=by omega
   all_goals rw[e];rfl
  rw[this] at h2
  have:ks=[]:=List.eq_nil_of_length_eq_zero (Nat.le_zero.1 h2)
  subst this
  exact .leaf o1 hc (g.leaf hc)
 ·have:Ew h.op=(1,1):=by
   rcases hc with e|e<;>rw[e]<;>rfl
  rw[this] at h1 h2
  match ks,h1,h2 with
  |[e],_,_=>
   rcases hc with q|q
   ·exact .pre 2 (.inl rfl) q
   ·exact .pre 6 (.inr rfl) q
  |[],h1,_=>exact absurd h1 rC
  |_::_::_,_,h2=>exact absurd h2 rC
 ·rw[nB hc] at h1 h2
  match ks,h1,h2 with
  |[e,f],_,_=>exact .mid hc
  |[],h1,_=>exact absurd h1 rC
  |[_],h1,_=>exact absurd h1 rC
  |_::_::_::_,_,h2=>exact absurd h2 rC
 ·cases ks with
  |nil=>
   have:=(Q5 hc 0 0).2.2.2.1
   simp only[List.length_nil] at h1
   omega
  |cons e es=>exact .call hc h1 h2
theorem N6 {n:Nat}(hn:n=2\/n=6):Az (J2 n)=n/\3<J2 n:=by
 rcases hn with rfl|rfl<;>decide
theorem Zn {op:Int}(h:Fw op):¬op<=3:=by unfold Fw at h;omega
theorem Sh {op:Int}(h:Fq op):¬op<=3:=by unfold Fq at h;omega
theorem aN (e:Ex)(es:List Ex)(n:Nat):Uj (Gp (e::es)) 0 n=Ev n e:=rfl
theorem kC (e f:Ex)(es:List Ex)(n:Nat):Uj (Gp (e::f::es)) 1 n=Ev n f:=rfl
theorem Xj (e:Ex)(es:List Ex)(n:Nat):X9 (Qv (e::es)) 0 n=Bc n e:=rfl
theorem jD (e f:Ex)(es:List Ex)(n:Nat):X9 (Qv (e::f::es)) 1 n=Bc n f:=rfl
theorem aY (e:Ex)(es:List Ex)(n:Nat):aI (Qo (e::es)) 0 n=B2 n e:=rfl
theorem kV (e f:Ex)(es:List Ex)(n:Nat):aI (Qo (e::f::es)) 1 n=B2 n f:=rfl
theorem Jj {h:Hd}(h3:h.op<=3)(ks:List Ex):(Ex.mk h ks).text=Ks h/\(Ex.mk h ks).words=[Ko h]/\(Ex.mk h ks).need=0:=by
 refine⟨?_,?_,?_⟩
 ·rw[Ex.text];unfold Qa;rw[if_pos h3]
 ·rw[Ex.words];unfold Y3;rw[if_pos h3]
 ·rw[Ex.need];unfold Yp;rw[if_pos h3]
theorem Jd {h:Hd}{n:Nat}(hn:n=2\/n=6)(ho:h.op=J2 n)(e:Ex):(Ex.mk h [e]).text=Cf (J2 n)++Ev n e/\(Ex.mk h [e]).words=(if n=2 then⟨1,[110,111,116],v0⟩ else E7 [45])::Bc n e/\(Ex.mk h [e]).need=1+B2 n e:=by
 obtain⟨hl,hg⟩:=N6 hn
 have h3:¬J2 n<=3:=by omega
 have h8:¬n=8:=by omega
 refine⟨?_,?_,?_⟩
 ·rw[Ex.text];unfold Qa;rw[ho,if_neg h3,hl,if_neg h8,if_pos hn,aN]
 ·rw[Ex.words];unfold Y3;rw[ho,if_neg h3,hl,if_neg h8]
  rcases hn with rfl|rfl
  ·rw[if_pos rfl,Xj,if_pos rfl]
  ·rw[if_neg rB,if_pos rfl,Xj,if_neg rB]
 ·rw[Ex.need];unfold Yp;rw[ho,if_neg h3,hl,if_neg h8,if_pos hn,aY]
theorem Jb {h:Hd}(hi:Fw h.op)(e f:Ex):(Ex.mk h [e,f]).text=Ev (E9 (Az h.op)) e++32::(Cf h.op++32::Ev (Az h.op+1) f)/\(Ex.mk h [e,f]).words=Bc (E9 (Az h.op)) e++S1 h.op::Bc (Az h.op+1) f/\
 (Ex.mk h [e,f]).need=max (B2 (E9 (Az h.op)) e) (B2 (Az h.op+1) f):=by
 obtain⟨h5,h2⟩:=Yg hi
 have h8:¬Az h.op=8:=by omega
 have h26:¬(Az h.op=2\/Az h.op=6):=by omega
 have h6:¬Az h.op=6:=by omega
 refine⟨?_,?_,?_⟩
 ·rw[Ex.text];unfold Qa E9;rw[if_neg (Zn hi),if_neg h8,if_neg h26,aN,kC,aN,kC]
  exact zw7
 ·rw[Ex.words];unfold Y3 E9;rw[if_neg (Zn hi),if_neg h8,if_neg h2,if_neg h6,Xj,jD,Xj,jD]
  exact zw7
 ·rw[Ex.need];unfold Yp E9;rw[if_neg (Zn hi),if_neg h8,if_neg h26,aY,kV,aY,kV]
  exact zw7
theorem G7 {h:Hd}(hc:Fq h.op)(ks:List Ex):(Ex.mk h ks).text=Cf h.op++Ms (Gc [44,32] (ks.map Ex.text))/\(Ex.mk h ks).words=⟨1,Cf h.op,v0⟩::aZ (Oh (ks.map Ex.words))/\(Ex.mk h ks).need=1+Z5 (ks.map Ex.need):=by
 refine⟨?_,?_,?_⟩
 ·rw[Ex.text];unfold Qa;rw[if_neg (Sh hc),if_pos (Ij hc),Ki,List.map_map];rfl
 ·rw[Ex.words];unfold Y3;rw[if_neg (Sh hc),if_pos (Ij hc),Ub,List.map_map];rfl
 ·rw[Ex.need];unfold Yp;rw[if_neg (Sh hc),if_pos (Ij hc),Uf,List.map_map];rfl
theorem cU {l:List Nat}{n:Nat}(h:n∈l):n<=Z5 l:=by
 induction l with
 |nil=>cases h
 |cons m l ih=>
  unfold Z5
  rcases List.mem_cons.1 h with rfl|h
  ·omega
  ·have:=ih h;omega
theorem oO {l:List Nat}{k:Nat}(h:∀n∈l,n<=k):Z5 l<=k:=by
 induction l with
 |nil=>exact Nat.zero_le _
 |cons m l ih=>
  unfold Z5
  have h1:=h m Ai
  have h2:=ih fun n hn=>h n (Aj _ hn)
  omega
open Go Go.Lib
def isW (s:List UInt8)(w:Wd):Bool:=decide (w.t=s) && (decide (w.k=1)||decide (w.k=7))
theorem So (s:List UInt8)(t:Tkn)(r:List Tkn):isH s (t::r)=isW s t.w:=rfl
theorem J6 (s u:List UInt8):isW s (E7 u)=decide (u=s):=by
 unfold isW E7
 simp
theorem I6 {t:Tkn}{u:List UInt8}(h:t.w=E7 u)(s:List UInt8)(r:List Tkn):isH s (t::r)=decide (u=s):=by
 rw[So,h,J6]
theorem Pc {t:Tkn}{u:List UInt8}(h:t.w=E7 u)(r:List Tkn)(n:Nat)(hu:u=[41]\/u=[44]):A9 (t::r) (Bh n)=0:=by
 have key:∀l:List (List UInt8×Int),(∀x∈l,x.1≠[41]/\x.1≠[44])->A9 (t::r) l=0:=fun l=>by
  induction l with
  |nil=>intro _;rfl
  |cons y l ih=>
   intro hy
   unfold A9
   have:=hy y Ai
   rw[I6 h,if_neg (by rcases hu with rfl|rfl<;>simp<;>intro e<;>first|exact this.1 e.symm|exact this.2 e.symm)]
   exact ih fun x hx=>hy x (Aj _ hx)
 refine key _ ?_
 unfold Bh
 repeat' split
 all_goals first|decide|(intro x hx;cases hx)
theorem iU (h:Hd)(h3:Qn h)(n:Nat):isW (Er n) (Ko h)=false:=by
 have hk:=h3.again 0 0
 cases hb:isW (Er n) (Ko h) with
 |false=>rfl
 |true=>
  unfold isW at hb
  simp only[Bool.and_eq_true,Bool.or_eq_true,decide_eq_true_eq] at hb
  obtain⟨hb1,hb2⟩:=hb
  have hk1:(Ko h).k=1:=by rcases hb2 with e|e;exact e;exact absurd e h3.ne7
  unfold Ce at hk
  simp only[hk1,hb1] at hk
  have c1:Dd (Er n)=none:=by unfold Er;split<;>rfl
  have c2:Lx (Er n)=none:=by unfold Er;split<;>rfl
  rw[if_neg rB,if_neg rB,if_neg rB,if_pos trivial,c1,c2] at hk
  cases hk
theorem Tt:∀(k:Nat) (a:Ex),a.size<=k->a.All F4->∃w r,a.words=w::r/\∀j,(j=2\/j=6)->isW (Er j) w=true->Az a.hd.op<=j
 |0,a,hk,_=>absurd a.size_pos rA
 |k+1,.mk h ks,hk,hg=>by
  have at':∀(n:Nat) (e:Ex),e.size<=k->e.All F4->∃w r,Bc n e=w::r/\∀j,(j=2\/j=6)->isW (Er j) w=true->n<=j:=fun n e hs he=>by
   unfold Bc
   split
   ·refine⟨_,_,rfl,fun j hj hw=>?_⟩
    rw[J6] at hw
    rcases hj with rfl|rfl<;>simp [Er] at hw
   ·rename_i hn
    obtain⟨w,r,h1,h2⟩:=Tt k e hs he
    exact⟨w,r,h1,fun j hj hw=>by have:=h2 j hj hw;omega⟩
  rw[Ex.All] at hg
  show ∃w r,(Ex.mk h ks).words=w::r/\∀j,(j=2\/j=6)->isW (Er j) w=true->Az h.op<=j
  rw[Ex.size] at hk
  cases Gn hg.1 with
  |leaf h1 h3 ok=>
   refine⟨_,_,(Jj h3 []).2.1,fun j hj hw=>?_⟩
   rw[iU h ok] at hw
   cases hw
  |pre n hn ho=>
   refine⟨_,_,(Jd hn ho _).2.1,fun j hj hw=>?_⟩
   rw[ho,(N6 hn).1]
   rcases hn with rfl|rfl<;>rcases hj with rfl|rfl<;>first|omega|(revert hw;decide)
  |mid hi=>
   rename_i e f
   rw[A6,A6] at hk
   obtain⟨w,r,h1,h2⟩:=at' (E9 (Az h.op)) e rA hg.2.1
   refine⟨w,_,by rw[(Jb hi e f).2.1,h1];rfl,fun j hj hw=>?_⟩
   have:=h2 j hj hw
   have:=X3 (Az h.op)
   omega
  |call hc _ _=>
   refine⟨_,_,(G7 hc _).2.1,fun j hj hw=>?_⟩
   exfalso
   unfold isW at hw
   simp only[Bool.and_eq_true,decide_eq_true_eq] at hw
   have h1:=hw.1
   rcases hj with rfl|rfl<;>rcases hc with e|e|e|e|e|e|e|e|e<;>rw[e] at h1<;>cases h1
theorem Xe {n:Nat}{a:Ex}(hg:a.All F4):∃w r,Bc n a=w::r/\∀j,(j=2\/j=6)->isW (Er j) w=true->n<=j/\Az a.hd.op<=j:=by
 unfold Bc
 split
 ·refine⟨_,_,rfl,fun j hj hw=>?_⟩
  rw[J6] at hw
  rcases hj with rfl|rfl<;>simp [Er] at hw
 ·obtain⟨w,r,h1,h2⟩:=Tt _ a (Ak _) hg
  exact⟨w,r,h1,fun j hj hw=>by have:=h2 j hj hw;omega⟩
theorem map_cons {ts:List Tkn}{w:Wd}{r:List Wd}(h:ts.map Tkn.w=w::r):∃t q,ts=t::q/\t.w=w/\q.map Tkn.w=r:=by
 cases ts with
 |nil=>cases h
 |cons t q=>
  simp only[List.map_cons,List.cons.injEq] at h
  exact⟨t,q,rfl,h.1,h.2⟩
theorem Sj {ts:List Tkn}{r s:List Wd}(h:ts.map Tkn.w=r++s):∃p q,ts=p++q/\p.map Tkn.w=r/\q.map Tkn.w=s:=by
 obtain⟨p,q,h1,h2,h3⟩:=List.map_eq_append_iff.1 h
 exact⟨p,q,h1,h2,h3⟩
def Ir (a:Ex)(n:Nat):Prop:=∀d ts post,d+B2 n a<=12->ts.map Tkn.w=Bc n a->(∀m,n<=m->A9 post (Bh m)=0)->∃a',A2 n d (ts++post)= .ok (a',post)/\a'.bare=a.bare
def P7 (a:Ex)(n:Nat):Prop:=∀d ts post,d+B2 n a<=12->ts.map Tkn.w=Bc n a->(∀m,n<m->A9 post (Bh m)=0)->∃a',a'.bare=a.bare/\A2 n d (ts++post)=Tj n a' d post
theorem Vd {a:Ex}{n:Nat}(h:P7 a n):Ir a n:=fun d ts post hd hw hp=>by
 obtain⟨a',h1,h2⟩:=h d ts post hd hw fun m hm=>hp m rA
 refine⟨a',?_,h1⟩
 rw[h2,Dl,if_pos (hp n (Ak _))]
theorem Qz {a:Ex}{lo hi:Nat}(hhi:hi<=7)(hsame:∀n,lo<=n->n<=hi->Bc n a=Bc hi a/\B2 n a=B2 hi a)
 (hpre:∀n,lo<=n->n<hi->(n=2\/n=6)->∀ts post,ts.map Tkn.w=Bc hi a->isH (Er n) (ts++post)=false) (h:Ir a hi):
 ∀(k n:Nat),n+k=hi->lo<=n->Ir a n/\(n<hi->n<=5->n≠2->P7 a n)
 |0,n,hk,hlo=>by
  obtain rfl:n=hi:=by omega
  exact⟨h,fun h=>absurd h (Nat.lt_irrefl _)⟩
 |k+1,n,hk,hlo=>by
  obtain⟨ih,_⟩:=Qz hhi hsame hpre h k (n+1) rA rA
  obtain⟨s1,s2⟩:=hsame n hlo rA
  obtain⟨s3,s4⟩:=hsame (n+1) rA rA
  by_cases h26:n=2\/n=6
  ·refine⟨fun d ts post hd hw hp=>?_,fun _ h5 h2=>by omega⟩
   rw[s2] at hd
   rw[s1] at hw
   obtain⟨a',h1,h2⟩:=ih d ts post (by rw[s4];exact hd) (by rw[s3];exact hw) fun m hm=>hp m rA
   refine⟨a',?_,h2⟩
   rw[Ec h26,hpre n hlo rA h26 ts post hw,if_neg rB]
   exact h1
  ·have hr:P7 a n:=fun d ts post hd hw hp=>by
    rw[s2] at hd
    rw[s1] at hw
    obtain⟨a',h1,h2⟩:=ih d ts post (by rw[s4];exact hd) (by rw[s3];exact hw) fun m hm=>hp m rA
    refine⟨a',h2,?_⟩
    rw[Dv rA rA,h1]
    rfl
   exact⟨Vd hr,fun _ _ _=>hr⟩
theorem T4 {c:Cl}{d:Nat}:∀(es:List Ex) (e:Ex) (done:List Ex) (ts post:List Tkn) (s:Tkn),(∀x∈e::es,Ir x 0)->(∀x∈e::es,d+x.need<=12)->c.least<=done.length+(e::es).length->done.length+(e::es).length<=c.most->
 ts.map Tkn.w=Oh ((e::es).map Ex.words)->s.w=E7 [41]->∃ks,Gi c done d (ts++s::post)= .ok (.mk ⟨c.op,v0,[],c.line,c.col⟩ (done++ks),post)/\ks.map Ex.bare=(e::es).map Ex.bare
 |[],e,done,ts,post,s,hp,hd,h1,h2,hw,hs=>by
  have hn:B2 0 e=e.need:=by unfold B2;rw[if_neg rA]
  have hw0:Bc 0 e=e.words:=by unfold Bc;rw[if_neg rA]
  obtain⟨a',h3,h4⟩:=hp e Ai d ts (s::post) (by rw[hn];exact hd e Ai) (by rw[hw0];exact hw) (fun m _=>Pc hs post m (.inl rfl))
  refine⟨[a'],?_,by simp [h4]⟩
  rw[Fg,h3]
  simp only[ExR.next]
  have e44:isH [44] (s::post)=false:=by rw[I6 hs];decide
  have e41:isH [41] (s::post)=true:=by rw[I6 hs];decide
  simp only[Aa,List.length_nil] at h1
  rw[e44,e41,if_neg rH,if_neg rC]
  unfold Cs
  rw[if_pos e41,List.tail_cons]
 |y::r,e,done,ts,post,s,hp,hd,h1,h2,hw,hs=>by
  have hn:B2 0 e=e.need:=by unfold B2;rw[if_neg rA]
  have hw0:Bc 0 e=e.words:=by unfold Bc;rw[if_neg rA]
  have hw':ts.map Tkn.w=e.words++E7 [44]::Oh ((y::r).map Ex.words):=hw
  obtain⟨p,q,rfl,hpw,hq⟩:=Sj hw'
  obtain⟨k,q,rfl,hkw,hq⟩:=map_cons hq
  obtain⟨a',h3,h4⟩:=hp e Ai d p (k::(q++s::post)) (by rw[hn];exact hd e Ai) (by rw[hw0];exact hpw) (fun m _=>Pc hkw _ m (.inr rfl))
  obtain⟨ks,h5,h6⟩:=T4 (c:=c) (d:=d) r y (done++[a']) q post s (fun x hx=>hp x (Aj _ hx)) (fun x hx=>hd x (Aj _ hx)) (by simp only[Ab,Aa,List.length_nil] at h1 ⊢;omega) (by simp only[Ab,Aa,List.length_nil] at h2 ⊢;omega) hq hs
  refine⟨a'::ks,?_,by simp [h4,h6]⟩
  have e44:isH [44] (k::(q++s::post))=true:=by rw[I6 hkw];decide
  have e41:isH [41] (k::(q++s::post))=false:=by rw[I6 hkw];decide
  simp only[Aa] at h2
  rw[List.append_assoc,List.cons_append,Fg,h3]
  simp only[ExR.next]
  rw[e44,e41,if_neg rH,if_pos rfl,List.tail_cons,h5,List.append_assoc]
  rfl
theorem kM {h:Hd}{a e:Ex}(o:Int)(ho:h.op=o)(hi:h.v=v0/\h.name=[])(ha:a.bare=e.bare)(l c:Int):(Ex.mk ⟨o,v0,[],l,c⟩ [a]).bare=(Ex.mk h [e]).bare:=by
 obtain⟨op,v,nm,l',c'⟩:=h
 simp only at ho hi
 obtain⟨rfl,rfl⟩:=hi
 subst ho
 exact Kw rfl (by simp [ha])
theorem Y9 {h:Hd}{a b e f:Ex}(hi:h.v=v0/\h.name=[])(ha:a.bare=e.bare)(hb:b.bare=f.bare)(l c:Int):(Ex.mk ⟨h.op,v0,[],l,c⟩ [a,b]).bare=(Ex.mk h [e,f]).bare:=by
 obtain⟨op,v,nm,l',c'⟩:=h
 simp only at hi
 obtain⟨rfl,rfl⟩:=hi
 exact Kw rfl (by simp [ha,hb])
theorem I4 {P:Hd->Nat->Prop}:∀{l:List Ex},Kl P l->∀e∈l,e.All P
 |[],_,e,h=>by cases h
 |x::l,hl,e,h=>by
  rcases List.mem_cons.1 h with rfl|h
  ·exact hl.1
  ·exact I4 hl.2 e h
theorem Ju:∀{l:List Ex} {e:Ex},e∈l->e.size<=A6 l
 |[],e,h=>by cases h
 |x::l,e,h=>by
  rw[A6]
  rcases List.mem_cons.1 h with rfl|h
  ·omega
  ·have:=Ju h;omega
theorem Nl:∀(k:Nat) (a:Ex),a.size<=k->a.All F4->(∀n,n<=7->Ir a n)/\∀n,n<=5->n≠2->n≠3->P7 a n
 |0,a,hk,_=>absurd a.size_pos rA
 |k+1,.mk h ks,hk,hg=>by
  have hgood:=hg
  rw[Ex.size] at hk
  rw[Ex.All] at hg
  have ihk:∀e∈ks,(∀n,n<=7->Ir e n)/\∀n,n<=5->n≠2->n≠3->P7 e n:=fun e he=>Nl k e (by have:=Ju he;omega) (I4 hg.2 e he)
  have base:∃L,L<=7/\(Az h.op=L\/Az h.op=8/\L=7)/\Ir (.mk h ks) L/\(L<=5->L≠2->L≠3->P7 (.mk h ks) L):=by
   cases Gn hg.1 with
   |leaf h1 h3 ok=>
    refine⟨7,by omega,.inr ⟨Pf h1 h3,rfl⟩,fun d ts post _ hw _=>?_,fun h=>absurd h rA⟩
    unfold Bc at hw
    rw[if_neg (by show ¬Az h.op<7;rw[Pf h1 h3];omega),(Jj h3 []).2.1] at hw
    obtain⟨t,q,rfl,ht,hq⟩:=map_cons hw
    have:q=[]:=by simpa using hq
    subst this
    have hag:=ok.again t.line t.col
    rw[←ht] at hag
    rw[Bj]
    show ∃a',(match Ce t,Cx t with|some h,_=>(.ok (.mk h [],post):ExR)|none,some c=>Bv d post fun q'=>Gi c [] (d+1) q'|none,none=>Bv d (t::post) fun q'=>(A2 0 (d+1) q').next Cs)= .ok (a',post)/\_
    cases hl:Ce t with
    |none=>rw[show(⟨t.w,t.line,t.col⟩:Tkn)=t from rfl,hl] at hag;cases hag
    |some x=>
     rw[show(⟨t.w,t.line,t.col⟩:Tkn)=t from rfl,hl] at hag
     injection hag with hag
     exact⟨.mk x [],rfl,Kw hag rfl⟩
   |pre n hn ho=>
    rename_i e
    obtain⟨hl,hg3⟩:=N6 hn
    refine⟨n,by omega,.inl (by rw[ho,hl]),fun d ts post hd hw hp=>?_,fun h5 h2=>absurd hn rA⟩
    have hlo:¬Az (Ex.mk h [e]).hd.op<n:=by show ¬Az h.op<n;rw[ho,hl];omega
    unfold Bc at hw
    unfold B2 at hd
    rw[if_neg hlo] at hw hd
    rw[(Jd hn ho e).2.1] at hw
    rw[(Jd hn ho e).2.2] at hd
    obtain⟨t,q,rfl,ht,hq⟩:=map_cons hw
    have his:isH (Er n) (t::q++post)=true:=by
     rw[List.cons_append,So,ht]
     rcases hn with rfl|rfl<;>decide
    obtain⟨a',h1,h2⟩:=(ihk e Ai).1 n rA (d+1) q post rA hq hp
    have h1':A2 n (d+1) ((t::q++post).tail)= .ok (a',post):=h1
    refine⟨.mk ⟨J2 n,v0,[],t.line,t.col⟩ [a'],?_,kM _ ho (hg.1.inner (by rw[ho];exact hg3)) h2 _ _⟩
    rw[Ec hn,if_pos his,if_neg rA,h1']
    rfl
   |mid hi=>
    rename_i e f
    obtain⟨hl5,hl2⟩:=Yg hi
    have hin:=hg.1.inner (by have:=Zn hi;omega)
    obtain⟨L,hL⟩:∃L,Az h.op=L:=⟨_,rfl⟩
    have hsig:∀{t:Tkn},t.w=S1 h.op->∀r m,A9 (t::r) (Bh m)=if m=L then h.op else 0:=fun{t} ht r m=>by
     have:=J3 (Xi hi) (t:=t) (by unfold U2;exact ht) r m
     rw[←hL]
     exact this
    have hop0:h.op≠0:=by have:=Zn hi;omega
    have words:∀{ts:List Tkn},ts.map Tkn.w=Bc L (.mk h [e,f])->∃p t q,ts=p++t::q/\p.map Tkn.w=Bc (E9 L) e/\t.w=S1 h.op/\q.map Tkn.w=Bc (L+1) f:=fun{ts} hw=>by
     unfold Bc at hw
     rw[if_neg (by show ¬Az h.op<L;omega),(Jb hi e f).2.1,hL] at hw
     obtain⟨p,q,rfl,hp,hq⟩:=Sj hw
     obtain⟨t,q,rfl,ht,hq⟩:=map_cons hq
     exact⟨p,t,q,rfl,hp,ht,hq⟩
    have needs:∀{d:Nat},d+B2 L (.mk h [e,f])<=12->d+B2 (E9 L) e<=12/\d+B2 (L+1) f<=12:=fun{d} hd=>by
     unfold B2 at hd
     rw[if_neg (by show ¬Az h.op<L;omega),(Jb hi e f).2.2,hL] at hd
     omega
    rw[hL] at hl5 hl2
    refine⟨L,by omega,.inl hL,?_⟩
    by_cases h3:L=3
    ·subst h3
     refine⟨fun d ts post hd hw hp=>?_,fun _ _ h=>absurd rfl h⟩
     obtain⟨p,t,q,rfl,hpw,ht,hq⟩:=words hw
     obtain⟨hd1,hd2⟩:=needs hd
     obtain⟨a',h1,h2⟩:=(ihk e Ai).1 4 rA d p (t::(q++post)) hd1 hpw fun m hm=>by rw[hsig ht,if_neg rA]
     obtain⟨b',h4,h5⟩:=(ihk f (Aj _ Ai)).1 4 rA d q post hd2 hq fun m hm=>hp m rA
     refine⟨.mk ⟨h.op,v0,[],t.line,t.col⟩ [a',b'],?_,Y9 hin h2 h5 _ _⟩
     rw[List.append_assoc,List.cons_append,Dv rA rA,h1]
     simp only[ExR.next]
     rw[Dl,hsig ht,if_pos rfl,if_neg hop0,List.tail_cons,h4]
     rfl
    ·have hll:E9 L=L:=by unfold E9;rw[if_neg h3]
     have hrow:P7 (.mk h [e,f]) L:=fun d ts post hd hw hp=>by
      obtain⟨p,t,q,rfl,hpw,ht,hq⟩:=words hw
      obtain⟨hd1,hd2⟩:=needs hd
      rw[hll] at hpw hd1
      obtain⟨a',h1,h2⟩:=(ihk e Ai).2 L hl5 hl2 h3 d p (t::(q++post)) hd1 hpw fun m hm=>by rw[hsig ht,if_neg rA]
      obtain⟨b',h4,h5⟩:=(ihk f (Aj _ Ai)).1 (L+1) rA d q post hd2 hq fun m hm=>hp m rA
      refine⟨.mk ⟨h.op,v0,[],t.line,t.col⟩ [a',b'],Y9 hin h1 h5 _ _,?_⟩
      rw[List.append_assoc,List.cons_append,h2,Dl,hsig ht,if_pos rfl,if_neg hop0,List.tail_cons,h4]
      simp only[ExR.next]
      rw[if_neg h3]
      rfl
     exact⟨Vd hrow,fun _ _ _=>hrow⟩
   |call hc hfew hmany=>
    rename_i e es
    have hin:=hg.1.inner (by have:=Sh hc;omega)
    refine⟨7,by omega,.inr ⟨Ij hc,rfl⟩,fun d ts post hd hw hp=>?_,fun h=>absurd h rA⟩
    have hlo:¬Az (Ex.mk h (e::es)).hd.op<7:=by show ¬Az h.op<7;rw[Ij hc];omega
    unfold Bc at hw
    unfold B2 at hd
    rw[if_neg hlo] at hw hd
    rw[(G7 hc _).2.1] at hw
    rw[(G7 hc _).2.2] at hd
    obtain⟨t,q,rfl,ht,hq⟩:=map_cons hw
    obtain⟨o,q,rfl,ho,hq⟩:=map_cons hq
    obtain⟨us,q,rfl,hu,hq⟩:=Sj hq
    obtain⟨s,q,rfl,hs,hq⟩:=map_cons hq
    have:q=[]:=by simpa using hq
    subst this
    obtain⟨c1,c2,_⟩:=Q5 hc t.line t.col
    rw[←ht] at c1 c2
    have hop:isH [40] (o::(us++s::post))=true:=by rw[I6 ho];decide
    have hmx:∀x∈e::es,d+1+x.need<=12:=fun x hx=>by
     have:=cU (List.mem_map_of_mem (f:=Ex.need) hx)
     omega
    obtain⟨ks',h1,h2⟩:=T4 (c:=⟨h.op,(Ew h.op).1,(Ew h.op).2,t.line,t.col⟩) (d:=d+1) es e [] us post s (fun x hx=>(ihk x hx).1 0 rA) hmx (by simpa using hfew) (by simpa using hmany) hu hs
    rw[show t::o::(us++[s])++post=t::o::(us++s::post) by simp,Bj]
    refine⟨.mk ⟨h.op,v0,[],t.line,t.col⟩ ks',?_,?_⟩
    ·show(match Ce t,Cx t with|some h,_=>(.ok (.mk h [],o::(us++s::post)):ExR)|none,some c=>Bv d (o::(us++s::post)) fun q'=>Gi c [] (d+1) q'|none,none=>Bv d (t::o::(us++s::post)) fun q'=>(A2 0 (d+1) q').next Cs)=_
     rw[show(⟨t.w,t.line,t.col⟩:Tkn)=t from rfl] at c1 c2
     rw[c1,c2]
     simp only
     unfold Bv
     rw[if_pos hop,if_neg rA,List.tail_cons]
     exact h1
    ·obtain⟨op,v,nm,l',c'⟩:=h
     simp only at hin
     obtain⟨rfl,rfl⟩:=hin
     exact Kw rfl h2
  obtain⟨L,hL7,hLl,hpL,hrL⟩:=base
  have hge:∀n,n<=L->¬Az (Ex.mk h ks).hd.op<n:=fun n hn=>by
   show ¬Az h.op<n
   omega
  have low:∀n,n<=L->Ir (.mk h ks) n/\(n<L->n<=5->n≠2->P7 (.mk h ks) n):=fun n hn=>
   Qz (lo:=0) hL7 (fun m _ hm=>⟨by unfold Bc;rw[if_neg (hge m hm),if_neg (hge L (Ak _))],by unfold B2;rw[if_neg (hge m hm),if_neg (hge L (Ak _))]⟩)
    (fun m _ hm h26 ts post hw=>by
     obtain⟨w,r,h1,h2⟩:=Xe (n:=L) hgood
     rw[h1] at hw
     obtain⟨t,q,rfl,ht,_⟩:=map_cons hw
     rw[List.cons_append,So,ht]
     cases hb:isW (Er m) w with
     |false=>rfl
     |true=>
      have:=(h2 m h26 hb).1
      omega) hpL (L - n) n rA (Nat.zero_le _)
  have par:Ir (.mk h ks) 7\/L=7:=by
   by_cases h7:L=7
   ·exact .inr h7
   ·refine .inl fun d ts post hd hw hp=>?_
    have hlt:Az (Ex.mk h ks).hd.op<7:=by show Az h.op<7;omega
    unfold Bc at hw
    unfold B2 at hd
    rw[if_pos hlt] at hw hd
    obtain⟨o,q,rfl,ho,hq⟩:=map_cons hw
    obtain⟨us,q,rfl,hu,hq⟩:=Sj hq
    obtain⟨s,q,rfl,hs,hq⟩:=map_cons hq
    have:q=[]:=by simpa using hq
    subst this
    have hu0:us.map Tkn.w=Bc 0 (.mk h ks):=by unfold Bc;rw[if_neg rA];exact hu
    have hn0:B2 0 (.mk h ks)=(Ex.mk h ks).need:=by unfold B2;rw[if_neg rA]
    obtain⟨a',h1,h2⟩:=(low 0 (Nat.zero_le _)).1 (d+1) us (s::post) (by rw[hn0];omega) hu0 fun m _=>Pc hs post m (.inl rfl)
    have hlf:Ce o=none:=by unfold Ce;rw[ho];rfl
    have hcf:Cx o=none:=by unfold Cx;rw[ho];rfl
    have e40:isH [40] (o::(us++s::post))=true:=by rw[I6 ho];decide
    have e41:isH [41] (s::post)=true:=by rw[I6 hs];decide
    refine⟨a',?_,h2⟩
    rw[show o::(us++[s])++post=o::(us++s::post) by simp,Bj]
    simp only[hlf,hcf]
    unfold Bv
    rw[if_pos e40,if_neg rA,List.tail_cons]
    show(A2 0 (d+1) (us++s::post)).next Cs=_
    rw[h1]
    simp only[ExR.next]
    unfold Cs
    rw[if_pos e41,List.tail_cons]
  have high:∀n,L<n->n<=7->Ir (.mk h ks) n/\(n<7->n<=5->n≠2->P7 (.mk h ks) n):=fun n hn h7=>by
   have hlt:∀m,L<m->m<=7->Az (Ex.mk h ks).hd.op<m:=fun m hm hm7=>by show Az h.op<m;omega
   rcases par with par|par
   ·exact Qz (lo:=L+1) (Ak 7) (fun m hm hm7=>⟨by unfold Bc;rw[if_pos (hlt m rA hm7),if_pos (hlt 7 rA rA)],by unfold B2;rw[if_pos (hlt m rA hm7),if_pos (hlt 7 rA rA)]⟩)
     (fun m hm hm7 h26 ts post hw=>by
      unfold Bc at hw
      rw[if_pos (hlt 7 rA rA)] at hw
      obtain⟨t,q,rfl,ht,_⟩:=map_cons hw
      rw[List.cons_append,So,ht,J6]
      rcases h26 with rfl|rfl<;>rfl) par (7 - n) n rA rA
   ·omega
  refine⟨fun n hn=>?_,fun n h5 h2 h3=>?_⟩
  ·by_cases hnl:n<=L
   ·exact(low n hnl).1
   ·exact(high n rA hn).1
  ·by_cases hnl:n<L
   ·exact(low n rA).2 hnl h5 h2
   ·by_cases he:n=L
    ·subst he
     exact hrL h5 h2 h3
    ·exact(high n rA rA).2 rA h5 h2
open Go Go.Lib
theorem Qb (e:Ex):e.bare.hd.op=e.hd.op:=by cases e;rfl
mutual
theorem Ex.bare_text:∀e:Ex,e.bare.text=e.text
 | .mk h ks=>by rw[Ex.bare,Ex.text,Ex.text,Ti ks];rfl
theorem Ti:∀l:List Ex,Gp (Mn l)=Gp l
 |[]=>rfl
 |e::l=>by rw[Mn,Gp,Gp,Ex.bare_text e,Ti l,Qb]
end
theorem Qp {a b:Ex}(h:a.bare=b.bare):a.text=b.text:=by rw[←Ex.bare_text,←Ex.bare_text b,h]
def Cw (l:List Wd):Nat:=l.countP (isW [40])
def Ef (l:List Tkn):Nat:=Cw (l.map Tkn.w)
theorem N4 (l m:List Wd):Cw (l++m)=Cw l+Cw m:=List.countP_append
theorem Et (w:Wd)(l:List Wd):Cw (w::l)=Cw l+if isW [40] w=true then 1 else 0:=List.countP_cons
theorem Nw (l:List Wd):Cw (aZ l)=Cw l+1:=by
 unfold aZ
 rw[Et,N4,J6,Et,J6]
 rfl
theorem I0 (t:Tkn)(l:List Tkn):Ef (t::l)=Ef l+if isW [40] t.w=true then 1 else 0:=Et _ _
theorem Jq (t:Tkn)(l:List Tkn):Ef l<=Ef (t::l):=by rw[I0];omega
theorem Cz (n:Nat)(a:Ex):Cw (Bc n a)=Cw a.words+if Az a.hd.op<n then 1 else 0:=by
 unfold Bc
 split
 ·rw[Nw]
 ·rfl
theorem D8 (n:Nat)(a:Ex):B2 n a=a.need+if Az a.hd.op<n then 1 else 0:=by
 unfold B2
 split<;>rfl
theorem Si {n m:Nat}(h:n<=m)(a:Ex):B2 n a<=B2 m a/\Cw (Bc n a)<=Cw (Bc m a):=by
 rw[D8,D8,Cz,Cz]
 by_cases h1:Az a.hd.op<n
 ·rw[if_pos h1,if_pos rA];omega
 ·rw[if_neg h1];omega
theorem oP (m:Nat)(a:Ex):B2 m a<=B2 0 a+1/\Cw (Bc m a)<=Cw (Bc 0 a)+1:=by
 rw[D8,D8,Cz,Cz]
 constructor<;>split<;>omega
def Mr (l:List Ex):Nat:=(l.map fun e=>Cw e.words).sum
theorem jB (l m:List Ex):Mr (l++m)=Mr l+Mr m:=by simp [Mr]
theorem O6:∀l:List Ex,Cw (Oh (l.map Ex.words))=Mr l
 |[]=>rfl
 |[e]=>by simp [Oh,Mr]
 |e::f::l=>by
  show Cw (e.words++E7 [44]::Oh ((f::l).map Ex.words))=_
  rw[N4,Et,O6 (f::l),J6]
  simp [Mr]
theorem aH (h:Hd):Cw [Ko h]=0:=by
 have:isW [40] (Ko h)=false:=by
  have hx:∀w:Wd,w.t≠[40]->isW [40] w=false:=fun w hw=>by unfold isW;rw[An hw];rfl
  have hy:∀w:Wd,w.k≠1->w.k≠7->isW [40] w=false:=fun w h1 h7=>by unfold isW;rw[An h1,An h7];simp
  unfold Ko
  split
  ·exact hy _ rC rC
  split
  ·exact hy _ rC rC
  split
  ·exact hy _ rC rC
  split
  ·exact hy _ rC rC
  split
  ·exact hy _ rC rC
  ·rename_i h12 h3 h5
   refine hx _ ?_
   show Q8 h.v.1 h.v.2.1 h.v.2.2≠[40]
   unfold Q8
   rw[if_neg (fun e=>h12 (.inl e)),if_neg (fun e=>h12 (.inr e)),if_neg h3]
   by_cases h4:h.v.1=4
   ·rw[if_pos h4];split<;>decide
   ·rw[if_neg h4,if_neg h5];decide
 rw[Et,this]
 rfl
theorem Tk {op:Int}(h:Fq op)(k:Int)(ws:List Wd):Cw (⟨k,Cf op,v0⟩::ws)=Cw ws:=by
 have:isW [40] ⟨k,Cf op,v0⟩=false:=by
  have hw:Cf op≠[40]:=by rcases h with rfl|rfl|rfl|rfl|rfl|rfl|rfl|rfl|rfl<;>decide
  unfold isW
  rw[An hw]
  rfl
 rw[Et,this]
 rfl
theorem Yw {op:Int}(h:Fw op)(ws:List Wd):Cw (S1 op::ws)=Cw ws:=by
 have:isW [40] (S1 op)=false:=by
  have hw:Cf op≠[40]:=by rcases h with rfl|rfl|rfl|rfl|rfl|rfl|rfl|rfl|rfl|rfl|rfl|rfl<;>decide
  unfold isW S1
  rw[An hw]
  rfl
 rw[Et,this]
 rfl
theorem kP {t:Tkn}{h:Hd}(he:Ce t=some h):1<=h.op/\h.op<=3:=by
 unfold Ce at he
 repeat' split at he
 all_goals first
  |(cases he;done)
  |(injection he with he;subst he;constructor<;>simp;done)
  |skip
 cases hl:Lx t.w.t with
 |none=>rw[hl] at he;cases he
 |some v=>rw[hl] at he;injection he with he;subst he;constructor<;>simp
instance (op:Int):Decidable (Fw op):=by unfold Fw;infer_instance
theorem iX {r:List Tkn}{n:Nat}(h:A9 r (Bh n)≠0):Fw (A9 r (Bh n))/\Az (A9 r (Bh n))=n:=by
 have hin:=Nm h
 obtain⟨h5,h2⟩:=Lo h
 obtain⟨o,ho⟩:∃o,A9 r (Bh n)=o:=⟨_,rfl⟩
 rw[ho] at hin ⊢
 clear h ho
 obtain rfl|rfl|rfl|rfl|rfl:n=0\/n=1\/n=3\/n=4\/n=5:=by omega
 ·exact(by decide:∀o∈(Bh 0).map Prod.snd,Fw o/\Az o=0) o hin
 ·exact(by decide:∀o∈(Bh 1).map Prod.snd,Fw o/\Az o=1) o hin
 ·exact(by decide:∀o∈(Bh 3).map Prod.snd,Fw o/\Az o=3) o hin
 ·exact(by decide:∀o∈(Bh 4).map Prod.snd,Fw o/\Az o=4) o hin
 ·exact(by decide:∀o∈(Bh 5).map Prod.snd,Fw o/\Az o=5) o hin
theorem dU:∀(td:Gj) (d:Nat) (r:List Tkn),td.ok->match td with
 | .lvl n=>d<=12->∀a q,exE (.lvl n) d r= .ok (a,q)->d+B2 n a<=12/\Cw (Bc n a)+Ef q<=Ef r
 | .row n b=>d+B2 (E9 n) b<=12->∀a q,exE (.row n b) d r= .ok (a,q)->d+B2 n a<=12/\Cw (Bc n a)+Ef q<=Cw (Bc (E9 n) b)+Ef r
 | .args c ks=>Fq c.op->(∀x∈ks,d+x.need<=12)->d<=12->∀a q,exE (.args c ks) d r= .ok (a,q)->∃ks',a= .mk ⟨c.op,v0,[],c.line,c.col⟩ ks'/\(∀x∈ks',d+x.need<=12)/\Mr ks'+Ef q<=Mr ks+Ef r:=by
 refine P6 (P:=fun td d r=>match td with
  | .lvl n=>d<=12->∀a q,exE (.lvl n) d r= .ok (a,q)->d+B2 n a<=12/\Cw (Bc n a)+Ef q<=Ef r
  | .row n b=>d+B2 (E9 n) b<=12->∀a q,exE (.row n b) d r= .ok (a,q)->d+B2 n a<=12/\Cw (Bc n a)+Ef q<=Cw (Bc (E9 n) b)+Ef r
  | .args c ks=>Fq c.op->(∀x∈ks,d+x.need<=12)->d<=12->∀a q,exE (.args c ks) d r= .ok (a,q)->∃ks',a= .mk ⟨c.op,v0,[],c.line,c.col⟩ ks'/\(∀x∈ks',d+x.need<=12)/\Mr ks'+Ef q<=Mr ks+Ef r) ?_ ?_ ?_ ?_ ?_
 ·intro n d r hn h1 h2 hd a q h
  rw[show exE (.lvl n) d r=_ from Ec hn] at h
  by_cases hp:isH (Er n) r=true
  ·rw[if_pos hp] at h
   obtain⟨t,q0,rfl⟩:=B9 hp
   by_cases hd12:d=12
   ·rw[if_pos hd12] at h;cases h
   ·rw[if_neg hd12] at h
    obtain⟨a',q',h3,h4⟩:=Dq h
    injection h4 with h4
    simp only[Prod.mk.injEq] at h4
    obtain⟨rfl,rfl⟩:=h4
    obtain⟨i1,i2⟩:=h1 t q0 rfl hp hd12 rA a' q' h3
    have hl:=(N6 hn).1
    have hlo:¬Az (Ex.mk ⟨J2 n,v0,[],(plH (t::q0)).1,(plH (t::q0)).2⟩ [a']).hd.op<n:=by show ¬Az (J2 n)<n;omega
    have:=Jq t q0
    rw[D8,Cz,if_neg hlo,(Jd hn rfl a').2.2,(Jd hn rfl a').2.1]
    refine⟨by omega,?_⟩
    rw[Et]
    have:isW [40] (if n=2 then(⟨1,[110,111,116],v0⟩:Wd) else E7 [45])=false:=by rcases hn with rfl|rfl<;>decide
    rw[this]
    simp only[Bool.false_eq_true,if_false]
    omega
  ·rw[if_neg hp] at h
   obtain⟨i1,i2⟩:=h2 uG hd a q h
   obtain⟨m1,m2⟩:=Si (show n<=n+1 by omega) a
   omega
 ·intro d r h1 h2 hd a q h
  rw[show exE (.lvl 7) d r=_ from Bj d r] at h
  cases r with
  |nil=>cases h
  |cons t r=>
   simp only at h
   cases hl:Ce t with
   |some x=>
    rw[hl] at h
    injection h with h
    simp only[Prod.mk.injEq] at h
    obtain⟨rfl,rfl⟩:=h
    obtain⟨o1,o3⟩:=kP hl
    have hlo:¬Az (Ex.mk x []).hd.op<7:=by show ¬Az x.op<7;rw[Pf o1 o3];omega
    have:=Jq t r
    rw[D8,Cz,if_neg hlo,(Jj o3 []).2.2,(Jj o3 []).2.1,aH]
    omega
   |none=>
    cases hc:Cx t with
    |some c=>
     rw[hl,hc] at h
     simp only at h
     obtain⟨ho,hd12,h⟩:=Kz h
     obtain⟨t',q',rfl⟩:=B9 ho
     have hcc:=(Sy hc).1
     obtain⟨ks',rfl,i1,i2⟩:=h1 t t' q' c rfl hl hc ho hd12 hcc (fun x hx=>by cases hx) rA a q h
     have hlo:¬Az (Ex.mk ⟨c.op,v0,[],c.line,c.col⟩ ks').hd.op<7:=by show ¬Az c.op<7;rw[Ij hcc];omega
     have e1:=G7 (h:=⟨c.op,v0,[],c.line,c.col⟩) hcc ks'
     rw[D8,Cz,if_neg hlo,e1.2.2,e1.2.1,Tk hcc,Nw,O6]
     have hm:=oO (l:=ks'.map Ex.need) (k:=12 - (d+1)) (fun n hn=>by
      obtain⟨x,hx,rfl⟩:=List.mem_map.1 hn
      have:=i1 x hx
      omega)
     rw[I0,I0,if_pos (show isW [40] t'.w=true from ho)]
     simp only[Mr,List.map_nil,List.sum_nil,Nat.zero_add] at i2
     refine⟨by omega,?_⟩
     simp only[Mr]
     omega
    |none=>
     rw[hl,hc] at h
     simp only at h
     obtain⟨ho,hd12,h⟩:=Kz h
     obtain⟨a',q',h3,h4⟩:=Dq h
     obtain⟨rfl,h41,rfl⟩:=L8 h4
     obtain⟨t',q'',rfl⟩:=B9 h41
     obtain⟨i1,i2⟩:=h2 t r rfl hl hc ho hd12 rA _ _ h3
     obtain⟨m1,m2⟩:=oP 7 a
     have:=Jq t' q''
     rw[I0,if_pos (show isW [40] t.w=true from ho)]
     rw[List.tail_cons]
     omega
 ·intro n d r h5 h2 h1 h3 hd a q h
  rw[show exE (.lvl n) d r=_ from Dv h5 h2] at h
  obtain⟨b,q',h4,h6⟩:=Dq h
  obtain⟨i1,i2⟩:=h1 hd b q' h4
  have hle:E9 n<=n+1:=by unfold E9;split<;>omega
  obtain⟨m1,m2⟩:=Si hle b
  obtain⟨i3,i4⟩:=h3 b q' h4 rA a q h6
  omega
 ·intro n b d r h1 hd a q h
  rw[show exE (.row n b) d r=_ from Dl n b d r] at h
  by_cases hz:A9 r (Bh n)=0
  ·rw[if_pos hz] at h
   injection h with h
   simp only[Prod.mk.injEq] at h
   obtain⟨rfl,rfl⟩:=h
   obtain⟨m1,m2⟩:=Si (X3 n) b
   omega
  ·rw[if_neg hz] at h
   obtain⟨t,q0,rfl⟩:=Fj hz
   obtain⟨h5,h2⟩:=Lo hz
   obtain⟨hi,hlv⟩:=iX hz
   obtain⟨g1,g2⟩:=h1 t q0 rfl hz h5 h2
   obtain⟨c,q',h3,h4⟩:=Dq h
   rw[List.tail_cons] at h3
   obtain⟨i1,i2⟩:=g1 (by have:=(Si (Nat.zero_le (E9 n)) b).1;omega) c q' h3
   have:=Jq t q0
   have e1:=Jb (h:=⟨A9 (t::q0) (Bh n),v0,[],(plH (t::q0)).1,(plH (t::q0)).2⟩) hi b c
   have hlo:¬Az (Ex.mk ⟨A9 (t::q0) (Bh n),v0,[],(plH (t::q0)).1,(plH (t::q0)).2⟩ [b,c]).hd.op<n:=by show ¬Az (A9 (t::q0) (Bh n))<n;omega
   simp only[hlv] at e1
   have hnode:d+B2 n (Ex.mk ⟨A9 (t::q0) (Bh n),v0,[],(plH (t::q0)).1,(plH (t::q0)).2⟩ [b,c])<=12/\Cw (Bc n (Ex.mk ⟨A9 (t::q0) (Bh n),v0,[],(plH (t::q0)).1,(plH (t::q0)).2⟩ [b,c]))+Ef q'<=Cw (Bc (E9 n) b)+Ef (t::q0):=by
    rw[D8,Cz,if_neg hlo,e1.2.2,e1.2.1,N4,Yw hi]
    omega
   by_cases hn3:n=3
   ·rw[if_pos hn3] at h4
    injection h4 with h4
    simp only[Prod.mk.injEq] at h4
    obtain⟨rfl,rfl⟩:=h4
    exact hnode
   ·rw[if_neg hn3] at h4
    have hll:E9 n=n:=by unfold E9;rw[if_neg hn3]
    obtain⟨i3,i4⟩:=g2 c q' h3 (by rw[hll];exact hnode.1) a q h4
    rw[hll] at i4 hnode ⊢
    omega
 ·intro c ks d r h1 h2 hc hks hd a q h
  rw[show exE (.args c ks) d r=_ from Fg c ks d r] at h
  obtain⟨b,q',h3,h4⟩:=Dq h
  obtain⟨i1,i2⟩:=h1 hd b q' h3
  have hb0:B2 0 b=b.need/\Cw (Bc 0 b)=Cw b.words:=by
   rw[D8,Cz,if_neg rA]
   exact⟨rfl,rfl⟩
  have hks':∀x∈ks++[b],d+x.need<=12:=fun x hx=>by
   rcases List.mem_append.1 hx with hx|hx
   ·exact hks x hx
   ·rw[List.mem_singleton.1 hx];omega
  have hsum:Mr (ks++[b])=Mr ks+Cw b.words:=by rw[jB];simp [Mr]
  split at h4
  ·cases h4
  ·split at h4
   ·rename_i h44
    obtain⟨t,q0,rfl⟩:=B9 h44
    obtain⟨ks',e,i3,i4⟩:=h2 b t q0 h3 h44 hc hks' hd a q h4
    have:=Jq t q0
    exact⟨ks',e,i3,by omega⟩
   ·obtain⟨rfl,h41,rfl⟩:=L8 h4
    obtain⟨t,q0,rfl⟩:=B9 h41
    have:=Jq t q0
    refine⟨_,rfl,hks',?_⟩
    rw[List.tail_cons]
    omega
theorem O2 {l:List UInt8}{a:Ex}(h:Bn l= .ok a):a.need<=12/\∃ts,Fp l= .ok ts/\Cw a.words<=Ef ts:=by
 obtain⟨ts,h1,h2,_⟩:=Dx h
 obtain⟨i1,i2⟩:=dU (.lvl 0) 0 ts sY rA a [] h2
 rw[D8,if_neg rA] at i1
 rw[Cz,if_neg rA] at i2
 exact⟨by omega,ts,h1,by omega⟩
def Dn (t:List UInt8)(ws:List Wd)(r:List UInt8):Prop:=∀x y,∃us x' y',us.map Tkn.w=ws/\LX (t++r) x y=Gb (.ok us) (LX r x' y')
theorem Dn.app {t u r:List UInt8}{ws vs:List Wd}(h:Dn t ws (u++r))(k:Dn u vs r):Dn (t++u) (ws++vs) r:=fun x y=>by
 obtain⟨us,x1,y1,h1,h2⟩:=h x y
 obtain⟨us',x2,y2,h3,h4⟩:=k x1 y1
 exact⟨us++us',x2,y2,by rw[List.map_append,h1,h3],by rw[List.append_assoc,h2,h4,gH]⟩
theorem Dn.cons {c:UInt8}{u r:List UInt8}{ws vs:List Wd}(h:Dn [c] ws (u++r))(k:Dn u vs r):Dn (c::u) (ws++vs) r:=Dn.app (t:=[c]) h k
theorem Mf {c:UInt8}(h:c=40\/c=41\/c=44\/c=45)(r:List UInt8):Dn [c] [E7 [c]] r:=fun x y=>
 ⟨[⟨⟨7,[c],v0⟩,x,y⟩],x,y+1,rfl,by rw[List.cons_append,List.nil_append,pI h,Qs]⟩
theorem fG (x:Except (Int×Int×Int) (List Tkn)):Gb (.ok []) x=x:=by cases x<;>rfl
theorem Kr (r:List UInt8):Dn [32] [] r:=fun x y=>⟨[],x,y+1,rfl,by rw[List.cons_append,List.nil_append,Fz,fG]⟩
theorem O4 {w:Wd}(hf:Qg w)(hk:w.k≠7){r:List UInt8}(hr:Sep r):Dn (Dz w) [w] r:=fun x y=>
 ⟨[⟨w,x,y⟩],x,_,rfl,by rw[nL hf hk hr,Qs]⟩
theorem kN {op:Int}(h:Fw op)(r:List UInt8):Dn (Cf op) [S1 op] (32::r):=fun x y=>
 ⟨[⟨S1 op,x,y⟩],x,_,rfl,by rw[cK (Xi h) (32::r) (O0 r),Qs];rfl⟩
theorem Vy {t r:List UInt8}{ws:List Wd}(h:Dn t ws (41::r)):Dn (Ms t) (aZ ws) r:=by
 have h1:=Dn.app (t:=[40]) (u:=t++[41]) (r:=r) (ws:=[E7 [40]]) (vs:=ws++[E7 [41]]) (Mf rC _) (Dn.app rY (Mf rC r))
 exact h1
theorem Tc {r:List UInt8}:∀l:List Ex,l≠[]->(∀e∈l,∀r,Sep r->Dn e.text e.words r)->Dn (Gc [44,32] (l.map Ex.text)) (Oh (l.map Ex.words)) (41::r)
 |[],h,_=>absurd rfl h
 |[e],_,h=>h e Ai _ (Ln r rC)
 |e::f::l,_,h=>by
  have ih:=Tc (r:=r) (f::l) rC fun x hx=>h x (Aj _ hx)
  show Dn (e.text++([44,32]++Gc [44,32] ((f::l).map Ex.text))) (e.words++E7 [44]::Oh ((f::l).map Ex.words)) (41::r)
  refine Dn.app (h e Ai _ uF) ?_
  exact Dn.app (t:=[44]) (u:=32::Gc [44,32] ((f::l).map Ex.text)) (ws:=[E7 [44]]) (Mf rC _) (Dn.app (t:=[32]) (ws:=[]) (Kr _) ih)
theorem T0:∀(k:Nat) (a:Ex),a.size<=k->a.All F4->∀r,Sep r->Dn a.text a.words r
 |0,a,hk,_,_,_=>absurd a.size_pos rA
 |k+1,.mk h ks,hk,hg,r,hr=>by
  rw[Ex.size] at hk
  rw[Ex.All] at hg
  have ih:∀e∈ks,∀r,Sep r->Dn e.text e.words r:=fun e he r hr=>T0 k e (by have:=Ju he;omega) (I4 hg.2 e he) r hr
  have ihA:∀e∈ks,∀n r,Sep r->Dn (Ev n e) (Bc n e) r:=fun e he n r hr=>by
   unfold Ev Bc
   split
   ·exact Vy (ih e he _ (Ln r rC))
   ·exact ih e he r hr
  cases Gn hg.1 with
  |leaf h1 h3 ok=>
   rw[(Jj h3 []).1,(Jj h3 []).2.1,←ok.spell]
   exact O4 ok.form ok.ne7 hr
  |pre n hn ho=>
   rename_i e
   rw[(Jd hn ho e).1,(Jd hn ho e).2.1]
   rcases hn with rfl|rfl
   ·rw[if_pos rfl]
    refine Dn.app (t:=[110,111,116]) (u:=32::Ev 2 e) (ws:=[⟨1,[110,111,116],v0⟩]) ?_ (Dn.app (t:=[32]) (ws:=[]) (Kr _) (ihA e Ai 2 r hr))
    exact O4 (w:=⟨1,[110,111,116],v0⟩) (.name rfl rB rfl) rB uF
   ·rw[if_neg rB]
    exact Dn.app (t:=[45]) (ws:=[E7 [45]]) (Mf rC _) (ihA e Ai 6 r hr)
  |mid hi=>
   rename_i e f
   rw[(Jb hi e f).1,(Jb hi e f).2.1]
   refine Dn.app (ihA e Ai _ _ uF) ?_
   refine Dn.app (t:=[32]) (ws:=[]) (Kr _) ?_
   refine Dn.app (ws:=[S1 h.op]) (kN hi _) ?_
   exact Dn.app (t:=[32]) (ws:=[]) (Kr _) (ihA f (Aj _ Ai) _ r hr)
  |call hc q1 q2=>
   rename_i e es
   rw[(G7 hc _).1,(G7 hc _).2.1]
   have hcw:=Q5 hc 0 0
   refine Dn.app (ws:=[⟨1,Cf h.op,v0⟩]) ?_ (Vy (Tc _ rC ih))
   exact O4 (w:=⟨1,Cf h.op,v0⟩) hcw.2.2.1 rC uF
theorem Y1 {a:Ex}(hg:a.All F4):∃us,Fp a.text= .ok us/\us.map Tkn.w=a.words:=by
 obtain⟨us,x,y,h1,h2⟩:=T0 _ a (Ak _) hg [] oU 1 1
 rw[List.append_nil,Je] at h2
 refine⟨us,?_,h1⟩
 rw[Sl,h2]
 simp [Gb]
theorem Kg:∀(k:Nat) (a:Ex),a.size<=k->a.All F4->a.text.length+4<=420*a.size
 |0,a,hk,_=>absurd a.size_pos rA
 |k+1,.mk h ks,hk,hg=>by
  rw[Ex.size] at hk ⊢
  rw[Ex.All] at hg
  have ih:∀e∈ks,e.text.length+4<=420*e.size:=fun e he=>Kg k e (by have:=Ju he;omega) (I4 hg.2 e he)
  have ihA:∀e∈ks,∀n,(Ev n e).length+2<=420*e.size:=fun e he n=>by
   have:=ih e he
   unfold Ev Ms
   split
   ·simp only[Aa,Ab,List.length_nil];omega
   ·omega
  cases Gn hg.1 with
  |leaf h1 h3 ok=>
   rw[(Jj h3 []).1]
   have:=ok.short
   simp only[A6]
   omega
  |pre n hn ho=>
   rename_i e
   rw[(Jd hn ho e).1]
   have h1:=ihA e Ai n
   have h2:(Cf (J2 n)).length<=4:=by rcases hn with rfl|rfl<;>decide
   simp only[A6,Ab]
   omega
  |mid hi=>
   rename_i e f
   rw[(Jb hi e f).1]
   have h1:=ihA e Ai (E9 (Az h.op))
   have h3:=ihA f (Aj _ Ai) (Az h.op+1)
   have h2:(Cf h.op).length<=3:=by rcases hi with e|e|e|e|e|e|e|e|e|e|e|e<;>rw[e]<;>decide
   simp only[A6,Ab,Aa]
   omega
  |call hc q1 q2=>
   rename_i e es
   rw[(G7 hc _).1]
   have h2:(Cf h.op).length<=8:=by rcases hc with e|e|e|e|e|e|e|e|e<;>rw[e]<;>decide
   have key:∀l:List Ex,(∀e∈l,e.text.length+4<=420*e.size)->(Gc [44,32] (l.map Ex.text)).length<=420*A6 l:=fun l=>by
    induction l with
    |nil=>intro _;exact Nat.zero_le _
    |cons x l ih=>
     intro hl
     have h3:=hl x Ai
     have h4:=ih fun e he=>hl e (Aj _ he)
     cases l with
     |nil=>simp only[List.map_cons,List.map_nil,Gc,A6];omega
     |cons y l=>
      rw[A6]
      show(x.text++([44,32]++Gc [44,32] ((y::l).map Ex.text))).length<=_
      simp only[Ab,Aa,List.length_nil] at h4 ⊢
      omega
   have h5:=key (e::es) ih
   unfold Ms
   simp only[Ab,Aa,List.length_nil] at h5 ⊢
   omega
theorem Wf {l:List UInt8}{a:Ex}(h:Bn l= .ok a):∃a',Bn a.text= .ok a'/\a'.bare=a.bare:=by
 have hg:=Ei h
 obtain⟨h12,_⟩:=O2 h
 obtain⟨_,_,_,h60⟩:=Dx h
 exact zym
end Go.Proofs.YtgfakdobajgnfaaGreatDoor
