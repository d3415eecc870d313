import Derived.Test.YtgfakdobajgnfaaGreatDoorQk15
set_option maxRecDepth 100000
set_option maxHeartbeats 16000000
namespace Go.Proofs.YtgfakdobajgnfaaGreatDoor
open Go Go.RowKit Go.Lib
theorem U5 {vars:List (List UInt8×Int)}{sf:Int}:∀{l:List Nz} {ks r:List Int},ofE vars sf l ks= .ok r->r.take ks.length=ks/\ks.length<=r.length
 |[],ks,r,h=>by
  injection h with h;subst h;exact⟨List.take_length,Ak _⟩
 |x::l,ks,r,h=>by
  unfold ofE at h
  split at h
  ·obtain⟨c,d⟩:=U5 h;rw[Ab,List.length_singleton] at c d;refine⟨?_,by omega⟩
   have:=Ar (List.take ks.length) c
   rw[List.take_take,Nat.min_eq_left rF,List.take_left] at this;exact this
  cases h
theorem cW {vars:List (List UInt8×Int)}{sf:Int}:∀{l:List Nz} {ks r:List Int} {i:Nat} (hi:i<l.length),ofE vars sf l ks= .ok r->
 ofE vars sf (l.take i) ks= .ok (r.take (ks.length+i))/\Ew vars sf (r.take (ks.length+i)) l[i]=(r.getD (ks.length+i) 0,0)
 |x::l,ks,r,0,_,h=>by
  have f:=h;unfold ofE at h
  split at h
  ·rename_i e
   obtain⟨c,d⟩:=U5 h;rw[Ab,List.length_singleton] at c d;have g:r.take ks.length=ks:=(U5 f).1;rw[Nat.add_zero,g];refine⟨rfl,?_⟩
   have j:r.getD ks.length 0=(Ew vars sf ks x).1:=by
    have:=Ar (fun m=>m[ks.length]?) c
    simp only[List.getElem?_take_of_lt (show ks.length<ks.length+1 by omega)] at this;rw[List.getElem?_append_right (Ak _),Nat.sub_self] at this;rw[List.getD_eq_getElem?_getD,this];rfl
   rw[j,List.getElem_cons_zero];exact Prod.ext rfl e
  cases h
 |x::l,ks,r,i+1,hi,h=>by
  unfold ofE at h
  split at h
  ·rename_i e
   obtain⟨c,d⟩:=cW (i:=i) tM h;rw[Ab,List.length_singleton,show ks.length+1+i=ks.length+(i+1) by omega] at c d;refine⟨?_,by simpa using d⟩;rw[List.take_succ_cons];unfold ofE;rw[Ap e];exact c
  cases h
def okE (k:Int)(b:Bool):Int×Int:=if b then(k,0) else(0,8)
def wrE (op:Int)(ks:List Int):Int×Int:=
 if op=4\/op=5\/op=6 then okE 4 (Fo 4 ks)
 else if op=7\/op=8 then okE 4 (Ig (ks.getD 0 0) (ks.getD 1 0))
 else if 9<=op/\op<=12 then okE 4 (gV (ks.getD 0 0) (ks.getD 1 0))
 else if op=21 then okE 1 (Fo 1 ks) else if op=22 then okE 1 (Fo 3 ks) else if op=23 then okE 3 (Fo 3 ks) else if op=24\/op=25 then okE 4 (Fo 3 ks)
 else if op=26 then okE (if ks.getD 1 0=0 then ks.getD 2 0 else ks.getD 1 0) (Fo 4 [ks.getD 0 0] && (ks.getD 1 0==ks.getD 2 0||ks.getD 1 0==0||ks.getD 2 0==0))
 else okE (Ed 0 ks) (ks.all fun k=>decide (k<=2))
theorem Yi:∀{l:List Int} {k:Int},k<=2->(∀x∈l,0<=x)->((l.all fun k=>decide (k<=2))=true->Ed k l<=2)/\((l.all fun k=>decide (k<=2))=false->Ed k l=255)
 |[],k,hk,_=>⟨fun _=>hk,(fun h=>by cases h)⟩
 |x::l,k,hk,h0=>by
  rw[List.all_cons];unfold Ed;by_cases hx:2<x
  ·rw[Ap hx,An rF];exact⟨(fun h=>by cases h),fun _=>rfl⟩
  rw[Ao hx,Am rF,Bool.true_and];exact Yi rF fun y c=>h0 y (.tail _ c)
theorem Ko (k:Int)(b:Bool)(c:k≠255):(if(if b then k else 255)=255 then((0,8):Int×Int) else((if b then k else 255),0))=okE k b:=by
 cases b with
 |true=>simp [okE,c]
 |false=>rfl
theorem kG {op:Int}{ks:List Int}(h:∀x∈ks,0<=x/\x<=5)(n:9<=op->op<=12->ks.length=2):(if Ey op ks=255 then((0,8):Int×Int) else(Ey op ks,0))=wrE op ks:=by
 have j:∀i,0<=ks.getD i 0/\ks.getD i 0<=5:=fun i=>by
  rw[List.getD_eq_getElem?_getD];cases e:ks[i]? with
  |none=>exact⟨Int.le_refl 0,by show(0:Int)<=5;decide⟩
  |some x=>exact h x (List.mem_of_getElem? e)
 by_cases h4:op=4\/op=5\/op=6
 ·have f:Fd op=some (4,4):=by unfold Fd;rw[Ap h4]
  have c:wrE op ks=okE 4 (Fo 4 ks):=by unfold wrE;rw[Ap h4]
  have d:Ey op ks=if Fo 4 ks then 4 else 255:=by unfold Ey;rw[f]
  rw[c,d];exact Ko 4 _ rH
 by_cases h7:op=7\/op=8
 ·have f:Fd op=none:=by unfold Fd;rw[Ao h4,Ao rF,Ao rF,Ao rF,Ao rF]
  have c:wrE op ks=okE 4 (Ig (ks.getD 0 0) (ks.getD 1 0)):=by unfold wrE;rw[Ao h4,Ap h7]
  have d:Ey op ks=if Ig (ks.getD 0 0) (ks.getD 1 0) then 4 else 255:=by unfold Ey;rw[f];simp only;rw[Ap h7]
  rw[c,d];exact Ko 4 _ rH
 by_cases h9:9<=op/\op<=12
 ·have f:Fd op=none:=by unfold Fd;rw[Ao h4,Ao rF,Ao rF,Ao rF,Ao rF]
  obtain⟨a,b,rfl⟩:∃a b,ks=[a,b]:=by
   match ks,n h9.1 h9.2 with
   |[a,b],_=>exact⟨a,b,rfl⟩
  have m:=h a (.head _);have g:=h b (.tail _ (.head _));have c:wrE op [a,b]=okE 4 (gV a b):=by unfold wrE;rw[Ao h4,Ao h7,Ap h9];rfl
  have d:Ey op [a,b]=if gV a b then 4 else 255:=by
   unfold Ey;rw[f];simp only;rw[Ao h7,Ap h9,←qC m.1 m.2 g.1 g.2];rfl
  rw[c,d];exact Ko 4 _ rH
 by_cases h21:op=21
 ·subst h21;exact Ko 1 _ rH
 by_cases h22:op=22
 ·subst h22;exact Ko 1 _ rH
 by_cases h23:op=23
 ·subst h23;exact Ko 3 _ rH
 by_cases h24:op=24\/op=25
 ·rcases h24 with rfl|rfl
  ·exact Ko 4 _ rH
  exact Ko 4 _ rH
 have f:Fd op=none:=by unfold Fd;rw[Ao h4,Ao h21,Ao h22,Ao h23,Ao h24]
 by_cases h26:op=26
 ·have c:wrE op ks=okE (if ks.getD 1 0=0 then ks.getD 2 0 else ks.getD 1 0) (Fo 4 [ks.getD 0 0] && (ks.getD 1 0==ks.getD 2 0||ks.getD 1 0==0||ks.getD 2 0==0)):=by
   unfold wrE;rw[Ao h4,Ao h7,Ao h9,Ao h21,Ao h22,Ao h23,Ao h24,Ap h26]
  have d:Ey op ks=if Fo 4 [ks.getD 0 0] && (ks.getD 1 0==ks.getD 2 0||ks.getD 1 0==0||ks.getD 2 0==0) then max (ks.getD 1 0) (ks.getD 2 0) else 255:=by
   unfold Ey;rw[f];simp only;rw[Ao h7,Ao h9,Ap h26]
  rw[c,d];have o:=j 1;have p:=j 2;cases g:(ks.getD 1 0==ks.getD 2 0||ks.getD 1 0==0||ks.getD 2 0==0) with
  |false=>rw[Bool.and_false];rfl
  |true=>
   rw[qR o.1 p.1 g,Bool.and_true];exact Ko _ _ (by split<;>omega)
 have c:wrE op ks=okE (Ed 0 ks) (ks.all fun k=>decide (k<=2)):=by
  unfold wrE;rw[Ao h4,Ao h7,Ao h9,Ao h21,Ao h22,Ao h23,Ao h24,Ao h26]
 have d:Ey op ks=Ed 0 ks:=by
  unfold Ey;rw[f];simp only;rw[Ao h7,Ao h9,Ao h26]
 rw[c,d];obtain⟨q,r⟩:=Yi (l:=ks) (k:=0) rH fun x u=>(h x u).1
 cases g:ks.all fun k=>decide (k<=2) with
 |true=>
  have:=q g
  rw[Ao rF];rfl
 |false=>
  rw[r g];rfl
open Go Go.RowKit Go.Lib
theorem Rv {op:Int}(e:1<=op)(d:op<=26)(h:(Cr op).1=0):op<=3:=by
 rcases (show op<=3\/op=4\/op=5\/op=6\/op=7\/op=8\/op=9\/op=10\/op=11\/op=12\/op=13\/op=14\/op=15\/op=16\/op=17\/op=18\/op=19\/op=20\/op=21\/op=22\/op=23\/op=24\/op=25\/op=26 by omega) with c|c|c|c|c|c|c|c|c|c|c|c|c|c|c|c|c|c|c|c|c|c|c|c
 ·exact c
 all_goals
  subst c;exact absurd h rH
theorem P2.leaf {l:List Nz}(c:P2 l){x:Nz}(f:x∈l)(g:x.kids=[]):x.h.op=1\/x.h.op=2\/x.h.op=3:=by
 obtain⟨i,d,rfl⟩:=List.getElem_of_mem f;have e:=c.op i d;have j:=(c.few i d).1;rw[g,List.length_nil] at j
 have:=Rv e.1 e.2 rF
 omega
theorem P2.self {l:List Nz}(d:P2 l){x:Nz}(e:x∈l)(f:x.h.op=3):x.kids=[]:=by
 obtain⟨i,g,rfl⟩:=List.getElem_of_mem e;have c:=(d.few i g).2;rw[f] at c;exact List.eq_nil_of_length_eq_zero (Nat.le_zero.1 c)
open Go Go.RowKit Go.Lib
def wrV (p:Int×Int):Value:= .tuple #[.int .u8 p.1,.int .i64 p.2]
theorem Xy {ks:List Int}(c:∀y∈ks,0<=y/\y<=5)(kids:List Int):∀y∈kids.map (fun x=>ks.getD x.toNat 0),0<=y/\y<=5:=fun y d=>by
 obtain⟨x,_,rfl⟩:=List.mem_map.1 d;rw[List.getD_eq_getElem?_getD];cases e:ks[x.toNat]? with
 |none=>exact⟨Int.le_refl 0,by show(0:Int)<=5;decide⟩
 |some z=>exact c z (List.mem_of_getElem? e)
theorem Ii.of_rowU {w:World}{B:Nat}{v:Value}{l:List Int}(hl:l.length<=1000000)(h:w.ownsRow B 5 1 v l.length (l.map (.int .u8))):Ii w v l:=by
 exact zx1
theorem nO (k c:Int)(w:World):Calls Tryz.prog 110 #[.int .u8 k,.int .u8 c] w fun e w'=>e= .returned (.bool (k==c||k==0))/\w'=w:=by
 obtain⟨a,d⟩:∃a,(k==c)=a:=⟨_,rfl⟩;rw[d];cases a
 all_goals
  go_enter Tryz.func110,Tryz.ntmps110;go_wp2_with fail;exact zyn
theorem kK (a b:Int)(w:World):Calls Tryz.prog 108 #[.int .u8 a,.int .u8 b] w fun e w'=>e= .returned (.bool (Ig a b))/\w'=w:=by
 unfold Ig;obtain⟨x,c⟩:∃x,(a==0)=x:=⟨_,rfl⟩;obtain⟨y,d⟩:∃y,(b==0)=y:=⟨_,rfl⟩;obtain⟨z,f⟩:∃z,(a==b)=z:=⟨_,rfl⟩;obtain⟨u,g⟩:∃u,decide (a<=2)=u:=⟨_,rfl⟩;rw[c,d,f,g];cases x
 all_goals
  cases y
  all_goals
   cases z
   all_goals
    cases u
    all_goals
     go_enter Tryz.func108,Tryz.ntmps108;go_wp2_with go_in;exact zyn
theorem aL {l:List Nz}(hg:P2 l){vars:List (List UInt8×Int)}{sf:Int}:∀(i:Nat) (hi:i<l.length) (ks:List Int),ofE vars sf (l.take i) []= .ok ks->(∀y∈ks,0<=y/\y<=5)->
 ∀(w:World) (tv:Value) (va:Option Addr) (vc:Nat),TrZ w tv l->So w (.slice va vars.length vc) vars->
 Calls Tryz.prog 69 #[tv,.int .i64 (i:Nat),.agg #[.slice va vars.length vc,.int .u8 sf]] w fun e w'=>e= .returned (wrV (Ew vars sf ks l[i]))/\Below w.heap.size w w':=by
 intro i
 induction i using Nat.strongRecOn with
 |ind i ih=>
  intro hi ks vA h0 w tv va vc ht hv
  have vU:ks.length=i:=by
   have:=cF vA
   simp only[List.length_nil,List.length_take,Nat.zero_add] at this;omega
  have vB:∀(R:Nat) (hy:R<i) (W:World),Below w.heap.size w W->Calls Tryz.prog 69 #[tv,.int .i64 (R:Nat),.agg #[.slice va vars.length vc,.int .u8 sf]] W fun e w'=>e= .returned (.tuple #[.int .u8 (ks.getD R 0),.int .i64 0])/\Below W.heap.size W w':=fun R hy W hW=>by
   obtain⟨q1,q2⟩:=cW (i:=R) (by rw[List.length_take];omega) vA;rw[List.take_take,Nat.min_eq_left rF] at q1;simp only[List.length_nil,Nat.zero_add,List.getElem_take] at q1 q2
   have:=ih R hy rF (ks.take R) q1 (fun y hy=>h0 y (List.mem_of_mem_take hy)) W tv va vc (ht.below hW) (hv.below hW)
   rw[q2] at this;exact this
  have n9:=hg.op i hi;have hfew:=hg.few i hi;have a8:=hg.kids i hi;have vC:=hg.len
  have d:l[i].kids≠[]->Ew vars sf ks l[i]=wrE l[i].h.op (l[i].kids.map fun x=>ks.getD x.toNat 0):=fun hk=>by
   unfold Ew;rw[Ao hk];refine kG (Xy h0 _) fun h9 xN=>?_
   have e:Cr l[i].h.op=(2,2):=by unfold Cr;rw[Ap rF]
   rw[e] at hfew;rw[List.length_map];omega
  have I:l[i].kids=[]->Ew vars sf ks l[i]=Ou l[i].h vars sf:=fun hk=>by unfold Ew;rw[Ap hk]
  have b7:l[i].kids=[]->l[i].h.op<=3:=fun hk=>by
   have h2:=hfew.1;rw[hk,List.length_nil] at h2;exact Rv n9.1 n9.2 rF
  have b8:l[i].kids≠[]->4<=l[i].h.op:=fun hk=>by
   rcases (show l[i].h.op=1\/l[i].h.op=2\/l[i].h.op=3\/4<=l[i].h.op by omega) with e|e|e|e
   ·exact zwr
   ·exact zwr
   ·exact zwr
   exact e
  have xD:=ht;obtain⟨_,ta,tc,rfl,p8⟩:=xD;obtain⟨b,off,kv,rfl,vV,vW⟩:=p8 i hi;have vD:=Xy h0 l[i].kids;obtain⟨N,hN⟩:∃N,l.length=N:=⟨_,rfl⟩;obtain⟨n,hn⟩:∃n,vars.length=n:=⟨_,rfl⟩;rw[hN,hn] at vB ⊢;rw[hn] at hv;have xO:i<N:=by omega
  obtain⟨⟨⟨op,⟨vk,vn,vs⟩,nm,ln,cl⟩,kids⟩,hx⟩:∃x,l[i]=x:=⟨_,rfl⟩;rw[hx] at vW vV;simp only[hx] at d I b7 b8 n9 hfew a8 vD ⊢;obtain⟨_,ka,kc,rfl,E⟩:=vW;simp only at E;obtain⟨z,r⟩:∃z,Ew vars sf ks ⟨⟨op,(vk,vn,vs),nm,ln,cl⟩,kids⟩=z:=⟨_,rfl⟩;rw[r] at d I ⊢;clear ih vA r hx p8 ht;obtain⟨x0,x1,x2,x3,x4,x5,x6,x7⟩:=vV;simp only at x0 x1 x2 x3 x4 x5 x6 x7;obtain⟨m,hm⟩:∃m,kids.length=m:=⟨_,rfl⟩;rw[hm] at x5 hfew;obtain⟨W1,r7⟩:∃W,w.alloc (.cells #[.slice va n vc,.int .u8 sf] 59)=W:=⟨_,rfl⟩;have v:Below w.heap.size w W1:=by rw[←r7];exact(Aq _ w).alloc (Ak _) _
  have uS:=Az w (.cells #[.slice va n vc,.int .u8 sf] 59);have vX:W1.heap.size=w.heap.size+1:=by rw[←r7];simp
  rw[r7] at uS;obtain⟨W2,r8⟩:∃W,W1.alloc (.cells #[.int .u8 op,.int .u8 vk,.int .i64 vn,.string ⟨vs.toArray⟩,.string ⟨nm.toArray⟩,.slice ka m kc,.int .i64 ln,.int .i64 cl] 43)=W:=⟨_,rfl⟩;have vE:Below W1.heap.size W1 W2:=by rw[←r8];exact(Aq _ W1).alloc (Ak _) _
  have uT:=Az W1 (.cells #[.int .u8 op,.int .u8 vk,.int .i64 vn,.string ⟨vs.toArray⟩,.string ⟨nm.toArray⟩,.slice ka m kc,.int .i64 ln,.int .i64 cl] 43);have g:W2.heap.size=w.heap.size+2:=by rw[←r8];simp [vX]
  rw[r8] at uT;have vY:=v.trans (vE.mono v.size);have vF:=(vE.block _ (Ay uS)).trans uS
  have d8:Hid (∀X,Below W2.heap.size W2 X->X.cell? ⟨W1.heap.size,0,none⟩=some (.int .u8 op)/\X.cell? ⟨W1.heap.size,1,none⟩=some (.int .u8 vk)/\X.cell? ⟨W1.heap.size,4,none⟩=some (.string ⟨nm.toArray⟩)/\X.cell? ⟨W1.heap.size,5,none⟩=some (.slice ka m kc)/\X.cell? ⟨w.heap.size,0,none⟩=some (.slice va n vc)/\X.cell? ⟨w.heap.size,1,none⟩=some (.int .u8 sf)):=Ax fun X hX=>by
   obtain⟨n0,n1,_,_,n4,n5,_,_,_⟩:=A6 ((hX.block _ (Ay uT)).trans uT);obtain⟨y0,y1,_⟩:=Bf ((hX.block _ (Ay vF)).trans vF);exact⟨n0,n1,n4,n5,y0,y1⟩
  have vZ:=A4 v x0;have wA:=A4 v x1;have wB:=A4 v x2;have wC:=A4 v x3;have wD:=A4 v x4;have wE:=A4 v x5;have wF:=A4 v x6;have wG:=A4 v x7;have wH:=Ax r7;have uV:=Ax r8;have j8:=Ax vY;have vG:=fun(R:Nat) (hy:R<i) (W:World) hW=>Ax (vB R hy W hW)
  have vH:=Ax E;have r9:=Ax a8;have f7:=Ax d;have L:=Ax I;have M:=Ax b7;have O:=Ax b8;have f9:=Ax hfew;have s7:=Ax n9;have vI:=Ax vD;have Hm:=Ax hm;have HV:=Ax hv;have Hn:=Ax hn
  have xL:m<=8:=by
   have:=hfew.2
   have xP:(Cr op).2<=8:=by unfold Cr;(repeat' split)<;>decide
   omega
  have xE:ks.length=i:=vU;have xM:N<=60:=by omega
  have i0:(0:Int)<=(i:Int):=by omega
  have i1:(i:Int)<(N:Int):=by omega
  clear r7 v uS vX r8 vE uT vY vF vB E a8 d I b7 b8 hfew n9 vD hm hv hn x0 x1 x2 x3 x4 x5 x6 x7 hg vC vU hN;go_enter Tryz.func69,Tryz.ntmps69;go_upto_region 1 with fail
  rw[wH.out];go_upto_region 2 with fail
  rw[uV.out];clear wH uV vZ wA wB wC wD wE wF wG;obtain⟨i8,wI,wJ,wK,wL⟩:=R1;have wM:=Ax wI;have wN:=Ax wJ;have wO:=Ax wK;have wP:=Ax wL;clear wI wJ wK wL;go_wp2_with fail
  go_loopw [9,10] (fun v9 v10 wr=>∃(j:Nat) (oa:Option Addr) (oc:Nat),j<=m/\v10= .int .i64 j/\v9= .slice oa j oc/\Hid (wr.ownsRow W2.heap.size 5 1 (.slice oa j oc) j (((kids.take j).map (fun x=>ks.getD x.toNat 0)).map (Value.int .u8))/\Below W2.heap.size W2 wr)) (fun _ v10 _=>m - (intOf v10).toNat)
  case atStart=>exact⟨0,none,0,Nat.zero_le _,rfl,rfl,World.ownsRow_nil _ _ _ _,Aq _ _⟩
  obtain⟨j,oa,oc,hj,rfl,rfl,hq⟩:=hrel;obtain⟨i6,j9⟩:=hq.out;obtain⟨n0,n1,n4,n5,s0,s1⟩:=d8.out wr j9;have HBX:=Ax j9;have s8:=Ax i6;have xQ:W2.heap.size<=wr.heap.size:=j9.size;by_cases hjm:j<m
  ·have vJ:j<kids.length:=by rw[Hm.out];exact hjm
   obtain⟨b2,i7,rfl,e0⟩:=vH.out j vJ;have T:=r9.out kids[j] (List.getElem_mem vJ)
   have s9:(kids.take (j+1)).map (fun x=>ks.getD x.toNat 0)=(kids.take j).map (fun x=>ks.getD x.toNat 0)++[ks.getD kids[j].toNat 0]:=by
    rw[List.take_succ_eq_append_getElem vJ,List.map_append];rfl
   obtain⟨y,hy⟩:∃y,kids[j]=y:=⟨_,rfl⟩;rw[hy] at e0 T s9;obtain⟨R,rfl⟩:∃R:Nat,y=(R:Int):=⟨y.toNat,by omega⟩;have uW:=vG R rF;rw[Int.toNat_natCast] at s9;obtain⟨kq,wQ⟩:∃k,ks.getD R 0=k:=⟨_,rfl⟩;rw[wQ] at uW s9;have Hst:=Ax s9
   have vK:Hid (∀V,Below W2.heap.size W2 V->(V.cell? ⟨W1.heap.size,5,none⟩=some (.slice (some ⟨b2,i7,none⟩) m kc)/\V.cell? ⟨b2,i7+j,none⟩=some (.int .i64 (R:Int))/\V.cell? ⟨w.heap.size,0,none⟩=some (.slice va n vc)/\V.cell? ⟨w.heap.size,1,none⟩=some (.int .u8 sf))):=Ax fun V hV=>by
    obtain⟨_,_,_,q5,q6,q7⟩:=d8.out V hV;exact⟨q5,A4 (j8.out.trans (hV.mono j8.out.size)) e0,q6,q7⟩
   have j0:(0:Int)<=(j:Int):=by omega
   have j1:(j:Int)<(m:Int):=by omega
   clear hq i6 j9 T s9 hy wQ e0 vG vH r9 f7 L M O f9 s7 vI HV Hn;go_upto_region 6 with fail
   clear n0 n1 n4 n5 s0 s1;refine wp_region_noPanic ?_;refine wp_region_held_drew (S:=fun V=>V.cell? ⟨W1.heap.size,5,none⟩=some (.slice (some ⟨b2,i7,none⟩) m kc)/\V.cell? ⟨b2,i7+j,none⟩=some (.int .i64 (R:Int))/\V.cell? ⟨w.heap.size,0,none⟩=some (.slice va n vc)/\V.cell? ⟨w.heap.size,1,none⟩=some (.int .u8 sf)) rG ?_ (fun hHeld=>?_)
   ·exact vK.out _ HBX.out.drew
   refine QH 0 ⟨some 27,_,_,_,_,_⟩ (h:=?_)
   try simp only[Act.put,Ac,Ad,Ae]
   refine QH 1 ⟨some 28,_,_,_,_,_⟩ (h:=?_)
   try simp only[Act.put,Ac,Ad,Ae]
   refine QH 2 ⟨some 29,_,_,_,_,_⟩ (h:=?_)
   try simp only[Act.put,Ac,Ad,Ae]
   refine QH 3 ⟨some 30,_,_,_,_,_⟩ (h:=?_)
   try simp only[Act.put,Ac,Ad,Ae]
   refine QH 4 ⟨some 31,_,_,_,_,_⟩ (h:=?_)
   try simp only[Act.put,Ac,Ad,Ae]
   refine QH 5 ⟨some 32,_,_,_,_,_⟩ (h:=?_)
   try simp only[Act.put,Ac,Ad,Ae]
   refine QH 6 ⟨some 33,_,_,_,_,_⟩ (h:=?_)
   try simp only[Act.put,Ac,Ad,Ae]
   refine wpAnyH_ready (rs:=[7]) rG rI ?_;refine AllReadyH.cons (o:=⟨some 34,_,_,_,_,_⟩) (rs:=[]) rfl (fun K hK=>?_) AllReadyH.nil
   go_simp
   go_at_call 69
   refine(uW wr.drew (j8.out.trans (HBX.out.drew.mono j8.out.size))).out.mono ?_;rintro e V4 ⟨rfl,vL⟩;have vM:=Ax (HBX.out.drew.trans (vL.mono HBX.out.drew.size));have uX:=Ax ((Aq wr.heap.size wr).drew.trans (vL.mono (Ak _)));clear vL
   try go_wp2_with fail
   clear hHeld;refine hK.out _ _ ?_ (fun hHeld=>?_)
   ·exact vK.out _ vM.out
   clear hK K
   try simp only[Act.put,Ac,Ad,Ae]
   refine QH 8 ⟨some 26,_,_,_,_,_⟩ (h:=?_)
   try simp only[Act.put,Ac,Ad,Ae]
   refine QH 9 ⟨some 35,_,_,_,_,_⟩ (h:=?_)
   try simp only[Act.put,Ac,Ad,Ae]
   refine QH 10 ⟨some 36,_,_,_,_,_⟩ (h:=?_)
   try simp only[Act.put,Ac,Ad,Ae]
   refine QH 11 ⟨some 11,_,_,_,_,_⟩ (h:=?_)
   try simp only[Act.put,Ac,Ad,Ae]
   refine QH 12 ⟨some 12,_,_,_,_,_⟩ (h:=?_)
   try simp only[Act.put,Ac,Ad,Ae]
   refine wpAnyH_done rG ?_ _;refine NoPanic.normal ?_;have w7:=Cg s8.out (show Below wr.heap.size wr V4 from(uX.out));have xF:W2.heap.size<=V4.heap.size:=vM.out.size;have w8:=Ax w7;clear w7 uX s8 HBX vK hHeld;go_wp2_with (at_builtin;refine wpList_append_own _ rfl (.tmp 37) (.tmp 39) _ rfl W2.heap.size 5 i8 (.int .u8 0) 1 1 Tryz.underlying40 wM.out wN.out wO.out wP.out rfl rH (.slice oa j oc) j _ rfl (w8.out.alloc _) ⟨V4.heap.size,0,none⟩ 1 1 [.int .u8 kq] rfl rfl (World.news_of_block (cs:= #[.int .u8 kq]) (heap_alloc_new V4 _)) rS rP rF tH ?_;intro v3 X vN wR _;obtain⟨na,nc,rfl⟩:=D8 vN;have HX:=Ax ((vM.out.alloc xF _).grown wR tH (fun k e=>Co w8.out k e));have Ho3:=Ax vN;clear vN wR);exact zwh
  have xG:j=m:=by omega
  subst xG;have j2:decide ((j:Int)<(j:Int))=false:=by simp
  have vO:Ii wr (.slice oa j oc) (kids.map fun x=>ks.getD x.toNat 0):=by
   have h1:=i6;rw[List.take_of_length_le (by rw[Hm.out];exact Ak _)] at h1;exact Ii.of_rowU (by rw[List.length_map,Hm.out];omega) (by rw[List.length_map,Hm.out];exact h1)
  have d:=f7.out;have vP:=vI.out;have w9:(kids.map fun x=>ks.getD x.toNat 0).length=j:=by rw[List.length_map,Hm.out]
  obtain⟨u,uY⟩:∃u,(kids.map fun x=>ks.getD x.toNat 0)=u:=⟨_,rfl⟩;rw[uY] at vO d vP w9;have k8:=Ax vO;have l7:=Ax vP;have uZ:=Ax w9;have HBw:=Ax (j8.out.trans (j9.mono j8.out.size));have xH:=Ax (HV.out.below HBw.out);clear hq i6 j9 vO vP w9 uY vG vH r9 f7 vI HV s8 wM wN wO wP HBX d8;by_cases F:kids=[]
  ·have A:=M.out F;have r:=L.out F;have C:=s7.out;clear M O L d s7 f9;rcases (show op=1\/op=2\/op=3 by omega) with rfl|rfl|rfl
   ·have HZ:Hid (z=(vk,0)):=Ax (by rw[r];rfl);clear r A C;exact zwx
   ·have HF:=Ax (fD nm wr xH.out);have g:z=match Ez nm vars with|some k=>Gq k|none=>(0,11):=r
    cases hf:Ez nm vars with
    |none=>
     rw[hf] at HF g;have HZ:Hid (z=(0,11)):=Ax g;unfold lF at HF;clear r g A C hf;go_wp2_with fail;refine HF.out.mono ?_;rintro e V ⟨rfl,hb⟩;have HB:=Ax (HBw.out.trans (hb.mono HBw.out.size));clear hb HF;exact zy6
    |some k=>
     rw[hf] at HF g;unfold lF at HF;unfold Gq at g;by_cases h5:5<k
     ·have HZ:Hid (z=(0,8)):=Ax (by rw[g];exact Ap h5);have d5:decide (k<=5)=false:=An rF;clear r g A C hf h5;go_wp2_with fail;refine HF.out.mono ?_;rintro e V ⟨rfl,hb⟩;have HB:=Ax (HBw.out.trans (hb.mono HBw.out.size));clear hb HF;exact zy6
     have HZ:Hid (z=(k,0)):=Ax (by rw[g];exact Ao h5);have d5:decide (k<=5)=true:=Am rF;clear r g A C hf h5;go_wp2_with fail;refine HF.out.mono ?_;rintro e V ⟨rfl,hb⟩;have HB:=Ax (HBw.out.trans (hb.mono HBw.out.size));clear hb HF;exact zy6
   have g:z=if sf=0 then(0,11) else Gq sf:=r
   unfold Gq at g;by_cases hs0:sf=0
   ·have HZ:Hid (z=(0,11)):=Ax (by rw[g];exact Ap hs0);have d0:(sf==0)=true:=by rw[beq_iff_eq];exact hs0
    clear r g A C hs0;exact zwx
   rw[Ao hs0] at g;have d0:(sf==0)=false:=Af.2 hs0;by_cases h5:5<sf
   ·have HZ:Hid (z=(0,8)):=Ax (by rw[g];exact Ap h5);have d5:decide (sf<=5)=false:=An rF;clear r g A C hs0 h5;exact zwx
   have HZ:Hid (z=(sf,0)):=Ax (by rw[g];exact Ao h5);have d5:decide (sf<=5)=true:=Am rF;clear r g A C hs0 h5;exact zwx
  have r:=d F;have U:=O.out F;have D:=s7.out.2;have f8:=f9.out.1;clear M O L d s7 f9 F;have x8:=fun c=>Ax (lL c wr k8.out)
  by_cases ha:op=4\/op=5\/op=6\/op=21\/op=22\/op=23\/op=24\/op=25
  ·obtain⟨c,kd,xI⟩:∃c kd,z=okE kd (Fo c u)/\((op=4\/op=5\/op=6)/\c=4/\kd=4\/op=21/\c=1/\kd=1\/op=22/\c=3/\kd=1\/op=23/\c=3/\kd=3\/(op=24\/op=25)/\c=3/\kd=4):=by
    rcases ha with rfl|rfl|rfl|rfl|rfl|rfl|rfl|rfl
    ·exact⟨4,4,r,by simp⟩
    ·exact⟨4,4,r,by simp⟩
    ·exact⟨4,4,r,by simp⟩
    ·exact⟨1,1,r,by simp⟩
    ·exact⟨3,1,r,by simp⟩
    ·exact⟨3,3,r,by simp⟩
    ·exact⟨3,4,r,by simp⟩
    exact⟨3,4,r,by simp⟩
   obtain⟨vQ,vR⟩:=xI;have HA:=x8 c;obtain⟨q,hq⟩:∃q,Fo c u=q:=⟨_,rfl⟩;rw[hq] at HA vQ;have HZ:=Ax vQ;clear r vQ hq ha x8 U D f8;rcases vR with ⟨h3,rfl,rfl⟩|⟨rfl,rfl,rfl⟩|⟨rfl,rfl,rfl⟩|⟨rfl,rfl,rfl⟩|⟨h2,rfl,rfl⟩
   ·rcases h3 with rfl|rfl|rfl
    all_goals
     cases q
     all_goals
      exact zy7
   ·cases q
    all_goals
     exact zy7
   ·cases q
    all_goals
     exact zy7
   ·cases q
    all_goals
     exact zy7
   rcases h2 with rfl|rfl
   all_goals
    cases q
    all_goals
     exact zy7
  clear x8;by_cases hd:13<=op/\op<=20
  ·have p:z=okE (Ed 0 u) (u.all fun k=>decide (k<=2)):=by
    rw[r];unfold wrE;rw[Ao rF,Ao rF,Ao rF,Ao rF,Ao rF,Ao rF,Ao rF,Ao rF]
   have x9:=Ax (kB wr k8.out fun y hy=>(l7.out y hy).1);unfold dF at x9;obtain⟨q,hq⟩:∃q,(u.all fun k=>decide (k<=2))=q:=⟨_,rfl⟩;obtain⟨nk,wS⟩:∃k,Ed 0 u=k:=⟨_,rfl⟩;rw[hq,wS] at x9 p;have HZ:=Ax p;clear r p hq wS ha U D f8;rcases (show op=13\/op=14\/op=15\/op=16\/op=17\/op=18\/op=19\/op=20 by omega) with rfl|rfl|rfl|rfl|rfl|rfl|rfl|rfl
   all_goals
    clear hd;cases q
    all_goals
     simp only[if_true,Bool.false_eq_true,if_false] at x9;go_wp2_with fail;refine x9.out.mono ?_;rintro e V ⟨rfl,hb⟩;have HB:=Ax (HBw.out.trans (hb.mono HBw.out.size));clear hb x9;exact zy6
  have vS:2<=u.length:=by
   have e:(Cr op).1=2\/(Cr op).1=3:=by
    rcases (show op=7\/op=8\/op=9\/op=10\/op=11\/op=12\/op=26 by omega) with rfl|rfl|rfl|rfl|rfl|rfl|rfl
    all_goals first|exact .inl rfl|exact .inr rfl
   rw[uZ.out];omega
  obtain⟨_,ra,rc,er,E⟩:=k8.out;injection er with er1 er3 er2;subst er1 er2 er3;obtain⟨kb,Y,rfl,c0⟩:=E 0 rF;obtain⟨_,_,e1,c1⟩:=E 1 rF;injection e1 with e1;injection e1 with e2 e3;subst e2 e3;have b0:=l7.out u[0] (List.getElem_mem rF);have b1:=l7.out u[1] (List.getElem_mem rF);have g0:u.getD 0 0=u[0]:=by rw[List.getD_eq_getElem?_getD,Ag rF,Option.getD_some]
  have g1:u.getD 1 0=u[1]:=by rw[List.getD_eq_getElem?_getD,Ag rF,Option.getD_some]
  obtain⟨Z,F⟩:∃x,u[0]=x:=⟨_,rfl⟩;obtain⟨G,uU⟩:∃x,u[1]=x:=⟨_,rfl⟩;rw[F] at c0 b0 g0;rw[uU] at c1 b1 g1;rw[Nat.add_zero] at c0;have l0:0<u.length:=by omega
  have l1:1<u.length:=by omega
  have xR:(0:Int)<(u.length:Int):=by omega
  have xS:(1:Int)<(u.length:Int):=by omega
  have HBX:=Ax (Aq wr.heap.size wr);have vT:Hid (∀V,Below wr.heap.size wr V->(V.cell? ⟨kb,Y,none⟩=some (.int .u8 Z)/\V.cell? ⟨kb,Y+1,none⟩=some (.int .u8 G))):=Ax fun V hV=>⟨A4 hV c0,A4 hV c1⟩
  by_cases h78:op=7\/op=8
  ·have p:z=okE 4 (Ig Z G):=by
    rw[r,←g0,←g1];unfold wrE;rw[Ao rF,Ap h78]
   have wT:=fun V=>Ax (kK Z G V)
   obtain⟨q,hq⟩:∃q,Ig Z G=q:=⟨_,rfl⟩;rw[hq] at wT p;have HZ:=Ax p;clear r p hq ha hd U D f8 E c0 c1 b0 b1 g0 g1 F uU k8 l7 vS;rcases h78 with rfl|rfl
   all_goals
    go_upto_region 29 with fail
    obtain⟨d0,d1⟩:=vT.out wr HBX.out;go_quiet ((go_at_call 108;exact Calls.quiet_of_same (wT _).out));cases q
    all_goals
     go_wp2_with fail;go_ret2;exact⟨by rw[HZ.out];rfl,A8 HBw.out nq⟩
  by_cases h9:9<=op/\op<=12
  ·have p:z=okE 4 (gV Z G):=by
    rw[r,←g0,←g1];unfold wrE;rw[Ao rF,Ao h78,Ap h9]
   have o1:(op==1)=false:=Af.2 rF;have o2:(op==2)=false:=Af.2 rF;have o3:(op==3)=false:=Af.2 rF;have o4:(op==4)=false:=Af.2 rF;have o5:(op==5)=false:=Af.2 rF;have o6:(op==6)=false:=Af.2 rF;have o7:(op==7)=false:=Af.2 rF;have o8:(op==8)=false:=Af.2 rF;obtain⟨q9,wU⟩:∃q,(op==9)=q:=⟨_,rfl⟩;obtain⟨wV,y8⟩:∃q,(op==10)=q:=⟨_,rfl⟩;obtain⟨wW,y9⟩:∃q,(op==11)=q:=⟨_,rfl⟩;obtain⟨wX,uR⟩:∃q,(op==12)=q:=⟨_,rfl⟩
   have wY:(((q9||wV)||wW)||wX)=true:=by
    subst wU y8 y9 uR;exact zwj
   have wZ:=Ax wY;have HZ:=Ax p;have xA:=Ax (And.intro b0 b1);obtain⟨d0,d1⟩:=vT.out wr (Aq _ _);clear r p ha hd U D f8 E c0 c1 b0 b1 g0 g1 F uU k8 l7 vS h78 h9 wY;go_upto_region 30 with fail
   go_cut [91] from 92 to 92 (fun u91 wx=>u91= .bool q9/\wx=wr)
   case first=>
    clear y8 y9 uR;exact zyz
   obtain⟨rfl,xB⟩:=hcut;rw[xB];clear xB
   go_upto_if 91 with fail
   go_cut [91] from 93 to 95 (fun u91 wx=>u91= .bool true/\wx=wr)
   case first=>
    cases q9 with
    |true=>
     exact zyz
    |false=>
     cases wV with
     |true=>
      exact zyz
     |false=>
      cases wW with
      |true=>
       exact zyz
      |false=>
       cases wX with
       |true=>
        exact zyz
       |false=>cases wZ.out
   case rest=>
    obtain⟨rfl,rfl⟩:=hcut;obtain⟨b0,b1⟩:=xA.out;clear wZ wU y8 y9 uR xA;rcases (show Z=0\/Z=1\/Z=2\/Z=3\/Z=4\/Z=5 by omega) with rfl|rfl|rfl|rfl|rfl|rfl
    all_goals
     clear b0;rcases (show G=0\/G=1\/G=2\/G=3\/G=4\/G=5 by omega) with rfl|rfl|rfl|rfl|rfl|rfl
     all_goals
      clear b1;go_wp2_with go_in;go_ret2;exact⟨by rw[HZ.out];rfl,HBw.out⟩
  have xJ:op=26:=by omega
  subst xJ
  have xK:3<=u.length:=by
   have e:(Cr 26).1=3:=rfl;rw[e] at f8;rw[uZ.out];exact f8
  obtain⟨_,_,e1,c2⟩:=E 2 rF;injection e1 with e1;injection e1 with e2 e3;subst e2 e3;have g2:u.getD 2 0=u[2]:=by rw[List.getD_eq_getElem?_getD,Ag rF,Option.getD_some]
  obtain⟨k2,xC⟩:∃x,u[2]=x:=⟨_,rfl⟩;rw[xC] at c2 g2;have l2:2<u.length:=by omega
  have xT:(2:Int)<(u.length:Int):=by omega
  have HK3:Hid (∀V,Below wr.heap.size wr V->(V.cell? ⟨kb,Y,none⟩=some (.int .u8 Z)/\V.cell? ⟨kb,Y+1,none⟩=some (.int .u8 G)/\V.cell? ⟨kb,Y+2,none⟩=some (.int .u8 k2))):=Ax fun V hV=>⟨A4 hV c0,A4 hV c1,A4 hV c2⟩
  have p:z=okE (if G=0 then k2 else G) (((Z==4||Z==0) && true) && (G==k2||G==0||k2==0)):=by
   rw[r,←g0,←g1,←g2];rfl
  have HGo:=fun V=>Ax (nO Z 4 V)
  obtain⟨q,hq⟩:∃q,(Z==4||Z==0)=q:=⟨_,rfl⟩;obtain⟨f,hf⟩:∃f,(G==k2)=f:=⟨_,rfl⟩;obtain⟨t,ht⟩:∃t,(k2==0)=t:=⟨_,rfl⟩;obtain⟨kd,T⟩:∃k,(if G=0 then k2 else G)=k:=⟨_,rfl⟩;rw[hq,hf,ht,T] at p;rw[hq] at HGo;have xU:=HBw;clear r hq ha hd U D f8 E c0 c1 c2 b0 b1 g0 g1 g2 F uU xC k8 l7 vS h78 h9 xK vT;cases hg:(G==0) with
  |true=>
   rw[Ap (by simpa using hg)] at T;subst T;rw[hg] at p;have HZ:=Ax p;clear p;go_upto_region 45 with fail
   obtain⟨d0,d1,d2⟩:=HK3.out wr HBX.out;cases q with
   |false=>
    exact zzp
   |true=>
    cases f with
    |true=>
     exact zzp
    |false=>
     exact zzp
  |false=>
   rw[Ao (by simpa using hg)] at T;subst T;rw[hg] at p;have HZ:=Ax p;clear p;go_upto_region 45 with fail
   obtain⟨d0,d1,d2⟩:=HK3.out wr HBX.out;cases q with
   |false=>
    exact zzp
   |true=>
    cases f with
    |true=>
     exact zzp
    |false=>
     cases t
     all_goals
      exact zzp
end Go.Proofs.YtgfakdobajgnfaaGreatDoor
