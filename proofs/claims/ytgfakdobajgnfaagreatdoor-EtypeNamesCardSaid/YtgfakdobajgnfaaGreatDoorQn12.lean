import Derived.Great.BuildSlice
import Derived.Deep.WholeRow
import Derived.Deep.RegionWith
import Derived.Test.YtgfakdobajgnfaaGreatDoorQn11
set_option maxRecDepth 100000
set_option maxHeartbeats 16000000
namespace Go.Proofs.YtgfakdobajgnfaaGreatDoor
open Go Go.RowKit Go.Lib Go.MapKept
theorem Rc {w:World}{b:Nat}{x y:Value}{t:TypeId}(h:w.heap[b]? =some (.cells #[x,y] t (0,0))):w.cell? ⟨b,0,none⟩=some x/\w.cell? ⟨b,1,none⟩=some y/\∀i,w.frozen? ⟨b,i,none⟩=false:=
 ⟨by simp only[World.cell?,h];rfl,by simp only[World.cell?,h];rfl,fun i=>by simp only[World.frozen?,h];simp⟩
def Ii (op:Int):Option (Int×Int):=if op=4\/op=5\/op=6 then some (4,4) else if op=21 then some (1,1) else if op=22 then some (3,1) else if op=23 then some (3,3) else if op=24\/op=25 then some (3,4) else none
def ofV (c:Int×Int):Value:= .agg #[.int .u8 c.1,.int .u8 c.2]
def Y6:List (Int×Value):=[(4,.agg #[.int .u8 4,.int .u8 4]),(5,.agg #[.int .u8 4,.int .u8 4]),(6,.agg #[.int .u8 4,.int .u8 4]),(21,.agg #[.int .u8 1,.int .u8 1]),(22,.agg #[.int .u8 3,.int .u8 1]),(23,.agg #[.int .u8 3,.int .u8 3]),(24,.agg #[.int .u8 3,.int .u8 4]),(25,.agg #[.int .u8 3,.int .u8 4])]
theorem Vj (op:Int):Wk Y6 op=(Ii op).map ofV:=by
 unfold Y6 Ii Wk;simp only[List.find?];by_cases h4:op=4
 ·subst h4;rfl
 by_cases h5:op=5
 ·subst h5;rfl
 by_cases h6:op=6
 ·subst h6;rfl
 by_cases h21:op=21
 ·subst h21;rfl
 by_cases h22:op=22
 ·subst h22;rfl
 by_cases h23:op=23
 ·subst h23;rfl
 by_cases h24:op=24
 ·subst h24;rfl
 by_cases h25:op=25
 ·subst h25;rfl
 have g4:((4:Int)==op)=false:=Af.2 (fun e=>h4 e.symm);have g5:((5:Int)==op)=false:=Af.2 (fun e=>h5 e.symm);have g6:((6:Int)==op)=false:=Af.2 (fun e=>h6 e.symm);have g21:((21:Int)==op)=false:=Af.2 (fun e=>h21 e.symm);have g22:((22:Int)==op)=false:=Af.2 (fun e=>h22 e.symm);have g23:((23:Int)==op)=false:=Af.2 (fun e=>h23 e.symm);have g24:((24:Int)==op)=false:=Af.2 (fun e=>h24 e.symm);have g25:((25:Int)==op)=false:=Af.2 (fun e=>h25 e.symm);rw[g4,g5,g6,g21,g22,g23,g24,g25];simp [h4,h5,h6,h21,h22,h23,h24,h25]
theorem mQ (w:World):(zeroValue 149).run Tryz.prog w= .ok (.agg #[.int .u8 0,.int .u8 0]) w:=by kernel_rfl
theorem Ia (op:Int)(w:World):Calls Tryz.prog 101 #[.int .u8 op] w fun e w'=>e= .returned (.tuple #[ofV ((Ii op).getD (0,0)),.bool (Ii op).isSome])/\Below w.heap.size w w':=by
 obtain⟨W0,hW0⟩:∃W0,w.alloc (.cells #[.int .u8 0,.int .u8 0] 149)=W0:=⟨_,rfl⟩;have hb0:Below w.heap.size w W0:=by rw[←hW0];exact(Aq w.heap.size w).alloc (Ak _) _
 have hbx:=A0 w (.cells #[.int .u8 0,.int .u8 0] 149);have hz0:W0.heap.size=w.heap.size+1:=by rw[←hW0];simp
 rw[hW0] at hbx;have m0:=Hu.new (K:= .u8) W0;have ha:Below W0.heap.size W0 (W0.alloc (.map #[] 0)):=(Aq _ _).alloc (Ak _) _;have hm0:(W0.alloc (.map #[] 0)).heap.size=W0.heap.size+1:=by simp
 obtain⟨M0,hM0⟩:∃M0,W0.alloc (.map #[] 0)=M0:=⟨_,rfl⟩;rw[hM0,hz0] at m0;rw[hM0] at ha hm0;obtain⟨M1,e1,m1,o1,z1⟩:=Cb (P:=Tryz.prog) (t:=201) Tryz.underlying201 Tryz.underlying5 m0 4 (.agg #[.int .u8 4,.int .u8 4]);obtain⟨M2,e2,m2,o2,z2⟩:=Cb (P:=Tryz.prog) (t:=201) Tryz.underlying201 Tryz.underlying5 m1 5 (.agg #[.int .u8 4,.int .u8 4]);obtain⟨M3,e3,m3,o3,z3⟩:=Cb (P:=Tryz.prog) (t:=201) Tryz.underlying201 Tryz.underlying5 m2 6 (.agg #[.int .u8 4,.int .u8 4]);obtain⟨M4,e4,m4,o4,z4⟩:=Cb (P:=Tryz.prog) (t:=201) Tryz.underlying201 Tryz.underlying5 m3 21 (.agg #[.int .u8 1,.int .u8 1]);obtain⟨M5,e5,m5,o5,z5⟩:=Cb (P:=Tryz.prog) (t:=201) Tryz.underlying201 Tryz.underlying5 m4 22 (.agg #[.int .u8 3,.int .u8 1]);obtain⟨M6,e6,m6,o6,z6⟩:=Cb (P:=Tryz.prog) (t:=201) Tryz.underlying201 Tryz.underlying5 m5 23 (.agg #[.int .u8 3,.int .u8 3]);obtain⟨M7,e7,m7,o7,z7⟩:=Cb (P:=Tryz.prog) (t:=201) Tryz.underlying201 Tryz.underlying5 m6 24 (.agg #[.int .u8 3,.int .u8 4]);obtain⟨M8,e8,m8,o8,z8⟩:=Cb (P:=Tryz.prog) (t:=201) Tryz.underlying201 Tryz.underlying5 m7 25 (.agg #[.int .u8 3,.int .u8 4]);have hlk:=Qi (P:=Tryz.prog) (t:=201) Tryz.underlying201 Tryz.underlying5 m8 (mQ M8) op;rw[show put (put (put (put (put (put (put (put (([]:List (Int×Value))) 4 (.agg #[.int .u8 4,.int .u8 4])) 5 (.agg #[.int .u8 4,.int .u8 4])) 6 (.agg #[.int .u8 4,.int .u8 4])) 21 (.agg #[.int .u8 1,.int .u8 1])) 22 (.agg #[.int .u8 3,.int .u8 1])) 23 (.agg #[.int .u8 3,.int .u8 3])) 24 (.agg #[.int .u8 3,.int .u8 4])) 25 (.agg #[.int .u8 3,.int .u8 4])=Y6 from rfl,Vj] at hlk;have hO:A8 [w.heap.size+1] M0 M8:=(((((((o1.trans o2).trans o3).trans o4).trans o5).trans o6).trans o7).trans o8);have hB3:Below w.heap.size w M8:=Bn (hb0.trans (ha.mono nU)) hO nW nU;have hx3:M8.heap[w.heap.size]? =some (.cells #[.int .u8 0,.int .u8 0] 149 (0,0)):=(hO.block _ nU nW).trans ((ha.block _ nU).trans hbx);have HW0:=Ax hW0;have HB3:=Ax hB3;have Hx3:=Ax hx3;have Hlk:=Ax hlk;have hlt:=Ay hx3;have hmm:= @run_makeMap Tryz.prog;clear hW0 hb0 hbx ha hm0 m0 m1 o1 z1 m2 o2 z2 m3 o3 z3 m4 o4 z4 m5 o5 z5 m6 o6 z6 m7 o7 z7 m8 o8 z8 hO hB3 hx3 hlk;go_enter Tryz.func101,Tryz.ntmps101;go_upto_region 1 with fail
 rw[HW0.out];clear HW0;cases hl:Ii op with
 |none=>
  have hlk:=Hlk.out;rw[hl] at hlk;simp only[Option.map_none,Ft] at hlk;obtain⟨f0,f1,f2⟩:=Rc Hx3.out;have Hl:=Ax hl;clear hl Hlk;go_wp2_with fail;refine Au (v:= .tuple #[.agg #[.int .u8 0,.int .u8 0],.bool false]) (by simp [results,Tryz.results101,go_sem, *]) rfl ?_;refine⟨by rw[Hl.out];rfl,?_⟩;exact((HB3.out.setCell (Ak _) _).setCell (Ak _) _).alloc oB _
 |some v=>
  have hlk:=Hlk.out;rw[hl] at hlk;simp only[Option.map_some,Ft] at hlk;obtain⟨va,vb⟩:=v;simp only[ofV] at hlk;obtain⟨f0,f1,f2⟩:=Rc Hx3.out;have Hl:=Ax hl;clear hl Hlk;go_wp2_with fail;refine Au (v:= .tuple #[.agg #[.int .u8 va,.int .u8 vb],.bool true]) (by simp [results,Tryz.results101,go_sem, *]) rfl ?_;refine⟨by rw[Hl.out];rfl,?_⟩;exact((HB3.out.setCell (Ak _) _).setCell (Ak _) _).alloc oB _
theorem Jo (b:Bool)(k:Int)(w:World):Calls Tryz.prog 102 #[.bool b,.int .u8 k] w fun e w'=>e= .returned (.int .u8 (if b then k else 255))/\Below w.heap.size w w':=by
 cases b
 all_goals
  go_enter Tryz.func102,Tryz.ntmps102;exact zyq
open Go Go.RowKit Go.Lib
def I3 (l:List Na)(vn:Nat):Bool:=Uh l||decide (40<vn)
theorem Zk {w:World}{v:Value}{l:List Na}(h:Qp w v l)(sa:Option Addr)(vn vc:Nat)(self:Int):Calls Tryz.prog 37 #[v,.agg #[.slice sa vn vc,.int .u8 self]] w fun e w'=>e= .returned (.bool (I3 l vn))/\Below w.heap.size w w':=by
 obtain⟨W,hW⟩:∃W,w.alloc (.cells #[.slice sa vn vc,.int .u8 self] 59)=W:=⟨_,rfl⟩;have hbW:Below w.heap.size w W:=by rw[←hW];exact(Aq _ w).alloc (Ak _) _
 have hpW:=A0 w (.cells #[.slice sa vn vc,.int .u8 self] 59);rw[hW] at hpW;have h:=h.below hbW;have HW:=Ax hW;have HBW:=Ax hbW;have hzW:=hbW.size;have HPW:=Ax hpW;clear hW hbW hpW;have HA:=Ax h;obtain⟨hlm,va,vc,rfl,hcells⟩:=h;have HC:=Ax hcells
 have hok:∀x∈l,x.Ok W:=fun x hx=>by
  obtain⟨i,hi,rfl⟩:=List.getElem_of_mem hx;obtain⟨_,_,_,_,q⟩:=hcells i hi;exact q
 have HO:=Ax hok;have HS:=Ax (aG hok);unfold maxLen at hlm;clear hcells hok;by_cases h70:70<l.length
 ·have hg:I3 l vn=true:=by unfold I3 Uh;rw[Am h70,Bool.true_or,Bool.true_or]
  rw[hg];have d1:decide ((70:Int)<(l.length:Int))=true:=Am nU;have d2:decide (70<l.length)=true:=Am h70;clear hg;go_enter Tryz.func37,Tryz.ntmps37;go_upto_region 1 with fail
  rw[HW.out];go_wp2_with fail
  go_loopw [5,9] (fun v3 v7 wr=>∃(j:Nat) (z:Int),j<=l.length/\v7= .int .i64 j/\v3= .int .i64 z/\Hid (Below W.heap.size W wr)) (fun _ v7 _=>l.length - (intOf v7).toNat)
  case atStart=>exact⟨0,0,Nat.zero_le _,rfl,rfl,Aq _ W⟩
  obtain⟨wo,rfl⟩:∃wo:World,wo=wr:=⟨_,rfl⟩;obtain⟨j,z,hj,rfl,rfl,hb⟩:=hrel;by_cases hjl:j<l.length
  ·obtain⟨b,off,rfl,hna,_⟩:=HC.out j hjl;have hna:=hna.below hb.out;obtain⟨_,_,_,x3,x4,x5,_,_⟩:=hna;have hok:=HO.out _ (List.getElem_mem hjl);have q1:=hok.s;have q2:=hok.name;have q3:=hok.n;unfold reachBytes at q1 q2 q3;unfold Na.kv at x5;obtain⟨⟨⟨op,⟨vk,vn,vs⟩,nm,ln,cl⟩,ka,kn,kc⟩,hx⟩:∃x,l[j]=x:=⟨_,rfl⟩;rw[hx] at x3 x4 x5 q1 q2 q3;simp only at x3 x4 x5 q1 q2 q3;have j0:(0:Int)<=(j:Int):=by omega
   have j1:(j:Int)<(l.length:Int):=by omega
   have j2:decide ((j:Int)<(l.length:Int))=true:=Am j1;have HB:=fun nq=>Ax (Bd hb.out nq)
   clear hb hok hx;go_wp2_with fail;go_quiet (fail);go_wp2_with fail;refine⟨⟨j+1,_,by omega,by go_num,rfl,HB _⟩,?_⟩;simp [intOf];omega
  obtain rfl:j=l.length:=by omega
  have j2:decide ((l.length:Int)<(l.length:Int))=false:=by simp
  have HB:=Ax hb.out;clear hb;go_wp2_with fail;go_ret;exact⟨rfl,HBW.out.trans (HB.out.mono hzW)⟩
 have hg:I3 l vn=(decide (3000<Kd l)||decide (40<vn)):=by unfold I3 Uh;rw[An h70,Bool.false_or]
 rw[hg];have d1:decide ((70:Int)<(l.length:Int))=false:=An nU;have d2:decide (70<l.length)=false:=An h70;clear hg;go_enter Tryz.func37,Tryz.ntmps37;go_upto_region 1 with fail
 rw[HW.out];go_wp2_with fail
 go_loopw [5,9] (fun v3 v7 wr=>∃(j:Nat),j<=l.length/\v7= .int .i64 j/\v3= .int .i64 (Kd (l.take j):Nat)/\Hid (Below W.heap.size W wr)) (fun _ v7 _=>l.length - (intOf v7).toNat)
 case atStart=>exact⟨0,Nat.zero_le _,rfl,rfl,Aq _ W⟩
 obtain⟨wo,rfl⟩:∃wo:World,wo=wr:=⟨_,rfl⟩;obtain⟨j,hj,rfl,rfl,hb⟩:=hrel;by_cases hjl:j<l.length
 ·obtain⟨b,off,rfl,hna,_⟩:=HC.out j hjl;have hna:=hna.below hb.out;obtain⟨_,_,_,x3,x4,x5,_,_⟩:=hna;have hok:=HO.out _ (List.getElem_mem hjl);have q1:=hok.s;have q2:=hok.name;have q3:=hok.n;unfold reachBytes at q1 q2 q3;unfold Na.kv at x5;have hst:=Ts hjl;have hsl:=HS.out j hj;have hsl:Kd (l.take j)<=29554872553758720:=by omega
  obtain⟨⟨⟨op,⟨vk,vn,vs⟩,nm,ln,cl⟩,ka,kn,kc⟩,hx⟩:∃x,l[j]=x:=⟨_,rfl⟩;rw[hx] at x3 x4 x5 q1 q2 q3 hst;simp only at x3 x4 x5 q1 q2 q3 hst;obtain⟨z,hz⟩:∃z,Kd (l.take j)=z:=⟨_,rfl⟩;rw[hz] at hst hsl;rw[hz];have j0:(0:Int)<=(j:Int):=by omega
  have j1:(j:Int)<(l.length:Int):=by omega
  have j2:decide ((j:Int)<(l.length:Int))=true:=Am j1;have HB:=fun nq=>Ax (Bd hb.out nq)
  have Hst:=Ax hst;clear hb hok hx hst hz;go_wp2_with fail;go_quiet (fail);go_wp2_with fail;refine⟨⟨j+1,by omega,by go_num,?_,HB _⟩,?_⟩
  ·rw[Hst.out];congr 1
  simp [intOf];omega
 obtain rfl:j=l.length:=by omega
 have j2:decide ((l.length:Int)<(l.length:Int))=false:=by simp
 have hd:decide ((3000:Int)<((Kd l:Nat):Int))=decide (3000<Kd l):=by
  by_cases e:3000<Kd l
  ·rw[Am e];exact Am nU
  rw[An e];exact An nU
 rw[List.take_length]
 have hv:decide ((40:Int)<(vn:Int))=decide (40<vn):=by
  by_cases e:40<vn
  ·rw[Am e];exact Am nU
  rw[An e];exact An nU
 obtain⟨s0,_,_⟩:=Be ((hb.out.block _ (Ay HPW.out)).trans HPW.out);have HB:=Ax (HBW.out.trans (hb.out.mono hzW));obtain⟨q,hq⟩:∃q,decide (3000<Kd l)=q:=⟨_,rfl⟩;obtain⟨p,hp⟩:∃p,decide (40<vn)=p:=⟨_,rfl⟩;rw[hq] at hd;rw[hp] at hv;obtain⟨z,hz⟩:∃z,Kd l=z:=⟨_,rfl⟩;rw[hz] at hd ⊢;have HQ:=Ax hq;have HP:=Ax hp;clear hb hq hp hz;cases q with
 |true=>
  clear hv;go_wp2_with fail;go_ret;exact⟨by rw[HQ.out];rfl,HB.out⟩
 |false=>
  go_wp2_with fail;go_ret;exact⟨by rw[HQ.out,HP.out];rfl,HB.out⟩
open Go Go.RowKit Go.Lib Go.Sort Go.Shelf
def Ds (op:Int):Nat×Nat:=if(4<=op/\op<=5)\/(7<=op/\op<=16)\/op=21\/op=24\/op=25 then(2,2) else if op=6\/op=17\/op=18\/op=22\/op=23 then(1,1)
 else if op=19\/op=20 then(1,8) else if op=26 then(3,3) else(0,0)
structure Ut (h:Hd)(k:Nat):Prop where
 few:(Ds h.op).1<=k
 many:k<=(Ds h.op).2
 op1:1<=h.op
 op2:h.op<=26
 line:1<=h.line
 col:1<=h.col
 v:h.op≠1->h.v=v0
 name:h.op=2->Hy h.name=true
 anon:h.op≠2->h.name=[]
theorem G7 {h:Hd}{k:Nat}(o:Int)(ho:h.op=o)(hk:(Ds o).1<=k/\k<=(Ds o).2/\1<=o/\o<=26)(hl:1<=h.line)(hc:1<=h.col)(hv:o≠1->h.v=v0)(hn:o=2->Hy h.name=true)(ha:o≠2->h.name=[]):Ut h k:=by
 subst ho;exact⟨hk.1,hk.2.1,hk.2.2.1,hk.2.2.2,hl,hc,hv,hn,ha⟩
theorem Ns {r:List Tkn}:∀{l:List (List UInt8×Int)},B2 r l≠0->B2 r l∈l.map Prod.snd
 |[],h=>absurd rfl h
 |(s,o)::l,h=>by
  unfold B2 at h ⊢;by_cases e:isH s r=true
  ·rw[Ap e];exact Ai
  rw[Ao e] at h ⊢;exact Aj _ (Ns h)
theorem Mm (n:Nat):∀o∈(Bq n).map Prod.snd,(4<=o/\o<=5)\/(7<=o/\o<=16):=by
 unfold Bq
 repeat' split
 all_goals first|decide|(intro o ho;cases ho)
theorem Qy {l:List UInt8}{ts:List Tkn}(h:Fb l= .ok ts){a:Ex}{q:List Tkn}(hx:A9 0 0 ts= .ok (a,q)):a.All Ut:=by
 refine Ub (P:=Ut) (W:=fun t=>Sd t.w/\1<=t.line/\1<=t.col) ?_ ?_ ?_ ?_ (.lvl 0) 0 ts qG trivial (fun t ht=>⟨Nh h t ht,(Jz h t ht).1,(Jz h t ht).2.2.1⟩) a q hx
 ·rintro t hd ⟨hf,hl,hc⟩ he;unfold Da at he;by_cases h1:t.w.k=4\/t.w.k=5\/t.w.k=6
  ·rw[Ap h1] at he;injection he with he;subst he;exact G7 1 rfl nV hl hc (fun e=>absurd rfl e) (fun e=>absurd e nV) fun _=>rfl
  rw[Ao h1] at he;by_cases h2:t.w.k=2
  ·rw[Ap h2] at he;injection he with he;subst he;refine G7 2 rfl nV hl hc (fun _=>rfl) (fun _=>?_) fun e=>absurd rfl e
   show Hy t.w.t=true;cases hf with
   |var _ ht _=>exact ht
   |name h _ _=>omega
   |self h _ _=>omega
   |num h _ _=>omega
   |str h _ _ _=>omega
   |sym h _ _=>omega
   |sign h _ _=>omega
  rw[Ao h2] at he;by_cases h3:t.w.k=3
  ·rw[Ap h3] at he;injection he with he;subst he;exact G7 3 rfl nV hl hc (fun _=>rfl) (fun e=>absurd e nV) fun _=>rfl
  rw[Ao h3] at he;by_cases h4:t.w.k=1
  ·rw[Ap h4] at he;cases hcl:C9 t.w.t with
   |some c=>rw[hcl] at he;cases he
   |none=>
    rw[hcl] at he;cases hll:Kb t.w.t with
    |none=>rw[hll] at he;cases he
    |some v=>
     rw[hll] at he;injection he with he;subst he;exact G7 1 rfl nV hl hc (fun e=>absurd rfl e) (fun e=>absurd e nV) fun _=>rfl
  rw[Ao h4] at he;cases he
 ·rintro n t hn ⟨hf,hl,hc⟩;rcases hn with rfl|rfl
  ·exact G7 6 rfl nV hl hc (fun _=>rfl) (fun e=>absurd e nV) fun _=>rfl
  exact G7 17 rfl nV hl hc (fun _=>rfl) (fun e=>absurd e nV) fun _=>rfl
 ·rintro n t r ⟨hf,hl,hc⟩ hz;have ho:=Mm n _ (Ns hz);obtain⟨o,hoo⟩:∃o,B2 (t::r) (Bq n)=o:=⟨_,rfl⟩;rw[hoo] at ho ⊢
  have hk:Ds o=(2,2):=by
   unfold Ds;rw[Ap nU]
  refine⟨?_,?_,?_,?_,hl,hc,fun _=>rfl,fun e=>?_,fun _=>rfl⟩
  ·show(Ds o).1<=2
   rw[hk];decide
  ·show 2<=(Ds o).2;rw[hk];decide
  ·show 1<=o;omega
  ·show o<=26;omega
  have:o=2:=e
  omega
 rintro t c k ⟨hf,hl,hc⟩ he h1 h2;obtain⟨_,hcl,hln,hco,_⟩:=N4 he
 have hk:Ds c.op=(c.least,c.most)/\18<=c.op/\c.op<=26:=by
  unfold C9 at hcl
  repeat' split at hcl
  all_goals first|(injection hcl with hcl;injection hcl with e1 e2;injection e2 with e2 e3;rw[←e1,←e2,←e3];decide)|cases hcl
 refine⟨?_,?_,?_,?_,?_,?_,fun _=>rfl,fun e=>?_,fun _=>rfl⟩
 ·show(Ds c.op).1<=k
  rw[hk.1];exact h1
 ·show k<=(Ds c.op).2;rw[hk.1];exact h2
 ·show 1<=c.op;omega
 ·show c.op<=26;omega
 ·show 1<=c.line;omega
 ·show 1<=c.col;omega
 have:c.op=2:=e
 omega
open Go Go.RowKit Go.Lib Go.Sort Go.Shelf
def F7 (w:World)(b:Nat)(l:List Nat):Prop:=w.heap[b]? =some (.cells (Fo l).toArray 3 (0,0))
theorem F7.cell {w:World}{b:Nat}{l:List Nat}(h:F7 w b l){i:Nat}{x:Nat}(hx:l[i]? =some x):w.cell? ⟨b,i,none⟩=some (.int .i64 (x:Int)):=by
 unfold F7 at h;simp only[World.cell?,h];simp [Fo,hx]
theorem F7.frozen {w:World}{b:Nat}{l:List Nat}(h:F7 w b l)(i:Nat):w.frozen? ⟨b,i,none⟩=false:=by
 unfold F7 at h;simp only[World.frozen?,h];simp
theorem F7.set {w:World}{b:Nat}{l:List Nat}(h:F7 w b l)(i x:Nat):F7 (w.setCell ⟨b,i,none⟩ (.int .i64 (x:Int))) b (l.set i x):=by
 unfold F7 at h ⊢;rw[A2 h];congr 2;apply Array.ext';simp [Fo,List.map_set]
theorem F7.below {w w':World}{b:Nat}{l:List Nat}(h:F7 w b l)(hb:Below w.heap.size w w'):F7 w' b l:=(hb.block b (Ay h)).trans h
theorem cQ {l:List UInt8}{p:(Int×Int)×Int}(h:Cm l= .error p):p.2≠0:=by
 unfold Cm at h;cases hl:Fb l with
 |error e=>
  obtain⟨a,b,q⟩:=e;rw[hl] at h;injection h with h
  have:=((J2 _ l 1 1 (Ak _) nV).1 a b q hl).2.2
  rw[←h];show q≠0;omega
 |ok ts=>
  rw[hl] at h;simp only at h;cases hx:A9 0 0 ts with
  |error e=>
   obtain⟨er,q⟩:=e;rw[hx] at h;injection h with h
   have:=Vt (.lvl 0) 0 ts qG _ (show exE (.lvl 0) 0 ts=_ from hx)
   rw[←h];show er≠0;simp only at this;omega
  |ok x=>
   obtain⟨a,q⟩:=x;rw[hx] at h;simp only at h
   split at h
   ·injection h with h;rw[←h]
    show(7:Int)≠0
    decide
   split at h
   ·cases h
   injection h with h;rw[←h]
   show(4:Int)≠0
   decide
theorem Ky {l:List UInt8}{a:Ex}(h:Cm l= .ok a):∃ts,Fb l= .ok ts/\A9 0 0 ts= .ok (a,[])/\a.size<=60:=by
 unfold Cm at h;cases hl:Fb l with
 |error e=>rw[hl] at h;cases h
 |ok ts=>
  rw[hl] at h;simp only at h;cases hx:A9 0 0 ts with
  |error e=>rw[hx] at h;cases h
  |ok x=>
   obtain⟨b,q⟩:=x;rw[hx] at h;simp only at h
   split at h
   ·cases h
   rename_i h60
   split at h
   ·rename_i hq
    injection h with h;subst h;subst hq;exact⟨ts,rfl,hx,by omega⟩
   cases h
theorem fG {l:List UInt8}{a:Ex}(h:Cm l= .ok a):a.All Ut:=by
 obtain⟨ts,h1,h2,_⟩:=Ky h;exact Qy h1 h2
theorem hH (op:Int):(Ds op).2<=8:=by
 unfold Ds
 repeat' split
 all_goals decide
theorem Sg {l:List UInt8}{a:Ex}(h:Cm l= .ok a):nM (a.flat 0):=fun n hn=>by
 have h1:=Qr a 0 (fG h) n hn;have h2:=h1.many;have h3:=hH n.h.op;omega
open Go Go.RowKit Go.Lib Go.Sort Go.Shelf
theorem Below.drewN' {B:Nat}{a:World}:∀(n:Nat) {w:World},Below B a w->Below B a (w.drewN n)
 |0,_,h=>h
 |n+1,_,h=>(Below.drewN' n h).drew
open Go Go.RowKit Go.Lib Go.Sort Go.Shelf
def nA (s:List UInt8):Int:=if s=[111,114]\/s=[97,110,100] then 1 else 7
open Go Go.Lib
def Sep (r:List UInt8):Prop:=∀c,r.head? =some c->c=32\/c=40\/c=41\/c=44
theorem Sep.nam {r:List UInt8}(h:Sep r):∀c,r.head? =some c->Co c=false:=fun c hc=>by
 rcases h c hc with rfl|rfl|rfl|rfl<;>rfl
theorem Sep.point {r:List UInt8}(h:Sep r):r.head?≠some 46:=fun e=>by
 rcases h _ e with h|h|h|h<;>cases h
theorem cS (us vs:List Tkn)(x:Except (Int×Int×Int) (List Tkn)):I4 (.ok us) (I4 (.ok vs) x)=I4 (.ok (us++vs)) x:=by
 cases x with
 |error e=>rfl
 |ok ts=>simp [I4]
open Go Go.Lib
def Mw (op:Int):List UInt8×Nat:=
 if op=4 then([111,114],0) else if op=5 then([97,110,100],1) else if op=6 then([110,111,116,32],2)
 else if op=7 then([61],3) else if op=8 then([60,62],3) else if op=9 then([60],3) else if op=10 then([60,61],3) else if op=11 then([62],3) else if op=12 then([62,61],3)
 else if op=13 then([43],4) else if op=14 then([45],4) else if op=15 then([42],5) else if op=16 then([47],5) else if op=17 then([45],6)
 else if op=18 then([97,98,115],8) else if op=19 then([109,105,110],8) else if op=20 then([109,97,120],8) else if op=21 then([109,111,100],8) else if op=22 then([108,101,110,103,116,104],8)
 else if op=23 then([117,112,112,101,114],8) else if op=24 then([99,111,110,116,97,105,110,115],8) else if op=25 then([115,116,97,114,116,115],8) else if op=26 then([105,102],8) else([],8)
def D0 (op:Int):List UInt8:=(Mw op).1
def Bc (op:Int):Nat:=(Mw op).2
def R5 (op:Int):Prop:=op=4\/op=5\/op=7\/op=8\/op=9\/op=10\/op=11\/op=12\/op=13\/op=14\/op=15\/op=16
theorem fQ {op:Int}(h:R5 op):Bc op<=5/\Bc op≠2:=by
 rcases h with rfl|rfl|rfl|rfl|rfl|rfl|rfl|rfl|rfl|rfl|rfl|rfl<;>decide
theorem lY {op:Int}(h:R5 op):Ds op=(2,2):=by
 rcases h with rfl|rfl|rfl|rfl|rfl|rfl|rfl|rfl|rfl|rfl|rfl|rfl<;>decide
def G0 (op:Int):Prop:=op=18\/op=19\/op=20\/op=21\/op=22\/op=23\/op=24\/op=25\/op=26
theorem Mx {op:Int}(h:G0 op):Bc op=8:=by
 rcases h with rfl|rfl|rfl|rfl|rfl|rfl|rfl|rfl|rfl<;>rfl
theorem cM {op:Int}(h:G0 op)(l c:Int):Eb ⟨⟨1,D0 op,v0⟩,l,c⟩=some ⟨op,(Ds op).1,(Ds op).2,l,c⟩/\Da ⟨⟨1,D0 op,v0⟩,l,c⟩=none/\Sd ⟨1,D0 op,v0⟩/\1<=(Ds op).1/\(Ds op).2<=8:=by
 rcases h with rfl|rfl|rfl|rfl|rfl|rfl|rfl|rfl|rfl<;>exact⟨rfl,rfl,.name rfl nV rfl,by decide,by decide⟩
theorem Vu {t:Tkn}{c:Cl}(h:Eb t=some c):G0 c.op/\c.least=(Ds c.op).1/\c.most=(Ds c.op).2:=by
 obtain⟨_,h2,_⟩:=N4 h;obtain⟨op,le,mo,l,k⟩:=c;simp only at h2 ⊢;unfold C9 at h2
 repeat' split at h2
 all_goals first
  |(cases h2;done)
  |(injection h2 with h2
    simp only[Prod.mk.injEq] at h2;obtain⟨rfl,rfl,rfl⟩:=h2
    exact⟨by unfold G0;decide,rfl,rfl⟩)
def Lr (h:Hd):List UInt8:=if h.op=1 then Cy h.v.1 h.v.2.1 h.v.2.2 else if h.op=2 then 63::h.name else[63]
def Nn (h:Hd):Wd:=
 if h.op=2 then⟨2,h.name,v0⟩ else if h.op=3 then⟨3,[],v0⟩ else if h.v.1=1\/h.v.1=2 then⟨4,P0 h.v.1 h.v.2.1 h.v.2.2,h.v⟩
 else if h.v.1=3 then⟨5,Ka h.v.2.2,h.v⟩ else if h.v.1=5 then⟨6,h.v.2.2,h.v⟩ else⟨1,P0 h.v.1 h.v.2.1 h.v.2.2,v0⟩
theorem bW {t:Tkn}{h:Hd}(hf:Sd t.w)(he:Da t=some h):Nn h=t.w/\Jg t.w=Lr h/\(Lr h).length<=402/\t.w.k≠7/\1<=h.op/\h.op<=3:=by
 obtain⟨⟨k,t,v⟩,l,c⟩:=t;unfold Da at he;simp only at he;cases hf with
 |name hk ht hv=>
  simp only at hk ht hv;subst hk hv;rw[Ao nV,Ao nV,Ao nV,Ap rfl] at he
  have key:∀v,Kb t=some v->h=⟨1,v,[],l,c⟩->Nn h=⟨1,t,v0⟩/\Jg ⟨1,t,v0⟩=Lr h/\(Lr h).length<=402/\(1:Int)≠7/\1<=h.op/\h.op<=3:=fun v hl hh=>by
   subst hh;unfold Kb at hl;by_cases h1:t=[116,114,117,101]
   ·rw[Ap h1] at hl;injection hl with hl;subst hl h1;exact⟨rfl,rfl,(by decide:(Cy 4 1 []).length<=402),by decide,(by decide:(1:Int)<=1),(by decide:(1:Int)<=3)⟩
   rw[Ao h1] at hl;by_cases h2:t=[102,97,108,115,101]
   ·rw[Ap h2] at hl;injection hl with hl;subst hl h2;exact⟨rfl,rfl,(by decide:(Cy 4 0 []).length<=402),by decide,(by decide:(1:Int)<=1),(by decide:(1:Int)<=3)⟩
   rw[Ao h2] at hl;by_cases h3:t=[110,117,108,108]
   ·rw[Ap h3] at hl;injection hl with hl;subst hl h3;exact⟨rfl,rfl,(by decide:(Cy 0 0 []).length<=402),by decide,(by decide:(1:Int)<=1),(by decide:(1:Int)<=3)⟩
   rw[Ao h3] at hl;cases hl
  cases hc:C9 t with
  |some x=>rw[hc] at he;cases he
  |none=>
   rw[hc] at he;cases hl:Kb t with
   |none=>rw[hl] at he;cases he
   |some v=>
    rw[hl] at he;injection he with he;exact key v hl he.symm
 |var hk ht hv=>
  simp only at hk ht hv;subst hk hv;rw[Ao nV,Ap rfl] at he;injection he with he;subst he;refine⟨rfl,rfl,?_,by simp,by simp,by simp⟩
  have:=(Fi ht).2.1
  show(63::t).length<=402
  simp only[Aa];omega
 |self hk ht hv=>
  simp only at hk ht hv;subst hk ht hv;rw[Ao nV,Ao nV,Ap rfl] at he;injection he with he;subst he;exact⟨rfl,rfl,(by decide:[(63:UInt8)].length<=402),(by decide:(3:Int)≠7),(by decide:(1:Int)<=3),(by decide:(3:Int)<=3)⟩
 |num hk ht hm=>
  simp only at hk ht hm;subst hk;rw[Ap nV] at he;injection he with he;subst he;obtain⟨vk,vn,vs⟩:=v;obtain⟨h1,h2,h3,h4⟩:=Um ht;obtain⟨c1,q,e,hd,hn⟩:=hm;have hkd:=Sl h1 (n:=vn);rw[h2,Qh e (.inr hd)] at hkd;have hk12:vk=1\/vk=2:=by split at hkd<;>omega
  have hT':Lr ⟨1,(vk,vn,vs),[],l,c⟩=t:=by
   show Cy vk vn vs=t;unfold Cy;rw[Ap h1,h2]
  refine⟨?_,hT'.symm▸rfl,by rw[hT'];exact h4,by simp,by simp,by simp⟩
  show(if vk=1\/vk=2 then(⟨4,P0 vk vn vs,(vk,vn,vs)⟩:Wd) else _)=_
  rw[Ap hk12,h2]
 |str hk ht hm hs=>
  simp only at hk ht hm hs;subst hk;rw[Ap nV] at he;injection he with he;subst he;obtain⟨vk,vn,vs⟩:=v;obtain⟨h1,h2,h3,h4⟩:=Um ht;have hkd:=Sl h1 (n:=vn);rw[h2] at hkd;have hk3:vk=3:=by rw[←hkd];rfl
  subst hk3;have h5:34::(Ka vs++[34])=34::t++[34]:=h2
  have h6:Ka vs=t:=by
   rw[List.cons_append] at h5;injection h5 with _ h5;exact List.append_cancel_right h5
  have hT:Lr ⟨1,(3,vn,vs),[],l,c⟩=34::(t++[34]):=by
   show Cy 3 vn vs=_;unfold Cy;rw[Ap h1,h2];rfl
  refine⟨?_,hT.symm▸rfl,?_,by simp,by simp,by simp⟩
  ·show(⟨5,Ka vs,(3,vn,vs)⟩:Wd)=_
   rw[h6]
  rw[hT];simpa using h4
 |sym hk ht hv=>
  simp only at hk ht hv;subst hk hv;rw[Ap nV] at he;injection he with he;subst he
  have hT:Lr ⟨1,(5,0,t),[],l,c⟩=35::t:=by
   show Cy 5 0 t=_;unfold Cy;rw[Ap (by show(decide ((0:Int)=0) && Hy t)=true;rw[ht];rfl)];rfl
  refine⟨rfl,hT.symm▸rfl,?_,by simp,by simp,by simp⟩;rw[hT]
  have:=(Fi ht).2.1
  simp only[Aa];omega
 |sign hk _ _=>
  simp only at hk;subst hk;rw[Ao nV,Ao nV,Ao nV,Ao nV] at he;cases he
structure L9 (h:Hd):Prop where
 form:Sd (Nn h)
 ne7:(Nn h).k≠7
 again:∀l c,(Da ⟨Nn h,l,c⟩).map Hd.bare=some h.bare
 spell:Jg (Nn h)=Lr h
 short:(Lr h).length<=402
theorem jT {t:Tkn}{h:Hd}(hf:Sd t.w)(he:Da t=some h):L9 h:=by
 obtain⟨h1,h2,h3,h4,_,_⟩:=bW hf he;refine⟨h1▸hf,h1▸h4,fun l c=>?_,h1▸h2,h3⟩;rw[h1,Zg (t:=t) (t':=⟨t.w,l,c⟩) rfl,he];rfl
structure Rp (h:Hd)(k:Nat):Prop where
 few:(Ds h.op).1<=k
 many:k<=(Ds h.op).2
 op1:1<=h.op
 op2:h.op<=26
 leaf:h.op<=3->L9 h
 inner:3<h.op->h.v=v0/\h.name=[]
theorem Sm {l:List UInt8}{a:Ex}(h:Cm l= .ok a):a.All Rp:=by
 obtain⟨ts,h1,h2,_⟩:=Ky h;have hn:=Qy h1 h2
 have hl:a.All (fun h k=>h.op<=3->L9 h):=by
  refine Ub (P:=fun h _=>h.op<=3->L9 h) (W:=fun t=>Sd t.w) ?_ ?_ ?_ ?_ (.lvl 0) 0 ts qG trivial (fun t ht=>Nh h1 t ht) a [] h2
  ·exact fun t hd hf he _=>jT hf he
  ·intro n t hn _ h3
   have:=(show 3<K5 n by rcases hn with rfl|rfl<;>decide)
   have h4:K5 n<=3:=h3;omega
  ·intro n t q _ hz h3
   have:=Mm n _ (Ns hz)
   simp only at h3;omega
  intro t c k _ hc _ _ h3;have h4:=(Vu hc).1;unfold G0 at h4;simp only at h3;omega
 refine(hn.and hl).mono fun h k hh=>⟨hh.1.few,hh.1.many,hh.1.op1,hh.1.op2,hh.2,fun h3=>⟨hh.1.v nU,hh.1.anon nU⟩⟩
open Go Go.Lib
def Ny (t:List UInt8):List UInt8:=40::(t++[41])
def Yx (l:List (Int×List UInt8))(k least:Nat):List UInt8:=match l[k]? with
 |none=>[]
 |some p=>if Bc p.1<least then Ny p.2 else p.2
def Wu (h:Hd)(l:List (Int×List UInt8)):List UInt8:=
 if h.op<=3 then Lr h else if Bc h.op=8 then D0 h.op++Ny (I6 [44,32] (l.map Prod.snd))
 else if Bc h.op=2\/Bc h.op=6 then D0 h.op++Yx l 0 (Bc h.op)
 else if Bc h.op=3 then Yx l 0 4++32::(D0 h.op++32::Yx l 1 4)
 else Yx l 0 (Bc h.op)++32::(D0 h.op++32::Yx l 1 (Bc h.op+1))
mutual
def Ex.text:Ex->List UInt8| .mk h ks=>Wu h (Mg ks)
def Mg:List Ex->List (Int×List UInt8)|[]=>[]|e::es=>(e.hd.op,e.text)::Mg es
end
theorem Ry:∀l:List Ex,Mg l=l.map fun e=>(e.hd.op,e.text)
 |[]=>rfl
 |e::l=>by rw[Mg,Ry l,List.map_cons]
def Mo (n:Nat)(e:Ex):List UInt8:=if Bc e.hd.op<n then Ny e.text else e.text
def Qj (s:List UInt8):Wd:=⟨7,s,v0⟩
def kJ (ws:List Wd):List Wd:=Qj [40]::(ws++[Qj [41]])
def Va (l:List (Int×List Wd))(k least:Nat):List Wd:=match l[k]? with
 |none=>[]
 |some p=>if Bc p.1<least then kJ p.2 else p.2
def gA:List (List Wd)->List Wd
 |[]=>[]
 |[x]=>x
 |x::y::r=>x++Qj [44]::gA (y::r)
def mV (op:Int):Wd:=⟨nA (D0 op),D0 op,v0⟩
def Zw (h:Hd)(l:List (Int×List Wd)):List Wd:=
 if h.op<=3 then[Nn h] else if Bc h.op=8 then⟨1,D0 h.op,v0⟩::kJ (gA (l.map Prod.snd))
 else if Bc h.op=2 then⟨1,[110,111,116],v0⟩::Va l 0 2 else if Bc h.op=6 then Qj [45]::Va l 0 6
 else if Bc h.op=3 then Va l 0 4++mV h.op::Va l 1 4
 else Va l 0 (Bc h.op)++mV h.op::Va l 1 (Bc h.op+1)
mutual
def Ex.words:Ex->List Wd| .mk h ks=>Zw h (Oe ks)
def Oe:List Ex->List (Int×List Wd)|[]=>[]|e::es=>(e.hd.op,e.words)::Oe es
end
theorem Q7:∀l:List Ex,Oe l=l.map fun e=>(e.hd.op,e.words)
 |[]=>rfl
 |e::l=>by rw[Oe,Q7 l,List.map_cons]
def Ob (n:Nat)(e:Ex):List Wd:=if Bc e.hd.op<n then kJ e.words else e.words
def Zo (l:List (Int×Nat))(k least:Nat):Nat:=match l[k]? with
 |none=>0
 |some p=>if Bc p.1<least then p.2+1 else p.2
def eD:List Nat->Nat
 |[]=>0
 |n::l=>max n (eD l)
def Z3 (h:Hd)(l:List (Int×Nat)):Nat:=
 if h.op<=3 then 0 else if Bc h.op=8 then 1+eD (l.map Prod.snd)
 else if Bc h.op=2\/Bc h.op=6 then 1+Zo l 0 (Bc h.op)
 else if Bc h.op=3 then max (Zo l 0 4) (Zo l 1 4)
 else max (Zo l 0 (Bc h.op)) (Zo l 1 (Bc h.op+1))
mutual
def Ex.need:Ex->Nat| .mk h ks=>Z3 h (Og ks)
def Og:List Ex->List (Int×Nat)|[]=>[]|e::es=>(e.hd.op,e.need)::Og es
end
theorem Qk:∀l:List Ex,Og l=l.map fun e=>(e.hd.op,e.need)
 |[]=>rfl
 |e::l=>by rw[Og,Qk l,List.map_cons]
def Ml (n:Nat)(e:Ex):Nat:=if Bc e.hd.op<n then e.need+1 else e.need
def Rk (n:Nat):Nat:=if n=3 then 4 else n
inductive Vx:Hd->List Ex->Prop where
 |leaf {h} (h1:1<=h.op) (h3:h.op<=3) (ok:L9 h):Vx h []
 |pre {h} {e} (n:Nat) (hn:n=2\/n=6) (ho:h.op=K5 n):Vx h [e]
 |mid {h} {e f} (hi:R5 h.op):Vx h [e,f]
 |call {h} {e es} (hc:G0 h.op) (h1:(Ds h.op).1<=(e::es).length) (h2:(e::es).length<=(Ds h.op).2):Vx h (e::es)
theorem Rr {h:Hd}{ks:List Ex}(g:Rp h ks.length):Vx h ks:=by
 have h1:=g.few;have h2:=g.many;have o1:=g.op1;have o2:=g.op2;have hc:h.op<=3\/(h.op=6\/h.op=17)\/R5 h.op\/G0 h.op:=by unfold R5 G0;omega
 rcases hc with hc|hc|hc|hc
 ·have:Ds h.op=(0,0):=by
   obtain e|e|e:h.op=1\/h.op=2\/h.op=3:=by omega
   all_goals rw[e];rfl
  rw[this] at h2
  have:ks=[]:=List.eq_nil_of_length_eq_zero (Nat.le_zero.1 h2)
  subst this;exact .leaf o1 hc (g.leaf hc)
 ·have:Ds h.op=(1,1):=by
   rcases hc with e|e<;>rw[e]<;>rfl
  rw[this] at h1 h2
  match ks,h1,h2 with
  |[e],_,_=>
   rcases hc with q|q
   ·exact .pre 2 (.inl rfl) q
   exact .pre 6 (.inr rfl) q
  |[],h1,_=>exact absurd h1 nW
  |_::_::_,_,h2=>exact absurd h2 nW
 ·rw[lY hc] at h1 h2
  match ks,h1,h2 with
  |[e,f],_,_=>exact .mid hc
  |[],h1,_=>exact absurd h1 nW
  |[_],h1,_=>exact absurd h1 nW
  |_::_::_::_,_,h2=>exact absurd h2 nW
 cases ks with
 |nil=>
  have:=(cM hc 0 0).2.2.2.1
  simp only[List.length_nil] at h1;omega
 |cons e es=>exact .call hc h1 h2
theorem bV {n:Nat}(hn:n=2\/n=6):Bc (K5 n)=n/\3<K5 n:=by
 rcases hn with rfl|rfl<;>decide
theorem fP {op:Int}(h:R5 op):¬op<=3:=by unfold R5 at h;omega
theorem Uo {op:Int}(h:G0 op):¬op<=3:=by unfold G0 at h;omega
theorem Zn (e:Ex)(es:List Ex)(n:Nat):Yx (Mg (e::es)) 0 n=Mo n e:=rfl
theorem iV (e f:Ex)(es:List Ex)(n:Nat):Yx (Mg (e::f::es)) 1 n=Mo n f:=rfl
theorem T4 (e:Ex)(es:List Ex)(n:Nat):Va (Oe (e::es)) 0 n=Ob n e:=rfl
theorem eZ (e f:Ex)(es:List Ex)(n:Nat):Va (Oe (e::f::es)) 1 n=Ob n f:=rfl
theorem Xl (e:Ex)(es:List Ex)(n:Nat):Zo (Og (e::es)) 0 n=Ml n e:=rfl
theorem gF (e f:Ex)(es:List Ex)(n:Nat):Zo (Og (e::f::es)) 1 n=Ml n f:=rfl
theorem fJ {h:Hd}{n:Nat}(hn:n=2\/n=6)(ho:h.op=K5 n)(e:Ex):(Ex.mk h [e]).text=D0 (K5 n)++Mo n e/\(Ex.mk h [e]).words=(if n=2 then⟨1,[110,111,116],v0⟩ else Qj [45])::Ob n e/\(Ex.mk h [e]).need=1+Ml n e:=by
 obtain⟨hl,hg⟩:=bV hn;have h3:¬K5 n<=3:=by omega
 have h8:¬n=8:=by omega
 refine⟨?_,?_,?_⟩
 ·rw[Ex.text];unfold Wu;rw[ho,Ao h3,hl,Ao h8,Ap hn,Zn]
 ·rw[Ex.words];unfold Zw;rw[ho,Ao h3,hl,Ao h8];rcases hn with rfl|rfl
  ·rw[Ap rfl,T4,Ap rfl]
  rw[Ao nV,Ap rfl,T4,Ao nV]
 rw[Ex.need];unfold Z3;rw[ho,Ao h3,hl,Ao h8,Ap hn,Xl]
theorem jG {h:Hd}(hi:R5 h.op)(e f:Ex):(Ex.mk h [e,f]).text=Mo (Rk (Bc h.op)) e++32::(D0 h.op++32::Mo (Bc h.op+1) f)/\(Ex.mk h [e,f]).words=Ob (Rk (Bc h.op)) e++mV h.op::Ob (Bc h.op+1) f/\
 (Ex.mk h [e,f]).need=max (Ml (Rk (Bc h.op)) e) (Ml (Bc h.op+1) f):=by
 obtain⟨h5,h2⟩:=fQ hi;have h8:¬Bc h.op=8:=by omega
 have h26:¬(Bc h.op=2\/Bc h.op=6):=by omega
 have h6:¬Bc h.op=6:=by omega
 refine⟨?_,?_,?_⟩
 ·rw[Ex.text];unfold Wu Rk;rw[Ao (fP hi),Ao h8,Ao h26,Zn,iV,Zn,iV];by_cases h3:Bc h.op=3
  ·rw[Ap h3,Ap h3,h3]
  rw[Ao h3,Ao h3]
 ·rw[Ex.words];unfold Zw Rk;rw[Ao (fP hi),Ao h8,Ao h2,Ao h6,T4,eZ,T4,eZ];by_cases h3:Bc h.op=3
  ·rw[Ap h3,Ap h3,h3]
  rw[Ao h3,Ao h3]
 rw[Ex.need];unfold Z3 Rk;rw[Ao (fP hi),Ao h8,Ao h26,Xl,gF,Xl,gF];by_cases h3:Bc h.op=3
 ·rw[Ap h3,Ap h3,h3]
 rw[Ao h3,Ao h3]
theorem Zq {h:Hd}(hc:G0 h.op)(ks:List Ex):(Ex.mk h ks).text=D0 h.op++Ny (I6 [44,32] (ks.map Ex.text))/\(Ex.mk h ks).words=⟨1,D0 h.op,v0⟩::kJ (gA (ks.map Ex.words))/\(Ex.mk h ks).need=1+eD (ks.map Ex.need):=by
 refine⟨?_,?_,?_⟩
 ·rw[Ex.text];unfold Wu;rw[Ao (Uo hc),Ap (Mx hc),Ry,List.map_map];rfl
 ·rw[Ex.words];unfold Zw;rw[Ao (Uo hc),Ap (Mx hc),Q7,List.map_map];rfl
 rw[Ex.need];unfold Z3;rw[Ao (Uo hc),Ap (Mx hc),Qk,List.map_map];rfl
theorem kQ {l:List Nat}{n:Nat}(h:n∈l):n<=eD l:=by
 induction l with
 |nil=>cases h
 |cons m l ih=>
  unfold eD;rcases List.mem_cons.1 h with rfl|h
  ·omega
  have:=ih h;omega
open Go Go.Lib
theorem map_cons {ts:List Tkn}{w:Wd}{r:List Wd}(h:ts.map Tkn.w=w::r):∃t q,ts=t::q/\t.w=w/\q.map Tkn.w=r:=by
 cases ts with
 |nil=>cases h
 |cons t q=>
  simp only[List.map_cons,List.cons.injEq] at h;exact⟨t,q,rfl,h.1,h.2⟩
theorem Oc {P:Hd->Nat->Prop}:∀{l:List Ex},Jq P l->∀e∈l,e.All P
 |[],_,e,h=>by cases h
 |x::l,hl,e,h=>by
  rcases List.mem_cons.1 h with rfl|h
  ·exact hl.1
  exact Oc hl.2 e h
theorem S2:∀{l:List Ex} {e:Ex},e∈l->e.size<=Bs l
 |[],e,h=>by cases h
 |x::l,e,h=>by
  rw[Bs];rcases List.mem_cons.1 h with rfl|h
  ·omega
  have:=S2 h;omega
open Go Go.Lib
theorem O5 (n:Nat)(a:Ex):Ml n a=a.need+if Bc a.hd.op<n then 1 else 0:=by
 unfold Ml
 split<;>rfl
instance (op:Int):Decidable (R5 op):=by unfold R5;infer_instance
def Oa (t:List UInt8)(ws:List Wd)(r:List UInt8):Prop:=∀x y,∃us x' y',us.map Tkn.w=ws/\LX (t++r) x y=I4 (.ok us) (LX r x' y')
theorem Oa.app {t u r:List UInt8}{ws vs:List Wd}(h:Oa t ws (u++r))(k:Oa u vs r):Oa (t++u) (ws++vs) r:=fun x y=>by
 obtain⟨us,x1,y1,h1,h2⟩:=h x y;obtain⟨us',x2,y2,h3,h4⟩:=k x1 y1;exact⟨us++us',x2,y2,by rw[List.map_append,h1,h3],by rw[List.append_assoc,h2,h4,cS]⟩
theorem Oa.cons {c:UInt8}{u r:List UInt8}{ws vs:List Wd}(h:Oa [c] ws (u++r))(k:Oa u vs r):Oa (c::u) (ws++vs) r:=Oa.app (t:=[c]) h k
open Go Go.RowKit Go.Lib Go.Sort Go.Shelf
theorem fW {P:Program}{fn:Func}{tmps:Array Value}{W:World}{v:Value}{t:TypeId}{p:Addr}(hr:fn.results= #[.cell 0 t])(h0:tmps.getD 0 undef= .pointer (some p))(hl:(loadVar t p).run P W= .ok v W):(results fn tmps).run P W= .ok v W:=by
 have h1:(tmps[0]?.getD undef)= .pointer (some p):=by simpa using h0
 unfold results;rw[hr];simp [h1,hl,asAddr]
def P3:Array Value:= #[.string ⟨#[]⟩,.int .i64 8,.string ⟨#[]⟩,.int .i64 8,.string ⟨#[]⟩,.int .i64 8,.string ⟨#[]⟩,.int .i64 8,.string ⟨#[111,114]⟩,.int .i64 0,.string ⟨#[97,110,100]⟩,.int .i64 1,.string ⟨#[110,111,116,32]⟩,.int .i64 2,.string ⟨#[61]⟩,.int .i64 3,.string ⟨#[60,62]⟩,.int .i64 3,.string ⟨#[60]⟩,.int .i64 3,.string ⟨#[60,61]⟩,.int .i64 3,.string ⟨#[62]⟩,.int .i64 3,.string ⟨#[62,61]⟩,.int .i64 3,.string ⟨#[43]⟩,.int .i64 4,.string ⟨#[45]⟩,.int .i64 4,.string ⟨#[42]⟩,.int .i64 5,.string ⟨#[47]⟩,.int .i64 5,.string ⟨#[45]⟩,.int .i64 6,.string ⟨#[97,98,115]⟩,.int .i64 8,.string ⟨#[109,105,110]⟩,.int .i64 8,.string ⟨#[109,97,120]⟩,.int .i64 8,.string ⟨#[109,111,100]⟩,.int .i64 8,.string ⟨#[108,101,110,103,116,104]⟩,.int .i64 8,.string ⟨#[117,112,112,101,114]⟩,.int .i64 8,.string ⟨#[99,111,110,116,97,105,110,115]⟩,.int .i64 8,.string ⟨#[115,116,97,114,116,115]⟩,.int .i64 8,.string ⟨#[105,102]⟩,.int .i64 8]
def Nr:Value:= .agg P3
theorem Ym (w:World):Calls Tryz.prog 93 #[] w fun e w'=>e= .returned Nr/\Below w.heap.size w w':=by
 go_enter Tryz.func93,Tryz.ntmps93;go_upto_region 1 with (fail)
 refine wp_region_lit ?_;refine Great.wpList_readTo rfl (some 1) rfl (.agg #[.string ⟨#[]⟩,.int .i64 8]) nT ?_;refine Great.wpList_readTo rfl (some 2) rfl (.agg #[.string ⟨#[]⟩,.int .i64 8]) nT ?_;refine Great.wpList_readTo rfl (some 3) rfl (.agg #[.string ⟨#[]⟩,.int .i64 8]) nT ?_;refine Great.wpList_readTo rfl (some 4) rfl (.agg #[.string ⟨#[]⟩,.int .i64 8]) nT ?_;refine Great.wpList_readTo rfl (some 5) rfl (.agg #[.string ⟨#[111,114]⟩,.int .i64 0]) nT ?_;refine Great.wpList_readTo rfl (some 6) rfl (.agg #[.string ⟨#[97,110,100]⟩,.int .i64 1]) nT ?_;refine Great.wpList_readTo rfl (some 7) rfl (.agg #[.string ⟨#[110,111,116,32]⟩,.int .i64 2]) nT ?_;refine Great.wpList_readTo rfl (some 8) rfl (.agg #[.string ⟨#[61]⟩,.int .i64 3]) nT ?_;refine Great.wpList_readTo rfl (some 9) rfl (.agg #[.string ⟨#[60,62]⟩,.int .i64 3]) nT ?_;refine Great.wpList_readTo rfl (some 10) rfl (.agg #[.string ⟨#[60]⟩,.int .i64 3]) nT ?_;refine Great.wpList_readTo rfl (some 11) rfl (.agg #[.string ⟨#[60,61]⟩,.int .i64 3]) nT ?_;refine Great.wpList_readTo rfl (some 12) rfl (.agg #[.string ⟨#[62]⟩,.int .i64 3]) nT ?_;refine Great.wpList_readTo rfl (some 13) rfl (.agg #[.string ⟨#[62,61]⟩,.int .i64 3]) nT ?_;refine Great.wpList_readTo rfl (some 14) rfl (.agg #[.string ⟨#[43]⟩,.int .i64 4]) nT ?_;refine Great.wpList_readTo rfl (some 15) rfl (.agg #[.string ⟨#[45]⟩,.int .i64 4]) nT ?_;refine Great.wpList_readTo rfl (some 16) rfl (.agg #[.string ⟨#[42]⟩,.int .i64 5]) nT ?_;refine Great.wpList_readTo rfl (some 17) rfl (.agg #[.string ⟨#[47]⟩,.int .i64 5]) nT ?_;refine Great.wpList_readTo rfl (some 18) rfl (.agg #[.string ⟨#[45]⟩,.int .i64 6]) nT ?_;refine Great.wpList_readTo rfl (some 19) rfl (.agg #[.string ⟨#[97,98,115]⟩,.int .i64 8]) nT ?_;refine Great.wpList_readTo rfl (some 20) rfl (.agg #[.string ⟨#[109,105,110]⟩,.int .i64 8]) nT ?_;refine Great.wpList_readTo rfl (some 21) rfl (.agg #[.string ⟨#[109,97,120]⟩,.int .i64 8]) nT ?_;refine Great.wpList_readTo rfl (some 22) rfl (.agg #[.string ⟨#[109,111,100]⟩,.int .i64 8]) nT ?_;refine Great.wpList_readTo rfl (some 23) rfl (.agg #[.string ⟨#[108,101,110,103,116,104]⟩,.int .i64 8]) nT ?_;refine Great.wpList_readTo rfl (some 24) rfl (.agg #[.string ⟨#[117,112,112,101,114]⟩,.int .i64 8]) nT ?_;refine Great.wpList_readTo rfl (some 25) rfl (.agg #[.string ⟨#[99,111,110,116,97,105,110,115]⟩,.int .i64 8]) nT ?_;refine Great.wpList_readTo rfl (some 26) rfl (.agg #[.string ⟨#[115,116,97,114,116,115]⟩,.int .i64 8]) nT ?_;refine Great.wpList_readTo rfl (some 27) rfl (.agg #[.string ⟨#[105,102]⟩,.int .i64 8]) nT ?_;refine Great.wpList_readTo rfl (some 28) rfl (.agg P3) nT ?_;refine wpList_store_rowTo rfl 141 (.tmp 0) (.tmp 28) rfl rfl w.heap.size P3 nT nT 141 #[.string ⟨#[]⟩,.int .i64 0,.string ⟨#[]⟩,.int .i64 0,.string ⟨#[]⟩,.int .i64 0,.string ⟨#[]⟩,.int .i64 0,.string ⟨#[]⟩,.int .i64 0,.string ⟨#[]⟩,.int .i64 0,.string ⟨#[]⟩,.int .i64 0,.string ⟨#[]⟩,.int .i64 0,.string ⟨#[]⟩,.int .i64 0,.string ⟨#[]⟩,.int .i64 0,.string ⟨#[]⟩,.int .i64 0,.string ⟨#[]⟩,.int .i64 0,.string ⟨#[]⟩,.int .i64 0,.string ⟨#[]⟩,.int .i64 0,.string ⟨#[]⟩,.int .i64 0,.string ⟨#[]⟩,.int .i64 0,.string ⟨#[]⟩,.int .i64 0,.string ⟨#[]⟩,.int .i64 0,.string ⟨#[]⟩,.int .i64 0,.string ⟨#[]⟩,.int .i64 0,.string ⟨#[]⟩,.int .i64 0,.string ⟨#[]⟩,.int .i64 0,.string ⟨#[]⟩,.int .i64 0,.string ⟨#[]⟩,.int .i64 0,.string ⟨#[]⟩,.int .i64 0,.string ⟨#[]⟩,.int .i64 0,.string ⟨#[]⟩,.int .i64 0] (A0 w _) nT nT nT ?_;rw[World.setRow_alloc_new];refine wpList_nil ?_
 rename_i K hK
 refine hK _ _ ?_;refine wp_ret ?_;show bodyPost Tryz.prog Tryz.f93 (fun e w'=>e= .returned Nr/\Below w.heap.size w w') Exit.ret _ _;refine Au (fn:=Tryz.f93) (R:=fun e w'=>e= .returned Nr/\Below w.heap.size w w') (v:=Nr) ?_ nT ⟨rfl,?_⟩
 ·exact fW rfl nT (run_loadVar_row _ _ _ _ P3 (0,0) _ (A0 w _) Tryz.underlying141 rfl nT)
 exact(Aq _ w).alloc (Ak _) _
def E6 (op:Int):Value:= .agg #[.string ⟨(D0 op).toArray⟩,.int .i64 (Bc op:Int)]
theorem Pp (op:Int)(h0:0<=op)(h1:op<=26)(w:World):(Instr.index 141 Nr (.int .u8 op)).run Tryz.prog w= .ok (E6 op) w:=by
 obtain rfl|rfl|rfl|rfl|rfl|rfl|rfl|rfl|rfl|rfl|rfl|rfl|rfl|rfl|rfl|rfl|rfl|rfl|rfl|rfl|rfl|rfl|rfl|rfl|rfl|rfl|rfl:op=0\/op=1\/op=2\/op=3\/op=4\/op=5\/op=6\/op=7\/op=8\/op=9\/op=10\/op=11\/op=12\/op=13\/op=14\/op=15\/op=16\/op=17\/op=18\/op=19\/op=20\/op=21\/op=22\/op=23\/op=24\/op=25\/op=26:=by omega
 all_goals kernel_rfl
theorem Ju (op:Int)(h0:0<=op)(w:World):Calls Tryz.prog 62 #[.int .u8 op] w fun e w'=>e= .returned (E6 op)/\Below w.heap.size w w':=by
 have hs:=Ax (Ym (w.alloc (.cells #[.string ⟨#[]⟩,.int .i64 0] 102)));have hbA:=Ax ((Aq _ w).alloc (Ak _) (.cells #[.string ⟨#[]⟩,.int .i64 0] 102));have hpA:=Ax (A0 w (.cells #[.string ⟨#[]⟩,.int .i64 0] 102));by_cases h26:op<=26
 ·have hix:=fun V=>Pp op h0 h26 V
  have i1:decide ((26:Int)<op)=false:=An nU;clear h26;unfold E6 at hix ⊢;go_enter Tryz.func62,Tryz.ntmps62;go_wp2_with fail;refine hs.out.mono ?_;rintro e V ⟨rfl,hb⟩;have hbb:Below w.heap.size w V:=hbA.out.trans (hb.mono hbA.out.size);have hp:=(hb.block _ (Ay hpA.out)).trans hpA.out;obtain⟨c0,c1,cf⟩:=Be hp;have cf0:=cf 0;have cf1:=cf 1;have HB:=Ax hbb;clear hb hbb hp cf hbA hpA;go_wp2_with fail;refine Au (v:= .agg #[.string ⟨(D0 op).toArray⟩,.int .i64 (Bc op:Int)]) (by simp [results,Tryz.results62,go_sem, *]) rfl ⟨rfl,?_⟩;exact(HB.out.setCell (Ak _) _).setCell (Ak _) _
 have hix:=fun V=>Pp 0 nV nV V
 have i1:decide ((26:Int)<op)=true:=Am nU
 have hv:E6 op=E6 0:=by
  have:Mw op=Mw 0:=by
   unfold Mw
   repeat rw[Ao nU]
  unfold E6 D0 Bc;rw[this]
 rw[hv];clear h26 hv;unfold E6 at hix ⊢;go_enter Tryz.func62,Tryz.ntmps62;go_wp2_with fail;refine hs.out.mono ?_;rintro e V ⟨rfl,hb⟩;have hbb:Below w.heap.size w V:=hbA.out.trans (hb.mono hbA.out.size);have hp:=(hb.block _ (Ay hpA.out)).trans hpA.out;obtain⟨c0,c1,cf⟩:=Be hp;have cf0:=cf 0;have cf1:=cf 1;have HB:=Ax hbb;clear hb hbb hp cf hbA hpA;go_wp2_with fail;refine Au (v:= .agg #[.string ⟨(D0 0).toArray⟩,.int .i64 (Bc 0:Int)]) (by simp [results,Tryz.results62,go_sem, *]) rfl ⟨rfl,?_⟩;exact(HB.out.setCell (Ak _) _).setCell (Ak _) _
open Go Go.RowKit Go.Lib Go.Sort Go.Shelf
theorem Gu.form {w:World}{B:Nat}{X:List Nat}{v:Value}{nds:List Nd}(h:Gu w B X v nds)(hn:0<nds.length):∃g c,v= .slice (some ⟨g,0,none⟩) nds.length c/\nds.length<=c/\B<=g:=by
 obtain⟨kvs,h1,_⟩:=h;rcases h1.2 with ⟨_,h0⟩|⟨g,cap,cur,rfl,hB,_,hc,_⟩
 ·omega
 exact⟨g,cap,rfl,hc,hB⟩
theorem Gu.slice {w:World}{B:Nat}{X:List Nat}{v:Value}{nds:List Nd}(h:Gu w B X v nds):∃a c,v= .slice a nds.length c:=by
 obtain⟨kvs,h1,_⟩:=h;exact D9 h1
theorem Gu.nil (w:World)(B:Nat):Gu w B [] (.slice none 0 0) []:=⟨[],World.ownsRow_nil w B 43 8,trivial⟩
theorem Pi {B:Nat}{a b c:World}{v:Value}(h:Below B a b)(hg:b.grownBy c v.ownBlock)(hv:∀g,v.ownBlock=some g->B<=g)(hB:B<=b.heap.size):Below B a c:=
 Bn h (A8.of_grown hg v.ownBlock.toList fun k hk=>by simp [hk]) (fun i hi=>hv i pJ) hB
theorem TrZ.get {w:World}{b off n c i:Nat}{l:List Nz}{x:Nz}(h:TrZ w (.slice (some ⟨b,off,none⟩) n c) l)(hx:l[i]? =some x):∃kv,L6 w b (off+i*8) x.h kv/\E4 w kv x.kids:=by
 obtain⟨h1,a,c0,e,h2⟩:=h;injection e with e1 _ _;obtain⟨hi,rfl⟩:=List.getElem?_eq_some_iff.1 hx;obtain⟨b',off',kv,e',hn,hk⟩:=h2 i hi;rw[←e1] at e';injection e' with e';injection e' with e3 e4;subst e3 e4;exact⟨kv,hn,hk⟩
theorem gB (k:Int)(n:Nat)(h:0<n):∃j:Nat,j<n/\(IntKind.u64.wrap k).tmod (n:Int)=(j:Int):=by
 have h0:0<=IntKind.u64.wrap k:=by
  simp only[IntKind.wrap,IntKind.signed,IntKind.bits];simp;omega
 obtain⟨u,hu⟩:∃u:Nat,IntKind.u64.wrap k=(u:Int):=⟨(IntKind.u64.wrap k).toNat,by omega⟩;refine⟨u % n,Nat.mod_lt _ h,?_⟩;rw[hu];rfl
open Go Go.RowKit Go.Lib Go.Sort Go.Shelf
def P4 (w:World)(tb:Nat)(ts:List (List UInt8)):Prop:=∀(j:Nat) t,ts[j]? =some t->w.cell? ⟨tb,j,none⟩=some (.string ⟨t.toArray⟩)
theorem P4.below {w w':World}{tb:Nat}{ts:List (List UInt8)}(h:P4 w tb ts)(hb:Below w.heap.size w w'):P4 w' tb ts:=fun j t hj=>A6 hb (h j t hj)
structure Nl (w:World)(b:Nat)(tv:Value)(tb:Nat)(l:List Nz)(ts:List (List UInt8)):Prop where
 tree:TrZ w tv l
 c0:w.cell? ⟨b,0,none⟩=some tv
 c1:w.cell? ⟨b,1,none⟩=some (.slice (some ⟨tb,0,none⟩) l.length l.length)
 texts:P4 w tb ts
 few:ts.length<=l.length
 ops:∀x∈l,0<=x.h.op
 short:∀t∈ts,t.length<=65536
theorem Nl.below {w w':World}{b tb:Nat}{tv:Value}{l:List Nz}{ts:List (List UInt8)}(h:Nl w b tv tb l ts)(hb:Below w.heap.size w w'):Nl w' b tv tb l ts:=
 ⟨h.tree.below hb,A6 hb h.c0,A6 hb h.c1,h.texts.below hb,h.few,h.ops,h.short⟩
def Dl (l:List Nz)(ts:List (List UInt8))(kids:List Int)(k least:Nat):List UInt8:=match kids[k]? with
 |none=>[]
 |some c=>if 0<=c/\c<(ts.length:Int) then(match l[c.toNat]?,ts[c.toNat]? with
  |some x,some t=>if Bc x.h.op<least then Ny t else t
  |_,_=>[]) else[]
theorem D2 (a b:Value)(w:World):(Instr.field 102 (.agg #[a,b]) 0).run Tryz.prog w= .ok a w:=by kernel_rfl
theorem Dk (a b:Value)(w:World):(Instr.field 102 (.agg #[a,b]) 1).run Tryz.prog w= .ok b w:=by kernel_rfl
theorem TrZ.slice {w:World}{v:Value}{l:List Nz}(h:TrZ w v l):∃a c,v= .slice a l.length c:=by
 obtain⟨_,a,c,rfl,_⟩:=h;exact⟨a,c,rfl⟩
theorem TrZ.some {w:World}{v:Value}{l:List Nz}(h:TrZ w v l)(hn:0<l.length):∃b off c,v= .slice (some ⟨b,off,none⟩) l.length c:=by
 obtain⟨_,a,c,rfl,h2⟩:=h;obtain⟨b,off,_,rfl,_⟩:=h2 0 hn;exact⟨b,off,c,rfl⟩
theorem Ye (a b:List UInt8):(⟨a.toArray⟩++⟨b.toArray⟩:ByteArray)=⟨(a++b).toArray⟩:=by
 apply ByteArray.ext;simp
theorem mE (t:List UInt8):(⟨#[40]⟩++⟨t.toArray⟩++⟨#[41]⟩:ByteArray)=⟨(Ny t).toArray⟩:=by
 apply ByteArray.ext;simp [Ny]
theorem My {w:World}{b tb:Nat}{tv:Value}{l:List Nz}{ts:List (List UInt8)}{x:Nz}(h:Nl w b tv tb l ts)(hx:l[ts.length]? =some x)(k least:Nat)(hk:k<=1000000):
 Calls Tryz.prog 168 #[.pointer (some ⟨b,0,none⟩),.int .i64 (ts.length:Int),.int .i64 (k:Int),.int .i64 (least:Int)] w fun e w'=>e= .returned (.string ⟨(Dl l ts x.kids k least).toArray⟩)/\Below w.heap.size w w':=by
 obtain⟨hi,_⟩:=List.getElem?_eq_some_iff.1 hx;obtain⟨tr,off,tc,rfl⟩:=h.tree.some nU;obtain⟨kv,hn,hki⟩:=h.tree.get hx;obtain⟨hkl,ka,kc,rfl,hkc⟩:=hki;have x5:=hn.2.2.2.2.2.1;have c0:=h.c0;have c1:=h.c1;have hlm:=h.tree.1;have i0:(0:Int)<=(ts.length:Int):=by omega
 have i1:(ts.length:Int)<(l.length:Int):=by omega
 by_cases hkk:k<x.kids.length
 ·obtain⟨kb,ko,rfl,hkcell⟩:=hkc k hkk
  have hz:Dl l ts x.kids k least=if 0<=x.kids[k]/\x.kids[k]<(ts.length:Int) then(match l[x.kids[k].toNat]?,ts[x.kids[k].toNat]? with
   |some x,some t=>if Bc x.h.op<least then Ny t else t
   |_,_=>[]) else[]:=by
   unfold Dl;rw[Ag hkk]
  rw[hz];obtain⟨c,hc⟩:∃c,x.kids[k]=c:=⟨_,rfl⟩;rw[hc] at hkcell ⊢;have j0:(0:Int)<=(k:Int):=by omega
  have j1:(k:Int)<(x.kids.length:Int):=by omega
  have j2:decide ((x.kids.length:Int)<=(k:Int))=false:=An nU;by_cases hc0:0<=c
  ·have e0:decide (c<0)=false:=An nU;by_cases hci:c<(ts.length:Int)
   ·have e1:decide ((ts.length:Int)<=c)=false:=An nU;obtain⟨m,rfl⟩:∃m:Nat,c=(m:Int):=⟨c.toNat,by omega⟩;have hm:m<ts.length:=by omega
    have hml:m<l.length:=by omega
    have hti:ts[m]? =some ts[m]:=Ag hm;have hli:l[m]? =some l[m]:=Ag hml;rw[Ap ⟨hc0,hci⟩,Int.toNat_natCast,hti,hli];simp only;have ht:=h.texts m _ hti;have hsh:=h.short _ (List.getElem_mem hm);have hop:=h.ops _ (List.getElem_mem hml);obtain⟨kv2,hn2,_⟩:=h.tree.get hli;have y0:=hn2.1;obtain⟨t,het⟩:∃t,ts[m]=t:=⟨_,rfl⟩;obtain⟨y,hey⟩:∃y,l[m]=y:=⟨_,rfl⟩;rw[het] at ht hsh ⊢;rw[hey] at y0 hop ⊢;have m0:(0:Int)<=(m:Int):=by omega
    have m1:(m:Int)<(l.length:Int):=by omega
    have ho:=fun V=>Ax (Ju y.h.op hop V)
    obtain⟨lv,hlv⟩:∃lv,Bc y.h.op=lv:=⟨_,rfl⟩;have hf1:=fun u V=>Dk u (.int .i64 (lv:Int)) V
    unfold E6 at ho;simp only[hlv] at ho ⊢;have hsz:t.length<=65536:=hsh;have HLV:=Ax hlv;have n1:decide (x.kids.length<=k)=false:=An nU;have n2:decide (ts.length<=m)=false:=An nU;have HD:=fun nq=>Ax (show Below w.heap.size w (w.drewN nq) from Below.drewN' nq (Aq _ w))
    clear h hn hkc hx hz hc hti hli het hey hn2 hlv hsh hop;by_cases hll:lv<least
    ·rw[Ap hll,←mE];have n3:decide (lv<least)=true:=Am hll;have n4:decide ((lv:Int)<(least:Int))=true:=Am nU;exact zyh
    rw[Ao hll];have n3:decide (lv<least)=false:=An hll;have n4:decide ((lv:Int)<(least:Int))=false:=An nU;exact zyh
   rw[Ao (fun h=>hci h.2)];have e1:decide ((ts.length:Int)<=c)=true:=Am nU;clear h hn hkc hx hz hc;go_enter Tryz.func168,Tryz.ntmps168;exact zyq
  rw[Ao (fun h=>hc0 h.1)];have e0:decide (c<0)=true:=Am nU;have n1:decide (x.kids.length<=k)=false:=An nU;clear h hn hkc hx hz hc;go_enter Tryz.func168,Tryz.ntmps168;exact zyq
 have hz:Dl l ts x.kids k least=[]:=by
  unfold Dl;rw[List.getElem?_eq_none nU]
 rw[hz];have j2:decide ((x.kids.length:Int)<=(k:Int))=true:=Am nU;have n1:decide (x.kids.length<=k)=true:=Am nU;clear h hn hkc hx hz;go_enter Tryz.func168,Tryz.ntmps168;exact zyq
end Go.Proofs.YtgfakdobajgnfaaGreatDoor
