import Derived.Laws.AppendOwn
import Derived.Test.YtgfakdobajgnfaaGreatDoorQt35
import Derived.Test.YtgfakdobajgnfaaGreatDoorQt32
import Derived.Test.YtgfakdobajgnfaaGreatDoorQt34
set_option maxRecDepth 100000
set_option maxHeartbeats 16000000
namespace Go.Proofs.YtgfakdobajgnfaaGreatDoor
open Go Go.RowKit Go.Lib Go.Sort Go.Shelf
theorem Vo {op:Int}{m:Nat}(h:Dk op=(m,m))(h1:1<=op)(h2:op<=26)(k:Nat):Ie op k=((k:Int)==(m:Int)):=by
 unfold Ie;rw[h];by_cases e:k=m
 ·subst e;rw[beq_self_eq_true];exact Am ⟨h1,h2,Ak _,Ak _⟩
 rw[Af.2 qO];exact An (fun q=>e (by have:=q.2.2.1;have:=q.2.2.2;simp only at*;omega))
theorem Vs {op:Int}(h:Cm op):(Dg (Cc op)).getD (0,0,0)=(op,(Dk op).1,(Dk op).2):=by
 rcases h with rfl|rfl|rfl|rfl|rfl|rfl|rfl|rfl|rfl<;>rfl
theorem eP (op:Int)(h0:0<=op)(k:Nat)(w:World):Calls Tryz.prog 94 #[.int .u8 op,.int .i64 (k:Int)] w fun e w'=>e= .returned (.bool (Ie op k))/\Below w.heap.size w w':=by
 by_cases hA:1<=op/\op<=3
 ·have hz:Ie op k=((k:Int)==0):=Vo (m:=0) (by rcases (show op=1\/op=2\/op=3 by omega) with rfl|rfl|rfl<;>rfl) hA.1 qO k;rw[hz];have d1:decide ((1:Int)<=op)=true:=Am hA.1;have d3:decide (op<=(3:Int))=true:=Am hA.2;clear hz hA h0;go_enter Tryz.func94,Tryz.ntmps94;exact zy3
 by_cases hB:op=6\/op=17
 ·have hz:Ie op k=((k:Int)==1):=Vo (m:=1) (by rcases hB with rfl|rfl<;>rfl) qO qO k;rw[hz];clear hz hA h0;rcases hB with rfl|rfl
  all_goals
   go_enter Tryz.func94,Tryz.ntmps94;exact zy3
 by_cases hC:Er op
 ·have hz:Ie op k=((k:Int)==2):=Vo (m:=2) (Rm hC) sM sM k;rw[hz];have d1:decide ((1:Int)<=op)=true:=Am sM;have d3:decide (op<=(3:Int))=false:=An sM;have d6:(op==6)=false:=Af.2 qO;have d17:(op==17)=false:=Af.2 qO;have d4:decide ((4:Int)<=op)=true:=Am sM;have d16:decide (op<=(16:Int))=true:=Am sM;clear hz hA hB hC h0;go_enter Tryz.func94,Tryz.ntmps94;exact zy3
 by_cases hD:Cm op
 ·have d1:decide ((1:Int)<=op)=true:=Am sN;have d3:decide (op<=(3:Int))=false:=An sN;have d6:(op==6)=false:=Af.2 qO;have d17:(op==17)=false:=Af.2 qO;have d4:decide ((4:Int)<=op)=true:=Am sN;have d16:decide (op<=(16:Int))=false:=An sN;have d18:decide ((18:Int)<=op)=true:=Am sN;have d26:decide (op<=(26:Int))=true:=Am sN;have HW:=Ax (Re op hD w);have hcl:=fun V=>Xq (Cc op) V
  rw[Vs hD] at hcl;obtain⟨a,b,hab⟩:∃a b,Dk op=(a,b):=⟨_,_,rfl⟩
  have hz:Ie op k=(decide (a<=k) && decide (k<=b)):=by
   unfold Ie;rw[hab];simp only;by_cases h1:a<=k
   ·by_cases h2:k<=b
    ·rw[Am h1,Am h2];exact Am ⟨by unfold Cm at hD;omega,by unfold Cm at hD;omega,h1,h2⟩
    rw[An h2,Bool.and_false];exact An (fun q=>h2 q.2.2.2)
   rw[An h1,Bool.false_and];exact An (fun q=>h1 q.2.2.1)
  rw[hz];rw[hab] at hcl;simp only at hcl;obtain⟨wd,hwd⟩:∃wd,Cc op=wd:=⟨_,rfl⟩;rw[hwd] at HW hcl;have HCL:=Ax hcl;clear hz hA hB hC hD h0 hcl hab hwd;by_cases h1:a<=k
  ·have e1:decide ((a:Int)<=(k:Int))=true:=Am qO;rw[Am h1,Bool.true_and];by_cases h2:k<=b
   ·have e2:decide ((k:Int)<=(b:Int))=true:=Am qO;rw[Am h2];exact zy1
   have e2:decide ((k:Int)<=(b:Int))=false:=An qO;rw[An h2];exact zy1
  have e1:decide ((a:Int)<=(k:Int))=false:=An qO;rw[An h1,Bool.false_and];exact zy1
 have hz:Ie op k=false:=An (fun q=>by unfold Cm at hD;unfold Er at hC;omega);rw[hz];have d6:(op==6)=false:=Af.2 qO;have d17:(op==17)=false:=Af.2 qO;by_cases h26:26<op
 ·have d1:decide ((1:Int)<=op)=true:=Am qO;have d3:decide (op<=(3:Int))=false:=An qO;have d4:decide ((4:Int)<=op)=true:=Am qO;have d16:decide (op<=(16:Int))=false:=An qO;have d18:decide ((18:Int)<=op)=true:=Am qO;have d26:decide (op<=(26:Int))=false:=An qO;clear hz hA hB hC hD h0 h26;go_enter Tryz.func94,Tryz.ntmps94;exact zy3
 obtain rfl:op=0:=by unfold Cm at hD;unfold Er at hC;omega
 clear hz hA hB hC hD h0 h26 d6 d17;go_enter Tryz.func94,Tryz.ntmps94;exact zy3
theorem Jz {P:Program}(w:World){ops:Array Oper}{rest:List Oper}{o:Oper}{a:Act}{Q:Exit->Act->World->Prop}(hgd:o.guard=none)(s x:Operand)(t:TypeId)
 (ho:o.op= .call {callee:= .builtin .append,args:= #[s,x],argTypes:= #[t,t]})
 (base:Nat) (e:TypeId) (i:TypeInfo) (z:Value) (size bytes:Nat) (ht:P.underlying t=some (.slice e)) (hi:P.info? e=some i) (hz:i.zero=some z)
 (hsize:i.size=size) (hby:i.bytes=bytes) (hzs:z.cells.size=size) (hsz:0<size)
 (v:Value) (n:Nat) (xs:List Value) (hs:a.eval s=v) (hown:w.ownsRow base e size v n xs)
 (vx:Value) (m:Nat) (news:List Value) (hx:a.eval x=vx) (hsrc:(vx= .slice none 0 0/\m=0/\news=[])\/∃ad c,vx= .slice (some ad) m c/\news.length=m*size/\∀j u,news[j]? =some u->w.cell? (ad.add j)=some u)
 (h1:∀u∈news,u.oneCell'=true)
 (h63:n+m<=maxLen) (hbytes:(n+m)*bytes<=140737488355328) (hbase:base<=w.heap.size)
 (h:∀v' w',w'.ownsRow base e size v' (n+m) (xs++news)->w.grownBy w' v.ownBlock->wpList P ops Q rest (a.put o.dst v') w'):wpList P ops Q (o::rest) a w:=by
 rcases hsrc with ⟨rfl,rfl,rfl⟩|⟨ad,c,rfl,hl,hnews⟩
 ·refine wpList_plain hgd fun K hK'=>?_
  have hrun:=run_append_owned_none (P:=P) w base t o.type e i size ht hi v n xs hown;unfold Oper.wp;simp [execOp,ho,resolve,invoke,builtin,hs,hx,hrun,Result.andThen];exact hK' _ _ (h _ w (by simpa using hown) ⟨rfl,rfl,rfl,Ak _,fun _ _ _=>rfl⟩)
 exact wpList_append_own w hgd s x t ho base e i z size bytes ht hi hz hsize hby hzs hsz v n xs hs hown ad m c news hx hl hnews h1 h63 hbytes hbase fun v' w' h2 h3 _=>h v' w' h2 h3
def Od (o:List Nat):List Int:=o.map fun(x:Nat)=>(x:Int)
theorem Ps (o:List Nat):(Od o).length=o.length:=by simp [Od]
theorem cA {w:World}{oa:Option Addr}{n oc:Nat}{L:List Int}(h:En w (.slice oa n oc) L){j:Nat}(hj:j<L.length):∃g off,oa=some ⟨g,off,none⟩/\w.cell? ⟨g,off+j,none⟩=some (.int .i64 L[j]):=by
 obtain⟨_,_,_,e,h2⟩:=h;injection e with e1 _ _;subst e1;exact h2 j hj
theorem kZ (l:List Nat):∀u∈Eg l,u.oneCell'=true:=fun u hu=>by
 obtain⟨z,_,rfl⟩:=List.mem_map.1 hu;rfl
def pO (x:Option (List Int)):Bool:=match x with
 |some o=>decide (o.length=1)
 |none=>false
structure pV (w wr:World)(l:List Nz)(i:Nat)(o:List Nat)(v:Value):Prop where
 row:wr.ownsRow w.heap.size 3 1 v o.length (Eg o)
 bel:Below w.heap.size w wr
 few:o.length<=i
 eq:Eo l=pO (Dd i (Od o) (l.drop i))
theorem Z5 {l:List Nz}{w:World}{v:Value}(ht:TrZ w v l)(ho:∀x∈l,0<=x.h.op):Calls Tryz.prog 63 #[v] w fun e w'=>e= .returned (.bool (Eo l))/\Below w.heap.size w w':=by
 have hlm:=ht.1;have HT:=Ax ht;have HO:=Ax ho;obtain⟨va,vc,rfl⟩:=ht.slice;clear ht ho;go_enter Tryz.func63,Tryz.ntmps63;go_wp2_with fail
 go_loopw [3,4] (fun v3 v4 wr=>∃(i:Nat) (o:List Nat) (oa:Option Addr) (oc:Nat),i<=l.length/\v4= .int .i64 i/\v3= .slice oa o.length oc/\Hid (pV w wr l i o (.slice oa o.length oc))) (fun _ v4 _=>l.length - (intOf v4).toNat)
 case atStart=>exact⟨0,[],none,0,Nat.zero_le _,rfl,rfl,Ax ⟨World.ownsRow_nil _ _ _ _,Aq _ w,Ak _,rfl⟩⟩
 obtain⟨wo,rfl⟩:∃wo:World,wo=wr:=⟨_,rfl⟩;obtain⟨i,o,oa,oc,hi,rfl,rfl,hq⟩:=hrel;by_cases hil:i<l.length
 ·have hT:=HT.out.below hq.out.bel;obtain⟨tr,off,tc,hv⟩:=hT.some qO;injection hv with hv _ hv2;subst hv hv2;obtain⟨kv,hna,hki⟩:=hT.get (Ag hil);obtain⟨hkl,ka,kc,rfl,hkc⟩:=hki;obtain⟨x0,_,_,_,_,x5,_,_⟩:=hna;have hop:=HO.out _ (List.getElem_mem hil);have hdr:l.drop i=l[i]::l.drop (i+1):=List.drop_eq_getElem_cons hil;have hfew:=hq.out.few;obtain⟨x,hx⟩:∃x,l[i]=x:=⟨_,rfl⟩;rw[hx] at x0 x5 hkl hkc hop hdr;obtain⟨h,kids⟩:=x;simp only at x0 x5 hkl hkc hop;have hF:=eP h.op hop kids.length wo;have j0:(0:Int)<=(i:Int):=by omega
  have j1:(i:Int)<(l.length:Int):=by omega
  have j2:decide ((i:Int)<(l.length:Int))=true:=Am j1;have heq:=hq.out.eq;rw[hdr,Dd,Ps] at heq;simp only at heq;obtain⟨fb,hfb⟩:∃b,Ie h.op kids.length=b:=⟨_,rfl⟩;rw[hfb] at hF heq;have HF:=Ax hF;have HX0:=Ax x0;have HX5:=Ax x5;have Hkc:=Ax hkc;have Hq:=Ax hq.out;have Heq:=Ax heq;clear hq hT hdr hx hF hop hkc heq hfb;cases fb with
  |false=>
   go_wp2_with fail;refine HF.out.mono ?_;rintro e V ⟨rfl,hb⟩;have HB:=Ax (Hq.out.bel.trans (hb.mono Hq.out.bel.size));have hw:Eo l=false:=by rw[Heq.out];rfl
   have Hw:=Ax hw;clear hb HF x0 x5 hw;go_wp2_with fail;go_ret;exact⟨by rw[Hw.out];rfl,HB.out⟩
  |true=>
   go_wp2_with fail;refine HF.out.mono ?_;rintro e V ⟨rfl,hb⟩;have HB:=Ax (Hq.out.bel.trans (hb.mono Hq.out.bel.size));have hrow:=Cv Hq.out.row hb;have hol:o.length<=1000000:=by omega
   have HR:=Ax hrow;have HRd:=Ax (En.of_row hol hrow);have HbV:=Ax hb;clear hb HF x0 x5 hrow;by_cases hko:kids.length<=o.length;rotate_left
   ·have l0:decide (o.length<kids.length)=true:=Am qO;have hw:Eo l=false:=by rw[Heq.out,An hko];rfl
    have Hw:=Ax hw;clear hw hko;go_wp2_with fail;go_ret;exact⟨by rw[Hw.out];rfl,HB.out⟩
   have l0:decide (o.length<kids.length)=false:=An qO;obtain⟨q,hq⟩:∃q,q+kids.length=o.length:=⟨o.length - kids.length,by omega⟩;have hq2:o.length - kids.length=q:=by omega
   have hsub:(o.length:Int) - (kids.length:Int)=(q:Int):=by omega
   have Heq2:Hid (Eo l=pO (if(decide ((Od o).drop q=kids))=true then Dd (i+1) ((Od o).take q++[(i:Int)]) (l.drop (i+1)) else none)):=Ax (by
    have:=Heq.out
    rw[Am hko,hq2,Bool.true_and,Bool.true_and] at this
    exact this)
   have H0:Hid (Below V.heap.size V V/\((Od o).drop q).take 0=kids.take 0):=Ax ⟨Aq _ _,rfl⟩;clear Heq hq2;go_wp2_with fail
   go_loopw [6] (fun v6 wr=>∃j:Nat,j<=kids.length/\v6= .int .i64 j/\Hid (Below V.heap.size V wr/\((Od o).drop q).take j=kids.take j)) (fun v6 _=>kids.length - (intOf v6).toNat)
   case atStart=>exact⟨0,Nat.zero_le _,rfl,H0⟩
   obtain⟨j,hj,rfl,hr⟩:=hrel;by_cases hjl:j<kids.length
   ·obtain⟨bk,ok,rfl,ck⟩:=Hkc.out j hjl;have ck:=A6 hr.out.1 (A6 HbV.out ck);have x5:=A6 hr.out.1 (A6 HbV.out HX5.out);obtain⟨bo,oo,rfl,co⟩:=cA HRd.out (j:=q+j) (by rw[List.length_map];omega);have co:=A6 hr.out.1 co;obtain⟨x,hx⟩:∃x,kids[j]=x:=⟨_,rfl⟩;obtain⟨y,hy⟩:∃y,(o.map fun(k:Nat)=>(k:Int))[q+j]'(by rw[List.length_map];omega)=y:=⟨_,rfl⟩;rw[hx] at ck;rw[hy] at co;have g0:(0:Int)<=(j:Int):=by omega
    have g1:(j:Int)<(kids.length:Int):=by omega
    have g2:decide ((j:Int)<(kids.length:Int))=true:=Am g1;have g3:(0:Int)<=(q:Int)+(j:Int):=by omega
    have g4:(q:Int)+(j:Int)<(o.length:Int):=by omega
    have htk:kids.take (j+1)=kids.take j++[x]:=by rw[List.take_succ_eq_append_getElem hjl,hx]
    have hto:((Od o).drop q).take (j+1)=((Od o).drop q).take j++[y]:=by
     rw[List.take_succ_eq_append_getElem (by rw[List.length_drop,Ps];omega),List.getElem_drop];exact Ar (fun z=>_++[z]) hy
    have Hto:=Ax hto;have Htk:=Ax htk;have HBx:=fun nq=>Ax (Be hr.out.1 nq)
    have Hr:=Ax hr.out.2;clear hr hto htk hx hy;by_cases hxy:x=y
    ·have g5:(x !=y)=false:=by simp [hxy]
     have HXY:=Ax hxy;clear hxy;go_wp2_with fail;go_quiet (fail);go_wp2_with fail;refine⟨⟨j+1,by omega,by go_num,Ax ⟨(HBx _).out,?_⟩⟩,?_⟩
     ·rw[Hto.out,Htk.out,Hr.out,HXY.out]
     simp [intOf];omega
    have g5:(x !=y)=true:=by simp [hxy]
    have hw:Eo l=false:=by
     rw[Heq2.out,An (fun e=>hxy (by
      have h1:=Ar (List.take (j+1)) e;rw[Hto.out,Htk.out,Hr.out] at h1;have h2:=List.append_cancel_left h1;injection h2 with h2 _
      exact h2.symm))]
     rfl
    have Hw:=Ax hw;clear hw hxy;go_wp2_with fail;go_quiet (fail);go_wp2_with fail;go_ret;exact⟨by rw[Hw.out];rfl,HB.out.trans ((HBx _).out.mono HB.out.size)⟩
   obtain rfl:j=kids.length:=by omega
   have g2:decide ((kids.length:Int)<(kids.length:Int))=false:=by simp
   have hk2:(Od o).drop q=kids:=by
    have:=hr.out.2
    rwa [List.take_length,List.take_of_length_le (by rw[List.length_drop,Ps];omega)] at this
   have hint:(Od o).take q++[(i:Int)]=Od (o.take q++[i]):=by simp [Od,List.map_take]
   have Hw:=Ax (by rw[←hint,Heq2.out,Am hk2];rfl:Eo l=pO (Dd (i+1) (Od (o.take q++[i])) (l.drop (i+1))));have HBw:=Ax (HB.out.trans (hr.out.1.mono HB.out.size));have hrow:=Cv HR.out hr.out.1;have Hrow:=Ax hrow;have hB0:=HBw.out.size;have hown0:(wr.alloc (.cells #[] 3)).ownsRow w.heap.size 3 1 (.slice (some ⟨wr.heap.size,0,none⟩) 0 0) 0 []:=World.ownsRow_made wr #[] 0 hB0 qP rfl;have Hown0:=Ax hown0;have HB1:=Ax (HBw.out.alloc HBw.out.size (.cells #[] 3));have HZ1:Hid ((wr.alloc (.cells #[] 3)).heap.size=wr.heap.size+1):=Ax qQ;have qlen:(o.take q).length=q:=by rw[List.length_take];omega
   have Hql:=Ax qlen;have q0:(0:Int)<=(q:Int):=by omega
   obtain⟨i0,hi0,hz0,hz1,hz2⟩:=G7;have Hi0:=Ax hi0;have Hy0:=Ax hz0;have Hy1:=Ax hz1;have Hy2:=Ax hz2;have hgl:=Hrow.out.2
   have hnw:∀(g c:Nat),oa=some ⟨g,0,none⟩->∃ad c',Value.slice (some ⟨g,0,none⟩) q c= .slice (some ad) q c'/\(Eg (o.take q)).length=q*1/\∀j u,(Eg (o.take q))[j]? =some u->(wr.alloc (.cells #[] 3)).cell? (ad.add j)=some u:=fun g c e=>by
    refine⟨_,_,rfl,by rw[Nat.mul_one,←Hql.out];simp [Eg],fun j u hj=>?_⟩;subst e;obtain⟨hj1,_⟩:=List.getElem?_eq_some_iff.1 hj
    have h2:(Eg o)[j]? =some u:=by
     rw[Eg,List.map_take,List.getElem?_take] at hj
     split at hj
     ·exact hj
     cases hj
    exact(Hrow.out.alloc _).cells (g:=g) rfl j u h2
   have Hsrc:Hid (q<=oc/\((Value.slice oa q oc= .slice none 0 0/\q=0/\Eg (o.take q)=[])\/∃ad c,Value.slice oa q oc= .slice (some ad) q c/\(Eg (o.take q)).length=q*1/\∀j u,(Eg (o.take q))[j]? =some u->(wr.alloc (.cells #[] 3)).cell? (ad.add j)=some u)):=Ax (by
    rcases hgl with ⟨e,h0⟩|⟨g,cap,cur,e,_,_,hcp,_⟩
    ·have hq0:q=0:=by omega
     injection e with e1 _ e2;subst e1 e2 hq0;exact⟨Ak _,Or.inl ⟨rfl,rfl,rfl⟩⟩
    injection e with e1 _ e2;subst e2;refine⟨by omega,Or.inr ?_⟩;rw[e1]
    exact hnw g oc e1)
   have q1:(q:Int)<=(oc:Int):=by have:=Hsrc.out.1;omega
   clear hr hk2 hint hrow hown0 hB0 qlen hi0 hz0 hz1 hz2 hgl hnw;go_wp2_with (first|(refine wpList_append_lies _ rfl (.tmp 63) (.tmp 65) _ rfl w.heap.size 3 i0 (.int .i64 0) 1 8 Tryz.underlying41 Hi0.out Hy0.out Hy1.out Hy2.out rfl qP _ _ _ rfl Hrow1.out ⟨wa.heap.size,0,none⟩ 1 1 [.int .i64 (i:Int)] rfl rfl (World.news_of_block (cs:= #[.int .i64 (i:Int)]) HN1.out) rB qP rA qO (by rw[HZ2.out];have:=HA.out.size;omega) (wa.heap.size+1) HZ2.out ?_;intro g6 cap6 w6 hown6 hgrow6 hat6 hlt6)|(refine Jz _ rfl (.tmp 56) (.tmp 62) _ rfl w.heap.size 3 i0 (.int .i64 0) 1 8 Tryz.underlying41 Hi0.out Hy0.out Hy1.out Hy2.out rfl qP (.slice (some ⟨wr.heap.size,0,none⟩) 0 0) 0 [] rfl Hown0.out (.slice oa q oc) q (Eg (o.take q)) rfl Hsrc.out.2 (kZ _) rA qO HB1.out.size ?_;intro va wa howna hga;have HA:=Ax (Ib (v:= .slice (some ⟨wr.heap.size,0,none⟩) 0 0) HB1.out hga (fun g e=>by simp only[Value.ownBlock,Option.some.injEq] at e;have:=HBw.out.size;omega) HB1.out.size);rw[Nat.zero_add,List.nil_append] at howna;have Hrow1:=Ax (howna.alloc (.cells #[.int .i64 (i:Int)] 3));have Hown2:=Ax (Cx howna);have HN1:=Ax (Az wa (.cells #[.int .i64 (i:Int)] 3));have HZ2:Hid ((wa.alloc (.cells #[.int .i64 (i:Int)] 3)).heap.size=wa.heap.size+1):=Ax qQ;clear howna hga));have hB6:=Ib (v:=va) (HA.out.alloc HA.out.size (.cells #[.int .i64 (i:Int)] 3)) hgrow6 Hown2.out (by rw[HZ2.out];have:=HA.out.size;omega);rw[←eF] at hown6;have hlen:(o.take q++[i]).length=q+1:=by rw[Ab,Hql.out];rfl
   have HW6:Hid (pV w w6 l (i+1) (o.take q++[i]) (.slice (some ⟨g6,0,none⟩) (o.take q++[i]).length cap6)):=Ax ⟨by rw[hlen];exact hown6,hB6,by rw[hlen];omega,Hw.out⟩;have HLn:=Ax hlen;clear hB6 hown6 hgrow6 hat6 hlt6 hlen;go_wp2_with fail;go_roundw
   case rel=>exact⟨i+1,o.take q++[i],some ⟨g6,0,none⟩,cap6,by omega,by go_num,by rw[HLn.out],HW6⟩
   case measure=>simp [intOf];omega
 obtain rfl:i=l.length:=by omega
 have j2:decide ((l.length:Int)<(l.length:Int))=false:=by simp
 have hw:Eo l=decide (o.length=1):=by
  rw[hq.out.eq,List.drop_length,Dd];show decide ((Od o).length=1)=_;rw[Ps]
 have hd:((o.length:Int)==1)=decide (o.length=1):=by
  by_cases e:o.length=1
  ·rw[e];rfl
  rw[An e];exact Af.2 qO
 have Hw:=Ax (hw.trans hd.symm);have HB:=Ax hq.out.bel;clear hq hw hd;go_wp2_with fail;go_ret;exact⟨by rw[Hw.out];rfl,HB.out⟩
open Go Go.RowKit Go.Lib Go.Sort Go.Shelf
theorem lS {l:List Nz}(hf:∀x∈l,Jw x.h)(h:Eo l=true)(hs:(l.map Jq).sum<=65536):L3 l:=
 ⟨fun j x hx=>by
  obtain⟨_,hn⟩:=Ly hf h;obtain⟨h1,h2,h3⟩:=hn j x hx
  exact⟨h1,h2,by omega⟩,hf⟩
theorem dD {l:List Nz}{v:Value}{w:World}(ht:TrZ w v l)(ho:∀x∈l,0<=x.h.op)(hf:∀x∈l,Jw x.h)(hs:l.length<=60->(l.map Jq).sum<=65536):Calls Tryz.prog 29 #[v] w fun e w'=>e= .returned (.tuple #[.string ⟨((Yg l).getD []).toArray⟩,.int .i64 (Xr (Yg l))])/\Below w.heap.size w w':=by
 have hlm:=ht.1;have HT:=Ax ht;obtain⟨va,vc,rfl⟩:=ht.slice;by_cases h60:60<l.length
 ·have hn:Yg l=none:=Ap (.inl h60);rw[hn];have d1:decide ((60:Int)<(l.length:Int))=true:=Am qO;have d2:decide (60<l.length)=true:=Am h60;clear ht ho hf hs hn;go_enter Tryz.func29,Tryz.ntmps29;go_wp2_with fail;go_ret2;exact⟨rfl,Aq _ _⟩
 have d1:decide ((60:Int)<(l.length:Int))=false:=An qO;have d2:decide (60<l.length)=false:=An h60;have HW:=Ax (Z5 ht ho);by_cases hw:Eo l=true;rotate_left
 ·have hw:Eo l=false:=by simpa using hw
  have hn:Yg l=none:=Ap (.inr hw);rw[hn];rw[hw] at HW;clear ht ho hf hs hn;go_enter Tryz.func29,Tryz.ntmps29;go_wp2_with fail;refine HW.out.mono ?_;rintro e V ⟨rfl,hb⟩;have HB:=Ax hb;clear hb HW;go_wp2_with fail;go_ret2;exact⟨rfl,HB.out⟩
 have hT:=lS hf hw (hs qO);obtain⟨h0,hn⟩:=Ly hf hw
 have hlen:(txZ l (l.length - 1)).length<=65536:=by
  have:=(hT.node (l.length - 1) _ (Ag qO)).2.2
  exact this
 have hX:=fun V (hV:Below w.heap.size w V)=>bY hT l.length (l.length - 1) qO qO _ V (ht.below hV)
 have hcast:((l.length - 1:Nat):Int)=(l.length:Int) - 1:=by omega
 rw[hcast] at hX
 have hrr:Yg l=match Cf (txZ l (l.length - 1)) with
  | .ok u=>if Dm l ((u.flat 0).map Nd.z)=true then some (txZ l (l.length - 1)) else none
  | .error _=>none:=Ao (fun q=>by rcases q with q|q<;>simp_all)
 obtain⟨t,ht'⟩:∃t,txZ l (l.length - 1)=t:=⟨_,rfl⟩;rw[ht'] at hX hrr hlen;rw[hw] at HW;have l1:(0:Int)<=(l.length:Int) - 1:=by omega
 cases hx:Cf t with
 |error p=>
  obtain⟨⟨x,y⟩,q⟩:=p;rw[hx] at hrr;simp only at hrr;rw[hrr];have hq:=U0 hx;have hq1:(q !=0)=true:=by simpa using hq
  have HR:=Ax (fun V=>Vp (s:=⟨t.toArray⟩) V (by show t.toArray.size<=_;simp;omega) (show Cf (dl ⟨t.toArray⟩)=_ from hx));have HX:=Ax hX;clear ht ho hf hs hT hn hX hcast hx hq hrr ht';go_enter Tryz.func29,Tryz.ntmps29;go_wp2_with fail;refine HW.out.mono ?_;rintro e V ⟨rfl,hb⟩;have hX:=HX.out V hb;have HB:=Ax hb;clear hb HW HX;go_wp2_with fail;refine hX.mono ?_;rintro e V2 ⟨rfl,hb2⟩;have hR:=HR.out V2;have HB2:=Ax (HB.out.trans (hb2.mono HB.out.size));clear hb2 HR HB hX;go_wp2_with fail;refine hR.mono ?_;rintro e V3 ⟨ua,uk,uc,rfl,hu,hb3⟩;simp only[pOf];have HB3:=Ax (HB2.out.trans (hb3.mono HB2.out.size));clear hb3 HB2 hu hR;go_wp2_with fail;go_ret2;exact⟨rfl,HB3.out.alloc HB3.out.size _⟩
 |ok u=>
  rw[hx] at hrr;simp only at hrr;obtain⟨m,hm⟩:∃m,Dm l ((u.flat 0).map Nd.z)=m:=⟨_,rfl⟩;rw[hm] at hrr;have HM:=Ax hm;have HZ:=Ax hrr;have HR:=Ax (fun V=>Vp (s:=⟨t.toArray⟩) V (by show t.toArray.size<=_;simp;omega) (show Cf (dl ⟨t.toArray⟩)=_ from hx));have HX:=Ax hX;clear ht ho hf hs hT hn hX hcast hx hrr ht' hm;go_enter Tryz.func29,Tryz.ntmps29;go_wp2_with fail;refine HW.out.mono ?_;rintro e V ⟨rfl,hb⟩;have hX:=HX.out V hb;have HB:=Ax hb;clear hb HW HX;go_wp2_with fail;refine hX.mono ?_;rintro e V2 ⟨rfl,hb2⟩;have hR:=HR.out V2;have HB2:=Ax (HB.out.trans (hb2.mono HB.out.size));clear hb2 HR HB hX;go_wp2_with fail;refine hR.mono ?_;rintro e V3 ⟨ua,uk,uc,rfl,hu,hb3⟩;simp only[pOf];have hb3':=HB2.out.trans (hb3.mono HB2.out.size);have hV3:Below V3.heap.size V3 (V3.alloc (.cells #[.int .i64 0,.int .i64 0] 33)):=(Aq _ V3).alloc (Ak _) _;have hzu:=hu.below hV3;have hb4:=hb3'.trans (hV3.mono hb3'.size);have hsm:=Ut true _ (HT.out.below hb4) hzu;rw[Tv] at hsm;rw[show Dm l (zOf (.ok u))=m from HM.out] at hsm;have HSM:=Ax hsm;have HB4:=Ax hb4;clear hb3 hb3' hV3 hzu hb4 hsm hu hR HB2;go_wp2_with fail;refine HSM.out.mono ?_;rintro e V5 ⟨rfl,hb5⟩;have HB5:=Ax (HB4.out.trans (hb5.mono HB4.out.size));clear hb5 HSM;cases m with
  |true=>
   exact zxb
  |false=>
   exact zxb
open Go Go.RowKit Go.Lib Go.Sort Go.Shelf
def k8s:Nat->ByteArray
 |0=>⟨#[40,63,97,41,43,40,40,50,42,51,41,41]⟩
 |1=>⟨#[49,45,40,50,45,51,41]⟩
 |2=>⟨#[110,111,116,32,40,63,112,32,97,110,100,32,116,114,117,101,41]⟩
 |_=>⟨#[45,40,49,41]⟩
def k8t:Nat->ByteArray
 |0=>⟨#[63,97,32,43,32,50,32,42,32,51]⟩
 |1=>⟨#[49,32,45,32,40,50,32,45,32,51,41]⟩
 |2=>⟨#[110,111,116,32,40,63,112,32,97,110,100,32,116,114,117,101,41]⟩
 |_=>⟨#[45,49]⟩
def k8e (k:Nat):Ex:=match Cf (dl (k8s k)) with
 | .ok a=>a
 | .error _=> .mk ⟨0,v0,[],0,0⟩ []
theorem mW {k:Nat}(h:k<4):Cf (dl (k8s k))= .ok (k8e k)/\(k8s k).size<=65536/\(⟨(k8e k).text.toArray⟩:ByteArray)=k8t k:=by
 obtain rfl|rfl|rfl|rfl:k=0\/k=1\/k=2\/k=3:=by omega
 ·exact zwv
 ·exact zwv
 ·exact zwv
 exact zwv
theorem jQ {k:Nat}(h:k<4)(w:World):(Instr.index 99 (.agg #[.string ⟨#[40,63,97,41,43,40,40,50,42,51,41,41]⟩,.string ⟨#[63,97,32,43,32,50,32,42,32,51]⟩,.string ⟨#[49,45,40,50,45,51,41]⟩,.string ⟨#[49,32,45,32,40,50,32,45,32,51,41]⟩,.string ⟨#[110,111,116,32,40,63,112,32,97,110,100,32,116,114,117,101,41]⟩,.string ⟨#[110,111,116,32,40,63,112,32,97,110,100,32,116,114,117,101,41]⟩,.string ⟨#[45,40,49,41]⟩,.string ⟨#[45,49]⟩]) (.int .i64 (k:Int))).run Tryz.prog w= .ok (.agg #[.string (k8s k),.string (k8t k)]) w:=by
 obtain rfl|rfl|rfl|rfl:k=0\/k=1\/k=2\/k=3:=by omega
 all_goals kernel_rfl
theorem pI (w:World):Calls Tryz.prog 27 #[.int .u8 8] w fun e w'=>e= .returned (.string ⟨#[60,62]⟩)/\Below w.heap.size w w':=Oq 8 qP w
theorem nO (w:World):Calls Tryz.prog 27 #[.int .u8 17] w fun e w'=>e= .returned (.string ⟨#[]⟩)/\Below w.heap.size w w':=Oq 17 qP w
theorem nK (w:World)(hR:Rd w):Calls Tryz.prog 24 #[] w fun e w'=>e= .returned (.bool true)/\Below w.heap.size w w':=by
 have HR:=Ax hR;clear hR;go_enter Tryz.func24,Tryz.ntmps24;go_wp2_with fail
 go_loopw [13] (fun v13 wr=>∃k:Nat,k<=4/\v13= .int .i64 k/\Hid (Below w.heap.size w wr)) (fun v13 _=>4 - (intOf v13).toNat)
 case atStart=>exact⟨0,Nat.zero_le _,rfl,Ax (Aq _ w)⟩
 obtain⟨k,hk,rfl,hq⟩:=hrel;by_cases hk4:k<4
 ·obtain⟨hr,hs,htx⟩:=mW hk4;have i2:decide ((k:Int)<4)=true:=Am qO;have Hix:=jQ hk4 wr;obtain⟨s,hsk⟩:∃s,k8s k=s:=⟨_,rfl⟩;obtain⟨u,htk⟩:∃u,k8t k=u:=⟨_,rfl⟩;rw[hsk] at hr hs;rw[htk] at htx;rw[hsk,htk] at Hix;obtain⟨a,ha⟩:∃a,k8e k=a:=⟨_,rfl⟩;rw[ha] at hr htx;obtain⟨W1,hW1⟩:∃W1,wr.alloc (.cells #[.string s,.string u] 51)=W1:=⟨_,rfl⟩;have hb1:Below wr.heap.size wr W1:=by rw[←hW1];exact(Aq _ wr).alloc (Ak _) _
  have hp1:=Az wr (.cells #[.string s,.string u] 51);rw[hW1] at hp1;obtain⟨x0,x1,_⟩:=B9 hp1;have HP1:=Ax hp1;have HB1:=Ax (hq.out.trans (hb1.mono hq.out.size));have L1:=Vp W1 hs hr;simp only[zOf,pOf] at L1;have L1:=Ax L1;have Hr:=Ax hr;have Htx:=Ax htx;clear hb1 hp1 hr hs htx hsk htk ha hq;subst hW1;go_wp2_with fail;refine L1.out.mono ?_;rintro e V1 ⟨a1,k1,c1,rfl,hz1,hb2⟩;obtain⟨x0,x1,_⟩:=B9 ((hb2.block _ (Ay HP1.out)).trans HP1.out);obtain⟨W2,hW2⟩:∃W,V1.alloc (.cells #[.int .i64 0,.int .i64 0] 33)=W:=⟨_,rfl⟩;have hb3:Below V1.heap.size V1 W2:=by rw[←hW2];exact(Aq _ V1).alloc (Ak _) _
  have HX1:=Ax (A6 hb3 x1);have HB2:=Ax (HB1.out.trans ((hb2.trans (hb3.mono hb2.size)).mono HB1.out.size));have hT:=Zc Hr.out (hz1.below hb3) (HR.out.below HB2.out);rw[Htx.out] at hT;have HT:=Ax hT;clear hz1 hb2 hb3 x0 x1 hT L1 HB1 HP1;subst hW2;go_wp2_with fail;refine HT.out.mono ?_;rintro e V3 ⟨rfl,hb4⟩;have x1:=A6 hb4 HX1.out;have HB3:=Ax (HB2.out.trans (hb4.mono HB2.out.size));clear hb4 HT HX1 HB2;go_wp2_with fail;go_roundw
  case rel=>exact⟨k+1,by omega,by go_num,HB3⟩
  case measure=>simp [intOf];omega
 obtain rfl:k=4:=by omega
 have HB:=hq;have HI8:=Ax (pI wr);clear hq;go_wp2_with fail;refine HI8.out.mono ?_;rintro e V1 ⟨rfl,hb1⟩;have HB1:=Ax (HB.out.trans (hb1.mono HB.out.size));have HI17:=Ax (nO V1);clear hb1 HI8;go_wp2_with fail;refine HI17.out.mono ?_;rintro e V2 ⟨rfl,hb2⟩;have HB2:=Ax (HB1.out.trans (hb2.mono HB1.out.size));clear hb2 HI17;go_wp2_with fail;go_ret;exact⟨rfl,HB2.out⟩
open Go Go.RowKit Go.Lib Go.Sort Go.Shelf
def I8 (l:List Int):List Value:=l.map fun(k:Int)=>Value.int .i64 k
theorem fE (l:List Int):∀u∈I8 l,u.oneCell'=true:=fun u hu=>by
 obtain⟨z,_,rfl⟩:=List.mem_map.1 hu;rfl
def Nz.nd (x:Nz):Nd:=⟨x.h,[]⟩
def Gz (w:World)(B:Nat):List Value->List Nz->Prop
 |[],[]=>True
 |v::vs,n::ns=>w.ownsRow B 3 1 v n.kids.length (I8 n.kids)/\Gz w B vs ns
 |_,_=>False
theorem Gz.snoc {w:World}{B:Nat}{v:Value}{n:Nz}:∀{vs:List Value} {ns:List Nz},Gz w B vs ns->w.ownsRow B 3 1 v n.kids.length (I8 n.kids)->Gz w B (vs++[v]) (ns++[n])
 |[],[],_,h=>⟨h,trivial⟩
 |_::_,_::_,h,k=>⟨h.1,Gz.snoc h.2 k⟩
 |[],_::_,h,_=>h.elim
 |_::_,[],h,_=>h.elim
theorem Gz.imp {w w':World}{B:Nat}(hk:∀v n xs,w.ownsRow B 3 1 v n xs->w'.ownsRow B 3 1 v n xs):∀{vs:List Value} {ns:List Nz},Gz w B vs ns->Gz w' B vs ns
 |[],[],_=>trivial
 |_::_,_::_,h=>⟨hk _ _ _ h.1,Gz.imp hk h.2⟩
 |[],_::_,h=>h.elim
 |_::_,[],h=>h.elim
theorem Gz.len {w:World}{B:Nat}:∀{vs:List Value} {ns:List Nz},Gz w B vs ns->vs.length=ns.length
 |[],[],_=>rfl
 |_::_,_::_,h=>by simp [Gz.len h.2]
 |[],_::_,h=>h.elim
 |_::_,[],h=>h.elim
theorem Gz.get {w:World}{B:Nat}:∀{vs:List Value} {ns:List Nz},Gz w B vs ns->∀(i:Nat) (h:i<ns.length),∃kv,vs[i]? =some kv/\w.ownsRow B 3 1 kv ns[i].kids.length (I8 ns[i].kids)/\
 (∀k u,(C4 [kv] [ns[i].nd])[k]? =some u->(C4 vs (ns.map Nz.nd))[i*8+k]? =some u)
 |[],[],_,i,h=>by simp at h
 |v::vs,n::ns,hk,0,_=>⟨v,rfl,hk.1,fun k u hu=>by
   have:C4 (v::vs) ((n::ns).map Nz.nd)=C4 [v] [n.nd]++C4 vs (ns.map Nz.nd):=rfl
   rw[Nat.zero_mul,Nat.zero_add,this,List.getElem?_append_left (show k<(C4 [v] [n.nd]).length from(List.getElem?_eq_some_iff.1 hu).1)]
   exact hu⟩
 |v::vs,n::ns,hk,i+1,h=>by
  obtain⟨kv,h1,h2,h3⟩:=Gz.get hk.2 i rI;refine⟨kv,h1,h2,fun k u hu=>?_⟩
  have:C4 (v::vs) ((n::ns).map Nz.nd)=C4 [v] [n.nd]++C4 vs (ns.map Nz.nd):=rfl
  have hl:(C4 [v] [n.nd]).length=8:=rfl;rw[this,List.getElem?_append_right qO,hl,show(i+1)*8+k - 8=i*8+k by omega];exact h3 k u hu
 |[],_::_,h,_,_=>h.elim
 |_::_,[],h,_,_=>h.elim
def Wt (w:World)(B:Nat)(v:Value)(l:List Nz):Prop:=∃kvs,w.ownsRow B 43 8 v l.length (C4 kvs (l.map Nz.nd))/\Gz w B kvs l
theorem Wt.nil (w:World)(B:Nat):Wt w B (.slice none 0 0) []:=⟨[],World.ownsRow_nil _ _ _ _,trivial⟩
theorem qK {w:World}{B:Nat}{v:Value}{l:List Int}(hl:l.length<=1000000)(h:w.ownsRow B 3 1 v l.length (I8 l)):En w v l:=by
 rcases h.2 with ⟨e,h0⟩|⟨g,cap,cur,rfl,_,hg,hc,_⟩
 ·exact zxw
 refine⟨hl,some ⟨g,0,none⟩,cap,rfl,fun i hi=>⟨g,0,rfl,?_⟩⟩
 have:=h.cells (g:=g) rfl i (.int .i64 l[i]) (by simp [I8,hi])
 rwa [Addr.add_lit] at this
theorem pE {w X Z:World}{B:Nat}{v v' kv:Value}{kvs:List Value}{l:List Nz}{n:Nz}(hk1:w.ownsRow B 43 8 v l.length (C4 kvs (l.map Nz.nd)))(hk2:Gz w B kvs l)(hbw:Below w.heap.size w X)
 (hkv:X.ownsRow w.heap.size 3 1 kv n.kids.length (I8 n.kids)) (hB:B<=w.heap.size) (hg:X.grownBy Z v.ownBlock) (hown:Z.ownsRow B 43 8 v' (l.length+1) (C4 kvs (l.map Nz.nd)++C4 [kv] [n.nd])):Wt Z B v' (l++[n]):=by
 have hX:Bb v.ownBlock.toList w Z:=(Bb.of_below hbw _).trans (Bb.of_grown hg _ fun k hk=>by simp [hk])
 have hvb:∀g,v.ownBlock=some g->g<w.heap.size:=fun g e=>by
  rcases hk1.2 with ⟨e2,_⟩|⟨g',cap,cur,e2,_,hg',_⟩
  ·rw[e2] at e;cases e
  rw[e2] at e;simp only[Value.ownBlock,Option.some.injEq] at e;subst e;exact Ay hg'
 refine⟨kvs++[kv],?_,Gz.snoc (hk2.imp fun u k xs q=>Bh q hX fun g e hm=>?_) (Mx (Bh hkv (Bb.of_grown hg v.ownBlock.toList fun k hk=>by simp [hk]) fun g e hm=>?_) hB)⟩
 ·rw[List.map_append,List.map_singleton,Ln (by rw[List.length_map];exact hk2.len)];simpa using hown
 ·have hm':v.ownBlock=some g:=by simpa using hm
  exact zyb
 have h1:=Cx hkv g e;have h2:=hvb g rM;omega
theorem Wt.z {w:World}{B:Nat}{v:Value}{l:List Nz}(h:Wt w B v l)(hl:l.length<=1000000)(hs:∀x∈l,x.kids.length<=1000000):TrZ w v l:=by
 obtain⟨kvs,h1,h2⟩:=h;rcases h1.2 with ⟨e,h0⟩|⟨g,cap,cur,rfl,_,hg,hc,_⟩
 ·exact zxw
 refine⟨hl,some ⟨g,0,none⟩,cap,rfl,fun i hi=>?_⟩;obtain⟨kv,_,hk,hg⟩:=h2.get i hi
 have hcell:∀k u,(C4 [kv] [l[i].nd])[k]? =some u->w.cell? ⟨g,0+i*8+k,none⟩=some u:=fun k u hu=>by
  have:=h1.cells (g:=g) rfl (i*8+k) u (hg k u hu)
  rw[Addr.add_lit,←Nat.add_assoc] at this;exact this
 exact⟨g,0,kv,rfl,⟨hcell 0 _ rfl,hcell 1 _ rfl,hcell 2 _ rfl,hcell 3 _ rfl,hcell 4 _ rfl,hcell 5 _ rfl,hcell 6 _ rfl,hcell 7 _ rfl⟩,qK (hs _ (List.getElem_mem hi)) hk⟩
theorem fX {l:List Na}(h:Lw l=false):l.length<=70/\Lc l<=3000:=by
 unfold Lw at h;rw[Bool.or_eq_false_iff] at h;exact⟨by have:=of_decide_eq_false h.1;omega,by have:=of_decide_eq_false h.2;omega⟩
theorem cW:∀{zs:List Nz} {l:List Na},zs.length=l.length->(∀i (h1:i<l.length) (h2:i<zs.length),zs[i].h=l[i].h)->(zs.map Jq).sum<=430*l.length+Lc l
 |[],[],_,_=>by simp [Lc]
 |z::zs,x::l,h,q=>by
  have h1:=cW (zs:=zs) (l:=l) rI (fun i h1 h2=>q (i+1) sD tJ);have h2:z.h=x.h:=q 0 qQ qQ;unfold Lc at h1 ⊢;rw[List.map_cons,List.sum_cons,List.map_cons,List.sum_cons,Aa];unfold Jq at h1 ⊢;rw[h2];omega
 |[],_::_,h,_=>by simp at h
 |_::_,[],h,_=>by simp at h
theorem fW {w:World}{B n sz:Nat}{e:TypeId}{v:Value}{xs:List Value}(h:w.ownsRow B e sz v n xs):∃a c,v= .slice a n c:=by
 rcases h.2 with ⟨rfl,rfl⟩|⟨g,cap,cur,rfl,_⟩
 ·exact⟨none,0,rfl⟩
 exact⟨_,cap,rfl⟩
theorem Sc:∀{l:List Nat} {x:Nat},x∈l->x<=l.sum
 |y::l,_,.head _=>by rw[List.sum_cons];omega
 |y::l,_,.tail _ h=>by have:=Sc h;rw[List.sum_cons];omega
theorem mG {l:List Na}{i:Nat}(hi:i<l.length):l[i].h.name.length+l[i].h.v.2.2.length+l[i].n<=Lc l:=by
 unfold Lc;exact Sc (List.mem_map.2 ⟨l[i],List.getElem_mem hi,rfl⟩)
theorem Zo (v:Value)(l:List Na)(op:Int)(h0:0<=op)(w:World)(h:Wl w v l)(hR:Rd w):Calls Tryz.prog 8 #[v,.int .u8 op] w fun e w'=>e= .returned (.bool true)/\Below w.heap.size w w':=by
 have HG:=Ax (fZ h);have HR:=Ax hR;obtain⟨gr,hgr⟩:∃g,Lw l=g:=⟨_,rfl⟩;rw[hgr] at HG;have HK:=fun(V:World) (hV:Below w.heap.size w V)=>Ax (nK V (hR.below hV))
 cases gr with
 |true=>
  obtain⟨hlm,va,vc,rfl,_⟩:=h;clear hR hgr;go_enter Tryz.func8,Tryz.ntmps8;go_wp2_with fail;refine HG.out.mono ?_;rintro e V ⟨rfl,hb⟩;have HB:=Ax hb;have HK':=HK V hb;clear hb HG HK;go_wp2_with fail;refine HK'.out.mono ?_;rintro e V2 ⟨rfl,hb2⟩;have HB2:=Ax (HB.out.trans (hb2.mono HB.out.size));clear hb2 HB HK';go_wp2_with fail;go_ret;exact⟨rfl,HB2.out⟩
 |false=>
  obtain⟨h70,h3⟩:=fX hgr;have hat:=fun i (hi:i<l.length)=>Al (mG hi) h3
  obtain⟨zs,hzl,hzk,hz⟩:=h.z qO (fun x hx=>by
   obtain⟨i,hi,rfl⟩:=List.getElem_of_mem hx
   have:=hat i hi
   omega)
  have hcell:=h.2;obtain⟨hlm,va,vc,rfl,_⟩:=h;obtain⟨_,_,e0,hc0⟩:=hcell;injection e0 with e1 _ e2;subst e1 e2
  have hfit:∀x∈zs,Jw x.h:=fun x hx=>by
   obtain⟨i,hi,rfl⟩:=List.getElem_of_mem hx;obtain⟨_,_,_,_,ok⟩:=hc0 i qO;rw[(hzk i qO hi).1]
   have:=hat i qO
   exact⟨ok.v0,ok.v1,by omega,by omega⟩
  have hop:∀x∈zs,0<=x.h.op:=fun x hx=>by
   obtain⟨i,hi,rfl⟩:=List.getElem_of_mem hx;obtain⟨_,_,_,_,ok⟩:=hc0 i qO;rw[(hzk i qO hi).1];exact ok.op0
  have hkl:∀x∈zs,x.kids.length<=1000000:=fun x hx=>by
   obtain⟨i,hi,rfl⟩:=List.getElem_of_mem hx
   have:=(hzk i qO hi).2.1
   have:=hat i qO
   omega
  have hcost:zs.length<=60->(zs.map Jq).sum<=65536:=fun h60=>by
   have:=cW hzl (fun i h1 h2=>(hzk i h1 h2).1)
   omega
  have HZ:=Ax hz;have HC:=Ax hc0;have Hzk:=Ax hzk;have Hzl:=Ax hzl;have Hfit:=Ax hfit;have Hop:=Ax hop;have Hkl:=Ax hkl;have Hcost:=Ax hcost;clear hz hc0 hzk hzl hfit hop hkl hcost hat h3 hgr hR;go_enter Tryz.func8,Tryz.ntmps8;go_wp2_with fail;refine HG.out.mono ?_;rintro e V0 ⟨rfl,hb⟩;have HB0:=Ax hb;obtain⟨B,hBdef⟩:∃B,V0.heap.size=B:=⟨_,rfl⟩;have HBd:=Ax hBdef;have H0:Hid (Wt V0 B (.slice none 0 0) (zs.take 0)/\Below B V0 V0):=Ax ⟨Wt.nil _ _,Aq _ _⟩;clear hb HG hBdef;go_wp2_with fail
  go_loopw [5,17] (fun v5 v17 wr=>∃(i:Nat) (oa:Option Addr) (oc:Nat),i<=l.length/\v17= .int .i64 i/\v5= .slice oa i oc/\Hid (Wt wr B (.slice oa i oc) (zs.take i)/\Below B V0 wr)) (fun _ v17 _=>l.length - (intOf v17).toNat)
  case atStart=>exact⟨0,none,0,Nat.zero_le _,rfl,rfl,H0⟩
  obtain⟨wo,rfl⟩:∃wo:World,wo=wr:=⟨_,rfl⟩;obtain⟨i,oa,oc,hi,rfl,rfl,hq⟩:=hrel;obtain⟨hT,hBo⟩:=hq.out;have hBo':Below V0.heap.size V0 wo:=by rw[HBd.out];exact hBo
  have hbw:Below w.heap.size w wo:=HB0.out.trans (hBo'.mono HB0.out.size);by_cases hil:i<l.length
  ·have hBs:B<=wo.heap.size:=by rw[←HBd.out];exact hBo'.size
   have hiz:i<zs.length:=by rw[Hzl.out];exact hil
   obtain⟨b,off,rfl,hna,hok⟩:=HC.out i hil;have hna:=hna.below hbw;obtain⟨hzh,hkn,hki⟩:=Hzk.out i hil hiz;have hki:=hki.below hbw;have hkl:=Hkl.out _ (List.getElem_mem hiz);have hzn:zs[i]? =some zs[i]:=Ag hiz;have hnil:=hok.nil;obtain⟨⟨⟨op',⟨vk,vn,vs⟩,nm,ln,cl⟩,ka,kn,kc⟩,hx⟩:∃x,l[i]=x:=⟨_,rfl⟩;obtain⟨⟨zh,ks⟩,hzx⟩:∃z,zs[i]=z:=⟨_,rfl⟩;rw[hzx] at hzh hkn hki hkl hzn;rw[hx] at hna hzh hkn hki hnil;simp only at hzh hkn hkl hnil;subst hzh hkn;obtain⟨x0,x1,x2,x3,x4,x5,x6,x7⟩:=hna;unfold Na.kv at x5 hki;simp only at x0 x1 x2 x3 x4 x5 x6 x7 hki
   have Hsrc:Hid (∀W,Below wo.heap.size wo W->((Value.slice ka ks.length kc= .slice none 0 0/\ks.length=0/\I8 ks=[])\/∃ad c,Value.slice ka ks.length kc= .slice (some ad) ks.length c/\(I8 ks).length=ks.length*1/\∀j u,(I8 ks)[j]? =some u->W.cell? (ad.add j)=some u)):=Ax (fun W hW=>by
    cases ka with
    |none=>
     obtain⟨q1,q2⟩:=hnil rfl
     have:ks=[]:=List.eq_nil_of_length_eq_zero q1
     subst this q2;exact Or.inl ⟨rfl,rfl,rfl⟩
    |some ad=>
     refine Or.inr ⟨ad,kc,rfl,by simp [I8],fun j u hj=>?_⟩
     have hj2:j<ks.length:=by
      have:=(List.getElem?_eq_some_iff.1 hj).1
      simpa[I8] using this
     obtain⟨b',o',e',hc⟩:=cA hki hj2;injection e' with e';subst e';rw[Addr.add_lit,A6 hW hc,←hj]
     simp [I8,hj2])
   have Hzn:=Ax hzn;have HT:=Ax hT;have HBo:=Ax hBo';have j0:(0:Int)<=(i:Int):=by omega
   have j1:(i:Int)<(l.length:Int):=by omega
   have j2:decide ((i:Int)<(l.length:Int))=true:=Am j1;have hbx:=Bp x0;obtain⟨W1,hW1⟩:∃W1,wo.alloc (.cells #[.int .u8 op',.int .u8 vk,.int .i64 vn,.string ⟨vs.toArray⟩,.string ⟨nm.toArray⟩,.slice ka ks.length kc,.int .i64 ln,.int .i64 cl] 43)=W1:=⟨_,rfl⟩;have hp1:=Az wo (.cells #[.int .u8 op',.int .u8 vk,.int .i64 vn,.string ⟨vs.toArray⟩,.string ⟨nm.toArray⟩,.slice ka ks.length kc,.int .i64 ln,.int .i64 cl] 43);have hb1:Below wo.heap.size wo W1:=by rw[←hW1];exact(Aq _ wo).alloc (Ak _) _
   have hz1:W1.heap.size=wo.heap.size+1:=by rw[←hW1];simp
   rw[hW1] at hp1;obtain⟨n0,n1,n2,n3,n4,n5,n6,n7,nf⟩:=A8 hp1;have hs1:=Hsrc.out (W1.alloc (.cells #[] 3)) (hb1.alloc hb1.size _);have Hs1:=Ax hs1;have Hown0:=Ax (World.ownsRow_made (base:=W1.heap.size) (e:=3) (size:=1) W1 #[] 0 (Ak _) qP rfl);have HP1:=Ax hp1;have HB1:=Ax hb1;have Hz1:=Ax hz1;obtain⟨i0,hi0,hz0',hz1',hz2'⟩:=G7;have Hi0:=Ax hi0;have Hy0:=Ax hz0';have Hy1:=Ax hz1';have Hy2:=Ax hz2';have m5:=A6 ((Aq _ W1).alloc (Ak _) (.cells #[] 3)) n5;obtain⟨i1',hi1,hy0,hy1,hy2⟩:=Gl;have Hi1:=Ax hi1;have Hw0:=Ax hy0;have Hw1:=Ax hy1;have Hw2:=Ax hy2;have Hil:=Ax hil;obtain⟨kvs,hk1,hk2⟩:=hT;have hlen:(zs.take i).length=i:=by rw[List.length_take];omega
   rw[hlen] at hk1;have Hk1:=Ax hk1;have Hk2:=Ax hk2;have Hlen:=Ax hlen;clear hk1 hk2 hlen hi1 hy0 hy1 hy2;clear hq hBo hBo' hki hzn hzx hx hnil hok hp1 hb1 hz1 hs1 nf H0 hbw hi0 hz0' hz1' hz2' Hsrc
   go_wp2_with (first
    |(
     refine wpList_append_lies _ rfl (.tmp 26) (.tmp 28) _ rfl B 43 i1' (.agg #[.int .u8 0,.int .u8 0,.int .i64 0,.string ⟨#[]⟩,.string ⟨#[]⟩,.slice none 0 0,.int .i64 0,.int .i64 0]) 8 96 Tryz.underlying31 Hi1.out Hw0.out Hw1.out Hw2.out rfl qP (.slice oa i oc) i (C4 kvs ((zs.take i).map Nz.nd)) rfl Hrow2.out ⟨wa.heap.size,0,none⟩ 1 1 [.int .u8 op',.int .u8 vk,.int .i64 vn,.string ⟨vs.toArray⟩,.string ⟨nm.toArray⟩,.slice la ks.length lc,.int .i64 ln,.int .i64 cl] rfl rfl (World.news_of_block (cs:= #[.int .u8 op',.int .u8 vk,.int .i64 vn,.string ⟨vs.toArray⟩,.string ⟨nm.toArray⟩,.slice la ks.length lc,.int .i64 ln,.int .i64 cl]) HN2.out) rB qP rA qO (by rw[HZ2.out];omega) (wa.heap.size+1) HZ2.out ?_
     intro g6 cap w6 hown6 hgrow6 hat6 hlt6)
    |(
     refine Jz _ rfl (.tmp 21) (.tmp 23) _ rfl W1.heap.size 3 i0 (.int .i64 0) 1 8 Tryz.underlying41 Hi0.out Hy0.out Hy1.out Hy2.out rfl qP (.slice (some ⟨W1.heap.size,0,none⟩) 0 0) 0 [] rfl Hown0.out (.slice ka ks.length kc) ks.length (I8 ks) rfl Hs1.out (fE _) rA qO ((Aq _ W1).alloc (Ak _) _).size ?_;intro va wa howna hga;rw[Nat.zero_add,List.nil_append] at howna;have ha:=Ib (v:= .slice (some ⟨W1.heap.size,0,none⟩) 0 0) ((Aq _ W1).alloc (Ak _) (.cells #[] 3)) hga (fun g e=>by simp only[Value.ownBlock,Option.some.injEq] at e;omega) ((Aq _ W1).alloc (Ak _) _).size;obtain⟨la,lc,rfl⟩:=fW howna;have hp2:=(ha.block _ (Ay HP1.out)).trans HP1.out;obtain⟨n0,n1,n2,n3,n4,n5,n6,n7,nf⟩:=A8 hp2;have nf5:=nf 5;have hpx:wo.heap.size<wa.heap.size:=Ay hp2;have hbwx:Below wo.heap.size wo wa:=HB1.out.trans (ha.mono HB1.out.size);have hX2:Below wo.heap.size wo ((wa.setCell ⟨wo.heap.size,5,none⟩ (.slice la ks.length lc)).alloc (.cells #[.int .u8 op',.int .u8 vk,.int .i64 vn,.string ⟨vs.toArray⟩,.string ⟨nm.toArray⟩,.slice la ks.length lc,.int .i64 ln,.int .i64 cl] 43)):=(hbwx.setCell (Ak _) _).alloc (hbwx.setCell (Ak _) _).size _
     have Hkr:=Ax (show((wa.setCell ⟨wo.heap.size,5,none⟩ (.slice la ks.length lc)).alloc (.cells #[.int .u8 op',.int .u8 vk,.int .i64 vn,.string ⟨vs.toArray⟩,.string ⟨nm.toArray⟩,.slice la ks.length lc,.int .i64 ln,.int .i64 cl] 43)).ownsRow wo.heap.size 3 1 (.slice la ks.length lc) ks.length (I8 ks) from by
      refine Mx ((Bh howna (A3 wa wo.heap.size 5 _) fun g e hm=>?_).alloc _) (by rw[Hz1.out];omega)
      have:=Cx howna g e
      rw[Hz1.out] at this;simp at hm
      omega)
     have Hrow2:=Ax (Cv Hk1.out hX2)
     have HN2:Hid (((wa.setCell ⟨wo.heap.size,5,none⟩ (.slice la ks.length lc)).alloc (.cells #[.int .u8 op',.int .u8 vk,.int .i64 vn,.string ⟨vs.toArray⟩,.string ⟨nm.toArray⟩,.slice la ks.length lc,.int .i64 ln,.int .i64 cl] 43)).heap[wa.heap.size]? =some (.cells #[.int .u8 op',.int .u8 vk,.int .i64 vn,.string ⟨vs.toArray⟩,.string ⟨nm.toArray⟩,.slice la ks.length lc,.int .i64 ln,.int .i64 cl] 43 (0,0))):=Ax (by
      have:=Az (wa.setCell ⟨wo.heap.size,5,none⟩ (.slice la ks.length lc)) (.cells #[.int .u8 op',.int .u8 vk,.int .i64 vn,.string ⟨vs.toArray⟩,.string ⟨nm.toArray⟩,.slice la ks.length lc,.int .i64 ln,.int .i64 cl] 43)
      simpa[World.setCell] using this)
     have HZ2:Hid (((wa.setCell ⟨wo.heap.size,5,none⟩ (.slice la ks.length lc)).alloc (.cells #[.int .u8 op',.int .u8 vk,.int .i64 vn,.string ⟨vs.toArray⟩,.string ⟨nm.toArray⟩,.slice la ks.length lc,.int .i64 ln,.int .i64 cl] 43)).heap.size=wa.heap.size+1):=Ax (by simp [World.setCell]);have Hownb:=Ax (Cx Hrow2.out);have HX2:=Ax hX2;have hsw:=hbwx.size
     clear howna hga ha hp2 nf hbwx hX2 m5))
   have hT6:=pE (n:=⟨⟨op',(vk,vn,vs),nm,ln,cl⟩,ks⟩) (by rw[Hlen.out];exact Hk1.out) Hk2.out HX2.out Hkr.out hBs hgrow6 (by rw[Hlen.out];exact hown6);have hB6:Below B V0 w6:=(HBd.out▸HBo.out).trans (Ib (v:= .slice oa i oc) (HX2.out.mono hBs) hgrow6 Hownb.out (by rw[HZ2.out];omega));rw[show zs.take i++[⟨⟨op',(vk,vn,vs),nm,ln,cl⟩,ks⟩]=zs.take (i+1) by rw[List.take_add_one,Hzn.out];rfl] at hT6;have HT6:Hid (Wt w6 B (.slice (some ⟨g6,0,none⟩) (i+1) cap) (zs.take (i+1))/\Below B V0 w6):=Ax ⟨hT6,hB6⟩;clear hown6 hgrow6 hat6 hlt6 hB6 hT6 Hrow2 HN2 HZ2 Hownb Hk1 Hk2 Hkr HX2 hsw;go_wp2_with fail;go_roundw
   case rel=>exact⟨i+1,some ⟨g6,0,none⟩,cap,by omega,by go_num,rfl,HT6⟩
   case measure=>simp [intOf];omega
  obtain rfl:i=l.length:=by omega
  have hTz:TrZ wo (.slice oa l.length oc) zs:=by
   have h1:=hT;rw[List.take_of_length_le (by rw[Hzl.out];exact Ak _)] at h1
   have:=h1.z (by rw[Hzl.out];omega) Hkl.out
   exact this
  have hlw:∀V,Below wo.heap.size wo V->Below w.heap.size w V:=fun V hV=>hbw.trans (hV.mono hbw.size)
  have hE:=Px hTz Hop.out Hfit.out (HR.out.below hbw);rw[cU Hfit.out (fun h=>Hcost.out h)] at hE;have HF:=fun V (hV:Below wo.heap.size wo V)=>Ax (dD (HZ.out.below (hlw V hV)) Hop.out Hfit.out Hcost.out)
  have HM:=fun V (hV:Below wo.heap.size wo V)=>Ax (kU (hTz.below hV) Hop.out Hfit.out (HR.out.below (hlw V hV)))
  have HS:=fun V (hV:Below wo.heap.size wo V)=>Ax (Ut false V (hTz.below hV) (HZ.out.below (hlw V hV)))
  rw[cU Hfit.out (fun h=>Hcost.out h)] at HM;rw[T9] at HS;obtain⟨r,hr⟩:∃r,Yg zs=r:=⟨_,rfl⟩;rw[hr] at hE HF HM;obtain⟨t,ht⟩:∃t,r.getD []=t:=⟨_,rfl⟩;obtain⟨c,hc⟩:∃c,Xr r=c:=⟨_,rfl⟩;obtain⟨bb,hbb⟩:∃b,r.isSome=b:=⟨_,rfl⟩;have e0:(c==0)=bb:=by subst hc hbb;cases r<;>rfl
  rw[ht,hc] at hE HF;rw[hbb] at HM;have HE:=Ax hE;have HLW:=Ax hlw;have HI:=fun V=>Ax (Oq op h0 V)
  have HJ:=fun V=>Ax (Ld op V)
  have e1:(t==t)=true:=beq_self_eq_true t;have e2:(c==c)=true:=beq_self_eq_true c;have e3:(bb==bb)=true:=beq_self_eq_true bb;have e4:(L6 op==L6 op)=true:=beq_self_eq_true _;have j2:decide ((l.length:Int)<(l.length:Int))=false:=by simp
  clear hq hT hBo hBo' hTz hE hr ht hc hbb hlw hbw HC Hzk Hkl H0 HR HZ Hfit Hop Hcost;go_wp2_with fail;refine HE.out.mono ?_;rintro e V1 ⟨rfl,hb1⟩;have hF:=(HF V1 hb1).out;have HB1:=Ax hb1;clear hb1 HE HF;go_wp2_with fail;refine hF.mono ?_;rintro e V2 ⟨rfl,hb2⟩;have hb2':=HB1.out.trans (hb2.mono HB1.out.size);have hM:=(HM V2 hb2').out;have HB2:=Ax hb2';clear hb2 hb2' hF HM HB1;go_wp2_with fail;refine hM.mono ?_;rintro e V3 ⟨rfl,hb3⟩;have HB3:=Ax (HB2.out.trans (hb3.mono HB2.out.size));have hI:=(HI V3).out;clear hb3 hM HB2 HI;go_wp2_with fail;refine hI.mono ?_;rintro e V4 ⟨rfl,hb4⟩;have HB4:=Ax (HB3.out.trans (hb4.mono HB3.out.size));have hJ:=(HJ V4).out;clear hb4 hI HB3 HJ;go_wp2_with fail;refine hJ.mono ?_;rintro e V5 ⟨rfl,hb5⟩;have hb5':=HB4.out.trans (hb5.mono HB4.out.size);have hS:=(HS V5 hb5').out;have HB5:=Ax hb5';clear hb5 hb5' hJ HB4 HS;go_wp2_with fail;refine hS.mono ?_;rintro e V6 ⟨rfl,hb6⟩;have hb6':=HB5.out.trans (hb6.mono HB5.out.size);have hK:=(HK V6 (HLW.out V6 hb6')).out;have HB6:=Ax (HLW.out V6 hb6');clear hb6 hb6' hS HB5 HK;go_wp2_with fail;refine hK.mono ?_;rintro e V7 ⟨rfl,hb7⟩;have HB7:=Ax (HB6.out.trans (hb7.mono HB6.out.size));clear hb7 hK HB6;go_wp2_with fail;go_ret;exact⟨rfl,HB7.out⟩
end Go.Proofs.YtgfakdobajgnfaaGreatDoor
