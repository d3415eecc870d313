import Derived.Laws.AppendOwn
import Derived.Test.YtgfakdobajgnfaaGreatDoorQk34
import Derived.Test.YtgfakdobajgnfaaGreatDoorQk32
import Derived.Test.YtgfakdobajgnfaaGreatDoorQk33
set_option maxRecDepth 100000
set_option maxHeartbeats 16000000
namespace Go.Proofs.YtgfakdobajgnfaaGreatDoor
open Go Go.RowKit Go.Lib Go.Sort Go.Shelf
theorem Vw {op:Int}{m:Nat}(h:Cr op=(m,m))(c:1<=op)(d:op<=26)(k:Nat):Ha op k=((k:Int)==(m:Int)):=by
 unfold Ha;rw[h];by_cases e:k=m
 ·subst e;rw[beq_self_eq_true];exact Am ⟨c,d,Ak _,Ak _⟩
 rw[Af.2 rF];exact An (fun q=>e (by have:=q.2.2.1;have:=q.2.2.2;simp only at*;omega))
theorem Vo {op:Int}(h:Cp op):(Di (Cw op)).getD (0,0,0)=(op,(Cr op).1,(Cr op).2):=by
 rcases h with rfl|rfl|rfl|rfl|rfl|rfl|rfl|rfl|rfl<;>rfl
theorem eP (op:Int)(h:0<=op)(k:Nat)(w:World):Calls Tryz.prog 94 #[.int .u8 op,.int .i64 (k:Int)] w fun e w'=>e= .returned (.bool (Ha op k))/\Below w.heap.size w w':=by
 by_cases hA:1<=op/\op<=3
 ·have c:Ha op k=((k:Int)==0):=Vw (m:=0) (by rcases (show op=1\/op=2\/op=3 by omega) with rfl|rfl|rfl<;>rfl) hA.1 rF k;rw[c];have n:decide ((1:Int)<=op)=true:=Am hA.1;have o:decide (op<=(3:Int))=true:=Am hA.2;clear c hA h;go_enter Tryz.func94,Tryz.ntmps94;exact zy8
 by_cases hB:op=6\/op=17
 ·have c:Ha op k=((k:Int)==1):=Vw (m:=1) (by rcases hB with rfl|rfl<;>rfl) rF rF k;rw[c];clear c hA h;rcases hB with rfl|rfl
  all_goals
   go_enter Tryz.func94,Tryz.ntmps94;exact zy8
 by_cases hC:F1 op
 ·have c:Ha op k=((k:Int)==2):=Vw (m:=2) (Rb hC) tD tD k;rw[c];have n:decide ((1:Int)<=op)=true:=Am tD;have o:decide (op<=(3:Int))=false:=An tD;have p:(op==6)=false:=Af.2 rF;have f:(op==17)=false:=Af.2 rF;have v:decide ((4:Int)<=op)=true:=Am tD;have i:decide (op<=(16:Int))=true:=Am tD;clear c hA hB hC h;go_enter Tryz.func94,Tryz.ntmps94;exact zy8
 by_cases hD:Cp op
 ·have n:decide ((1:Int)<=op)=true:=Am tE;have o:decide (op<=(3:Int))=false:=An tE;have p:(op==6)=false:=Af.2 rF;have f:(op==17)=false:=Af.2 rF;have v:decide ((4:Int)<=op)=true:=Am tE;have i:decide (op<=(16:Int))=false:=An tE;have r:decide ((18:Int)<=op)=true:=Am tE;have u:decide (op<=(26:Int))=true:=Am tE;have HW:=Ax (Qd op hD w);have d:=fun V=>Yj (Cw op) V
  rw[Vo hD] at d;obtain⟨a,b,g⟩:∃a b,Cr op=(a,b):=⟨_,_,rfl⟩
  have c:Ha op k=(decide (a<=k) && decide (k<=b)):=by
   unfold Ha;rw[g];simp only;by_cases h1:a<=k
   ·by_cases h2:k<=b
    ·rw[Am h1,Am h2];exact Am ⟨by unfold Cp at hD;omega,by unfold Cp at hD;omega,h1,h2⟩
    rw[An h2,Bool.and_false];exact An (fun q=>h2 q.2.2.2)
   rw[An h1,Bool.false_and];exact An (fun q=>h1 q.2.2.1)
  rw[c];rw[g] at d;simp only at d;obtain⟨x,j⟩:∃x,Cw op=x:=⟨_,rfl⟩;rw[j] at HW d;have HCL:=Ax d;clear c hA hB hC hD h d g j;by_cases h1:a<=k
  ·have y:decide ((a:Int)<=(k:Int))=true:=Am rF;rw[Am h1,Bool.true_and];by_cases h2:k<=b
   ·have A:decide ((k:Int)<=(b:Int))=true:=Am rF;rw[Am h2];exact zyv
   have A:decide ((k:Int)<=(b:Int))=false:=An rF;rw[An h2];exact zyv
  have y:decide ((a:Int)<=(k:Int))=false:=An rF;rw[An h1,Bool.false_and];exact zyv
 have c:Ha op k=false:=An (fun q=>by unfold Cp at hD;unfold F1 at hC;omega);rw[c];have p:(op==6)=false:=Af.2 rF;have f:(op==17)=false:=Af.2 rF;by_cases h26:26<op
 ·have n:decide ((1:Int)<=op)=true:=Am rF;have o:decide (op<=(3:Int))=false:=An rF;have v:decide ((4:Int)<=op)=true:=Am rF;have i:decide (op<=(16:Int))=false:=An rF;have r:decide ((18:Int)<=op)=true:=Am rF;have u:decide (op<=(26:Int))=false:=An rF;clear c hA hB hC hD h h26;go_enter Tryz.func94,Tryz.ntmps94;exact zy8
 obtain rfl:op=0:=by unfold Cp at hD;unfold F1 at hC;omega
 clear c hA hB hC hD h h26 p f;go_enter Tryz.func94,Tryz.ntmps94;exact zy8
theorem Oe {P:Program}(w:World){ops:Array Oper}{p:List Oper}{o:Oper}{a:Act}{Q:Exit->Act->World->Prop}(A:o.guard=none)(s x:Operand)(t:TypeId)
 (T:o.op= .call {callee:= .builtin .append,args:= #[s,x],argTypes:= #[t,t]})
 (base:Nat) (e:TypeId) (i:TypeInfo) (z:Value) (size f:Nat) (U:P.underlying t=some (.slice e)) (V:P.info? e=some i) (Y:i.zero=some z)
 (q:i.size=size) (I:i.bytes=f) (L:z.cells.size=size) (M:0<size)
 (v:Value) (n:Nat) (E:List Value) (W:a.eval s=v) (g:w.ownsRow base e size v n E)
 (N:Value) (m:Nat) (d:List Value) (X:a.eval x=N) (C:(N= .slice none 0 0/\m=0/\d=[])\/∃F c,N= .slice (some F) m c/\d.length=m*size/\∀j u,d[j]? =some u->w.cell? (F.add j)=some u)
 (Z:∀u∈d,u.oneCell'=true)
 (O:n+m<=maxLen) (k:(n+m)*f<=140737488355328) (r:base<=w.heap.size)
 (h:∀G w',w'.ownsRow base e size G (n+m) (E++d)->w.grownBy w' v.ownBlock->wpList P ops Q p (a.put o.dst G) w'):wpList P ops Q (o::p) a w:=by
 rcases C with ⟨rfl,rfl,rfl⟩|⟨F,c,rfl,hl,y⟩
 ·refine wpList_plain A fun K R=>?_
  have D:=run_append_owned_none (P:=P) w base t o.type e i size U V v n E g;unfold Oper.wp;simp [execOp,T,resolve,invoke,builtin,W,X,D,Result.andThen];exact R _ _ (h _ w (by simpa using g) ⟨rfl,rfl,rfl,Ak _,fun _ _ _=>rfl⟩)
 exact wpList_append_own w A s x t T base e i z size f U V Y q I L M v n E W g F m c d X hl y Z O k r fun G w' h2 h3 _=>h G w' h2 h3
def Nj (o:List Nat):List Int:=o.map fun(x:Nat)=>(x:Int)
theorem Oq (o:List Nat):(Nj o).length=o.length:=by simp [Nj]
theorem mR {w:World}{c:Option Addr}{n d:Nat}{L:List Int}(h:Et w (.slice c n d) L){j:Nat}(f:j<L.length):∃g off,c=some ⟨g,off,none⟩/\w.cell? ⟨g,off+j,none⟩=some (.int .i64 L[j]):=by
 obtain⟨_,_,_,e,i⟩:=h;injection e with e1 _ _;subst e1;exact i j f
theorem lE (l:List Nat):∀u∈Ea l,u.oneCell'=true:=fun u c=>by
 obtain⟨z,_,rfl⟩:=List.mem_map.1 c;rfl
def pW (x:Option (List Int)):Bool:=match x with
 |some o=>decide (o.length=1)
 |none=>false
structure qT (w wr:World)(l:List Nz)(i:Nat)(o:List Nat)(v:Value):Prop where
 row:wr.ownsRow w.heap.size 3 1 v o.length (Ea o)
 bel:Below w.heap.size w wr
 few:o.length<=i
 eq:Ej l=pW (Dd i (Nj o) (l.drop i))
theorem Zu {l:List Nz}{w:World}{v:Value}(ht:TrZ w v l)(ho:∀x∈l,0<=x.h.op):Calls Tryz.prog 63 #[v] w fun e w'=>e= .returned (.bool (Ej l))/\Below w.heap.size w w':=by
 have vI:=ht.1;have HT:=Ax ht;have HO:=Ax ho;obtain⟨va,vc,rfl⟩:=ht.slice;clear ht ho;go_enter Tryz.func63,Tryz.ntmps63;go_wp2_with fail
 go_loopw [3,4] (fun v3 v4 wr=>∃(i:Nat) (o:List Nat) (Z:Option Addr) (E:Nat),i<=l.length/\v4= .int .i64 i/\v3= .slice Z o.length E/\Hid (qT w wr l i o (.slice Z o.length E))) (fun _ v4 _=>l.length - (intOf v4).toNat)
 case atStart=>exact⟨0,[],none,0,Nat.zero_le _,rfl,rfl,Ax ⟨World.ownsRow_nil _ _ _ _,Aq _ w,Ak _,rfl⟩⟩
 obtain⟨wo,rfl⟩:∃wo:World,wo=wr:=⟨_,rfl⟩;obtain⟨i,o,Z,E,hi,rfl,rfl,F⟩:=hrel;by_cases hil:i<l.length
 ·have hT:=HT.out.below F.out.bel;obtain⟨tr,off,tc,hv⟩:=hT.some rF;injection hv with hv _ hv2;subst hv hv2;obtain⟨kv,uV,uW⟩:=hT.get (Ag hil);obtain⟨f9,ka,kc,rfl,G⟩:=uW;obtain⟨x0,_,_,_,_,x5,_,_⟩:=uV;have I:=HO.out _ (List.getElem_mem hil);have a8:l.drop i=l[i]::l.drop (i+1):=List.drop_eq_getElem_cons hil;have vG:=F.out.few;obtain⟨x,hx⟩:∃x,l[i]=x:=⟨_,rfl⟩;rw[hx] at x0 x5 f9 G I a8;obtain⟨h,kids⟩:=x;simp only at x0 x5 f9 G I;have hF:=eP h.op I kids.length wo;have j0:(0:Int)<=(i:Int):=by omega
  have j1:(i:Int)<(l.length:Int):=by omega
  have j2:decide ((i:Int)<(l.length:Int))=true:=Am j1;have r:=F.out.eq;rw[a8,Dd,Oq] at r;simp only at r;obtain⟨fb,i6⟩:∃b,Ha h.op kids.length=b:=⟨_,rfl⟩;rw[i6] at hF r;have HF:=Ax hF;have vJ:=Ax x0;have uX:=Ax x5;have uY:=Ax G;have Hq:=Ax F.out;have L:=Ax r;clear F hT a8 hx hF I G r i6;cases fb with
  |false=>
   go_wp2_with fail;refine HF.out.mono ?_;rintro e V ⟨rfl,hb⟩;have M:=Ax (Hq.out.bel.trans (hb.mono Hq.out.bel.size));have A:Ej l=false:=by rw[L.out];rfl
   have N:=Ax A;clear hb HF x0 x5 A;go_wp2_with fail;go_ret;exact⟨by rw[N.out];rfl,M.out⟩
  |true=>
   go_wp2_with fail;refine HF.out.mono ?_;rintro e V ⟨rfl,hb⟩;have M:=Ax (Hq.out.bel.trans (hb.mono Hq.out.bel.size));have d:=Cg Hq.out.row hb;have uZ:o.length<=1000000:=by omega
   have HR:=Ax d;have vA:=Ax (Et.of_row uZ d);have i7:=Ax hb;clear hb HF x0 x5 d;by_cases hko:kids.length<=o.length;rotate_left
   ·have l0:decide (o.length<kids.length)=true:=Am rF;have A:Ej l=false:=by rw[L.out,An hko];rfl
    have N:=Ax A;clear A hko;go_wp2_with fail;go_ret;exact⟨by rw[N.out];rfl,M.out⟩
   have l0:decide (o.length<kids.length)=false:=An rF;obtain⟨q,F⟩:∃q,q+kids.length=o.length:=⟨o.length - kids.length,by omega⟩;have j8:o.length - kids.length=q:=by omega
   have vH:(o.length:Int) - (kids.length:Int)=(q:Int):=by omega
   have R:Hid (Ej l=pW (if(decide ((Nj o).drop q=kids))=true then Dd (i+1) ((Nj o).take q++[(i:Int)]) (l.drop (i+1)) else none)):=Ax (by
    have:=L.out
    rw[Am hko,j8,Bool.true_and,Bool.true_and] at this
    exact this)
   have H0:Hid (Below V.heap.size V V/\((Nj o).drop q).take 0=kids.take 0):=Ax ⟨Aq _ _,rfl⟩;clear L j8;go_wp2_with fail
   go_loopw [6] (fun v6 wr=>∃j:Nat,j<=kids.length/\v6= .int .i64 j/\Hid (Below V.heap.size V wr/\((Nj o).drop q).take j=kids.take j)) (fun v6 _=>kids.length - (intOf v6).toNat)
   case atStart=>exact⟨0,Nat.zero_le _,rfl,H0⟩
   obtain⟨j,hj,rfl,D⟩:=hrel;by_cases hjl:j<kids.length
   ·obtain⟨bk,ok,rfl,ck⟩:=uY.out j hjl;have ck:=A4 D.out.1 (A4 i7.out ck);have x5:=A4 D.out.1 (A4 i7.out uX.out);obtain⟨bo,oo,rfl,co⟩:=mR vA.out (j:=q+j) (by rw[List.length_map];omega);have co:=A4 D.out.1 co;obtain⟨x,hx⟩:∃x,kids[j]=x:=⟨_,rfl⟩;obtain⟨y,hy⟩:∃y,(o.map fun(k:Nat)=>(k:Int))[q+j]'(by rw[List.length_map];omega)=y:=⟨_,rfl⟩;rw[hx] at ck;rw[hy] at co;have g0:(0:Int)<=(j:Int):=by omega
    have g1:(j:Int)<(kids.length:Int):=by omega
    have g2:decide ((j:Int)<(kids.length:Int))=true:=Am g1;have g3:(0:Int)<=(q:Int)+(j:Int):=by omega
    have g4:(q:Int)+(j:Int)<(o.length:Int):=by omega
    have j9:kids.take (j+1)=kids.take j++[x]:=by rw[List.take_succ_eq_append_getElem hjl,hx]
    have k8:((Nj o).drop q).take (j+1)=((Nj o).drop q).take j++[y]:=by
     rw[List.take_succ_eq_append_getElem (by rw[List.length_drop,Oq];omega),List.getElem_drop];exact Ar (fun z=>_++[z]) hy
    have l7:=Ax k8;have n9:=Ax j9;have p8:=fun nq=>Ax (A8 D.out.1 nq)
    have Hr:=Ax D.out.2;clear D k8 j9 hx hy;by_cases hxy:x=y
    ·have g5:(x !=y)=false:=by simp [hxy]
     have vB:=Ax hxy;clear hxy;go_wp2_with fail;go_quiet (fail);go_wp2_with fail;refine⟨⟨j+1,by omega,by go_num,Ax ⟨(p8 _).out,?_⟩⟩,?_⟩
     ·rw[l7.out,n9.out,Hr.out,vB.out]
     simp [intOf];omega
    have g5:(x !=y)=true:=by simp [hxy]
    have A:Ej l=false:=by
     rw[R.out,An (fun e=>hxy (by
      have h1:=Ar (List.take (j+1)) e;rw[l7.out,n9.out,Hr.out] at h1;have h2:=List.append_cancel_left h1;injection h2 with h2 _
      exact h2.symm))]
     rfl
    have N:=Ax A;clear A hxy;go_wp2_with fail;go_quiet (fail);go_wp2_with fail;go_ret;exact⟨by rw[N.out];rfl,M.out.trans ((p8 _).out.mono M.out.size)⟩
   obtain rfl:j=kids.length:=by omega
   have g2:decide ((kids.length:Int)<(kids.length:Int))=false:=by simp
   have r7:(Nj o).drop q=kids:=by
    have:=D.out.2
    rwa [List.take_length,List.take_of_length_le (by rw[List.length_drop,Oq];omega)] at this
   have T:(Nj o).take q++[(i:Int)]=Nj (o.take q++[i]):=by simp [Nj,List.map_take]
   have N:=Ax (by rw[←T,R.out,Am r7];rfl:Ej l=pW (Dd (i+1) (Nj (o.take q++[i])) (l.drop (i+1))));have O:=Ax (M.out.trans (D.out.1.mono M.out.size));have d:=Cg HR.out D.out.1;have U:=Ax d;have r8:=O.out.size;have C:(wr.alloc (.cells #[] 3)).ownsRow w.heap.size 3 1 (.slice (some ⟨wr.heap.size,0,none⟩) 0 0) 0 []:=World.ownsRow_made wr #[] 0 r8 rH rfl;have b7:=Ax C;have b8:=Ax (O.out.alloc O.out.size (.cells #[] 3));have vK:Hid ((wr.alloc (.cells #[] 3)).heap.size=wr.heap.size+1):=Ax rI;have W:(o.take q).length=q:=by rw[List.length_take];omega
   have r9:=Ax W;have q0:(0:Int)<=(q:Int):=by omega
   obtain⟨i0,s7,s8,s9,w7⟩:=J4;have w8:=Ax s7;have w9:=Ax s8;have x8:=Ax s9;have x9:=Ax w7;have y8:=U.out.2
   have y9:∀(g c:Nat),Z=some ⟨g,0,none⟩->∃ad c',Value.slice (some ⟨g,0,none⟩) q c= .slice (some ad) q c'/\(Ea (o.take q)).length=q*1/\∀j u,(Ea (o.take q))[j]? =some u->(wr.alloc (.cells #[] 3)).cell? (ad.add j)=some u:=fun g c e=>by
    refine⟨_,_,rfl,by rw[Nat.mul_one,←r9.out];simp [Ea],fun j u hj=>?_⟩;subst e;obtain⟨vL,_⟩:=List.getElem?_eq_some_iff.1 hj
    have h2:(Ea o)[j]? =some u:=by
     rw[Ea,List.map_take,List.getElem?_take] at hj
     split at hj
     ·exact hj
     cases hj
    exact(U.out.alloc _).cells (g:=g) rfl j u h2
   have X:Hid (q<=E/\((Value.slice Z q E= .slice none 0 0/\q=0/\Ea (o.take q)=[])\/∃ad c,Value.slice Z q E= .slice (some ad) q c/\(Ea (o.take q)).length=q*1/\∀j u,(Ea (o.take q))[j]? =some u->(wr.alloc (.cells #[] 3)).cell? (ad.add j)=some u)):=Ax (by
    rcases y8 with ⟨e,h0⟩|⟨g,vM,vN,e,_,_,vO,_⟩
    ·have vC:q=0:=by omega
     injection e with e1 _ e2;subst e1 e2 vC;exact⟨Ak _,Or.inl ⟨rfl,rfl,rfl⟩⟩
    injection e with e1 _ e2;subst e2;refine⟨by omega,Or.inr ?_⟩;rw[e1]
    exact y9 g E e1)
   have q1:(q:Int)<=(E:Int):=by have:=X.out.1;omega
   clear D r7 T d C r8 W s7 s8 s9 w7 y8 y9;go_wp2_with (first|(refine wpList_append_lies _ rfl (.tmp 63) (.tmp 65) _ rfl w.heap.size 3 i0 (.int .i64 0) 1 8 Tryz.underlying41 w8.out w9.out x8.out x9.out rfl rH _ _ _ rfl d8.out ⟨wa.heap.size,0,none⟩ 1 1 [.int .i64 (i:Int)] rfl rfl (World.news_of_block (cs:= #[.int .i64 (i:Int)]) vD.out) rS rH rP rF (by rw[f7.out];have:=HA.out.size;omega) (wa.heap.size+1) f7.out ?_;intro g6 Y w6 m n uR uS)|(refine Oe _ rfl (.tmp 56) (.tmp 62) _ rfl w.heap.size 3 i0 (.int .i64 0) 1 8 Tryz.underlying41 w8.out w9.out x8.out x9.out rfl rH (.slice (some ⟨wr.heap.size,0,none⟩) 0 0) 0 [] rfl b7.out (.slice Z q E) q (Ea (o.take q)) rfl X.out.2 (lE _) rP rF b8.out.size ?_;intro va wa f uT;have HA:=Ax (G5 (v:= .slice (some ⟨wr.heap.size,0,none⟩) 0 0) b8.out uT (fun g e=>by simp only[Value.ownBlock,Option.some.injEq] at e;have:=O.out.size;omega) b8.out.size);rw[Nat.zero_add,List.nil_append] at f;have d8:=Ax (f.alloc (.cells #[.int .i64 (i:Int)] 3));have f8:=Ax (Co f);have vD:=Ax (Az wa (.cells #[.int .i64 (i:Int)] 3));have f7:Hid ((wa.alloc (.cells #[.int .i64 (i:Int)] 3)).heap.size=wa.heap.size+1):=Ax rI;clear f uT));have uU:=G5 (v:=va) (HA.out.alloc HA.out.size (.cells #[.int .i64 (i:Int)] 3)) n f8.out (by rw[f7.out];have:=HA.out.size;omega);rw[←fZ] at m;have p:(o.take q++[i]).length=q+1:=by rw[Ab,r9.out];rfl
   have vE:Hid (qT w w6 l (i+1) (o.take q++[i]) (.slice (some ⟨g6,0,none⟩) (o.take q++[i]).length Y)):=Ax ⟨by rw[p];exact m,uU,by rw[p];omega,N.out⟩;have vF:=Ax p;clear uU m n uR uS p;go_wp2_with fail;go_roundw
   case rel=>exact⟨i+1,o.take q++[i],some ⟨g6,0,none⟩,Y,by omega,by go_num,by rw[vF.out],vE⟩
   case measure=>simp [intOf];omega
 obtain rfl:i=l.length:=by omega
 have j2:decide ((l.length:Int)<(l.length:Int))=false:=by simp
 have A:Ej l=decide (o.length=1):=by
  rw[F.out.eq,List.drop_length,Dd];show decide ((Nj o).length=1)=_;rw[Oq]
 have hd:((o.length:Int)==1)=decide (o.length=1):=by
  by_cases e:o.length=1
  ·rw[e];rfl
  rw[An e];exact Af.2 rF
 have N:=Ax (A.trans hd.symm);have M:=Ax F.out.bel;clear F A hd;go_wp2_with fail;go_ret;exact⟨by rw[N.out];rfl,M.out⟩
open Go Go.RowKit Go.Lib Go.Sort Go.Shelf
theorem jJ {l:List Nz}(c:∀x∈l,Gk x.h)(h:Ej l=true)(i:(l.map G7).sum<=65536):Lw l:=
 ⟨fun j x d=>by
  obtain⟨_,e⟩:=Ls c h;obtain⟨f,g,k⟩:=e j x d
  exact⟨f,g,by omega⟩,c⟩
theorem Tl {l:List Nz}{v:Value}{w:World}(o:TrZ w v l)(M:∀x∈l,0<=x.h.op)(L:∀x∈l,Gk x.h)(N:l.length<=60->(l.map G7).sum<=65536):Calls Tryz.prog 29 #[v] w fun e w'=>e= .returned (.tuple #[.string ⟨((aU l).getD []).toArray⟩,.int .i64 (P4 (aU l))])/\Below w.heap.size w w':=by
 have b8:=o.1;have HT:=Ax o;obtain⟨va,vc,rfl⟩:=o.slice;by_cases h60:60<l.length
 ·have C:aU l=none:=Ap (.inl h60);rw[C];have d1:decide ((60:Int)<(l.length:Int))=true:=Am rF;have d2:decide (60<l.length)=true:=Am h60;clear o M L N C;go_enter Tryz.func29,Tryz.ntmps29;go_wp2_with fail;go_ret2;exact⟨rfl,Aq _ _⟩
 have d1:decide ((60:Int)<(l.length:Int))=false:=An rF;have d2:decide (60<l.length)=false:=An h60;have D:=Ax (Zu o M);by_cases E:Ej l=true;rotate_left
 ·have E:Ej l=false:=by simpa using E
  have C:aU l=none:=Ap (.inr E);rw[C];rw[E] at D;clear o M L N C;go_enter Tryz.func29,Tryz.ntmps29;go_wp2_with fail;refine D.out.mono ?_;rintro e V ⟨rfl,n⟩;have r:=Ax n;clear n D;go_wp2_with fail;go_ret2;exact⟨rfl,r.out⟩
 have hT:=jJ L E (N rF);obtain⟨h0,C⟩:=Ls L E
 have O:(txZ l (l.length - 1)).length<=65536:=by
  have:=(hT.node (l.length - 1) _ (Ag rF)).2.2
  exact this
 have g:=fun V (hV:Below w.heap.size w V)=>bT hT l.length (l.length - 1) rF rF _ V (o.below hV)
 have d:((l.length - 1:Nat):Int)=(l.length:Int) - 1:=by omega
 rw[d] at g
 have c:aU l=match B9 (txZ l (l.length - 1)) with
  | .ok u=>if Dl l ((u.flat 0).map Nd.z)=true then some (txZ l (l.length - 1)) else none
  | .error _=>none:=Ao (fun q=>by rcases q with q|q<;>simp_all)
 obtain⟨t,F⟩:∃t,txZ l (l.length - 1)=t:=⟨_,rfl⟩;rw[F] at g c O;rw[E] at D;have l1:(0:Int)<=(l.length:Int) - 1:=by omega
 cases hx:B9 t with
 |error p=>
  obtain⟨⟨x,y⟩,q⟩:=p;rw[hx] at c;simp only at c;rw[c];have hq:=Tj hx;have d8:(q !=0)=true:=by simpa using hq
  have R:=Ax (fun V=>Vr (s:=⟨t.toArray⟩) V (by show t.toArray.size<=_;simp;omega) (show B9 (dl ⟨t.toArray⟩)=_ from hx));have T:=Ax g;clear o M L N hT C g d hx hq c F;go_enter Tryz.func29,Tryz.ntmps29;go_wp2_with fail;refine D.out.mono ?_;rintro e V ⟨rfl,n⟩;have g:=T.out V n;have r:=Ax n;clear n D T;go_wp2_with fail;refine g.mono ?_;rintro e V2 ⟨rfl,i⟩;have U:=R.out V2;have f:=Ax (r.out.trans (i.mono r.out.size));clear i R r g;go_wp2_with fail;refine U.mono ?_;rintro e W ⟨ua,uk,uc,rfl,hu,j⟩;simp only[pOf];have X:=Ax (f.out.trans (j.mono f.out.size));clear j f hu U;go_wp2_with fail;go_ret2;exact⟨rfl,X.out.alloc X.out.size _⟩
 |ok u=>
  rw[hx] at c;simp only at c;obtain⟨m,hm⟩:∃m,Dl l ((u.flat 0).map Nd.z)=m:=⟨_,rfl⟩;rw[hm] at c;have HM:=Ax hm;have HZ:=Ax c;have R:=Ax (fun V=>Vr (s:=⟨t.toArray⟩) V (by show t.toArray.size<=_;simp;omega) (show B9 (dl ⟨t.toArray⟩)=_ from hx));have T:=Ax g;clear o M L N hT C g d hx c F hm;go_enter Tryz.func29,Tryz.ntmps29;go_wp2_with fail;refine D.out.mono ?_;rintro e V ⟨rfl,n⟩;have g:=T.out V n;have r:=Ax n;clear n D T;go_wp2_with fail;refine g.mono ?_;rintro e V2 ⟨rfl,i⟩;have U:=R.out V2;have f:=Ax (r.out.trans (i.mono r.out.size));clear i R r g;go_wp2_with fail;refine U.mono ?_;rintro e W ⟨ua,uk,uc,rfl,hu,j⟩;simp only[pOf];have k:=f.out.trans (j.mono f.out.size);have G:Below W.heap.size W (W.alloc (.cells #[.int .i64 0,.int .i64 0] 33)):=(Aq _ W).alloc (Ak _) _;have Y:=hu.below G;have I:=k.trans (G.mono k.size);have A:=fM true _ (HT.out.below I) Y;rw[Tw] at A;rw[show Dl l (zOf (.ok u))=m from HM.out] at A;have Z:=Ax A;have a8:=Ax I;clear j k G Y I A hu U f;go_wp2_with fail;refine Z.out.mono ?_;rintro e V5 ⟨rfl,b7⟩;have HB5:=Ax (a8.out.trans (b7.mono a8.out.size));clear b7 Z;cases m with
  |true=>
   exact zwy
  |false=>
   exact zwy
open Go Go.RowKit Go.Lib
theorem mQ {l:List Nz}{vars:List (List UInt8×Int)}{sf:Int}{ks:List Int}{k:Nat}(ok:ofE vars sf (l.take k) []= .ok ks)(c:k<l.length){p:Int×Int}(d:Ew vars sf ks l[k]=p)(e:p.2≠0){t:List UInt8}(f:Fi l=some t):ofP vars sf l=(0,(l[k].h.line,l[k].h.col),p.2):=by
 unfold ofP;rw[f];simp only
 have:ofE vars sf l []= .error ((l[k].h.line,l[k].h.col),p.2):=by
  conv=>lhs;rw[←List.take_append_drop k l]
  rw[Lr ok,List.drop_eq_getElem_cons c,ofE,d,Ao e]
 rw[this]
theorem oY {l:List Nz}{vars:List (List UInt8×Int)}{sf:Int}{ks:List Int}(ok:ofE vars sf l []= .ok ks){t:List UInt8}(c:Fi l=some t):ofP vars sf l=(ks.getLastD 0,(0,0),0):=by
 unfold ofP;rw[c];simp only[ok]
theorem jA {l:List Nz}{vars:List (List UInt8×Int)}{sf z:Int}{ks:List Int}{k:Nat}(ok:ofE vars sf (l.take k) []= .ok ks)(c:k<l.length)(d:Ew vars sf ks l[k]=(z,0)):ofE vars sf (l.take (k+1)) []= .ok (ks++[z]):=by
 rw[List.take_succ_eq_append_getElem c,Lr ok,ofE,d,Ap rfl];rfl
theorem eS (ks:List Int)(z:Int):(ks++[z]).getLastD 0=z:=by simp
theorem nP {w:World}{tv:Value}{l:List Nz}(ht:TrZ w tv l)(ho:∀x∈l,0<=x.h.op)(hf:∀x∈l,Gk x.h)(hc:l.length<=60->(l.map G7).sum<=65536){va:Option Addr}{vc:Nat}{vars:List (List UInt8×Int)}(sf:Int)(hv:So w (.slice va vars.length vc) vars)(y9:∀y∈vars,0<=y.2)(uR:0<=sf):
 Calls Tryz.prog 38 #[tv,.agg #[.slice va vars.length vc,.int .u8 sf]] w fun e w'=>e= .returned (Xm (ofP vars sf l))/\Below w.heap.size w w':=by
 have uS:=ht;obtain⟨_,ta,tc,rfl,A⟩:=uS;obtain⟨M,C⟩:∃M,w.alloc (.cells #[.slice va vars.length vc,.int .u8 sf] 59)=M:=⟨_,rfl⟩;have a8:Below w.heap.size w M:=by rw[←C];exact(Aq _ w).alloc (Ak _) _
 have j:=Az w (.cells #[.slice va vars.length vc,.int .u8 sf] 59);have b7:M.heap.size=w.heap.size+1:=by rw[←C];simp
 rw[C] at j;obtain⟨T,D⟩:∃T,M.alloc (.cells #[.int .i64 0,.int .i64 0] 33)=T:=⟨_,rfl⟩;have d:Below M.heap.size M T:=by rw[←D];exact(Aq _ M).alloc (Ak _) _
 have E:=Az M (.cells #[.int .i64 0,.int .i64 0] 33);have r7:T.heap.size=w.heap.size+1+1:=by rw[←D];simp [b7]
 rw[D] at E;obtain⟨W3,U⟩:∃W3,T.alloc (.cells #[.int .i64 0,.int .i64 0] 33)=W3:=⟨_,rfl⟩;have m:Below T.heap.size T W3:=by rw[←U];exact(Aq _ T).alloc (Ak _) _
 have W:=Az T (.cells #[.int .i64 0,.int .i64 0] 33);rw[U] at W;have O:=a8.trans ((d.trans (m.mono d.size)).mono a8.size);have F:=Ax (Tl (ht.below O) ho hf hc);rw[←bW hf hc] at F
 have c:Hid (∀X,Below W3.heap.size W3 X->X.cell? ⟨w.heap.size,0,none⟩=some (.slice va vars.length vc)/\X.cell? ⟨w.heap.size,1,none⟩=some (.int .u8 sf)/\X.cell? ⟨w.heap.size+1,0,none⟩=some (.int .i64 0)/\X.cell? ⟨w.heap.size+1,1,none⟩=some (.int .i64 0)/\(∀i,X.frozen? ⟨w.heap.size+1,i,none⟩=false)/\X.cell? ⟨w.heap.size+1+1,0,none⟩=some (.int .i64 0)/\X.cell? ⟨w.heap.size+1+1,1,none⟩=some (.int .i64 0)):=Ax fun X hX=>by
  have uT:=(hX.block _ (Nat.lt_of_lt_of_le (Ay j) (Al d.size m.size))).trans ((m.block _ (Nat.lt_of_lt_of_le (Ay j) d.size)).trans ((d.block _ (Ay j)).trans j));have r8:=(hX.block _ (Nat.lt_of_lt_of_le (Ay E) m.size)).trans ((m.block _ (Ay E)).trans E);have r9:=(hX.block _ (Ay W)).trans W;rw[b7] at r8;rw[r7] at r9;obtain⟨s0,s1,_⟩:=Bf uT;obtain⟨y0,y1,f⟩:=Bf r8;obtain⟨z0,z1,_⟩:=Bf r9;exact⟨s0,s1,y0,y1,f,z0,z1⟩
 have G:=Ax C;have b8:=Ax D;have d8:=Ax U;have HB:=Ax O;have uX:w.heap.size<=M.heap.size:=by omega
 have HC:=Ax A;have s7:=Ax ht;have HV:=Ax hv;obtain⟨N,hN⟩:∃N,l.length=N:=⟨_,rfl⟩;have HN:=Ax hN;obtain⟨n,hn⟩:∃n,vars.length=n:=⟨_,rfl⟩;have Hn:=Ax hn;clear C a8 j b7 D d E r7 U m W O ht ho hf hc A hv;cases hz:Fi l with
 |none=>
  have HZ:Hid (ofP vars sf l=(0,(0,0),4)):=Ax (by unfold ofP;rw[hz]);rw[hz,hN] at F;unfold P4 at F;simp only[Option.getD_none] at F;rw[hN,hn];rw[hn] at G c;clear hz hN hn;go_enter Tryz.func38,Tryz.ntmps38;go_upto_region 2 with fail
  rw[G.out,b8.out,d8.out];go_wp2_with fail;refine F.out.mono ?_;rintro e V ⟨rfl,O⟩;have f7:=Ax (HB.out.trans (O.mono HB.out.size));obtain⟨_,_,y0,y1,f,z0,z1⟩:=c.out V O;have s8:=f 0;have s9:=f 1;clear O f F;go_wp2_with fail;go_region
  all_goals
   go_wp2
   refine Au (v:= .tuple #[.int .u8 0,.agg #[.int .i64 0,.int .i64 0],.int .i64 4]) uC rfl ?_;refine⟨by rw[HZ.out];rfl,?_⟩;exact(f7.out.drew.setCell sA _).setCell sA _
 |some t=>
  have hg:=Qm hz;have Hg:=Ax hg;have Ht:=Ax hz;have uU:=hg.len;rw[hz,hN] at F;unfold P4 at F;simp only at F;rw[hN,hn];rw[hN] at uU;rw[hn] at G c;clear hz hg hN hn;go_enter Tryz.func38,Tryz.ntmps38;go_upto_region 2 with fail
  rw[G.out,b8.out,d8.out];go_wp2_with fail;refine F.out.mono ?_;rintro e V ⟨rfl,O⟩;have f7:=Ax O;clear O F G b8 d8;go_wp2_with fail
  go_loopw [9,10,11] (fun v9 v10 v11 wr=>∃(i:Nat) (ks:List Int),i<=N/\v11= .int .i64 i/\v9= .int .i64 0/\v10= .int .u8 (ks.getLastD 0)/\Hid (ofE vars sf (l.take i) []= .ok ks/\∀y∈ks,0<=y/\y<=5)/\Hid (Below W3.heap.size W3 wr)) (fun _ _ v11 _=>N - (intOf v11).toNat)
  case atStart=>exact⟨0,[],Nat.zero_le _,rfl,rfl,rfl,⟨rfl,fun y u=>by cases u⟩,f7⟩
  obtain⟨wo,rfl⟩:∃wo:World,wo=wr:=⟨_,rfl⟩;obtain⟨i,ks,hi,rfl,rfl,rfl,R,hq⟩:=hrel;obtain⟨s0,s1,y0,y1,f,z0,z1⟩:=c.out wo hq.out;have I:Below w.heap.size w wo:=HB.out.trans (hq.out.mono HB.out.size);by_cases hiN:i<N
  ·have o:i<l.length:=by rw[HN.out];exact hiN
   have q:=aL Hg.out (vars:=vars) (sf:=sf) i o ks R.out.1 R.out.2 wo _ va vc (s7.out.below I) (HV.out.below I);rw[HN.out,Hn.out] at q;obtain⟨b,off,kv,ea,f8,_⟩:=HC.out i o;have r:=mQ R.out.1 o (p:=Ew vars sf ks l[i]) rfl;have f9:=fun z=>jA (z:=z) R.out.1 o
   have Y:=lK (vars:=vars) (self:=sf) (ks:=ks) (x:=l[i]) (fun h1=>(Hg.out.lit i o h1).2) (fun y u=>(R.out.2 y u).2);have Z:=Pb (vars:=vars) (self:=sf) (ks:=ks) (x:=l[i]) y9 uR (fun y u=>(R.out.2 y u).1) (fun h1=>(Hg.out.lit i o h1).1);obtain⟨⟨z,er⟩,w7⟩:∃p,Ew vars sf ks l[i]=p:=⟨_,rfl⟩;rw[w7] at q r f9 Y Z;unfold wrV at q;simp only at q r Y Z;have x6:=f8.2.2.2.2.2.2.1;have x7:=f8.2.2.2.2.2.2.2;obtain⟨ln,w8⟩:∃x,l[i].h.line=x:=⟨_,rfl⟩;obtain⟨cl,w9⟩:∃x,l[i].h.col=x:=⟨_,rfl⟩;rw[w8] at x6 r;rw[w9] at x7 r;subst ea;have x8:=Ax q;have i6:=Ax r;have i7:=Ax f9;have j8:=Ax Y;have j9:=Ax Z;have HE:=Ax R.out.2;have k8:=Ax x6;have l7:=Ax x7;have x9:=Ax hq.out;have j0:(0:Int)<=(i:Int):=by omega
   have j1:(i:Int)<(N:Int):=by omega
   have j2:decide ((i:Int)<(N:Int))=true:=Am j1;clear hq I R q f8 r f9 Y Z w7 w8 w9 x6 x7 y0 y1 f z0 z1 s7 HV;go_wp2_with fail;refine x8.out.mono ?_;rintro e V2 ⟨rfl,d⟩;have n9:=Ax (x9.out.trans (d.mono x9.out.size));obtain⟨s0,s1,y0,y1,f,z0,z1⟩:=c.out V2 n9.out;have g:Below w.heap.size w V2:=HB.out.trans (n9.out.mono HB.out.size);have L:=Ax g;have x6:=A4 g k8.out;have x7:=A4 g l7.out;clear d g x8;by_cases her:er=0
   ·subst her
    have uV:Hid (ofE vars sf (l.take (i+1)) []= .ok (ks++[z])/\∀y∈ks++[z],0<=y/\y<=5):=Ax ⟨i7.out z rfl,fun y u=>by
     rcases List.mem_append.1 u with u|u
     ·exact HE.out y u
     simp only[List.mem_singleton] at u;subst u
     exact⟨j9.out,j8.out rfl⟩⟩
    clear i6 i7 j8 j9 HE s0 s1 y0 y1 f z0 z1 x6 x7 k8 l7;go_wp2_with fail;go_roundw
    case rel=>exact⟨i+1,ks++[z],by omega,by go_num,rfl,by rw[eS],uV,n9⟩
    case measure=>simp [intOf];omega
   have uY:(er !=0)=true:=by simpa using her
   have uW:(er==0)=false:=Af.2 her;have HZ:=Ax (i6.out her Ht.out);have s8:=f 0;have s9:=f 1;clear her f i7 j8 j9 HE i6 k8 l7;go_wp2_with fail;go_region
   all_goals
    go_wp2
    refine Au (v:= .tuple #[.int .u8 0,.agg #[.int .i64 ln,.int .i64 cl],.int .i64 er]) uC rfl ?_;refine⟨by rw[HZ.out];rfl,?_⟩;exact(L.out.drew.setCell sA _).setCell sA _
  obtain rfl:i=N:=by omega
  have p8:=R.out.1;rw[List.take_of_length_le (by rw[HN.out];exact Ak _)] at p8;have HZ:=Ax (oY p8 Ht.out);obtain⟨kd,y8⟩:∃k,ks.getLastD 0=k:=⟨_,rfl⟩;rw[y8] at HZ ⊢;have L:=Ax I;have j2:decide ((i:Int)<(i:Int))=false:=by simp
  have s8:=f 0;have s9:=f 1;clear hq I R p8 y8 f;go_wp2_with fail;go_region
  all_goals
   go_wp2
   refine Au (v:= .tuple #[.int .u8 kd,.agg #[.int .i64 0,.int .i64 0],.int .i64 0]) uC rfl ?_;refine⟨by rw[HZ.out];rfl,?_⟩;exact(L.out.drew.setCell sA _).setCell sA _
open Go Go.RowKit Go.Lib
theorem lH {l:List (List UInt8)}{k:Nat}(c:k<l.length)(x:List UInt8)(p:Bool):(p||(l.take (k+1)).any fun y=>x==y)=((p||(l.take k).any fun y=>x==y)||(l[k]==x)):=by
 rw[List.take_succ_eq_append_getElem c,List.any_append,List.any_cons,List.any_nil,Bool.or_false,Bool.or_assoc];congr 2;rw[Bool.eq_iff_iff,beq_iff_eq,beq_iff_eq];exact eq_comm
theorem aO {w:World}{tv:Value}{l:List Nz}(ht:TrZ w tv l)(ho:∀x∈l,0<=x.h.op)(hf:∀x∈l,Gk x.h)(hc:l.length<=60->(l.map G7).sum<=65536):
 Calls Tryz.prog 41 #[tv] w fun e w'=>∃v,e= .returned v/\Mo w' v (I5 l)/\Below w.heap.size w w':=by
 have j:=Ax (Tl ht ho hf hc);rw[←bW hf hc] at j;have k8:=ht.1;have l7:=ht;obtain⟨_,ta,tc,rfl,m⟩:=l7;have HC:=Ax m;obtain⟨N,hN⟩:∃N,l.length=N:=⟨_,rfl⟩;have HN:=Ax hN;rw[hN] at j k8;rw[hN];clear ht ho hf hc m hN;cases hz:Fi l with
 |none=>
  have HZ:Hid (I5 l=[]):=Ax (by unfold I5;rw[hz]);rw[hz] at j;unfold P4 at j;simp only[Option.getD_none] at j;clear hz;go_enter Tryz.func41,Tryz.ntmps41;go_wp2_with fail;refine j.out.mono ?_;rintro e V ⟨rfl,f⟩;have HB:=Ax f;clear f j;go_wp2_with fail
  go_loopw [3,6] (fun v3 v6 wr=>v3= .slice none 0 0/\v6= .int .i64 0/\wr=V) (fun _ _ _=>0)
  case atStart=>exact⟨rfl,rfl,rfl⟩
  obtain⟨rfl,rfl,rfl⟩:=hrel;by_cases h0:0<N
  ·have j2:decide ((0:Int)<(N:Int))=true:=Am rF;exact zxo
  have j2:decide ((0:Int)<(N:Int))=false:=An rF;exact zxo
 |some t=>
  have HZ:Hid (I5 l=Dc l []):=Ax (by unfold I5;rw[hz]);rw[hz] at j;unfold P4 at j;simp only at j;clear hz;go_enter Tryz.func41,Tryz.ntmps41;go_wp2_with fail;refine j.out.mono ?_;rintro e V ⟨rfl,f⟩;have H0:Hid (V.ownsRow w.heap.size 9 1 (.slice none 0 0) 0 (Ib (Dc (l.take 0) []))/\Below w.heap.size w V):=Ax ⟨World.ownsRow_nil _ _ _ _,f⟩;clear f j;go_wp2_with fail
  go_loopw [3,6] (fun v3 v6 wr=>∃(i:Nat) (L:List (List UInt8)) (T:Option Addr) (U:Nat),i<=N/\v6= .int .i64 i/\v3= .slice T L.length U/\Hid (Dc (l.take i) []=L)/\Hid (wr.ownsRow w.heap.size 9 1 (.slice T L.length U) L.length (Ib L)/\Below w.heap.size w wr)) (fun _ v6 _=>N - (intOf v6).toNat)
  case atStart=>exact⟨0,[],none,0,Nat.zero_le _,rfl,rfl,rfl,H0⟩
  clear H0;obtain⟨wo,rfl⟩:∃wo:World,wo=wr:=⟨_,rfl⟩;obtain⟨i,L,T,U,hi,rfl,rfl,hL,hq⟩:=hrel;obtain⟨c,n⟩:=hq.out
  have o:L.length<=1000000:=by
   rw[←hL.out];refine Al Ns ?_;simp;omega
  by_cases hiN:i<N
  ·have b7:i<l.length:=by rw[HN.out];exact hiN
   obtain⟨b,off,kv,ea,A,_⟩:=HC.out i b7;subst ea;have A:=A.below n
   have C:Dc (l.take (i+1)) []=if(l[i].h.op==2 && !(L.any fun y=>l[i].h.name==y))=true then L++[l[i].h.name] else L:=by
    rw[List.take_succ_eq_append_getElem b7,Ld,hL.out]
   have x0:=A.1;have x4:=A.2.2.2.2.1;obtain⟨op,b8⟩:∃x,l[i].h.op=x:=⟨_,rfl⟩;obtain⟨nm,d8⟩:∃x,l[i].h.name=x:=⟨_,rfl⟩;rw[b8] at x0 C;rw[d8] at x4 C;obtain⟨q,W⟩:∃q,(op==2)=q:=⟨_,rfl⟩;rw[W] at C;have X:(op !=2)=!q:=by rw[bne,W]
   have j0:(0:Int)<=(i:Int):=by omega
   have j1:(i:Int)<(N:Int):=by omega
   have j2:decide ((i:Int)<(N:Int))=true:=Am j1;have Y:=Ax C;have D:=Ax c;have Z:=Ax n;have n9:=Ax o;have O:=Ax x4;have E:=Ax (Mo.of_row o c);have s9:=Ax X;clear hq c n A C b8 d8 hL o;obtain⟨p,hp⟩:∃p,(!q)=p:=⟨_,rfl⟩;have Hp:=Ax hp;rw[hp] at X;go_upto_region 7 with fail
   clear hp W X;go_wp2_with fail
   go_loopw [7,8] (fun v7 v8 wx=>∃(k:Nat),k<=L.length/\v8= .int .i64 k/\v7= .bool (p||(L.take k).any fun y=>nm==y)/\Hid (Below wo.heap.size wo wx)) (fun _ v8 _=>L.length - (intOf v8).toNat)
   case atStart=>exact⟨0,Nat.zero_le _,rfl,by simp,Aq _ _⟩
   obtain⟨M,rfl⟩:∃M:World,M=wr:=⟨_,rfl⟩;obtain⟨k,hk,rfl,rfl,f⟩:=hrel;by_cases hkL:k<L.length
   ·obtain⟨w7,b9,c9,e9,f7⟩:=E.out;obtain⟨bb,ob,eb,a8⟩:=f7 k hkL;injection e9 with e9 _ e92;subst e9 e92;subst eb;have a8:=A4 f.out a8;clear f7;have x4:=A4 f.out O.out;have g:=lH hkL nm p;obtain⟨r,hr⟩:∃r,(p||(L.take k).any fun y=>nm==y)=r:=⟨_,rfl⟩;rw[hr] at g ⊢;obtain⟨y,hy⟩:∃y,L[k]=y:=⟨_,rfl⟩;rw[hy] at a8 g;have R:=Ax g;have k0:(0:Int)<=(k:Int):=by omega
    have k1:(k:Int)<(L.length:Int):=by omega
    have k2:decide ((k:Int)<(L.length:Int))=true:=Am k1;have f8:=fun nq=>Ax (A8 f.out nq)
    clear g hr hy f x0 E Y D O;cases r with
    |true=>
     go_wp2_with fail;go_quiet (fail);go_wp2_with fail;go_roundw
     case rel=>exact⟨k+1,by omega,by go_num,by rw[R.out];rfl,f8 _⟩
     case measure=>simp [intOf];omega
    |false=>
     obtain⟨u,hu⟩:∃u,(y==nm)=u:=⟨_,rfl⟩;have Hu:=Ax hu;go_wp2_with fail;go_quiet (fail);go_wp2_with fail;go_roundw
     case rel=>exact⟨k+1,by omega,by go_num,by rw[R.out,Hu.out];rfl,f8 _⟩
     case measure=>simp [intOf];omega
   obtain rfl:k=L.length:=by omega
   have k2:decide ((L.length:Int)<(L.length:Int))=false:=by simp
   rw[List.take_of_length_le (Ak _)];have F:Below w.heap.size w M:=Z.out.trans (f.out.mono Z.out.size);have d:=Cg D.out f.out;have x4:=A4 f.out O.out;obtain⟨a,ha⟩:∃a,(L.any fun y=>nm==y)=a:=⟨_,rfl⟩;rw[ha];have HH:Hid (Dc (l.take (i+1)) []=if(!p && !a)=true then L++[nm] else L):=Ax (by rw[Y.out,ha,←Hp.out,Bool.not_not]);have G:=Ax d;have I:=Ax F;have Hown:=Ax (Co d);have o:=n9.out;have hsr:=F.size;clear f F d ha E Y D Z x0 O;obtain⟨r,hr⟩:∃r,(p||a)=r:=⟨_,rfl⟩;have f9:(!p && !a)=!r:=by rw[←hr];cases p<;>cases a<;>rfl
   rw[f9] at HH;rw[hr];clear f9 hr;cases r with
   |true=>
    have HH2:Hid (Dc (l.take (i+1)) []=L):=Ax HH.out;have HR:Hid (M.ownsRow w.heap.size 9 1 (.slice T L.length U) L.length (Ib L)/\Below w.heap.size w M):=Ax ⟨G.out,I.out⟩;clear HH;go_wp2_with fail;go_roundw
    case rel=>exact⟨i+1,L,T,U,by omega,by go_num,rfl,HH2,HR⟩
    case measure=>simp [intOf];omega
   |false=>
    have HH2:Hid (Dc (l.take (i+1)) []=L++[nm]):=Ax HH.out;obtain⟨p8,i6,i7,j8,j9⟩:=G1;have r7:=Ax i6;have r8:=Ax i7;have r9:=Ax j8;have s7:=Ax j9;have Hrow1:=Ax (G.out.alloc (.cells #[.string ⟨nm.toArray⟩] 9));have HN1:=Ax (Az M (.cells #[.string ⟨nm.toArray⟩] 9));have HZ1:Hid ((M.alloc (.cells #[.string ⟨nm.toArray⟩] 9)).heap.size=M.heap.size+1):=Ax rI;clear HH i6 i7 j8 j9;go_wp2_with ((refine wpList_append_lies _ rfl (.tmp 51) (.tmp 57) _ rfl w.heap.size 9 p8 (.string ⟨#[]⟩) 1 16 Tryz.underlying39 r7.out r8.out r9.out s7.out rfl rH (.slice T L.length U) L.length (Ib L) rfl Hrow1.out ⟨M.heap.size,0,none⟩ 1 1 [.string ⟨nm.toArray⟩] rfl rfl (World.news_of_block (cs:= #[.string ⟨nm.toArray⟩]) HN1.out) rS rH rP rF (by rw[HZ1.out];omega) (M.heap.size+1) HZ1.out ?_;intro g6 cap w6 hown6 hgrow6 hat6 hlt6));have hB6:=G5 (v:= .slice T L.length U) (I.out.alloc I.out.size (.cells #[.string ⟨nm.toArray⟩] 9)) hgrow6 Hown.out (by rw[HZ1.out];omega);exact zyh
  obtain rfl:i=N:=by omega
  have s8:Hid (Dc l []=L):=Ax (by have:=hL.out;rwa [List.take_of_length_le (by rw[HN.out];exact Ak _)] at this);have E:=Ax (Mo.of_row o c);have HB:=Ax n;have j2:decide ((i:Int)<(i:Int))=false:=by simp
  clear hq c n hL;go_wp2_with fail;go_ret;exact⟨_,rfl,by rw[HZ.out,s8.out];exact E.out,HB.out⟩
open Go Go.RowKit Go.Lib Go.Sort Go.Shelf
theorem Wr {l:List UInt8}:(∀x∈zOf (B9 l),0<=x.h.op)/\∀x∈zOf (B9 l),Gk x.h:=by
 cases h:B9 l with
 |error p=>exact⟨fun x c=>by simp [zOf] at c,fun x c=>by simp [zOf] at c⟩
 |ok a=>exact⟨fun x c=>(Tk h x c).1,fun x c=>(Tk h x c).2⟩
def k9p (s:ByteArray):Int×(Int×Int)×Int:=ofP [([97],1)] 0 (zOf (B9 (dl s)))
theorem X7 (s:ByteArray)(w:World)(U:s.size<=65536)(W:Rd w)(b:Nat){X:Option Addr}{Y:Nat}(C:w.cell? ⟨b,0,none⟩=some (.slice X 1 Y))(D:w.cell? ⟨b,1,none⟩=some (.int .u8 0))(Z:So w (.slice X 1 Y) [([97],1)]):
 Calls Tryz.prog 66 #[.string s,.pointer (some ⟨b,0,none⟩)] w fun e w'=>e= .returned (Xm (k9p s))/\Below w.heap.size w w':=by
 obtain⟨E,g⟩:∃E,w.alloc (.cells #[.int .i64 0,.int .i64 0] 33)=E:=⟨_,rfl⟩;have o:Below w.heap.size w E:=by rw[←g];exact(Aq _ w).alloc (Ak _) _
 have h:=Az w (.cells #[.int .i64 0,.int .i64 0] 33);rw[g] at h;have q:=Ax (Vr (x:=B9 (dl s)) E U rfl);have G:=Ax g;have r:=Ax o;have I:=Ax h;have HR:=Ax W;have HV:=Ax Z;have C0:=Ax C;have C1:=Ax D;have L:=Ay h;clear g o h W Z C D U;go_enter Tryz.func66,Tryz.ntmps66;go_upto_region 1 with fail
 rw[G.out];go_wp2_with fail;refine q.out.mono ?_;rintro e V ⟨a,k,c,rfl,ht,F⟩;obtain⟨u,j⟩:∃u,V.alloc (.cells #[.int .i64 (pOf (B9 (dl s))).1.1,.int .i64 (pOf (B9 (dl s))).1.2] 33)=u:=⟨_,rfl⟩;have i:Below V.heap.size V u:=by rw[←j];exact(Aq _ V).alloc (Ak _) _
 have m:=r.out.trans (F.mono r.out.size);have d:=m.trans (i.mono m.size);have f:=Ye (ht.below i) Wr.1 Wr.2 (HR.out.below d) 0 (vars:=[([97],1)]) (HV.out.below d) rI (Int.le_refl 0);change Calls _ _ _ _ (fun e w'=>e= .returned (Xm (k9p s))/\Below u.heap.size u w') at f;obtain⟨p,M⟩:∃p,k9p s=p:=⟨_,rfl⟩;rw[M] at f;have Hp:=Ax M;obtain⟨pk,⟨px,py⟩,pe⟩:=p;unfold Xm at f;simp only[Aa,List.length_nil,Nat.zero_add] at f;have HO:=Ax f;have N:=Ax j;have y:=Ax d;have C:=A4 d C0.out;have D:=A4 d C1.out;have A:=Ax ((i.block _ (by have:=F.size;omega)).trans ((F.block _ L).trans I.out));have O:=Ay A.out;clear ht F j i m d f M q;go_upto_region 2 with fail
 rw[N.out];go_wp2_with fail;refine HO.out.mono ?_;rintro e V3 ⟨rfl,n⟩;obtain⟨y0,y1,R⟩:=Bf ((n.block _ O).trans A.out);have a8:=R 0;have b7:=R 1;have T:=Ax (y.out.trans (n.mono y.out.size));clear n R HO C D;go_wp2_with fail;refine Au (v:= .tuple #[.int .u8 pk,.agg #[.int .i64 px,.int .i64 py],.int .i64 pe]) (by simp [results,Tryz.results66,go_sem, *]) rfl ?_;refine⟨by rw[Hp.out];rfl,?_⟩;exact(T.out.setCell sA _).setCell sA _
theorem lN:k9p ⟨#[63,97,32,43,32,49,46,53]⟩=(2,(0,0),0)/\k9p ⟨#[110,117,108,108,32,61,32,34,120,34]⟩=(4,(0,0),0)/\k9p ⟨#[49,32,60,32,34,120,34]⟩=(0,(1,3),8)/\k9p ⟨#[63,32,62,32,49]⟩=(0,(1,1),11):=
 ⟨by kernel_rfl,by kernel_rfl,by kernel_rfl,by kernel_rfl⟩
theorem mV (w:World)(hR:Rd w):Calls Tryz.prog 34 #[] w fun e w'=>e= .returned (.bool true)/\Below w.heap.size w w':=by
 have f8:∀(fn:Fn) (first cap:Array Value) (w:World),(Instr.makeFunc fn first cap).run Tryz.prog w= .ok (.func fn first cap) w:=fun _ _ _ _=>rfl
 obtain⟨m,f⟩:∃m,(w.alloc (.cells #[.string ⟨#[97]⟩,.int .u8 1] 71)).alloc (.cells #[.slice (some ⟨w.heap.size,0,none⟩) 1 1,.int .u8 0] 59)=m:=⟨_,rfl⟩;have G:Below w.heap.size w (w.alloc (.cells #[.string ⟨#[97]⟩,.int .u8 1] 71)):=(Aq _ w).alloc (Ak _) _;have c:Below w.heap.size w m:=by rw[←f];exact G.alloc rI _
 have q:m.heap[w.heap.size]? =some (.cells #[.string ⟨#[97]⟩,.int .u8 1] 71 (0,0)):=by
  rw[←f];exact(MapKept.heap_alloc (w.alloc (.cells #[.string ⟨#[97]⟩,.int .u8 1] 71)) _).2 w.heap.size rI|>.trans (Az w _)
 have r:m.heap[w.heap.size+1]? =some (.cells #[.slice (some ⟨w.heap.size,0,none⟩) 1 1,.int .u8 0] 59 (0,0)):=by
  rw[←f,show w.heap.size+1=(w.alloc (.cells #[.string ⟨#[97]⟩,.int .u8 1] 71)).heap.size by simp];exact Az _ _
 have I:∀(s:ByteArray) (V:World),Below m.heap.size m V->s.size<=65536->Calls Tryz.prog 66 #[.string s,.pointer (some ⟨w.heap.size+1,0,none⟩)] V fun e w'=>e= .returned (Xm (k9p s))/\Below V.heap.size V w':=fun s V g hs=>by
  obtain⟨c0,c1,_⟩:=Bf ((g.block _ (Ay r)).trans r);obtain⟨d0,d1,_⟩:=Bf ((g.block _ (Ay q)).trans q);refine X7 s V hs (hR.below (c.trans (g.mono c.size))) (w.heap.size+1) c0 c1 ⟨by simp,_,_,rfl,fun i hi=>?_⟩;obtain rfl:i=0:=by simpa using hi
  exact⟨_,_,rfl,d0,d1⟩
 obtain⟨t0,t1,t2,t3⟩:=lN;have L:=fun V g=>I ⟨#[63,97,32,43,32,49,46,53]⟩ V g rH
 have M:=fun V g=>I ⟨#[110,117,108,108,32,61,32,34,120,34]⟩ V g rH
 have N:=fun V g=>I ⟨#[49,32,60,32,34,120,34]⟩ V g rH
 have O:=fun V g=>I ⟨#[63,32,62,32,49]⟩ V g rH
 rw[t0] at L;rw[t1] at M;rw[t2] at N;rw[t3] at O;unfold Xm at L M N O;simp only at L M N O;have R:=Ax f;have T:=Ax c;have U:=Ax L;have W:=Ax M;have Y:=Ax N;have Z:=Ax O;clear f G c q r I t0 t1 t2 t3 L M N O hR;go_enter Tryz.func34,Tryz.ntmps34;go_upto_region 2 with fail
 rw[R.out];have H0:=Ax (U.out m (Aq _ _));clear R;go_wp2_with fail;refine H0.out.mono ?_;rintro e V1 ⟨rfl,c⟩;obtain⟨X1,a8⟩:∃X,V1.alloc (.cells #[.int .i64 0,.int .i64 0] 33)=X:=⟨_,rfl⟩;have n:Below V1.heap.size V1 X1:=by rw[←a8];exact(Aq _ _).alloc (Ak _) _
 have u:=c.trans (n.mono c.size);have H1:=Ax (W.out X1 u);have v:=Ax u;clear c n u H0 U;subst a8;go_wp2_with fail;refine H1.out.mono ?_;rintro e V2 ⟨rfl,x⟩;obtain⟨X2,b7⟩:∃X,V2.alloc (.cells #[.int .i64 0,.int .i64 0] 33)=X:=⟨_,rfl⟩;have o:Below V2.heap.size V2 X2:=by rw[←b7];exact(Aq _ _).alloc (Ak _) _
 have y:=v.out.trans ((x.trans (o.mono x.size)).mono v.out.size);have H2:=Ax (Y.out X2 y);have A:=Ax y;clear x o y H1 W v;subst b7;go_wp2_with fail;refine H2.out.mono ?_;rintro e V3 ⟨rfl,C⟩;obtain⟨X3,b8⟩:∃X,V3.alloc (.cells #[.int .i64 1,.int .i64 3] 33)=X:=⟨_,rfl⟩;have p:Below V3.heap.size V3 X3:=by rw[←b8];exact(Aq _ _).alloc (Ak _) _
 have d:=Az V3 (.cells #[.int .i64 1,.int .i64 3] 33);rw[b8] at d;have D:=A.out.trans ((C.trans (p.mono C.size)).mono A.out.size);have H3:=Ax (Z.out X3 D);have E:=Ax D;have k:=Ax d;clear C p d D H2 Y A;go_wp2_with fail;refine H3.out.mono ?_;rintro e V4 ⟨rfl,h⟩;obtain⟨X4,d8⟩:∃X,V4.alloc (.cells #[.int .i64 1,.int .i64 1] 33)=X:=⟨_,rfl⟩;have j:Below V4.heap.size V4 X4:=by rw[←d8];exact(Aq _ _).alloc (Ak _) _
 have F:=Az V4 (.cells #[.int .i64 1,.int .i64 1] 33);rw[d8] at F;have f7:=Ax (T.out.trans ((E.out.trans ((h.trans (j.mono h.size)).mono E.out.size)).mono T.out.size));have d:=(j.block _ (Nat.lt_of_lt_of_le (Ay k.out) h.size)).trans ((h.block _ (Ay k.out)).trans k.out);obtain⟨p0,p1,_⟩:=Bf d;obtain⟨q0,q1,_⟩:=Bf F;clear h j d F H3 Z E k;go_wp2_with fail;go_ret;exact⟨rfl,f7.out⟩
end Go.Proofs.YtgfakdobajgnfaaGreatDoor
