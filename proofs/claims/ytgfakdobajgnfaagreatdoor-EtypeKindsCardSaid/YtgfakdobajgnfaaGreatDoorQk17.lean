import Derived.ProofKit
import Derived.OpenShut
import Derived.Lib.LaidU8
import Derived.Deep.Fields
import Derived.Test.YtgfakdobajgnfaaGreatDoorQk16
import Derived.Test.YtgfakdobajgnfaaGreatDoorRows
set_option maxRecDepth 100000
set_option maxHeartbeats 16000000
namespace Go.Proofs.YtgfakdobajgnfaaGreatDoor
open Go Go.RowKit Go.Lib
def Xm (p:Int×(Int×Int)×Int):Value:= .tuple #[.int .u8 p.1,.agg #[.int .i64 p.2.1.1,.int .i64 p.2.1.2],.int .i64 p.2.2]
structure Qp (w:World)(l:List Nz)(vars:List (List UInt8×Int))(sf:Int)(sv:Value)(g:Nat)(ks:List Int)(k:Nat)(X:World):Prop where
 ok:ofE vars sf (l.take k) []= .ok ks
 len:ks.length=k
 pos:∀y∈ks,0<=y
 kat:KAt X g (ks++List.replicate (l.length - k) 0)
 box:X.heap[w.heap.size]? =some (.cells #[sv,.int .u8 sf] 59 (0,0))
 pl:X.heap[w.heap.size+1]? =some (.cells #[.int .i64 0,.int .i64 0] 33 (0,0))
 below:Below w.heap.size w X
 gw:w.heap.size+1<g
theorem Qp.to {w X d:World}{l:List Nz}{vars:List (List UInt8×Int)}{self:Int}{e:Value}{g k:Nat}{ks:List Int}(h:Qp w l vars self e g ks k X)(c:Below X.heap.size X d):Qp w l vars self e g ks k d:=
 ⟨h.ok,h.len,h.pos,h.kat.below c,(c.block _ (Ay h.box)).trans h.box,(c.block _ (Ay h.pl)).trans h.pl,h.below.trans (c.mono h.below.size),h.gw⟩
theorem Qp.next {w X:World}{l:List Nz}{vars:List (List UInt8×Int)}{self:Int}{i:Value}{g k:Nat}{ks:List Int}(h:Qp w l vars self i g ks k X)(m:k<l.length){z:Int}(n:Ew vars self ks l[k]=(z,0))(o:0<=z):Qp w l vars self i g (ks++[z]) (k+1) (X.setCell ⟨g,k,none⟩ (.int .u8 z)):=by
 have d:=h.gw;have j:Bb [g] X (X.setCell ⟨g,k,none⟩ (.int .u8 z)):=(Bb.refl [g] X).setCell (.inl rI) _;have f:∀{b:Nat},b<g->b∉[g]:=fun q p=>by simp only[List.mem_singleton] at p;omega
 refine⟨?_,by simp [h.len],fun y c=>?_,?_,(j.block _ (Ay h.box) (f rF)).trans h.box,(j.block _ (Ay h.pl) (f d)).trans h.pl,h.below.setCell (by show w.heap.size<=g;omega) _,d⟩
 ·rw[List.take_succ_eq_append_getElem m,Lr h.ok,ofE,n,Ap rfl];rfl
 ·rcases List.mem_append.1 c with c|c
  ·exact h.pos y c
  simp only[List.mem_singleton] at c;subst c;exact o
 have e:=h.kat.set k z;rw[List.set_append_right _ _ (by rw[h.len];exact Ak _),h.len,Nat.sub_self,show l.length - k=(l.length - (k+1))+1 by omega,List.replicate_succ,Ad] at e;rw[List.append_assoc];exact e
theorem Qp.bad {w X:World}{l:List Nz}{vars:List (List UInt8×Int)}{self:Int}{c:Value}{g k:Nat}{ks:List Int}(h:Qp w l vars self c g ks k X)(d:k<l.length){p:Int×Int}(e:Ew vars self ks l[k]=p)(f:p.2≠0){t:List UInt8}(i:Fi l=some t):ofP vars self l=(0,(l[k].h.line,l[k].h.col),p.2):=by
 unfold ofP;rw[i];simp only
 have:ofE vars self l []= .error ((l[k].h.line,l[k].h.col),p.2):=by
  conv=>lhs;rw[←List.take_append_drop k l]
  rw[Lr h.ok,List.drop_eq_getElem_cons d,ofE,e,Ao f]
 rw[this]
theorem Qp.fin {w X:World}{l:List Nz}{vars:List (List UInt8×Int)}{self:Int}{c:Value}{g:Nat}{ks:List Int}(h:Qp w l vars self c g ks l.length X){t:List UInt8}(d:Fi l=some t):ofP vars self l=(ks.getLastD 0,(0,0),0):=by
 unfold ofP;rw[d]
 have:=h.ok
 rw[List.take_length] at this;simp only[this]
theorem Ii.of_row {w:World}{B:Nat}{v:Value}{l:List Int}(hl:l.length<=1000000)(h:w.ownsRow B 5 1 v l.length (l.map (.int .u8))):Ii w v l:=by
 exact zx1
theorem Ye {w:World}{tv:Value}{l:List Nz}(ht:TrZ w tv l)(ho:∀x∈l,0<=x.h.op)(hf:∀x∈l,Gk x.h)(hR:Rd w){va:Option Addr}{vc:Nat}{vars:List (List UInt8×Int)}(self:Int)(hv:So w (.slice va vars.length vc) vars)(uY:∀y∈vars,0<=y.2)(vU:0<=self):
 Calls Tryz.prog 35 #[tv,.agg #[.slice va vars.length vc,.int .u8 self]] w fun e w'=>e= .returned (Xm (ofP vars self l))/\Below w.heap.size w w':=by
 obtain⟨ta,tc,rfl⟩:=ht.slice;obtain⟨W1,b7⟩:∃W1,w.alloc (.cells #[.slice va vars.length vc,.int .u8 self] 59)=W1:=⟨_,rfl⟩;have s8:Below w.heap.size w W1:=by rw[←b7];exact(Aq _ w).alloc (Ak _) _
 have j8:=Az w (.cells #[.slice va vars.length vc,.int .u8 self] 59);have s9:W1.heap.size=w.heap.size+1:=by rw[←b7];simp
 rw[b7] at j8;obtain⟨W2,b8⟩:∃W2,W1.alloc (.cells #[.int .i64 0,.int .i64 0] 33)=W2:=⟨_,rfl⟩;have w7:Below W1.heap.size W1 W2:=by rw[←b8];exact(Aq _ W1).alloc (Ak _) _
 have w8:=Az W1 (.cells #[.int .i64 0,.int .i64 0] 33);have wS:W2.heap.size=w.heap.size+2:=by rw[←b8];simp [s9]
 rw[b8,s9] at w8;have f:=s8.trans (w7.mono s8.size);have uZ:=(w7.block _ (Ay j8)).trans j8;have HM:=Ax (We (ht.below f) ho hf (hR.below f));have w9:=Ax b7;have x8:=Ax b8;have HB:=Ax f;have x9:=Ax uZ;have d8:=Ax w8;have HT:=Ax ht;have HV:=Ax hv;have vV:=Ax uY;clear b7 s8 j8 b8 w7 w8 f uZ ht ho hf hR hv uY s9;cases hz:Fi l with
 |none=>
  have HZ:Hid (ofP vars self l=(0,(0,0),4)):=Ax (by unfold ofP;rw[hz]);rw[hz] at HM;clear hz;go_enter Tryz.func35,Tryz.ntmps35;go_upto_region 1 with fail
  rw[w9.out,x8.out];go_wp2_with fail;refine HM.out.mono ?_;rintro e V ⟨rfl,f⟩;have vW:=Ax (HB.out.trans (f.mono HB.out.size));obtain⟨y0,y1,yf⟩:=Bf ((f.block _ (Ay d8.out)).trans d8.out);have vX:=yf 0;have vY:=yf 1;clear f yf HM;go_wp2_with fail;go_region
  all_goals
   go_wp2
   refine Au (v:= .tuple #[.int .u8 0,.agg #[.int .i64 0,.int .i64 0],.int .i64 4]) tA rfl ?_;refine⟨by rw[HZ.out];rfl,?_⟩;exact(vW.out.drew.setCell sA _).setCell sA _
 |some t=>
  have hg:=Qm hz;have vA:=hg.len;have vZ:=hg.ne;have HG:=Ax hg;have HZ:=Ax hz;rw[hz] at HM;clear hz hg;obtain⟨n,hn⟩:∃n,l.length=n:=⟨_,rfl⟩;have HN:=Ax hn;rw[hn] at vA vZ;rw[hn];go_enter Tryz.func35,Tryz.ntmps35;go_upto_region 1 with fail
  rw[w9.out,x8.out];rw[hn] at HM;clear hn;go_wp2_with fail;refine HM.out.mono ?_;rintro e V ⟨rfl,f⟩;obtain⟨X0,wA,j9,r8⟩:=nL n rF V;have y8:=HB.out.trans (f.mono HB.out.size);have wB:=f.size;have y9:Hid (Qp w l vars self (.slice va vars.length vc) V.heap.size [] 0 X0):=Ax ⟨rfl,rfl,by simp,by rw[HN.out];exact r8,(j9.block _ rF).trans ((f.block _ (Ay x9.out)).trans x9.out),(j9.block _ rF).trans ((f.block _ (Ay d8.out)).trans d8.out),y8.trans (j9.mono y8.size),by omega⟩;obtain⟨g,hg⟩:∃g,V.heap.size=g:=⟨_,rfl⟩;rw[hg] at wA y9;clear f j9 r8 y8 HM w9 x8 x9 d8 HB hg wB;go_wp2_with fail
  go_loopw [6,22] (fun u6 vi wr=>∃(k:Nat) (ks:List Int),k<=n/\vi= .int .i64 k/\u6= .int .i64 0/\Hid (Qp w l vars self (.slice va vars.length vc) g ks k wr)) (fun _ vi _=>n - (intOf vi).toNat)
  case atStart=>exact⟨0,[],Nat.zero_le _,rfl,rfl,y9.out⟩
  clear y9;obtain⟨k,ks,hk,rfl,rfl,hq⟩:=hrel;obtain⟨u,rfl⟩:∃u:World,u=wr:=⟨_,rfl⟩;by_cases hkn:k<n
  ·have o:k<l.length:=by rw[HN.out];exact hkn
   have d:=hq.out;obtain⟨_,a',c',ev,vB⟩:=HT.out.below d.below;cases ev;obtain⟨b,off,kv,rfl,f7,k8⟩:=vB k o;obtain⟨uR,ka,kc,rfl,l7⟩:=k8;have n9:=HG.out.op k o;have G:=HG.out.few k o;have I:=HG.out.kids k o;have L:=HG.out.lit k o;have A:=fun(X:World) (hX:Below u.heap.size u X) (z:Int) hz h0=>(d.to hX).next o (z:=z) hz h0
   have M:=fun(p:Int×Int) hz h0=>d.bad o (p:=p) hz h0 HZ.out
   have N:=fun hl=>Pb (x:=l[k]'o) vV.out vU d.pos hl
   obtain⟨x,hx⟩:∃x,l[k]=x:=⟨_,rfl⟩;rw[hx] at f7 uR l7 n9 G I L;simp only[hx] at A M N;obtain⟨⟨op,⟨vk,vn,vs⟩,nm,ln,cl⟩,kids⟩:=x;obtain⟨d0,d1,d2,d3,d4,d5,d6,d7⟩:=f7;simp only at d0 d1 d2 d3 d4 d5 d6 d7 uR l7 n9 G I L M N;obtain⟨R,p8⟩:∃R,u.alloc (.cells #[.int .u8 op,.int .u8 vk,.int .i64 vn,.string ⟨vs.toArray⟩,.string ⟨nm.toArray⟩,.slice ka kids.length kc,.int .i64 ln,.int .i64 cl] 43)=R:=⟨_,rfl⟩;have T:Below u.heap.size u R:=by rw[←p8];exact(Aq _ u).alloc (Ak _) _
   have U:=Az u (.cells #[.int .u8 op,.int .u8 vk,.int .i64 vn,.string ⟨vs.toArray⟩,.string ⟨nm.toArray⟩,.slice ka kids.length kc,.int .i64 ln,.int .i64 cl] 43);rw[p8] at U;have wT:=Ay d.kat;have wC:=d.gw;have hwB:=d.below.size;have wD:=Ax p8;have q:=Ax T;have wU:=Ax U;have HO:=Ax d;have f8:=Ax A;have r9:=Ax M;have vC:=Ax N;have wE:=Ax l7;have vD:=Ax I;have vE:=Ax G;have vF:=Ax L;have wV:=Ax n9
   have C:Hid (∀X,Below R.heap.size R X->X.cell? ⟨u.heap.size,0,none⟩=some (.int .u8 op)/\X.cell? ⟨u.heap.size,6,none⟩=some (.int .i64 ln)/\X.cell? ⟨u.heap.size,7,none⟩=some (.int .i64 cl)/\X.cell? ⟨w.heap.size+1,0,none⟩=some (.int .i64 0)/\X.cell? ⟨w.heap.size+1,1,none⟩=some (.int .i64 0)/\(∀i,X.frozen? ⟨w.heap.size+1,i,none⟩=false)/\X.cell? ⟨g,k,none⟩=some (.int .u8 0)/\X.frozen? ⟨g,k,none⟩=false):=Ax fun X hX=>by
    have vG:=d.to (T.trans (hX.mono T.size));obtain⟨n0,_,_,_,_,_,n6,n7,_⟩:=A6 ((hX.block _ (Ay U)).trans U);obtain⟨y0,y1,yf⟩:=Bf vG.pl;obtain⟨z0,z1⟩:=vG.kat.cell (i:=k) (x:=0) (by rw[List.getElem?_append_right (by rw[d.len];exact Ak _),d.len,Nat.sub_self,List.getElem?_replicate,Ap rF]);exact⟨n0,n6,n7,y0,y1,yf,z0,z1⟩
   have vH:Hid (∀X z,Below R.heap.size R X->∀i,(X.setCell ⟨g,k,none⟩ (.int .u8 z)).cell? ⟨u.heap.size,i,none⟩=X.cell? ⟨u.heap.size,i,none⟩/\(X.setCell ⟨g,k,none⟩ (.int .u8 z)).cell? ⟨w.heap.size+1,i,none⟩=X.cell? ⟨w.heap.size+1,i,none⟩/\(X.setCell ⟨g,k,none⟩ (.int .u8 z)).frozen? ⟨w.heap.size+1,i,none⟩=X.frozen? ⟨w.heap.size+1,i,none⟩):=Ax fun X z _ i=>by
    have e1:(X.setCell ⟨g,k,none⟩ (.int .u8 z)).heap[u.heap.size]? =X.heap[u.heap.size]?:=Below.heap_setCell _ _ _ _ (by show u.heap.size≠g;omega);have e2:(X.setCell ⟨g,k,none⟩ (.int .u8 z)).heap[w.heap.size+1]? =X.heap[w.heap.size+1]?:=Below.heap_setCell _ _ _ _ (by show w.heap.size+1≠g;omega);exact⟨World.cell?_of_block (w:=X) e1,World.cell?_of_block (w:=X) e2,World.frozen?_of_block (w:=X) e2⟩
   obtain⟨n0,n1,n2,n3,n4,n5,n6,n7,_⟩:=A6 U;obtain⟨s0,s1,_⟩:=Bf ((T.block _ (Ay d.box)).trans d.box);obtain⟨y0,y1,yf⟩:=Bf ((T.block _ (Ay d.pl)).trans d.pl);have i0:(0:Int)<=(k:Int):=by omega
   have i1:(k:Int)<(n:Int):=by omega
   clear p8 T U d hq hx vB A M N l7 I G L n9;go_upto_region 7 with fail
   rw[wD.out];by_cases hk0:kids=[]
   ·subst hk0;have HL:=Ax (kJ op vk vn vs nm ka 0 kc ln cl self R ((HV.out.below HO.out.below).below q.out));have D:Ew vars self ks ⟨⟨op,(vk,vn,vs),nm,ln,cl⟩,[]⟩=Ou ⟨op,(vk,vn,vs),nm,ln,cl⟩ vars self:=Ap rfl;obtain⟨⟨z,er⟩,vI⟩:∃p,Ou ⟨op,(vk,vn,vs),nm,ln,cl⟩ vars self=p:=⟨_,rfl⟩;rw[vI] at HL D;simp only at HL;have W:=Ax D;clear D vI;simp only[List.length_nil] at*
    go_wp2_with fail;refine HL.out.mono ?_;rintro e V ⟨rfl,f⟩;have Y:=Ax f;obtain⟨m0,m6,m7,q0,q1,qf,z0,z1⟩:=C.out V f;clear n0 n1 n2 n3 n4 n5 n6 n7 s0 s1 y0 y1 yf f HL;go_upto_region 9 with fail
    obtain⟨Z,hZ⟩:∃Z,V.setCell ⟨g,k,none⟩ (.int .u8 z)=Z:=⟨_,rfl⟩;have c:=vH.out V z Y.out;rw[hZ] at c ⊢;have wW:=Ax hZ;have HbO:=Ax (q.out.trans (Y.out.mono q.out.size));by_cases her:er=0
    ·subst her;have hp:=vC.out (fun h1=>(vF.out h1).1);rw[W.out] at hp;have HF:=f8.out V HbO.out z W.out hp;rw[hZ] at HF;have HF:=Ax HF;clear c hZ hp m0 m6 m7 q0 q1 qf z0 z1;exact zv4
    have wF:(er !=0)=true:=by simpa using her
    have f9:=r9.out (z,er) W.out her;have uS:=Ax f9;have m6:=(c 6).1.trans m6;have m7:=(c 7).1.trans m7;have q0:=(c 0).2.1.trans q0;have q1:=(c 1).2.1.trans q1;have wG:=(c 0).2.2.trans (qf 0);have wH:=(c 1).2.2.trans (qf 1);have uT:Hid (Below w.heap.size w Z):=Ax tL;clear c hZ f9 her m0 qf z0 z1;go_wp2_with fail;go_region
    all_goals
     go_wp2
     refine Au (v:= .tuple #[.int .u8 0,.agg #[.int .i64 ln,.int .i64 cl],.int .i64 er]) tA rfl ?_;refine⟨by rw[uS.out];rfl,?_⟩;exact(uT.out.drew.setCell sA _).setCell sA _
   have wI:0<kids.length:=List.length_pos_iff.2 hk0;obtain⟨m,hm⟩:∃m,kids.length=m:=⟨_,rfl⟩;have wX:((m:Int)==0)=false:=by simp;omega
   have vJ:¬kids=[]:=hk0;have Hm:=Ax hm;rw[hm] at uR n5 wI;simp only[hm]
   have vK:∀j,(kids.take (j+1)).map (fun x=>ks.getD x.toNat 0)=(kids.take j).map (fun x=>ks.getD x.toNat 0)++(if h:j<kids.length then[ks.getD kids[j].toNat 0] else[]):=fun j=>by
    split
    ·rename_i h
     rw[List.take_succ_eq_append_getElem h,List.map_append];rfl
    rename_i h
    rw[List.take_of_length_le rF,List.take_of_length_le rF,List.append_nil]
   have wJ:=Ax vK;have wK:=Ax vJ;obtain⟨i8,vL,vM,vN,vO⟩:=R1;have wL:=Ax vL;have wM:=Ax vM;have wN:=Ax vN;have wO:=Ax vO;have wY:=Ax n5;clear hm vK vJ hk0 vL vM vN vO d0 d1 d2 d3 d4 d5 d6 d7;go_wp2_with fail
   go_loopw [10,12,48] (fun u10 _ vj wx=>∃(j:Nat) (oa:Option Addr) (oc:Nat),j<=m/\vj= .int .i64 j/\u10= .slice oa j oc/\Hid (wx.ownsRow R.heap.size 5 1 (.slice oa j oc) j (((kids.take j).map (fun x=>ks.getD x.toNat 0)).map (Value.int .u8))/\Below R.heap.size R wx)) (fun _ _ vj _=>m - (intOf vj).toNat)
   case atStart=>exact⟨0,none,0,Nat.zero_le _,rfl,rfl,World.ownsRow_nil _ _ _ _,Aq _ _⟩
   obtain⟨j,oa,oc,hj,rfl,rfl,hq⟩:=hrel;obtain⟨O,E⟩:=hq.out;obtain⟨m0,m6,m7,q0,q1,qf,z0,z1⟩:=C.out wr E;clear n0 n1 n2 n3 n4 n5 n6 n7 s0 s1 y0 y1 yf;have uU:=Ax E;have s7:=Ax O;have wP:R.heap.size<=wr.heap.size:=E.size;by_cases hjm:j<m
   ·have uV:j<kids.length:=by rw[Hm.out];exact hjm
    obtain⟨b2,wR,rfl,e0⟩:=wE.out j uV;have e0:=A4 (q.out.trans (E.mono q.out.size)) e0;have vP:=vD.out kids[j] (List.getElem_mem uV);have c:=wJ.out j;rw[dif_pos uV] at c;obtain⟨y,hy⟩:∃y,kids[j]=y:=⟨_,rfl⟩;rw[hy] at e0 vP c;obtain⟨yn,rfl⟩:∃yn:Nat,y=(yn:Int):=⟨y.toNat,by omega⟩;have r7:yn<ks.length:=by rw[HO.out.len];omega
    obtain⟨c0,_⟩:=(HO.out.to (q.out.trans (E.mono q.out.size))).kat.cell (i:=yn) (x:=ks[yn]) (by rw[List.getElem?_append_left r7,Ag r7])
    have vQ:ks.getD ((yn:Int).toNat) 0=ks[yn]:=by
     rw[Int.toNat_natCast,List.getD_eq_getElem?_getD,Ag r7,Option.getD_some]
    rw[vQ] at c;obtain⟨kv,i6⟩:∃kv,ks[yn]=kv:=⟨_,rfl⟩;rw[i6] at c0 c;have Hst:=Ax c;have j0:(0:Int)<=(j:Int):=by omega
    have j1:(j:Int)<(m:Int):=by omega
    have j2:(0:Int)<=(yn:Int):=by omega
    have wZ:yn<n:=by have:=HO.out.len;omega
    have j3:(yn:Int)<(n:Int):=by omega
    clear hq O E c hy vP vQ i6 r7 m0 m6 m7 q0 q1 qf z0 z1;go_wp2_with (at_builtin;refine wpList_append_own _ rfl (.tmp 52) (.tmp 57) _ rfl R.heap.size 5 i8 (.int .u8 0) 1 1 Tryz.underlying40 wL.out wM.out wN.out wO.out rfl rH (.slice oa j oc) j _ rfl (s7.out.alloc _) ⟨wr.heap.size,0,none⟩ 1 1 [.int .u8 kv] rfl rfl (World.news_of_block (cs:= #[.int .u8 kv]) (heap_alloc_new wr _)) rS rP rF tH ?_;intro v3 X uW vR _;obtain⟨na,nc,rfl⟩:=D8 uW;have HX:=Ax ((uU.out.alloc wP _).grown vR tH (fun k e=>Co s7.out k e));have Ho3:=Ax uW;clear uW vR);exact zwh
   obtain rfl:j=m:=by omega
   have k8:Ii wr (.slice oa j oc) (kids.map fun x=>ks.getD x.toNat 0):=by
    have h1:=O;rw[List.take_of_length_le (by rw[Hm.out];exact Ak _)] at h1;exact Ii.of_row (by rw[List.length_map,Hm.out];omega) (by rw[List.length_map,Hm.out];exact h1)
   have uX:∀y∈kids.map fun x=>ks.getD x.toNat 0,0<=y:=fun y hy=>by
    obtain⟨x,_,rfl⟩:=List.mem_map.1 hy;rw[List.getD_eq_getElem?_getD];cases e:ks[x.toNat]? with
    |none=>exact Int.le_refl 0
    |some z=>exact HO.out.pos z (List.mem_of_getElem? e)
   have a8:=vE.out;rw[Hm.out] at a8
   have HN:=Ax (dX op (ks:=kids.map fun x=>ks.getD x.toNat 0) (fun h7 xA=>by
    rw[List.length_map,Hm.out];unfold Cr at a8;rw[Ap rF] at a8
    exact a8.1) (fun wQ=>by
    rw[List.length_map,Hm.out];subst wQ
    exact a8.1) uX wr k8)
   have D:Ew vars self ks ⟨⟨op,(vk,vn,vs),nm,ln,cl⟩,kids⟩=if Ey op (kids.map fun x=>ks.getD x.toNat 0)=255 then(0,8) else(Ey op (kids.map fun x=>ks.getD x.toNat 0),0):=Ao wK.out
   have vS:=Ox (op:=op) uX;obtain⟨r,hr⟩:∃r,Ey op (kids.map fun x=>ks.getD x.toNat 0)=r:=⟨_,rfl⟩;rw[hr] at HN D vS;have W:=Ax D;clear hq O E k8 uX a8 D hr;go_wp2_with fail;refine HN.out.mono ?_;rintro e V ⟨rfl,f⟩;have Y:=Ax (uU.out.trans (f.mono uU.out.size));clear m0 m6 m7 q0 q1 qf z0 z1 f HN;obtain⟨m0,m6,m7,q0,q1,qf,z0,z1⟩:=C.out V Y.out;go_upto_region 18 with fail
   have z2:(V.setCell ⟨g,k,none⟩ (.int .u8 r)).cell? ⟨g,k,none⟩=some (.int .u8 r):=World.cell?_setCell_same _ _ _ z0;obtain⟨Z,hZ⟩:∃Z,V.setCell ⟨g,k,none⟩ (.int .u8 r)=Z:=⟨_,rfl⟩;have c:=vH.out V r Y.out;rw[hZ] at c z2 ⊢;have HbO:=Ax (q.out.trans (Y.out.mono q.out.size));by_cases her:r=255
   ·subst her;have f9:=r9.out (0,8) (W.out.trans (Ap rfl)) rH;have uS:=Ax f9;have m6:=(c 6).1.trans m6;have m7:=(c 7).1.trans m7;have q0:=(c 0).2.1.trans q0;have q1:=(c 1).2.1.trans q1;have wG:=(c 0).2.2.trans (qf 0);have wH:=(c 1).2.2.trans (qf 1);have uT:Hid (Below w.heap.size w Z):=Ax tL;clear c hZ f9 m0 qf z0 z1;go_wp2_with fail;go_region
    all_goals
     go_wp2
     refine Au (v:= .tuple #[.int .u8 0,.agg #[.int .i64 ln,.int .i64 cl],.int .i64 8]) tA rfl ?_;refine⟨by rw[uS.out];rfl,?_⟩;exact(uT.out.drew.setCell sA _).setCell sA _
   have wF:(r==255)=false:=Af.2 her;have HF:=f8.out V HbO.out r (W.out.trans (Ao her)) vS;rw[hZ] at HF;have HF:=Ax HF;clear c hZ m0 m6 m7 q0 q1 qf z0 z1;exact zv4
  obtain rfl:k=n:=by omega
  obtain⟨F,rfl⟩:∃F,k=F+1:=⟨k - 1,by omega⟩;have d:=hq.out;have o:ks.length=F+1:=d.len;have wC:=d.gw
  have i7:ofP vars self l=(ks[F],(0,0),0):=by
   have h1:=d;rw[←HN.out] at h1;rw[h1.fin HZ.out,List.getLastD_eq_getLast?,List.getLast?_eq_getElem?,show ks.length - 1=F by omega,Ag rF];rfl
  obtain⟨c0,_⟩:=d.kat.cell (i:=F) (x:=ks[F]) (by rw[List.getElem?_append_left rF,Ag rF]);obtain⟨y0,y1,yf⟩:=Bf d.pl;have vX:=yf 0;have vY:=yf 1;obtain⟨kv,i6⟩:∃kv,ks[F]=kv:=⟨_,rfl⟩;rw[i6] at c0 i7;have vT:=Ax i7;have HB:=Ax d.below;have j0:(0:Int)<=(F:Int):=by omega
  have j1:(F:Int)<((F+1:Nat):Int):=by omega
  have j2:IntKind.i64.wrap (((F+1:Nat):Int) - 1)=(F:Int):=by
   rw[IntWalk.i64_in _ ⟨by omega,by omega⟩];omega
  have j3:((F+1:Nat):Int) - 1=(F:Int):=by omega
  clear hq d i7 i6 yf o;go_wp2_with fail;go_region
  all_goals
   go_wp2
   refine Au (v:= .tuple #[.int .u8 kv,.agg #[.int .i64 0,.int .i64 0],.int .i64 0]) tA rfl ?_;refine⟨by rw[vT.out];rfl,?_⟩;exact(HB.out.drew.setCell sA _).setCell sA _
open Go Go.RowKit Go.Lib
def Mo (w:World)(v:Value)(l:List (List UInt8)):Prop:=l.length<=1000000/\∃a c,v= .slice a l.length c/\∀i (h:i<l.length),∃b off,a=some ⟨b,off,none⟩/\w.cell? ⟨b,off+i,none⟩=some (.string ⟨l[i].toArray⟩)
theorem Mo.below {w w':World}{x:Value}{l:List (List UInt8)}(h:Mo w x l)(hb:Below w.heap.size w w'):Mo w' x l:=by
 exact zxp
theorem Mo.of_row {w:World}{B:Nat}{v:Value}{l:List (List UInt8)}(d:l.length<=1000000)(h:w.ownsRow B 9 1 v l.length (Ib l)):Mo w v l:=by
 rcases h.2 with ⟨e,f⟩|⟨g,j,k,rfl,_,m,n,_⟩
 ·have:l=[]:=List.eq_nil_of_length_eq_zero f
  subst this;exact⟨d,none,0,e,fun i c=>by simp at c⟩
 refine⟨d,_,_,rfl,fun i c=>⟨g,0,rfl,?_⟩⟩
 have:=h.cells (g:=g) rfl i (.string ⟨l[i].toArray⟩) (by simp [Ib,c])
 simpa only[Addr.add_lit] using this
theorem pO {α:Type}{l:List α}{p:α->Bool}{k:Nat}(c:∀j (h:j<l.length),j<k->p l[j]=false)(i:k<l.length)(d:p l[k]=false):∀j (h:j<l.length),j<k+1->p l[j]=false:=fun j f g=>by
 by_cases e:j=k
 ·subst e;exact d
 exact c j f rF
theorem Z6 (x:List UInt8){v:Value}{l:List (List UInt8)}(w:World)(h:Mo w v l):
 Calls Tryz.prog 112 #[v,.string ⟨x.toArray⟩] w fun r w'=>r= .returned (.int .i64 (Me l fun y=>x==y))/\w=w':=by
 have n:=h.1;obtain⟨_,a,E,rfl,m⟩:=h;have o:=Ax m;clear m;go_enter Tryz.func112,Tryz.ntmps112
 go_wp2
 go_loop [8] (fun q=>∃k:Nat,k<=l.length/\q= .int .i64 k/\Hid (∀j (h:j<l.length),j<k->(x==l[j])=false)) (fun i=>l.length - (intOf i).toNat)
 case atStart=>exact⟨0,Nat.zero_le _,rfl,fun j h u=>absurd u rF⟩
 obtain⟨k,F,rfl,e⟩:=hrel;by_cases hlk:k<l.length
 ·obtain⟨b,off,rfl,A⟩:=o.out k hlk;have f:=fun c=>Ax (pO (p:=fun y=>x==y) e.out hlk c)
  have d:=fun c=>Ax (Qu (p:=fun y=>x==y) hlk e.out c)
  obtain⟨y,g⟩:∃y,l[k]=y:=⟨_,rfl⟩;simp only[g] at A f d;have G:(0:Int)<=(k:Int):=by omega
  have C:(k:Int)<(l.length:Int):=by omega
  have D:decide ((k:Int)<(l.length:Int))=true:=Am C;by_cases c:(x==y)=true
  ·have d:=d c;clear g e f
   go_wp2
   go_ret;exact⟨by rw[d.out];rfl,rfl⟩
  have c:(x==y)=false:=by simpa using c
  have f:=f c;clear g e d
  go_wp2
  go_round
  case rel=>exact⟨k+1,by omega,by go_num,f.out⟩
  case measure=>simp [intOf];omega
 obtain rfl:k=l.length:=by omega
 have d:=Ax (Pf (p:=fun y=>x==y) fun j h=>e.out j h h);have D:decide ((l.length:Int)<(l.length:Int))=false:=by simp
 go_wp2
 go_ret;exact⟨by rw[d.out];rfl,rfl⟩
theorem S2 (x:List UInt8){v:Value}{l:List (List UInt8)}(w:World)(h:Mo w v l):
 Calls Tryz.prog 70 #[v,.string ⟨x.toArray⟩] w fun r w'=>r= .returned (.bool (l.any fun y=>x==y))/\w=w':=by
 have c:=Ax (Z6 x w h);have d:=Ax (Xc l fun y=>x==y);obtain⟨_,a,f,rfl,_⟩:=h;obtain⟨i,e⟩:∃i,(Me l fun y=>x==y)=i:=⟨_,rfl⟩;rw[e] at c d;clear e;go_enter Tryz.func70,Tryz.ntmps70;go_wp2_with fail;refine c.out.mono ?_;rintro r V ⟨rfl,rfl⟩
 go_wp2
 go_ret;exact⟨by rw[←d.out];rfl,rfl⟩
def Dc:List Nz->List (List UInt8)->List (List UInt8)
 |[],L=>L
 |x::l,L=>Dc l (if(x.h.op==2 && !(L.any fun y=>x.h.name==y))=true then L++[x.h.name] else L)
def I5 (l:List Nz):List (List UInt8):=match Fi l with
 |none=>[]
 |some _=>Dc l []
theorem Ld {x:Nz}:∀{l:List Nz} {L:List (List UInt8)},Dc (l++[x]) L=(if(x.h.op==2 && !((Dc l L).any fun y=>x.h.name==y))=true then Dc l L++[x.h.name] else Dc l L)
 |[],L=>rfl
 |y::l,L=>by
  rw[List.cons_append,Dc,Ld,Dc]
theorem Ns:∀{l:List Nz} {L:List (List UInt8)},(Dc l L).length<=L.length+l.length
 |[],L=>by simp [Dc]
 |y::l,L=>by
  rw[Dc];refine Al Ns ?_
  split
  ·simp;omega
  simp
theorem bD {w:World}{tv:Value}{l:List Nz}(W:TrZ w tv l)(ho:∀x∈l,0<=x.h.op)(hf:∀x∈l,Gk x.h)(hR:Rd w):
 Calls Tryz.prog 40 #[tv] w fun e w'=>∃v,e= .returned v/\Mo w' v (I5 l)/\Below w.heap.size w w':=by
 have A:=Ax (We W ho hf hR);have i6:=W.1;have X:=W;obtain⟨_,ta,tc,rfl,g⟩:=X;have HC:=Ax g;clear W ho hf hR g;cases hz:Fi l with
 |none=>
  have HZ:Hid (I5 l=[]):=Ax (by unfold I5;rw[hz]);rw[hz] at A;clear hz;go_enter Tryz.func40,Tryz.ntmps40;go_wp2_with fail;refine A.out.mono ?_;rintro e V ⟨rfl,C⟩;have HB:=Ax C;clear C A;exact zxo
 |some t=>
  have HZ:Hid (I5 l=Dc l []):=Ax (by unfold I5;rw[hz]);rw[hz] at A;clear hz;go_enter Tryz.func40,Tryz.ntmps40;go_wp2_with fail;refine A.out.mono ?_;rintro e V ⟨rfl,C⟩;have Y:Hid (V.ownsRow w.heap.size 9 1 (.slice none 0 0) 0 (Ib (Dc (l.take 0) []))/\Below w.heap.size w V):=Ax ⟨World.ownsRow_nil _ _ _ _,C⟩;clear C A;go_wp2_with fail
  go_loopw [2,10] (fun v2 v10 wr=>∃(i:Nat) (L:List (List UInt8)) (oa:Option Addr) (oc:Nat),i<=l.length/\v10= .int .i64 i/\v2= .slice oa L.length oc/\Hid (Dc (l.take i) []=L)/\Hid (wr.ownsRow w.heap.size 9 1 (.slice oa L.length oc) L.length (Ib L)/\Below w.heap.size w wr)) (fun _ v10 _=>l.length - (intOf v10).toNat)
  case atStart=>exact⟨0,[],none,0,Nat.zero_le _,rfl,rfl,rfl,Y⟩
  obtain⟨n,rfl⟩:∃n:World,n=wr:=⟨_,rfl⟩;obtain⟨i,L,oa,oc,hi,rfl,rfl,D,Z⟩:=hrel;obtain⟨d,f⟩:=Z.out
  have E:L.length<=1000000:=by
   rw[←D.out];refine Al Ns ?_;simp;omega
  by_cases hil:i<l.length
  ·obtain⟨b,off,kv,ea,j,F⟩:=HC.out i hil;subst ea;have j:=j.below f
   have o:Dc (l.take (i+1)) []=if(l[i].h.op==2 && !(L.any fun y=>l[i].h.name==y))=true then L++[l[i].h.name] else L:=by
    rw[List.take_succ_eq_append_getElem hil,Ld,D.out]
   obtain⟨ka,kc,G⟩:∃a c,kv= .slice a l[i].kids.length c:=by
    obtain⟨_,a,c,e,_⟩:=F;exact⟨a,c,e⟩
   obtain⟨⟨⟨op,⟨vk,vn,vs⟩,nm,ln,cl⟩,ks⟩,hx⟩:∃x,l[i]=x:=⟨_,rfl⟩;simp only[hx] at j o G;subst G;obtain⟨x0,x1,x2,x3,x4,x5,x6,x7⟩:=j;simp only at x0 x1 x2 x3 x4 x5 x6 x7;have j0:(0:Int)<=(i:Int):=by omega
   have j1:(i:Int)<(l.length:Int):=by omega
   have j2:decide ((i:Int)<(l.length:Int))=true:=Am j1;have i7:=Bn x0;obtain⟨W1,k⟩:∃W1,n.alloc (.cells #[.int .u8 op,.int .u8 vk,.int .i64 vn,.string ⟨vs.toArray⟩,.string ⟨nm.toArray⟩,.slice ka ks.length kc,.int .i64 ln,.int .i64 cl] 43)=W1:=⟨_,rfl⟩;have r:=Az n (.cells #[.int .u8 op,.int .u8 vk,.int .i64 vn,.string ⟨vs.toArray⟩,.string ⟨nm.toArray⟩,.slice ka ks.length kc,.int .i64 ln,.int .i64 cl] 43);have u:Below n.heap.size n W1:=by rw[←k];exact(Aq _ n).alloc (Ak _) _
   rw[k] at r;obtain⟨n0,n1,n2,n3,n4,n5,n6,n7,nf⟩:=A6 r;have m:=Cg d u;have I:=f.trans (u.mono f.size);have HCn:=Ax (S2 nm W1 (Mo.of_row E m));have M:=Ax o;have N:=Ax k;have HR1:=Ax m;have HB1:=Ax I;have Hown:=Ax (Co m);obtain⟨q,a8⟩:∃q,(op==2)=q:=⟨_,rfl⟩;obtain⟨p,hp⟩:∃p,(L.any fun y=>nm==y)=p:=⟨_,rfl⟩;rw[hp] at HCn;have HH:Hid (Dc (l.take (i+1)) []=if(q && !p)=true then L++[nm] else L):=Ax (by rw[M.out,a8,hp]);clear Z d f o hx r u nf k m I Y M hp F D;go_upto_region 6 with fail
   rw[N.out];clear N x0 x1 x2 x3 x4 x5 x6 x7;cases q with
   |false=>
    exact zx2
   |true=>
    go_wp2_with fail;refine HCn.out.mono ?_;rintro e V2 ⟨rfl,rfl⟩;cases p with
    |true=>
     exact zx2
    |false=>
     have HH2:Hid (Dc (l.take (i+1)) []=L++[nm]):=Ax HH.out;obtain⟨b7,O,R,T,U⟩:=G1;have b8:=Ax O;have d8:=Ax R;have f7:=Ax T;have f8:=Ax U;have Hrow1:=Ax (HR1.out.alloc (.cells #[.string ⟨nm.toArray⟩] 9));have HN1:=Ax (Az W1 (.cells #[.string ⟨nm.toArray⟩] 9));have HZ1:Hid ((W1.alloc (.cells #[.string ⟨nm.toArray⟩] 9)).heap.size=W1.heap.size+1):=Ax rI;have hsr:=HB1.out.size;clear HCn O R T U;go_wp2_with ((refine wpList_append_lies _ rfl (.tmp 24) (.tmp 27) _ rfl w.heap.size 9 b7 (.string ⟨#[]⟩) 1 16 Tryz.underlying39 b8.out d8.out f7.out f8.out rfl rH (.slice oa L.length oc) L.length (Ib L) rfl Hrow1.out ⟨W1.heap.size,0,none⟩ 1 1 [.string ⟨nm.toArray⟩] rfl rfl (World.news_of_block (cs:= #[.string ⟨nm.toArray⟩]) HN1.out) rS rH rP rF (by rw[HZ1.out];omega) (W1.heap.size+1) HZ1.out ?_;intro g6 cap w6 hown6 hgrow6 hat6 hlt6));have hB6:=G5 (v:= .slice oa L.length oc) (HB1.out.alloc HB1.out.size (.cells #[.string ⟨nm.toArray⟩] 9)) hgrow6 Hown.out (by rw[HZ1.out];omega);exact zyh
  obtain rfl:i=l.length:=by omega
  have f9:Hid (Dc l []=L):=Ax (by have:=D.out;rwa [List.take_of_length_le (Ak _)] at this);have HT:=Ax (Mo.of_row E d);have HB:=Ax f;have j2:decide ((l.length:Int)<(l.length:Int))=false:=by simp
  clear Z d f Y D;go_wp2_with fail;go_ret;exact⟨_,rfl,by rw[HZ.out,f9.out];exact HT.out,HB.out⟩
open Go Go.RowKit Go.Lib
theorem P2.var {l:List Nz}(d:P2 l){x:Nz}(e:x∈l)(f:x.h.op=2):x.kids=[]:=by
 obtain⟨i,g,rfl⟩:=List.getElem_of_mem e;have c:=(d.few i g).2;rw[f] at c;exact List.eq_nil_of_length_eq_zero (Nat.le_zero.1 c)
theorem bU:∀{l:List Int} {k:Int},k<=2->Ed k l<=2\/Ed k l=255
 |[],k,h=> .inl h
 |x::l,k,h=>by
  unfold Ed
  split
  ·exact .inr rfl
  exact bU rF
theorem iW {op:Int}{ks:List Int}(f:∀x∈ks,x<=5):Ey op ks<=5\/Ey op ks=255:=by
 have d:∀i,ks.getD i 0<=5:=fun i=>by
  rw[List.getD_eq_getElem?_getD];cases e:ks[i]? with
  |none=>show(0:Int)<=5;decide
  |some x=>exact f x (List.mem_of_getElem? e)
 unfold Ey;cases hc:Fd op with
 |some c=>
  simp only
  split
  ·left;unfold Fd at hc
   repeat' split at hc
   all_goals first|(cases hc;done)|(injection hc with hc;subst hc;decide)
  exact .inr rfl
 |none=>
  simp only;have g:=d 1;have j:=d 2
  split
  ·split
   ·exact .inl rH
   exact .inr rfl
  split
  ·split
   ·exact .inl rH
   exact .inr rfl
  split
  ·split
   ·exact .inl rF
   exact .inr rfl
  rcases bU (l:=ks) (k:=0) rH with h|h
  ·exact .inl rF
  exact .inr h
theorem lK {vars:List (List UInt8×Int)}{self:Int}{ks:List Int}{x:Nz}(m:x.h.op=1->x.h.v.1<=5)(n:∀y∈ks,y<=5)(c:(Ew vars self ks x).2=0):(Ew vars self ks x).1<=5:=by
 have i:∀k,(Gq k).2=0->(Gq k).1<=5:=fun k h=>by
  unfold Gq at h ⊢
  split
  ·decide
  simp only;omega
 unfold Ew at c ⊢
 split
 ·rename_i f
  rw[Ap f] at c;unfold Ou at c ⊢
  split
  ·rename_i g
   exact m g
  rename_i g
  rw[Ao g] at c
  split
  ·rename_i d
   rw[Ap d] at c;cases e:Ez x.h.name vars with
   |none=>simp only;decide
   |some k=>
    rw[e] at c;exact i k c
  rename_i d
  rw[Ao d] at c
  split
  ·decide
  rename_i o
  rw[Ao o] at c;exact i self c
 rename_i f
 rw[Ao f] at c
 split
 ·decide
 rename_i d
 rcases iW (op:=x.h.op) (ks:=x.kids.map fun j=>ks.getD j.toNat 0) (fun y p=>by
  obtain⟨j,_,rfl⟩:=List.mem_map.1 p;rw[List.getD_eq_getElem?_getD];cases e:ks[j.toNat]? with
  |none=>show(0:Int)<=5;decide
  |some z=>exact n z (List.mem_of_getElem? e)) with h|h
 ·exact h
 exact absurd h d
open Go Go.Lib
def Ha (op:Int)(k:Nat):Bool:=decide (1<=op/\op<=26/\(Cr op).1<=k/\k<=(Cr op).2)
def Dd:Nat->List Int->List Nz->Option (List Int)
 |_,o,[]=>some o
 |i,o,n::l=>if(Ha n.h.op n.kids.length && (decide (n.kids.length<=o.length) && decide (o.drop (o.length - n.kids.length)=n.kids)))=true then Dd (i+1) (o.take (o.length - n.kids.length)++[(i:Int)]) l else none
def Ej (l:List Nz):Bool:=match Dd 0 [] l with
 |some o=>decide (o.length=1)
 |none=>false
theorem N3:∀(l m:List Nz) (i:Nat) (o:List Int),Dl l m=true->Dd i o l=Dd i o m
 |[],[],_,_,_=>rfl
 |[],_::_,_,_,h=>by cases h
 |_::_,[],_,_,h=>by cases h
 |x::l,y::m,i,o,h=>by
  unfold Dl at h;rw[Bool.and_eq_true] at h;obtain⟨c,d⟩:=h;obtain⟨e,f⟩:=(Tv x y).1 c;have g:x.h.op=y.h.op:=(Ar Hd.op e:x.h.bare.op=y.h.bare.op);rw[Dd,Dd,g,f,N3 l m (i+1) _ d]
theorem Vh:∀(k:Nat),(∀(e:Ex) (i:Nat) (o:List Int) (l:List Nz),e.size<=k->e.All Mj->Dd i o ((e.flat i).map Nd.z++l)=Dd (i+e.size) (o++[((i+e.size - 1:Nat):Int)]) l)/\
 (∀(c:List Ex) (i:Nat) (o:List Int) (l:List Nz),Bs c<=k->Jw Mj c->Dd i o ((Bz c i).map Nd.z++l)=Dd (i+Bs c) (o++(Db c i).map fun(x:Nat)=>(x:Int)) l):=by
 intro k
 induction k with
 |zero=>
  refine⟨fun e i o l h=>absurd e.size_pos rF,fun c i o l h _=>?_⟩;cases c with
  |nil=>simp [Bz,Bs,Db]
  |cons e c=>rw[Bs] at h;exact absurd e.size_pos rF
 |succ k ih=>
  have f:∀(e:Ex) (i:Nat) (o:List Int) (l:List Nz),e.size<=k+1->e.All Mj->Dd i o ((e.flat i).map Nd.z++l)=Dd (i+e.size) (o++[((i+e.size - 1:Nat):Int)]) l:=fun e i o l h d=>by
   cases e with
   |mk hd ks=>
    rw[Ex.size] at h ⊢;rw[Ex.All] at d;rw[Ex.flat,List.map_append,List.append_assoc,ih.2 ks i o _ rF d.2];show Dd (i+Bs ks) _ (Nd.z ⟨hd,Db ks i⟩::l)=_;have j:(Nd.z ⟨hd,Db ks i⟩).kids.length=ks.length:=by simp [Nd.z,Kb]
    have m:(o++(Db ks i).map fun(x:Nat)=>(x:Int)).length=o.length+ks.length:=by simp [Kb]
    rw[Dd,j,m,Nat.add_sub_cancel];have n:(o++(Db ks i).map fun(x:Nat)=>(x:Int)).drop o.length=(Db ks i).map fun(x:Nat)=>(x:Int):=List.drop_left
    have p:(o++(Db ks i).map fun(x:Nat)=>(x:Int)).take o.length=o:=List.take_left;rw[n,p,Ap]
    ·rfl
    have g:=d.1;have q:Ha (Nd.z ⟨hd,Db ks i⟩).h.op ks.length=true:=Am ⟨g.op1,g.op2,g.few,g.many⟩;rw[q,Am (Nat.le_add_left _ _),show decide (((Db ks i).map fun(x:Nat)=>(x:Int))=(Nd.z ⟨hd,Db ks i⟩).kids)=true from Am rfl];rfl
  refine⟨f,fun c=>?_⟩
  induction c with
  |nil=>intro i o l _ _;simp [Bz,Bs,Db]
  |cons e c ihs=>
   intro i o l h d;rw[Bs] at h ⊢;rw[Bz,List.map_append,List.append_assoc,f e i o _ rF d.1,ihs (i+e.size) _ l (by have:=e.size_pos;omega) d.2,Db,List.map_cons,List.append_assoc,Nat.add_assoc];rfl
theorem Zo {l:List UInt8}{a:Ex}(h:B9 l= .ok a):Ej ((a.flat 0).map Nd.z)=true:=by
 have:=(Vh a.size).1 a 0 [] [] (Ak _) (Py h)
 rw[List.append_nil] at this;unfold Ej;rw[this];rfl
def txZ (l:List Nz)(j:Nat):List UInt8:=match l[j]? with
 |some x=>Ct x.h x.kids.length (B4 l (Bl l j) x.kids)
 |none=>[]
theorem Nw (l:List Nz):∀k,Bl l k=(List.range k).map (txZ l)
 |0=>rfl
 |k+1=>by rw[Bl,F6,←Nw l k];rfl
theorem Nh {l:List Nz}{k j:Nat}(h:j<k):(Bl l k)[j]? =some (txZ l j):=by
 rw[Nw,List.getElem?_map,List.getElem?_range h];rfl
def G7 (n:Nz):Nat:=430+n.h.name.length
theorem Q8 {l:List Nz}{i:Nat}{kids:List Int}{k:Nat}(least:Nat){c:Int}(d:kids[k]? =some c):(B4 l (Bl l i) kids k least).length<=2+(txZ l c.toNat).length/\(least=0->(B4 l (Bl l i) kids k least).length<=(txZ l c.toNat).length):=by
 unfold B4;rw[d];simp only[Ei];by_cases hc:0<=c/\c<(i:Int)
 ·rw[Ap hc,Nh (show c.toNat<i by omega)];cases hx:l[c.toNat]? with
  |none=>simp
  |some x=>
   simp only;refine⟨?_,fun e=>?_⟩
   ·split
    ·unfold K6;simp only[Aa,Ab,List.length_nil];omega
    omega
   subst e;rw[Ao (Nat.not_lt_zero _)];exact Ak _
 rw[Ao hc];simp
theorem Lz {l:List Nz}{ts:List (List UInt8)}{kids:List Int}{k:Nat}(least:Nat)(c:kids[k]? =none):B4 l ts kids k least=[]:=by
 unfold B4;rw[c]
def J6 (l:List Nz)(kids:List Int):Nat:=(kids.map fun c=>(txZ l c.toNat).length).sum
theorem iS {l:List Nz}{i least:Nat}{kids:List Int}{m:Nat}(d:kids.length=m)(e:1<=m):(B4 l (Bl l i) kids 0 least).length<=2+J6 l kids:=by
 cases kids with
 |nil=>simp at d;omega
 |cons c r=>
  have:=(Q8 (l:=l) (i:=i) (kids:=c::r) (k:=0) least rfl).1
  unfold J6;rw[List.map_cons,List.sum_cons];omega
theorem Te {l:List Nz}{i a b:Nat}{kids:List Int}:(B4 l (Bl l i) kids 0 a).length+(B4 l (Bl l i) kids 1 b).length<=4+J6 l kids:=by
 cases kids with
 |nil=>rw[Lz a rfl,Lz b rfl];simp
 |cons c r=>
  have e:=(Q8 (l:=l) (i:=i) (kids:=c::r) (k:=0) a rfl).1;cases r with
  |nil=>
   rw[Lz b (k:=1) rfl];unfold J6;rw[List.map_cons,List.sum_cons];simp only[List.length_nil];omega
  |cons d r=>
   have f:=(Q8 (l:=l) (i:=i) (kids:=c::d::r) (k:=1) b rfl).1;unfold J6;rw[List.map_cons,List.sum_cons,List.map_cons,List.sum_cons];omega
theorem Tz:∀(l:List (List UInt8)),(E5 [44,32] l).length<=(l.map List.length).sum+2*l.length
 |[]=>Nat.zero_le _
 |[x]=>by simp [E5]
 |x::y::l=>by
  have c:=Tz (y::l)
  show(x++([44,32]++E5 [44,32] (y::l))).length<=_
  simp only[Ab,Aa,List.length_nil,List.map_cons,List.sum_cons] at c ⊢;omega
theorem Yb (l:List Nz)(i:Nat)(kids:List Int):∀n,n<=kids.length->(((List.range n).map fun k=>B4 l (Bl l i) kids k 0).map List.length).sum<=J6 l (kids.take n)
 |0,_=>Nat.zero_le _
 |n+1,h=>by
  have c:=Yb l i kids n rF;have d:kids[n]? =some kids[n]:=Ag rF
  have:=(Q8 (l:=l) (i:=i) 0 d).2 rfl
  rw[F6,List.map_append,List.sum_append,List.take_succ_eq_append_getElem rF];unfold J6 at c ⊢;rw[List.map_append,List.sum_append];simp only[List.map_cons,List.map_nil,List.sum_cons,List.sum_nil,Nat.add_zero];omega
theorem iH {l:List Nz}{j:Nat}{x:Nz}(d:l[j]? =some x)(c:Gk x.h)(e:Ha x.h.op x.kids.length=true):(txZ l j).length<=G7 x+J6 l x.kids:=by
 obtain⟨m,n,o,p⟩:=of_decide_eq_true e;have q:=Sl x.h.op;have r:=(Jc x.h.op).1;unfold txZ G7;rw[d];simp only;unfold Ct
 split
 ·have:(C3 x.h.v.1 x.h.v.2.1 x.h.v.2.2).length<=402:=by
   unfold C3
   split
   ·exact(eT uK c.1 c.2.1).2.1
   simp
  omega
 split
 ·simp only[Aa];omega
 split
 ·simp only[Aa,List.length_nil];omega
 split
 ·have f:=Tz ((List.range x.kids.length).map fun k=>B4 l (Bl l j) x.kids k 0);have g:=Yb l j x.kids x.kids.length (Ak _);rw[List.take_length] at g;rw[List.length_map,List.length_range] at f;unfold K6;simp only[Ab,Aa,List.length_nil];omega
 split
 ·by_cases hk:x.kids.length=0
  ·rw[Lz _ (List.getElem?_eq_none rF)];simp only[Ab,List.length_nil];omega
  have:=iS (l:=l) (i:=j) (least:=A9 x.h.op) (kids:=x.kids) rfl rF
  simp only[Ab];omega
 split
 ·have:=Te (l:=l) (i:=j) (a:=4) (b:=4) (kids:=x.kids)
  simp only[Ab,Aa];omega
 have:=Te (l:=l) (i:=j) (a:=A9 x.h.op) (b:=A9 x.h.op+1) (kids:=x.kids)
 simp only[Ab,Aa];omega
theorem R7 (l:List Nz)(a b:List Int):J6 l (a++b)=J6 l a+J6 l b:=by simp [J6]
theorem Mg (l:List Nz)(p:∀x∈l,Gk x.h):∀(r pre:List Nz) (o o':List Int),l=pre++r->Dd pre.length o r=some o'->(∀c∈o,0<=c/\c<(pre.length:Int))->J6 l o<=(pre.map G7).sum->
 ∀(j:Nat) (x:Nz),pre.length<=j->l[j]? =some x->Ha x.h.op x.kids.length=true/\(∀c∈x.kids,0<=c/\c<(j:Int))/\(txZ l j).length<=(l.map G7).sum
 |[],pre,o,o',hl,_,_,_=>fun j x y f=>by
  have:=(List.getElem?_eq_some_iff.1 f).1
  rw[hl,List.append_nil] at this;omega
 |n::r,pre,o,o',hl,h,ho,hs=>by
  rw[Dd] at h;by_cases d:(Ha n.h.op n.kids.length && (decide (n.kids.length<=o.length) && decide (o.drop (o.length - n.kids.length)=n.kids)))=true
  ·rw[Ap d] at h;rw[Bool.and_eq_true,Bool.and_eq_true] at d;obtain⟨q,_,k⟩:=d;have k:=of_decide_eq_true k;have i:l[pre.length]? =some n:=by rw[hl,List.getElem?_append_right (Ak _),Nat.sub_self];rfl
   have g:∀c∈n.kids,0<=c/\c<(pre.length:Int):=fun c d=>ho c (List.mem_of_mem_drop (k▸d))
   have m:J6 l o=J6 l (o.take (o.length - n.kids.length))+J6 l n.kids:=by
    conv=>lhs;rw[←List.take_append_drop (o.length - n.kids.length) o]
    rw[R7,k]
   have A:n∈l:=hl▸List.mem_append_right _ Ai;have u:=iH i (p n A) q
   have e:J6 l (o.take (o.length - n.kids.length)++[(pre.length:Int)])<=((pre++[n]).map G7).sum:=by
    rw[R7,List.map_append,List.sum_append]
    have:J6 l [(pre.length:Int)]=(txZ l pre.length).length:=by simp [J6]
    rw[this];simp only[List.map_cons,List.map_nil,List.sum_cons,List.sum_nil,Nat.add_zero];omega
   have v:((pre++[n]).map G7).sum<=(l.map G7).sum:=by
    rw[hl,show pre++n::r=(pre++[n])++r by simp,List.map_append (l₁:=pre++[n]),List.sum_append];exact Nat.le_add_right _ _
   have C:=Mg l p r (pre++[n]) (o.take (o.length - n.kids.length)++[(pre.length:Int)]) o' (by rw[hl];simp) (by rw[Ab];exact h) (fun c d=>by
    rw[Ab,Aa,List.length_nil];rcases List.mem_append.1 d with d|d
    ·have:=ho c (List.mem_of_mem_take d)
     omega
    rw[List.mem_singleton.1 d]
    omega) e
   intro j x y f;by_cases he:j=pre.length
   ·subst he;rw[i] at f;injection f with f;subst f;refine⟨q,g,?_⟩;rw[R7] at e
    have:J6 l [(pre.length:Int)]=(txZ l pre.length).length:=by simp [J6]
    omega
   exact C j x (by rw[Ab,Aa,List.length_nil];omega) f
  rw[Ao d] at h;cases h
def aU (l:List Nz):Option (List UInt8):=if 60<l.length\/Ej l=false then none else match B9 (txZ l (l.length - 1)) with
 | .ok u=>if Dl l ((u.flat 0).map Nd.z)=true then some (txZ l (l.length - 1)) else none
 | .error _=>none
theorem Ls {l:List Nz}(d:∀x∈l,Gk x.h)(h:Ej l=true):0<l.length/\∀(j:Nat) (x:Nz),l[j]? =some x->Ha x.h.op x.kids.length=true/\(∀c∈x.kids,0<=c/\c<(j:Int))/\(txZ l j).length<=(l.map G7).sum:=by
 unfold Ej at h;cases hw:Dd 0 [] l with
 |none=>rw[hw] at h;cases h
 |some o=>
  rw[hw] at h;refine⟨?_,fun j x e=>Mg l d l [] [] o rfl hw (fun c f=>by cases f) (Nat.zero_le _) j x (Nat.zero_le _) e⟩;cases l with
  |nil=>injection hw with hw;subst hw;cases h
  |cons n l=>simp
theorem Za {l:List Nz}(f:∀x∈l,Gk x.h)(h:Ej l=true)(i:(l.map G7).sum<=65536):Oh l=txZ l (l.length - 1):=by
 obtain⟨k,g⟩:=Ls f h
 have c:Lc (Bl l l.length)=true:=by
  unfold Lc;rw[List.all_eq_true];intro t e;rw[Nw] at e;obtain⟨j,d,rfl⟩:=List.mem_map.1 e;have d:=List.mem_range.1 d
  have:=(g j l[j] (Ag d)).2.2
  exact Am rF
 unfold Oh;rw[Ap c,List.getLast?_eq_getElem?,Ei,Nh rF];rfl
theorem bW {l:List Nz}(c:∀x∈l,Gk x.h)(d:l.length<=60->(l.map G7).sum<=65536):Fi l=aU l:=by
 unfold Fi aU;by_cases h60:60<l.length
 ·rw[Ap h60,Ap (.inl h60)]
 rw[Ao h60];by_cases hw:Ej l=true
 ·rw[Ao (by rw[hw];simp [h60]),Za c hw (d rF)];cases B9 (txZ l (l.length - 1))<;>rfl
 rw[Ap (.inr (by simpa using hw))];cases hr:B9 (Oh l) with
 |error e=>rfl
 |ok u=>
  simp only;rw[Ao];intro f;apply hw
  have:=Zo hr
  unfold Ej at this ⊢;rwa [N3 _ _ 0 [] f]
open Go Go.ChangeShapes Go.WideShapes Go.ChangeAt Go.RowKit
section
variable {H:Type} {enc:TypeId×Value->H} {P:Program}
theorem S6 {f:Func}{s:ChangeSpec}{apart m c n:Bool}{W q:World}{args:Array Value}{v:Value}{u x:List (DataW H)}{before y pv:List MemPlace}
 (D:DataW.Whole enc P f.params.toList s.vars apart W args.toList u x before)
 (i:∀(b:Nat) (o:Nat->Bool) (hd:Bool),DataW.TrodAll enc P q b o hd f.resultTypes.toList (v.resultList f.resultTypes.size) (s.fn H (u++x)).results [])
 (d:∀o:Nat->Bool,(∀p∈before,o p.block=true)->DataW.TrodAll enc P q 0 o true f.params.toList args.toList (s.fn H (u++x)).args y)
 (e:∀o:Nat->Bool,(∀p∈before,o p.block=true)->DataW.TrodVars enc P q o s.vars (s.fn H (u++x)).vars pv)
 (h:before=y++pv) (F:Below W.heap.size W q)
 (E:∀(j:Nat) (t:TypeId) (r:Value),f.resultTypes[j]? =some t->(v.resultList f.resultTypes.size)[j]? =some r->Value.okWide P q .any 0 t r):
 s.post enc P f apart m c n W args v q:=by
 have A:∀p∈before,p.block<W.heap.size:=fun p g=>D.lt p g
 have k:∀p∈before,(fun b=>decide (b<W.heap.size)) p.block=true:=fun p g=>by simpa using A p g
 refine⟨u,x,before,[],y,pv,D,i _ _ _,d _ k,e _ k,World.keptBut_mono (fun p g=>⟨g,?_⟩) (F.frame (· ∈before)),fun _=>?_⟩
 ·rw[h,List.mem_append] at g;exact Or.inr g
 obtain⟨_,_,_,_,_,G,I⟩:=D;refine⟨E,_,_,([]++y)++pv,⟨[]++y,pv,trodAll_append (d _ (fun _ _=>rfl)) (i _ _ _),e _ (fun _ _=>rfl),rfl,?_,?_⟩,?_⟩
 ·intro b off g;have C:MemPlace.cell b off∈before:=by rw[h];simpa using g
  rw[F.frozen (A _ C)];exact G b off C
 ·intro L
  have:=I L
  rw[h] at this;simpa using this
 intro p g _;rw[h];simpa using g
end
theorem own:ownKnob Tryz.prog.godebug=none:=by kernel_rfl
open Go Go.ChangeShapes Go.WideShapes Go.ChangeAt Go.RowKit Go.Lib Go.ChangeMaps
theorem Oz {W:World}{n:String}{g:Nat}{j:String}{d:DataW Unit}(h:Lib.VarReads Tryz.prog W n (.iface j d))(i:Tryz.prog.globalNamed n=some g)(k:(Tryz.prog.globals[g]?).map (·.type)=some 119):
 ∃c,W.cell? ⟨g,0,none⟩=some c/\(c= .nilIface\/∃m o,c= .iface m o):=by
 obtain⟨q,t,cs,fuel,p,e,f,r,hd⟩:=h;obtain rfl:q=g:=Option.some.inj (e.symm.trans i);obtain rfl:t=119:=Option.some.inj (f.symm.trans k);obtain⟨A,u,v,x,_,_⟩:=iface_of_trod Tryz.underlying119 hd;refine⟨.iface u v,?_,.inr ⟨u,v,rfl⟩⟩;have y:=World.var?_cell i r 0;rw[y,←Array.getElem?_toList,x];rfl
theorem pK:Rows.laid_internal_strconv_uint64pow10=Lib.tabData (H:=Unit) .u64 Lib.pow10Tab:=by kernel_rfl
theorem qL {W:World}{l:List (String×DataW Unit)}(c:laidMet Tryz.prog l W)(d:W.ShapedOpen Tryz.prog)
 (e:("internal/strconv.uint64pow10",Rows.laid_internal_strconv_uint64pow10)∈l) (f:("strconv.ErrRange",Rows.laid_strconv_ErrRange)∈l) (i:("strconv.ErrSyntax",Rows.laid_strconv_ErrSyntax)∈l):Rd W:=by
 refine⟨Go.Proofs.cell_of_shapedOpen_int (zero:= #[.int .i64 0]) (t:=3) d (of_decide_eq_true rG) rG rfl rG rG Tryz.underlying3,?_,?_,?_⟩
 ·have h:=Lib.laidMet.reads c e;rw[pK] at h;obtain⟨g,t,cs,fuel,p,j,k,m,hd⟩:=h;obtain rfl:g=1:=Option.some.inj (j.symm.trans rG);obtain rfl:t=205:=Option.some.inj (k.symm.trans rG);unfold Lib.TabIs;rw[m,←Lib.cells_of_tab Tryz.underlying205 Tryz.underlying55 rG rG hd]
 ·exact Oz (Lib.laidMet.reads c f) rG rG
 exact Oz (Lib.laidMet.reads c i) rG rG
open Go Go.ChangeShapes Go.WideShapes Go.ChangeAt Go.RowKit Go.Deep
section
variable {H:Type} {enc:TypeId×Value->H} {P:Program} {w:World} {base:Nat} {spare:Nat->Bool} {held:Bool}
theorem Ml {W g:World}(i:laidOutB P=true)(j:Below W.heap.size W g){c:Nat->Bool}:∀{ts:List TypeId} {vs:List Value} {k:List (DataW H)} {f:List MemPlace},
 (∀t∈ts,P.readableRec t=true/\t<P.types.size)->DataW.TrodAll enc P W 0 (fun _=>true) true ts vs k f->(∀p∈f,p.block<W.heap.size/\c p.block=true)->DataW.TrodAll enc P g 0 c true ts vs k f
 |[],[],[],_,_,h,_=>h
 |_::_,_::_,_::_,_,hT,⟨p,q,h1,h2,e⟩,hs=>⟨p,q,WideElems.Trod_stays i (hT _ (.head _)).1 (hT _ (.head _)).2 h1 (fun x d=>j.same (hs x (by rw[e];exact List.mem_append_left _ d)).1) (fun x d=>(hs x (by rw[e];exact List.mem_append_left _ d)).2),
   Ml i j (fun t m=>hT t (.tail _ m)) h2 (fun x d=>hs x (by rw[e];exact List.mem_append_right _ d)),e⟩
theorem Ke {a:Addr}{v:Value}(h:w.cell? a=some v):a=⟨a.block,a.off,none⟩:=by
 obtain⟨b,o,s⟩:=a;simp only[World.cell?] at h;cases s with
 |none=>rfl
 |some s=>
  simp only[Option.isSome_some,if_true] at h;cases hh:w.heap[b]? with
  |none=>simp [hh] at h
  |some ob=>cases ob<;>simp [hh] at h
end
theorem qI:laidOutB Tryz.prog=true:=by kernel_rfl
theorem Ia {α:Type}(p:Nat->α->Prop):∀(n:Nat),(∀i,i<n->∃v,p i v)->∃l:List α,l.length=n/\∀i (h:i<l.length),p i l[i]
 |0,_=>⟨[],rfl,fun i h=>by simp at h⟩
 |n+1,h=>by
  obtain⟨l,c,e⟩:=Ia p n fun i d=>h i rF
  obtain⟨v,f⟩:=h n rF;refine⟨l++[v],by simp [c],fun i d=>?_⟩;by_cases hin:i<l.length
  ·rw[List.getElem_append_left hin];exact e i hin
  have:i=l.length:=by simp at d;omega
  subst this;rw[List.getElem_append_right (Ak _)];simpa[c] using f
open Go Go.ChangeShapes Go.WideShapes Go.ChangeAt Go.RowKit Go.Deep Go.Lib
theorem nF {n:Int}(h:(Lit.int .u8 n).wf=true):0<=n/\n<=255:=by
 simp [Lit.wf,IntKind.min,IntKind.max,IntKind.signed,IntKind.bits] at h;omega
theorem pF {n:Int}(h:(Lit.int .i64 n).wf=true): -9223372036854775808<=n/\n<=9223372036854775807:=by
 simp [Lit.wf,IntKind.min,IntKind.max,IntKind.signed,IntKind.bits] at h;omega
section
variable {H:Type} {enc:TypeId×Value->H} {w:World} {base:Nat} {spare:Nat->Bool} {held:Bool}
end
end Go.Proofs.YtgfakdobajgnfaaGreatDoor
