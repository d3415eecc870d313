import Derived.Test.YtmpfilddeglgbaaGreatDoorQj17
set_option maxRecDepth 100000
set_option maxHeartbeats 16000000
namespace Go.Proofs.YtmpfilddeglgbaaGreatDoor
open Go Go.RowKit Go.Lib
def bQ (p:Int×(Int×Int)×Int):Value:= .tuple #[.int .u8 p.1,.agg #[.int .i64 p.2.1.1,.int .i64 p.2.1.2],.int .i64 p.2.2]
structure R5 (w:World)(l:List Nz)(vars:List (List UInt8×Int))(sf:Int)(sv:Value)(g:Nat)(ks:List Int)(k:Nat)(X:World):Prop where
 ok:ofE vars sf (l.take k) []= .ok ks
 len:ks.length=k
 pos:∀y∈ks,0<=y
 kat:KAt X g (ks++List.replicate (l.length - k) 0)
 box:X.heap[w.heap.size]? =some (.cells #[sv,.int .u8 sf] 45 (0,0))
 pl:X.heap[w.heap.size+1]? =some (.cells #[.int .i64 0,.int .i64 0] 26 (0,0))
 below:Below w.heap.size w X
 gw:w.heap.size+1<g
theorem R5.to {w X X':World}{l:List Nz}{vars:List (List UInt8×Int)}{self:Int}{sv:Value}{g k:Nat}{ks:List Int}(h:R5 w l vars self sv g ks k X)(hb:Below X.heap.size X X'):R5 w l vars self sv g ks k X':=
 ⟨h.ok,h.len,h.pos,h.kat.below hb,(hb.block _ (Ay h.box)).trans h.box,(hb.block _ (Ay h.pl)).trans h.pl,h.below.trans (hb.mono h.below.size),h.gw⟩
theorem R5.next {w X:World}{l:List Nz}{vars:List (List UInt8×Int)}{self:Int}{sv:Value}{g k:Nat}{ks:List Int}(h:R5 w l vars self sv g ks k X)(hk:k<l.length){z:Int}(hz:Ks vars self ks l[k]=(z,0))(h0:0<=z):R5 w l vars self sv g (ks++[z]) (k+1) (X.setCell ⟨g,k,none⟩ (.int .u8 z)):=by
 have hgw:=h.gw;have ho:Bc [g] X (X.setCell ⟨g,k,none⟩ (.int .u8 z)):=(Bc.refl [g] X).setCell (.inl tH) _;have hne:∀{b:Nat},b<g->b∉[g]:=fun hb hm=>by simp only[List.mem_singleton] at hm;omega
 refine⟨?_,by simp [h.len],fun y hy=>?_,?_,(ho.block _ (Ay h.box) (hne tE)).trans h.box,(ho.block _ (Ay h.pl) (hne hgw)).trans h.pl,h.below.setCell (by show w.heap.size<=g;omega) _,hgw⟩
 ·rw[List.take_succ_eq_append_getElem hk,Mo h.ok,ofE,hz,Ap rfl];rfl
 ·rcases List.mem_append.1 hy with hy|hy
  ·exact h.pos y hy
  simp only[List.mem_singleton] at hy;subst hy;exact h0
 have e:=h.kat.set k z;rw[List.set_append_right _ _ (by rw[h.len];exact Ak _),h.len,Nat.sub_self,show l.length - k=(l.length - (k+1))+1 by omega,List.replicate_succ,Ad] at e;rw[List.append_assoc];exact e
theorem R5.bad {w X:World}{l:List Nz}{vars:List (List UInt8×Int)}{self:Int}{sv:Value}{g k:Nat}{ks:List Int}(h:R5 w l vars self sv g ks k X)(hk:k<l.length){p:Int×Int}(hz:Ks vars self ks l[k]=p)(h0:p.2≠0){t:List UInt8}(ht:G4 l=some t):ofP vars self l=(0,(l[k].h.line,l[k].h.col),p.2):=by
 unfold ofP;rw[ht];simp only
 have:ofE vars self l []= .error ((l[k].h.line,l[k].h.col),p.2):=by
  conv=>lhs;rw[←List.take_append_drop k l]
  rw[Mo h.ok,List.drop_eq_getElem_cons hk,ofE,hz,Ao h0]
 rw[this]
theorem R5.fin {w X:World}{l:List Nz}{vars:List (List UInt8×Int)}{self:Int}{sv:Value}{g:Nat}{ks:List Int}(h:R5 w l vars self sv g ks l.length X){t:List UInt8}(ht:G4 l=some t):ofP vars self l=(ks.getLastD 0,(0,0),0):=by
 unfold ofP;rw[ht]
 have:=h.ok
 rw[List.take_length] at this;simp only[this]
theorem Md.of_row {w:World}{B:Nat}{v:Value}{l:List Int}(hl:l.length<=1000000)(h:w.ownsRow B 5 1 v l.length (l.map (.int .u8))):Md w v l:=by
 rcases h.2 with ⟨e,h0⟩|⟨g,cap,cur,rfl,_,hg,hc,_⟩
 ·have:l=[]:=List.eq_nil_of_length_eq_zero h0
  subst this;exact⟨hl,none,0,e,fun i hi=>by simp at hi⟩
 refine⟨hl,_,_,rfl,fun i hi=>⟨g,0,rfl,?_⟩⟩
 have:=h.cells (g:=g) rfl i (.int .u8 l[i]) (by simp [hi])
 simpa only[Addr.add_lit] using this
theorem Zb {w:World}{tv:Value}{l:List Nz}(ht:TrZ w tv l)(ho:∀x∈l,0<=x.h.op)(hf:∀x∈l,O7 x.h)(hR:Rd w){va:Option Addr}{vc:Nat}{vars:List (List UInt8×Int)}(self:Int)(hv:Zq w (.slice va vars.length vc) vars)(hv0:∀y∈vars,0<=y.2)(hs0:0<=self):
 Calls Tryz.prog 21 #[tv,.agg #[.slice va vars.length vc,.int .u8 self]] w fun e w'=>e= .returned (bQ (ofP vars self l))/\Below w.heap.size w w':=by
 obtain⟨ta,tc,rfl⟩:=ht.slice;obtain⟨W1,hW1⟩:∃W1,w.alloc (.cells #[.slice va vars.length vc,.int .u8 self] 45)=W1:=⟨_,rfl⟩;have hb1:Below w.heap.size w W1:=by rw[←hW1];exact(Aq _ w).alloc (Ak _) _
 have hp1:=A1 w (.cells #[.slice va vars.length vc,.int .u8 self] 45);have hz1:W1.heap.size=w.heap.size+1:=by rw[←hW1];simp
 rw[hW1] at hp1;obtain⟨W2,hW2⟩:∃W2,W1.alloc (.cells #[.int .i64 0,.int .i64 0] 26)=W2:=⟨_,rfl⟩;have hb2:Below W1.heap.size W1 W2:=by rw[←hW2];exact(Aq _ W1).alloc (Ak _) _
 have hp2:=A1 W1 (.cells #[.int .i64 0,.int .i64 0] 26);have hz2:W2.heap.size=w.heap.size+2:=by rw[←hW2];simp [hz1]
 rw[hW2,hz1] at hp2;have hb:=hb1.trans (hb2.mono hb1.size);have hq1:=(hb2.block _ (Ay hp1)).trans hp1;have HM:=Ax (oJ (ht.below hb) ho hf (hR.below hb));have HW1:=Ax hW1;have HW2:=Ax hW2;have HB:=Ax hb;have HP1:=Ax hq1;have HP2:=Ax hp2;have HT:=Ax ht;have HV:=Ax hv;have HV0:=Ax hv0;clear hW1 hb1 hp1 hW2 hb2 hp2 hb hq1 ht ho hf hR hv hv0 hz1;cases hz:G4 l with
 |none=>
  have HZ:Hid (ofP vars self l=(0,(0,0),4)):=Ax (by unfold ofP;rw[hz]);rw[hz] at HM;clear hz;go_enter Tryz.func21,Tryz.ntmps21;go_upto_region 1 with fail
  rw[HW1.out,HW2.out];go_wp2_with fail;refine HM.out.mono ?_;rintro e V ⟨rfl,hb⟩;have HBV:=Ax (HB.out.trans (hb.mono HB.out.size));obtain⟨y0,y1,yf⟩:=Bo ((hb.block _ (Ay HP2.out)).trans HP2.out);have yf0:=yf 0;have yf1:=yf 1;clear hb yf HM;go_wp2_with fail;go_region
  all_goals
   go_wp2
   refine Au (v:= .tuple #[.int .u8 0,.agg #[.int .i64 0,.int .i64 0],.int .i64 4]) uY rfl ?_;refine⟨by rw[HZ.out];rfl,?_⟩;exact(HBV.out.drew.setCell uC _).setCell uC _
 |some t=>
  have hg:=Mn hz;have hn60:=hg.len;have hn0:=hg.ne;have HG:=Ax hg;have HZ:=Ax hz;rw[hz] at HM;clear hz hg;obtain⟨n,hn⟩:∃n,l.length=n:=⟨_,rfl⟩;have HN:=Ax hn;rw[hn] at hn60 hn0;rw[hn];go_enter Tryz.func21,Tryz.ntmps21;go_upto_region 1 with fail
  rw[HW1.out,HW2.out];rw[hn] at HM;clear hn;go_wp2_with fail;refine HM.out.mono ?_;rintro e V ⟨rfl,hb⟩;obtain⟨X0,hmk,hbX,hkat⟩:=qT n tE V;have hbV:=HB.out.trans (hb.mono HB.out.size);have hVz:=hb.size;have HS0:Hid (R5 w l vars self (.slice va vars.length vc) V.heap.size [] 0 X0):=Ax ⟨rfl,rfl,by simp,by rw[HN.out];exact hkat,(hbX.block _ tE).trans ((hb.block _ (Ay HP1.out)).trans HP1.out),(hbX.block _ tE).trans ((hb.block _ (Ay HP2.out)).trans HP2.out),hbV.trans (hbX.mono hbV.size),by omega⟩;obtain⟨g,hg⟩:∃g,V.heap.size=g:=⟨_,rfl⟩;rw[hg] at hmk HS0;clear hb hbX hkat hbV HM HW1 HW2 HP1 HP2 HB hg hVz;go_wp2_with fail
  go_loopw [6,22] (fun u6 vi wr=>∃(k:Nat) (ks:List Int),k<=n/\vi= .int .i64 k/\u6= .int .i64 0/\Hid (R5 w l vars self (.slice va vars.length vc) g ks k wr)) (fun _ vi _=>n - (intOf vi).toNat)
  case atStart=>exact⟨0,[],Nat.zero_le _,rfl,rfl,HS0.out⟩
  clear HS0;obtain⟨k,ks,hk,rfl,rfl,hq⟩:=hrel;obtain⟨wo,rfl⟩:∃wo:World,wo=wr:=⟨_,rfl⟩;by_cases hkn:k<n
  ·have hkl:k<l.length:=by rw[HN.out];exact hkn
   have hO:=hq.out;obtain⟨_,a',c',ev,hnd⟩:=HT.out.below hO.below;cases ev;obtain⟨b,off,kv,rfl,hnode,hkr⟩:=hnd k hkl;obtain⟨hkm,ka,kc,rfl,hkc⟩:=hkr;have hop:=HG.out.op k hkl;have hfew:=HG.out.few k hkl;have hkid:=HG.out.kids k hkl;have hlit:=HG.out.lit k hkl;have hnext:=fun(X:World) (hX:Below wo.heap.size wo X) (z:Int) hz h0=>(hO.to hX).next hkl (z:=z) hz h0
   have hbad:=fun(p:Int×Int) hz h0=>hO.bad hkl (p:=p) hz h0 HZ.out
   have hpos:=fun hl=>Pj (x:=l[k]'hkl) HV0.out hs0 hO.pos hl
   obtain⟨x,hx⟩:∃x,l[k]=x:=⟨_,rfl⟩;rw[hx] at hnode hkm hkc hop hfew hkid hlit;simp only[hx] at hnext hbad hpos;obtain⟨⟨op,⟨vk,vn,vs⟩,nm,ln,cl⟩,kids⟩:=x;obtain⟨d0,d1,d2,d3,d4,d5,d6,d7⟩:=hnode;simp only at d0 d1 d2 d3 d4 d5 d6 d7 hkm hkc hop hfew hkid hlit hbad hpos;obtain⟨W3,hW3⟩:∃W3,wo.alloc (.cells #[.int .u8 op,.int .u8 vk,.int .i64 vn,.string ⟨vs.toArray⟩,.string ⟨nm.toArray⟩,.slice ka kids.length kc,.int .i64 ln,.int .i64 cl] 38)=W3:=⟨_,rfl⟩;have hb3:Below wo.heap.size wo W3:=by rw[←hW3];exact(Aq _ wo).alloc (Ak _) _
   have hp3:=A1 wo (.cells #[.int .u8 op,.int .u8 vk,.int .i64 vn,.string ⟨vs.toArray⟩,.string ⟨nm.toArray⟩,.slice ka kids.length kc,.int .i64 ln,.int .i64 cl] 38);rw[hW3] at hp3;have hgw:=Ay hO.kat;have hwg:=hO.gw;have hwB:=hO.below.size;have HW3:=Ax hW3;have HB3:=Ax hb3;have HP3:=Ax hp3;have HO:=Ax hO;have Hnext:=Ax hnext;have Hbad:=Ax hbad;have Hpos:=Ax hpos;have Hkc:=Ax hkc;have Hkid:=Ax hkid;have Hfew:=Ax hfew;have Hlit:=Ax hlit;have Hop:=Ax hop
   have Hcell:Hid (∀X,Below W3.heap.size W3 X->X.cell? ⟨wo.heap.size,0,none⟩=some (.int .u8 op)/\X.cell? ⟨wo.heap.size,6,none⟩=some (.int .i64 ln)/\X.cell? ⟨wo.heap.size,7,none⟩=some (.int .i64 cl)/\X.cell? ⟨w.heap.size+1,0,none⟩=some (.int .i64 0)/\X.cell? ⟨w.heap.size+1,1,none⟩=some (.int .i64 0)/\(∀i,X.frozen? ⟨w.heap.size+1,i,none⟩=false)/\X.cell? ⟨g,k,none⟩=some (.int .u8 0)/\X.frozen? ⟨g,k,none⟩=false):=Ax fun X hX=>by
    have hXo:=hO.to (hb3.trans (hX.mono hb3.size));obtain⟨n0,_,_,_,_,_,n6,n7,_⟩:=B1 ((hX.block _ (Ay hp3)).trans hp3);obtain⟨y0,y1,yf⟩:=Bo hXo.pl;obtain⟨z0,z1⟩:=hXo.kat.cell (i:=k) (x:=0) (by rw[List.getElem?_append_right (by rw[hO.len];exact Ak _),hO.len,Nat.sub_self,List.getElem?_replicate,Ap tE]);exact⟨n0,n6,n7,y0,y1,yf,z0,z1⟩
   have HSt:Hid (∀X z,Below W3.heap.size W3 X->∀i,(X.setCell ⟨g,k,none⟩ (.int .u8 z)).cell? ⟨wo.heap.size,i,none⟩=X.cell? ⟨wo.heap.size,i,none⟩/\(X.setCell ⟨g,k,none⟩ (.int .u8 z)).cell? ⟨w.heap.size+1,i,none⟩=X.cell? ⟨w.heap.size+1,i,none⟩/\(X.setCell ⟨g,k,none⟩ (.int .u8 z)).frozen? ⟨w.heap.size+1,i,none⟩=X.frozen? ⟨w.heap.size+1,i,none⟩):=Ax fun X z _ i=>by
    have e1:(X.setCell ⟨g,k,none⟩ (.int .u8 z)).heap[wo.heap.size]? =X.heap[wo.heap.size]?:=Below.heap_setCell _ _ _ _ (by show wo.heap.size≠g;omega);have e2:(X.setCell ⟨g,k,none⟩ (.int .u8 z)).heap[w.heap.size+1]? =X.heap[w.heap.size+1]?:=Below.heap_setCell _ _ _ _ (by show w.heap.size+1≠g;omega);exact⟨World.cell?_of_block (w:=X) e1,World.cell?_of_block (w:=X) e2,World.frozen?_of_block (w:=X) e2⟩
   obtain⟨n0,n1,n2,n3,n4,n5,n6,n7,_⟩:=B1 hp3;obtain⟨s0,s1,_⟩:=Bo ((hb3.block _ (Ay hO.box)).trans hO.box);obtain⟨y0,y1,yf⟩:=Bo ((hb3.block _ (Ay hO.pl)).trans hO.pl);have i0:(0:Int)<=(k:Int):=by omega
   have i1:(k:Int)<(n:Int):=by omega
   clear hW3 hb3 hp3 hO hq hx hnd hnext hbad hpos hkc hkid hfew hlit hop;go_upto_region 7 with fail
   rw[HW3.out];by_cases hk0:kids=[]
   ·subst hk0;have HL:=Ax (nL op vk vn vs nm ka 0 kc ln cl self W3 ((HV.out.below HO.out.below).below HB3.out));have hkz:Ks vars self ks ⟨⟨op,(vk,vn,vs),nm,ln,cl⟩,[]⟩=Mk ⟨op,(vk,vn,vs),nm,ln,cl⟩ vars self:=Ap rfl;obtain⟨⟨z,er⟩,hzr⟩:∃p,Mk ⟨op,(vk,vn,vs),nm,ln,cl⟩ vars self=p:=⟨_,rfl⟩;rw[hzr] at HL hkz;simp only at HL;have Hkz:=Ax hkz;clear hkz hzr;simp only[List.length_nil] at*
    go_wp2_with fail;refine HL.out.mono ?_;rintro e V ⟨rfl,hb⟩;have HbV:=Ax hb;obtain⟨m0,m6,m7,q0,q1,qf,z0,z1⟩:=Hcell.out V hb;clear n0 n1 n2 n3 n4 n5 n6 n7 s0 s1 y0 y1 yf hb HL;go_upto_region 9 with fail
    obtain⟨Z,hZ⟩:∃Z,V.setCell ⟨g,k,none⟩ (.int .u8 z)=Z:=⟨_,rfl⟩;have hst:=HSt.out V z HbV.out;rw[hZ] at hst ⊢;have HZe:=Ax hZ;have HbO:=Ax (HB3.out.trans (HbV.out.mono HB3.out.size));by_cases her:er=0
    ·subst her;have hp:=Hpos.out (fun h1=>(Hlit.out h1).1);rw[Hkz.out] at hp;have HF:=Hnext.out V HbO.out z Hkz.out hp;rw[hZ] at HF;have HF:=Ax HF;clear hst hZ hp m0 m6 m7 q0 q1 qf z0 z1;exact zwq
    have gne:(er !=0)=true:=by simpa using her
    have hbd:=Hbad.out (z,er) Hkz.out her;have Hbd:=Ax hbd;have m6:=(hst 6).1.trans m6;have m7:=(hst 7).1.trans m7;have q0:=(hst 0).2.1.trans q0;have q1:=(hst 1).2.1.trans q1;have qf0:=(hst 0).2.2.trans (qf 0);have qf1:=(hst 1).2.2.trans (qf 1);have HBZ:Hid (Below w.heap.size w Z):=Ax vI;clear hst hZ hbd her m0 qf z0 z1;go_wp2_with fail;go_region
    all_goals
     go_wp2
     refine Au (v:= .tuple #[.int .u8 0,.agg #[.int .i64 ln,.int .i64 cl],.int .i64 er]) uY rfl ?_;refine⟨by rw[Hbd.out];rfl,?_⟩;exact(HBZ.out.drew.setCell uC _).setCell uC _
   have hm0:0<kids.length:=List.length_pos_iff.2 hk0;obtain⟨m,hm⟩:∃m,kids.length=m:=⟨_,rfl⟩;have hmb:((m:Int)==0)=false:=by simp;omega
   have hko:¬kids=[]:=hk0;have Hm:=Ax hm;rw[hm] at hkm n5 hm0;simp only[hm]
   have hfl:∀j,(kids.take (j+1)).map (fun x=>ks.getD x.toNat 0)=(kids.take j).map (fun x=>ks.getD x.toNat 0)++(if h:j<kids.length then[ks.getD kids[j].toNat 0] else[]):=fun j=>by
    split
    ·rename_i h
     rw[List.take_succ_eq_append_getElem h,List.map_append];rfl
    rename_i h
    rw[List.take_of_length_le tE,List.take_of_length_le tE,List.append_nil]
   have Hfl:=Ax hfl;have Hko:=Ax hko;obtain⟨i8,hi8,hu0,hu1,hu2⟩:=aC;have Hi8:=Ax hi8;have Hu0:=Ax hu0;have Hu1:=Ax hu1;have Hu2:=Ax hu2;have Hn5:=Ax n5;clear hm hfl hko hk0 hi8 hu0 hu1 hu2 d0 d1 d2 d3 d4 d5 d6 d7;go_wp2_with fail
   go_loopw [10,12,48] (fun u10 _ vj wx=>∃(j:Nat) (oa:Option Addr) (oc:Nat),j<=m/\vj= .int .i64 j/\u10= .slice oa j oc/\Hid (wx.ownsRow W3.heap.size 5 1 (.slice oa j oc) j (((kids.take j).map (fun x=>ks.getD x.toNat 0)).map (Value.int .u8))/\Below W3.heap.size W3 wx)) (fun _ _ vj _=>m - (intOf vj).toNat)
   case atStart=>exact⟨0,none,0,Nat.zero_le _,rfl,rfl,World.ownsRow_nil _ _ _ _,Aq _ _⟩
   obtain⟨j,oa,oc,hj,rfl,rfl,hq⟩:=hrel;obtain⟨hrow,hbx⟩:=hq.out;obtain⟨m0,m6,m7,q0,q1,qf,z0,z1⟩:=Hcell.out wr hbx;clear n0 n1 n2 n3 n4 n5 n6 n7 s0 s1 y0 y1 yf;have HBX:=Ax hbx;have Hrow:=Ax hrow;have hzx:W3.heap.size<=wr.heap.size:=hbx.size;by_cases hjm:j<m
   ·have hjl:j<kids.length:=by rw[Hm.out];exact hjm
    obtain⟨b2,off2,rfl,e0⟩:=Hkc.out j hjl;have e0:=Ba (HB3.out.trans (hbx.mono HB3.out.size)) e0;have hkd:=Hkid.out kids[j] (List.getElem_mem hjl);have hst:=Hfl.out j;rw[dif_pos hjl] at hst;obtain⟨y,hy⟩:∃y,kids[j]=y:=⟨_,rfl⟩;rw[hy] at e0 hkd hst;obtain⟨yn,rfl⟩:∃yn:Nat,y=(yn:Int):=⟨y.toNat,by omega⟩;have hyk:yn<ks.length:=by rw[HO.out.len];omega
    obtain⟨c0,_⟩:=(HO.out.to (HB3.out.trans (hbx.mono HB3.out.size))).kat.cell (i:=yn) (x:=ks[yn]) (by rw[List.getElem?_append_left hyk,Ag hyk])
    have hgd:ks.getD ((yn:Int).toNat) 0=ks[yn]:=by
     rw[Int.toNat_natCast,List.getD_eq_getElem?_getD,Ag hyk,Option.getD_some]
    rw[hgd] at hst;obtain⟨kv,hkv⟩:∃kv,ks[yn]=kv:=⟨_,rfl⟩;rw[hkv] at c0 hst;have Hst:=Ax hst;have j0:(0:Int)<=(j:Int):=by omega
    have j1:(j:Int)<(m:Int):=by omega
    have j2:(0:Int)<=(yn:Int):=by omega
    have hyn:yn<n:=by have:=HO.out.len;omega
    have j3:(yn:Int)<(n:Int):=by omega
    clear hq hrow hbx hst hy hkd hgd hkv hyk m0 m6 m7 q0 q1 qf z0 z1;go_wp2_with (at_builtin;refine wpList_append_own _ rfl (.tmp 52) (.tmp 57) _ rfl W3.heap.size 5 i8 (.int .u8 0) 1 1 Tryz.underlying106 Hi8.out Hu0.out Hu1.out Hu2.out rfl tG (.slice oa j oc) j _ rfl (Hrow.out.alloc _) ⟨wr.heap.size,0,none⟩ 1 1 [.int .u8 kv] rfl rfl (World.news_of_block (cs:= #[.int .u8 kv]) (heap_alloc_new wr _)) tS tQ tE (by simp only[World.size_alloc];omega) ?_;intro v3 X ho3 hg3 _;obtain⟨na,nc,rfl⟩:=Er ho3;have HX:=Ax ((HBX.out.alloc hzx _).grown hg3 (by simp only[World.size_alloc];omega) (fun k e=>C9 Hrow.out k e));have Ho3:=Ax ho3;clear ho3 hg3);go_roundw
    case rel=>exact⟨j+1,na,nc,by omega,by go_num,rfl,by rw[Hst.out,List.map_append];exact Ho3.out,HX.out⟩
    case measure=>simp [intOf];omega
   obtain rfl:j=m:=by omega
   have hkr:Md wr (.slice oa j oc) (kids.map fun x=>ks.getD x.toNat 0):=by
    have h1:=hrow;rw[List.take_of_length_le (by rw[Hm.out];exact Ak _)] at h1;exact Md.of_row (by rw[List.length_map,Hm.out];omega) (by rw[List.length_map,Hm.out];exact h1)
   have hpo:∀y∈kids.map fun x=>ks.getD x.toNat 0,0<=y:=fun y hy=>by
    obtain⟨x,_,rfl⟩:=List.mem_map.1 hy;rw[List.getD_eq_getElem?_getD];cases e:ks[x.toNat]? with
    |none=>exact Int.le_refl 0
    |some z=>exact HO.out.pos z (List.mem_of_getElem? e)
   have hfw:=Hfew.out;rw[Hm.out] at hfw
   have HN:=Ax (gK op (ks:=kids.map fun x=>ks.getD x.toNat 0) (fun h7 h12=>by
    rw[List.length_map,Hm.out];unfold D4 at hfw;rw[Ap tE] at hfw
    exact hfw.1) (fun h26=>by
    rw[List.length_map,Hm.out];subst h26
    exact hfw.1) hpo wr hkr)
   have hkz:Ks vars self ks ⟨⟨op,(vk,vn,vs),nm,ln,cl⟩,kids⟩=if Fa op (kids.map fun x=>ks.getD x.toNat 0)=255 then(0,8) else(Fa op (kids.map fun x=>ks.getD x.toNat 0),0):=Ao Hko.out
   have hr0:=Pe (op:=op) hpo;obtain⟨r,hr⟩:∃r,Fa op (kids.map fun x=>ks.getD x.toNat 0)=r:=⟨_,rfl⟩;rw[hr] at HN hkz hr0;have Hkz:=Ax hkz;clear hq hrow hbx hkr hpo hfw hkz hr;go_wp2_with fail;refine HN.out.mono ?_;rintro e V ⟨rfl,hb⟩;have HbV:=Ax (HBX.out.trans (hb.mono HBX.out.size));clear m0 m6 m7 q0 q1 qf z0 z1 hb HN;obtain⟨m0,m6,m7,q0,q1,qf,z0,z1⟩:=Hcell.out V HbV.out;go_upto_region 18 with fail
   have z2:(V.setCell ⟨g,k,none⟩ (.int .u8 r)).cell? ⟨g,k,none⟩=some (.int .u8 r):=World.cell?_setCell_same _ _ _ z0;obtain⟨Z,hZ⟩:∃Z,V.setCell ⟨g,k,none⟩ (.int .u8 r)=Z:=⟨_,rfl⟩;have hst:=HSt.out V r HbV.out;rw[hZ] at hst z2 ⊢;have HbO:=Ax (HB3.out.trans (HbV.out.mono HB3.out.size));by_cases her:r=255
   ·subst her;have hbd:=Hbad.out (0,8) (Hkz.out.trans (Ap rfl)) tG;have Hbd:=Ax hbd;have m6:=(hst 6).1.trans m6;have m7:=(hst 7).1.trans m7;have q0:=(hst 0).2.1.trans q0;have q1:=(hst 1).2.1.trans q1;have qf0:=(hst 0).2.2.trans (qf 0);have qf1:=(hst 1).2.2.trans (qf 1);have HBZ:Hid (Below w.heap.size w Z):=Ax vI;clear hst hZ hbd m0 qf z0 z1;go_wp2_with fail;go_region
    all_goals
     go_wp2
     refine Au (v:= .tuple #[.int .u8 0,.agg #[.int .i64 ln,.int .i64 cl],.int .i64 8]) uY rfl ?_;refine⟨by rw[Hbd.out];rfl,?_⟩;exact(HBZ.out.drew.setCell uC _).setCell uC _
   have gne:(r==255)=false:=Af.2 her;have HF:=Hnext.out V HbO.out r (Hkz.out.trans (Ao her)) hr0;rw[hZ] at HF;have HF:=Ax HF;clear hst hZ m0 m6 m7 q0 q1 qf z0 z1;exact zwq
  obtain rfl:k=n:=by omega
  obtain⟨n',rfl⟩:∃n',k=n'+1:=⟨k - 1,by omega⟩;have hO:=hq.out;have hkl:ks.length=n'+1:=hO.len;have hwg:=hO.gw
  have hfin:ofP vars self l=(ks[n'],(0,0),0):=by
   have h1:=hO;rw[←HN.out] at h1;rw[h1.fin HZ.out,List.getLastD_eq_getLast?,List.getLast?_eq_getElem?,show ks.length - 1=n' by omega,Ag tE];rfl
  obtain⟨c0,_⟩:=hO.kat.cell (i:=n') (x:=ks[n']) (by rw[List.getElem?_append_left tE,Ag tE]);obtain⟨y0,y1,yf⟩:=Bo hO.pl;have yf0:=yf 0;have yf1:=yf 1;obtain⟨kv,hkv⟩:∃kv,ks[n']=kv:=⟨_,rfl⟩;rw[hkv] at c0 hfin;have Hfin:=Ax hfin;have HB:=Ax hO.below;have j0:(0:Int)<=(n':Int):=by omega
  have j1:(n':Int)<((n'+1:Nat):Int):=by omega
  have j2:IntKind.i64.wrap (((n'+1:Nat):Int) - 1)=(n':Int):=by
   rw[IntWalk.i64_in _ ⟨by omega,by omega⟩];omega
  have j3:((n'+1:Nat):Int) - 1=(n':Int):=by omega
  clear hq hO hfin hkv yf hkl;go_wp2_with fail;go_region
  all_goals
   go_wp2
   refine Au (v:= .tuple #[.int .u8 kv,.agg #[.int .i64 0,.int .i64 0],.int .i64 0]) uY rfl ?_;refine⟨by rw[Hfin.out];rfl,?_⟩;exact(HB.out.drew.setCell uC _).setCell uC _
end Go.Proofs.YtmpfilddeglgbaaGreatDoor
