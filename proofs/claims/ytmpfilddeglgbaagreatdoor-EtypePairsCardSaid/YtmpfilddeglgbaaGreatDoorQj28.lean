import Derived.Test.YtmpfilddeglgbaaGreatDoorQj27
import Derived.Test.YtmpfilddeglgbaaGreatDoorQj11
set_option maxRecDepth 100000
set_option maxHeartbeats 16000000
namespace Go.Proofs.YtmpfilddeglgbaaGreatDoor
open Go Go.RowKit Go.Lib
theorem aN (ts:List Tkn)(t:Tkn)(x:Except (Int×Int×Int) (List Tkn)):F0 (.ok ts) (G5 t x)=F0 (.ok (ts++[t])) x:=by
 cases x with
 |error e=>rfl
 |ok us=>show Except.ok (ts++t::us)=Except.ok (ts++[t]++us);rw[List.append_assoc];rfl
theorem aU (ts:List Tkn):F0 (.ok ts) (.ok [])= .ok ts:=by show Except.ok (ts++[])=_;rw[List.append_nil]
structure R8 (w V:World)(ts:List Tkn)(v:Value):Prop where
 r:V.heap[w.heap.size]? =some (.cells #[.int .i64 0,.int .i64 0] 26 (0,0))
 n:V.heap[w.heap.size+1]? =some (.cells #[.int .i64 0,.int .i64 0] 26 (0,0))
 bel:Below w.heap.size w V
 row:V.ownsRow w.heap.size 63 7 v ts.length (Ek ts)
theorem R8.below {w V V':World}{ts:List Tkn}{v:Value}(h:R8 w V ts v)(hb:Below V.heap.size V V'):R8 w V' ts v:=
 ⟨(hb.block _ (Bu h.r)).trans h.r,(hb.block _ (Bu h.n)).trans h.n,h.bel.trans (hb.mono h.bel.size),Di h.row hb⟩
theorem mF (w:World):R8 w ((w.alloc (Obj.cells #[.int .i64 0,.int .i64 0] 26)).alloc (Obj.cells #[.int .i64 0,.int .i64 0] 26)) [] (.slice none 0 0):=by
 refine⟨?_,?_,((Aq _ _).alloc (Ak _) _).alloc tH _,World.ownsRow_nil _ _ _ _⟩
 ·rw[Below.heap_alloc _ _ _ tH];exact A1 _ _
 have:=A1 (w.alloc (.cells #[.int .i64 0,.int .i64 0] 26)) (.cells #[.int .i64 0,.int .i64 0] 26)
 simpa using this
theorem iG (ts:List Tkn)(t:Tkn):Ek (ts++[t])=Ek ts++[.int .u8 t.w.k,.string ⟨t.w.t.toArray⟩,.int .u8 t.w.v.1,.int .i64 t.w.v.2.1,.string ⟨t.w.v.2.2.toArray⟩,.int .i64 t.line,.int .i64 t.col]:=by
 rw[Py];rfl
theorem pI {w V X:World}{ts:List Tkn}{v v3:Value}{t:Tkn}(h:R8 w V ts v)(ho:X.ownsRow w.heap.size 63 7 v3 (ts.length+1) (Ek ts++[.int .u8 t.w.k,.string ⟨t.w.t.toArray⟩,.int .u8 t.w.v.1,.int .i64 t.w.v.2.1,.string ⟨t.w.v.2.2.toArray⟩,.int .i64 t.line,.int .i64 t.col]))(hg:V.grownBy X v.ownBlock):R8 w X (ts++[t]) v3:=by
 have hro:∀k,v.ownBlock=some k->V.heap[k]?≠some (.cells #[.int .i64 0,.int .i64 0] 26 (0,0)):=fun k e hk=>Bi h.row hk tG e
 have hon:Bc v.ownBlock.toList V X:=Bc.of_grown hg _ (fun k e=>by rw[e];simp)
 have far:∀b,V.heap[b]? =some (Obj.cells #[.int .i64 0,.int .i64 0] 26 (0,0))->X.heap[b]? =some (Obj.cells #[.int .i64 0,.int .i64 0] 26 (0,0)):=fun b hb=>by
  refine(hon.block b (Bu hb) ?_).trans hb;intro hm;have e:v.ownBlock=some b:=by simpa using hm
  exact hro b e hb
 refine⟨far _ h.r,far _ h.n,?_,?_⟩
 ·exact Bv h.bel hon (fun i hi=>C9 h.row i vX) h.bel.size
 rw[iG,Ab];exact ho
theorem Yw {V:World}{b:Nat}{k vk vn:Int}{t vs:ByteArray}(h:Bl V b k t vk vn vs 0 0)(line col:Int):Bl ((V.setCell ⟨b,5,none⟩ (.int .i64 line)).setCell ⟨b,6,none⟩ (.int .i64 col)) b k t vk vn vs line col:=by
 have H:=h.isSome;refine⟨?_,?_,?_,?_,?_,?_,?_,?_⟩
 ·exact cell_far 6 _ _ tG (cell_far 5 _ _ tG h.c0)
 ·exact cell_far 6 _ _ tG (cell_far 5 _ _ tG h.c1)
 ·exact cell_far 6 _ _ tG (cell_far 5 _ _ tG h.c2)
 ·exact cell_far 6 _ _ tG (cell_far 5 _ _ tG h.c3)
 ·exact cell_far 6 _ _ tG (cell_far 5 _ _ tG h.c4)
 ·exact cell_far 6 _ _ tG (World.cell?_setCell_same' _ _ _ (H 5 tG))
 ·exact World.cell?_setCell_same' _ _ _ (Fo 5 _ (H 6 tG))
 intro i
 have:=h.fz i
 simpa using this
theorem rV {w V:World}{ts:List Tkn}{v:Value}{k vk vn:Int}{t vs:ByteArray}(h:R8 w V ts v)(line col:Int):
 R8 w (((V.alloc (.cells #[.int .u8 k,.string t,.int .u8 vk,.int .i64 vn,.string vs,.int .i64 0,.int .i64 0] 63)).setCell ⟨V.heap.size,5,none⟩ (.int .i64 line)).setCell ⟨V.heap.size,6,none⟩ (.int .i64 col)) ts v:=by
 have hb:Below V.heap.size V (((V.alloc (.cells #[.int .u8 k,.string t,.int .u8 vk,.int .i64 vn,.string vs,.int .i64 0,.int .i64 0] 63)).setCell ⟨V.heap.size,5,none⟩ (.int .i64 line)).setCell ⟨V.heap.size,6,none⟩ (.int .i64 col)):=
  ((((Aq _ V).alloc (Ak _) _).setCell (Ak _) _).setCell (Ak _) _)
 exact h.below hb
theorem pT {w V:World}{ts:List Tkn}{va:Option Addr}{tn vc:Nat}{u u':Value}{x:Except (Int×Int×Int) (List Tkn)}(h:R8 w V ts (.slice va tn vc))(_:ts.length=tn)(hx:x= .ok ts):
 Sl w x (.returned (.tuple #[.slice va tn vc,.agg #[.int .i64 0,.int .i64 0],.int .i64 0])) ((V.drew.setCell ⟨w.heap.size,0,none⟩ u).setCell ⟨w.heap.size,1,none⟩ u'):=by
 refine⟨(h.bel.drew.setCell (Ak _) _).setCell (Ak _) _,?_⟩;rw[hx];refine⟨_,rfl,?_⟩;have ho:Bc [w.heap.size] V ((V.drew.setCell ⟨w.heap.size,0,none⟩ u).setCell ⟨w.heap.size,1,none⟩ u'):=(((Bc.refl _ V).drew).setCell (.inl tH) _).setCell (.inl tH) _;refine Bm h.row ho fun k e hm=>?_
 simp at hm;subst hm;exact Bi h.row h.r tG e
theorem aA (s:ByteArray)(w:World)(hs:s.size<=65536):Calls Tryz.prog 25 #[.string s] w (Sl w (Ev (dl s))):=by
 have HS:=Ax (mF w);obtain⟨W1,hW1⟩:∃W1,(w.alloc (.cells #[.int .i64 0,.int .i64 0] 26)).alloc (.cells #[.int .i64 0,.int .i64 0] 26)=W1:=⟨_,rfl⟩;rw[hW1] at HS;have HW1:=Ax hW1;clear hW1;have hs0:decide ((65536:Int)<(s.size:Int))=false:=An tE;have hsn:(s.size:Int)<=65536:=by omega
 go_enter Tryz.func25,Tryz.ntmps25;go_upto_region 3 with fail
 change Code.wp _ _ _ _ ((w.alloc (.cells #[.int .i64 0,.int .i64 0] 26)).alloc (.cells #[.int .i64 0,.int .i64 0] 26));rw[HW1.out];go_wp2_with fail;clear hs0
 go_loopw [5,7,8,9] (fun v5 v7 v8 v9 wr=>∃(p ln bg:Nat) (ts:List Tkn) (va:Option Addr) (vc:Nat),v5= .slice va ts.length vc/\v7= .int .i64 (ln:Int)/\v8= .int .i64 (bg:Int)/\v9= .int .i64 (p:Int)/\bg<=p/\p<=s.size/\ln<=p+1/\ts.length<=p/\Hid (R8 w wr ts (.slice va ts.length vc)/\Ev (dl s)=F0 (.ok ts) (LX ((dl s).drop p) (ln:Int) ((p:Int) - (bg:Int)+1)))) (fun _ _ _ v9 _=>s.size - (intOf v9).toNat)
 case atStart=>exact⟨0,1,0,[],none,0,rfl,rfl,rfl,rfl,Ak _,Nat.zero_le _,by decide,Ak _,Ax ⟨HS.out,by rw[Ns,List.drop_zero];show _=F0 (.ok []) (LX (dl s) 1 1);cases LX (dl s) 1 1<;>rfl⟩⟩
 clear HS;obtain⟨wo,rfl⟩:∃wo:World,wo=wr:=⟨_,rfl⟩;obtain⟨p,ln,bg,ts,va,vc,rfl,rfl,rfl,rfl,hbg,hps,hln,htl,hq⟩:=hrel;have HA:Hid (R8 w wo ts (.slice va ts.length vc)):=Ax hq.out.1;have HX:=Ax hq.out.2;clear hq;obtain⟨tn,htn⟩:∃tn,ts.length=tn:=⟨_,rfl⟩;have HTN:=Ax htn;rw[htn] at htl ⊢;have HA':Hid (R8 w wo ts (.slice va tn vc)):=Ax (by rw[←htn];exact HA.out);clear htn HA;have HA:=HA';clear HA';by_cases hgo:p<s.size
 ·have d0:decide (p<s.size)=true:=Am hgo;have q0:(0:Int)<=(p:Int):=by omega
  have q1:(p:Int)<(s.size:Int):=by omega
  have e1:=Kq hgo;obtain⟨c,hc⟩:∃c,s[p]=c:=⟨_,rfl⟩;rw[hc] at e1;have ix:∀w:World,(Instr.index 9 (.string s) (.int .i64 (p:Int))).run Tryz.prog w= .ok (.int .u8 (c.toNat:Int)) w:=fun w=>by have:=Zv hgo w;rw[hc] at this;exact this
  have E1:=Ax e1;have HC:=Ax hc;clear e1 hc;by_cases h32:c.toNat=32
  ·have d1:((c.toNat:Int)==32)=true:=beq_iff_eq.2 tE;have HN:=Ax (show Ev (dl s)=F0 (.ok ts) (LX ((dl s).drop (p+1)) (ln:Int) (((p+1:Nat):Int) - (bg:Int)+1)) by rw[HX.out,E1.out,Ci (n:=32) h32,show UInt8.ofNat 32=32 from rfl,E8,show((p+1:Nat):Int) - (bg:Int)+1=(p:Int) - (bg:Int)+1+1 by omega]);clear h32;go_wp2_with fail;go_roundw
   case rel=>exact⟨p+1,ln,bg,ts,va,vc,by rw[HTN.out],rfl,rfl,by go_num,by omega,by omega,by omega,by rw[HTN.out];omega,Ax ⟨by rw[HTN.out];exact HA.out,HN.out⟩⟩
   case measure=>simp [intOf]<;>omega
  have d1:((c.toNat:Int)==32)=false:=Af.2 tE;by_cases h10:c.toNat=10
  ·have d2:((c.toNat:Int)==10)=true:=beq_iff_eq.2 tE;have HN:=Ax (show Ev (dl s)=F0 (.ok ts) (LX ((dl s).drop (p+1)) ((ln+1:Nat):Int) (((p+1:Nat):Int) - ((p+1:Nat):Int)+1)) by rw[HX.out,E1.out,Ci (n:=10) h10,show UInt8.ofNat 10=10 from rfl,Kl,show((p+1:Nat):Int) - ((p+1:Nat):Int)+1=1 by omega,show((ln+1:Nat):Int)=(ln:Int)+1 by omega]);clear h10 h32;go_wp2_with fail;go_roundw
   case rel=>exact⟨p+1,ln+1,p+1,ts,va,vc,by rw[HTN.out],by go_num,by go_num,by go_num,by omega,by omega,by omega,by rw[HTN.out];omega,Ax ⟨by rw[HTN.out];exact HA.out,HN.out⟩⟩
   case measure=>simp [intOf]<;>omega
  have d2:((c.toNat:Int)==10)=false:=Af.2 tE;by_cases h59:c.toNat=59
  ·have d3:((c.toNat:Int)==59)=true:=beq_iff_eq.2 tE
   have HN:Hid (∀q,q+A5 Eo ((dl s).drop q)=p+A5 Eo ((dl s).drop p)->A5 Eo ((dl s).drop q)=0->Ev (dl s)=F0 (.ok ts) (LX ((dl s).drop q) (ln:Int) ((q:Int) - (bg:Int)+1))):=Ax fun q h h0=>by
    have hq:q=p+A5 Eo ((dl s).drop p):=by omega
    have hl:(dl s).drop q=((dl s).drop p).drop (A5 Eo ((dl s).drop p)):=by rw[List.drop_drop,←hq]
    have e59:(dl s).drop p=59::(dl s).drop (p+1):=by rw[E1.out,Ci (n:=59) h59];rfl
    rw[HX.out,hl]
    conv=>lhs;rw[e59,L6]
    rw[←e59,show(q:Int) - (bg:Int)+1=(p:Int) - (bg:Int)+1+((A5 Eo ((dl s).drop p):Nat):Int) by omega]
   have hp1:1<=A5 Eo ((dl s).drop p):=by rw[E1.out,Gm (by unfold Eo;rw[Ci (n:=59) h59];decide)];omega
   have HP1:=Ax hp1;clear h59 h10 h32 hp1;go_wp2_with fail;clear d0 d1 d2 d3 ix
   go_loop [9] (fun v9=>∃q:Nat,v9= .int .i64 (q:Int)/\p<=q/\q<=s.size/\Hid (q+A5 Eo ((dl s).drop q)=p+A5 Eo ((dl s).drop p))) (fun v9=>s.size - (intOf v9).toNat)
   case atStart=>exact⟨p,rfl,Ak _,hps,Ax rfl⟩
   obtain⟨q,rfl,hpq,hqs,hq⟩:=hrel;by_cases hgq:q<s.size
   ·have d4:decide (q<s.size)=true:=Am hgq;have q2:(0:Int)<=(q:Int):=by omega
    have q3:(q:Int)<(s.size:Int):=by omega
    have e2:=Kq hgq;by_cases hn:s[q].toNat=10
    ·have d5:((s[q].toNat:Int)==10)=true:=beq_iff_eq.2 tE;have d5':((s[q].toNat:Int) !=10)=false:=by rw[bne,d5];rfl
     have h0:A5 Eo ((dl s).drop q)=0:=by rw[e2];exact Pk (by unfold Eo;rw[Ci (n:=10) hn];decide)
     have HM:=Ax (HN.out q hq.out h0);have HPQ:=Ax (show p<q by have:=hq.out;have:=HP1.out;omega);clear e2 hn h0 hq;exact zx3
    have d5:((s[q].toNat:Int)==10)=false:=Af.2 tE;have d5':((s[q].toNat:Int) !=10)=true:=by rw[bne,d5];rfl
    have HM:=Ax (show q+1+A5 Eo ((dl s).drop (q+1))=p+A5 Eo ((dl s).drop p) by rw[←hq.out,e2,Gm (show Eo s[q]=true by unfold Eo;exact bne_iff_ne.2 (fun e=>hn tU))];omega);clear e2 hn hq;go_wp2_with fail
    go_round
    case rel=>exact⟨q+1,by go_num,by omega,by omega,HM⟩
    case measure=>simp [intOf]<;>omega
   have d4:decide (q<s.size)=false:=An hgq;have h0:A5 Eo ((dl s).drop q)=0:=by rw[Ie tE];rfl
   have HM:=Ax (HN.out q hq.out h0);have HPQ:=Ax (show p<q by have:=hq.out;have:=HP1.out;omega);clear h0 hq;exact zx3
  have d3:((c.toNat:Int)==59)=false:=Af.2 tE;have HBG:=Ax (show Ja c from⟨fun e=>h10 tU,fun e=>h59 tU,fun e=>h32 tU⟩);clear h10 h59 h32;have HWO:=Ax (show w.heap.size<wo.heap.size from Bu HA.out.r);have hal:=(Aq wo.heap.size wo).alloc (Ak _) (.cells #[.int .i64 (ln:Int),.int .i64 ((p:Int) - (bg:Int)+1)] 26);have HA1:=Ax (HA.out.below hal);have hbx:=A1 wo (.cells #[.int .i64 (ln:Int),.int .i64 ((p:Int) - (bg:Int)+1)] 26);obtain⟨W2,hW2⟩:∃W2,wo.alloc (.cells #[.int .i64 (ln:Int),.int .i64 ((p:Int) - (bg:Int)+1)] 26)=W2:=⟨_,rfl⟩;rw[hW2] at HA1 hbx hal;have HZ2:=Ax (show W2.heap.size=wo.heap.size+1 by rw[←hW2];simp);have HBX:=Ax hbx;have HW2:=Ax hW2;have HWD:=Ax (iJ s p W2 tE hgo);clear hal hbx hW2;go_upto_region 19 with fail
  rw[HW2.out];go_wp2_with fail;refine HWD.out.mono ?_;rintro e V ⟨hbV,he⟩;rw[E1.out] at he;have HAV:=Ax (HA1.out.below hbV);have HBV:=Ax ((hbV.block _ (Bu HBX.out)).trans HBX.out);have HLV:=Ax (show wo.heap.size<V.heap.size from Bu HBV.out);clear hbV HA1 HA HWD;unfold Q6 at he;cases hw:Bh (c::(dl s).drop (p+1)) with
  |error q=>
   rw[hw] at he;simp only at he;obtain⟨wd,wn,rfl⟩:=he;have HE:=Ax (show Ev (dl s)= .error ((ln:Int),(p:Int) - (bg:Int)+1,q) by rw[HX.out,E1.out,L7 HBG.out hw];rfl);have dq:(q==0)=false:=Af.2 (by rcases Qt hw with h|h<;>omega);have dq':(q !=0)=true:=by rw[bne,dq];rfl
   unfold Gb;obtain⟨wk,wt,wv1,wv2,wv3⟩:=wd;simp only;have hal:=(Aq V.heap.size V).alloc (Ak _) (.cells #[.int .u8 wk,.string ⟨wt.toArray⟩,.int .u8 wv1,.int .i64 wv2,.string ⟨wv3.toArray⟩,.int .i64 0,.int .i64 0] 63);have HA:=Ax (HAV.out.below hal);obtain⟨b0,b1,_⟩:=A0 ((hal.block _ (Bu HBV.out)).trans HBV.out);have hne:¬w.heap.size=wo.heap.size:=by have:=HWO.out;omega
   have hne':¬wo.heap.size=w.heap.size:=fun h=>hne h.symm
   clear hal hw;obtain⟨r0,r1,rz⟩:=A0 HA.out.r;obtain⟨n0,n1,_⟩:=A0 HA.out.n;have rz0:=rz 0;have rz1:=rz 1;clear rz;go_wp2_with fail;refine wp_region_noPanic ?_;refine wp_region_held_drew (S:=fun X=>X.cell? ⟨wo.heap.size,0,none⟩=some (.int .i64 (ln:Int))/\X.cell? ⟨wo.heap.size,1,none⟩=some (.int .i64 ((p:Int) - (bg:Int)+1))) tF ?_ (fun hHeld=>?_)
   ·(try dsimp only);go_keep
   refine QH 0 ⟨some 66,_,_,_,_,_⟩ (h:=?_)
   try simp only[Act.put,Ac,Ad,Ae]
   refine QH 1 ⟨some 67,_,_,_,_,_⟩ (h:=?_)
   try simp only[Act.put,Ac,Ad,Ae]
   refine QH 2 ⟨some 2,_,_,_,_,_⟩ (h:=?_)
   try simp only[Act.put,Ac,Ad,Ae]
   refine wpAnyH_ready (rs:=[3]) tF tH ?_;refine AllReadyH.cons (o:=⟨none,_,_,_,_,_⟩) (rs:=[]) rfl (fun K hK=>?_) AllReadyH.nil
   go_simp
   try go_wp2_with fail
   clear hHeld;refine hK.out _ _ ?_ (fun hHeld=>?_)
   ·(try dsimp only);go_keep
   clear hK K
   try simp only[Act.put,Ac,Ad,Ae]
   refine QH 4 ⟨some 4,_,_,_,_,_⟩ (h:=?_)
   try simp only[Act.put,Ac,Ad,Ae]
   refine wpAnyH_done tF ?_ _;refine NoPanic.normal ?_;go_wp2_with fail;exact Au (v:= .tuple #[.slice none 0 0,.agg #[.int .i64 (ln:Int),.int .i64 ((p:Int) - (bg:Int)+1)],.int .i64 q]) (by simp [results,Tryz.results25,go_sem, *]) rfl ⟨((HA.out.bel.drew).setCell (Ak _) _).setCell (Ak _) _,by rw[HE.out]⟩
  |ok x=>
   rw[hw] at he;simp only at he;subst he;obtain⟨⟨wk,wt,wv1,wv2,wv3⟩,n⟩:=x;simp only;have hn:=Eg hw;have hnl:p+n<=s.size:=by have:=hn.2;rw[←E1.out,List.length_drop,A4] at this;omega
   have hn1:=hn.1;have HN:=Ax (show Ev (dl s)=F0 (.ok (ts++[⟨⟨wk,wt,(wv1,wv2,wv3)⟩,(ln:Int),(p:Int) - (bg:Int)+1⟩])) (LX ((dl s).drop (p+n)) (ln:Int) (((p+n:Nat):Int) - (bg:Int)+1)) by rw[HX.out,E1.out,Dl HBG.out hw,aN,←E1.out,List.drop_drop,show((p+n:Nat):Int) - (bg:Int)+1=(p:Int) - (bg:Int)+1+((n:Nat):Int) by omega]);unfold Gb;simp only;obtain⟨WT,hWT⟩:∃WT:ByteArray,⟨wt.toArray⟩=WT:=⟨_,rfl⟩;obtain⟨WS,hWS⟩:∃WS:ByteArray,⟨wv3.toArray⟩=WS:=⟨_,rfl⟩;rw[hWT,hWS];obtain⟨E,hE⟩:∃E,p+n=E:=⟨_,rfl⟩;rw[hE] at hnl HN ⊢;have HPE:=Ax (show p<E by omega);have HWT:=Ax hWT;have HWS:=Ax hWS;have hal:=(Aq V.heap.size V).alloc (Ak _) (.cells #[.int .u8 wk,.string WT,.int .u8 wv1,.int .i64 wv2,.string WS,.int .i64 0,.int .i64 0] 63);have HA2:=Ax (HAV.out.below hal);have hT:=Bl.newc V wk WT wv1 wv2 WS 0 0;obtain⟨W3,hW3⟩:∃W3,V.alloc (.cells #[.int .u8 wk,.string WT,.int .u8 wv1,.int .i64 wv2,.string WS,.int .i64 0,.int .i64 0] 63)=W3:=⟨_,rfl⟩;obtain⟨b0,b1,_⟩:=A0 ((hal.block _ (Bu HBV.out)).trans HBV.out);rw[hW3] at hal hT HA2 b0 b1;have HT4:=Ax (Yw hT (ln:Int) ((p:Int) - (bg:Int)+1));have hA4:=rV (k:=wk) (t:=WT) (vk:=wv1) (vn:=wv2) (vs:=WS) HAV.out (ln:Int) ((p:Int) - (bg:Int)+1);rw[hW3] at hA4;have HA4:=Ax hA4;clear hA4;obtain⟨c0,c1,c2,c3,c4,c5,c6,cz⟩:=hT;have cz5:=cz 5;have cz6:=cz 6;have HW3:=Ax hW3;have hne:¬V.heap.size=wo.heap.size:=by have:=HLV.out;omega
   have hne':¬wo.heap.size=V.heap.size:=fun h=>hne h.symm
   clear hal cz hW3 hw hn hWT hWS hE HAV HA2;go_upto_region 22 with fail
   rw[HW3.out];go_upto_region 23 with fail
   obtain⟨W4,hW4⟩:∃W4,(W3.setCell ⟨V.heap.size,5,none⟩ (.int .i64 (ln:Int))).setCell ⟨V.heap.size,6,none⟩ (.int .i64 ((p:Int) - (bg:Int)+1))=W4:=⟨_,rfl⟩;rw[hW4] at HT4 HA4 ⊢;clear c0 c1 c2 c3 c4 c5 c6 cz5 cz6 b0 b1 hW4;obtain⟨c0,c1,c2,c3,c4,c5,c6,_⟩:=HT4.out;obtain⟨i0,hi0,hy0,hy1,hy2⟩:=Vy;have Hi0:=Ax hi0;have Hy0:=Ax hy0;have Hy1:=Ax hy1;have Hy2:=Ax hy2;have HSZ:=Ax HA4.out.bel.size;clear hi0 hy0 hy1 hy2;go_wp2_with (at_builtin;refine Hid.out ?_);refine Ax ?_;refine wpList_append_own _ rfl (.tmp 70) (.tmp 72) _ rfl w.heap.size 63 i0 (.agg Dw) 7 72 Tryz.underlying59 Hi0.out Hy0.out Hy1.out Hy2.out rfl tG (.slice va tn vc) tn (Ek ts) rfl (by have:=HA4.out.row;rw[HTN.out] at this;exact Di this ((Aq _ W4).alloc (Ak _) _)) ⟨W4.heap.size,0,none⟩ 1 1 [.int .u8 wk,.string WT,.int .u8 wv1,.int .i64 wv2,.string WS,.int .i64 (ln:Int),.int .i64 ((p:Int) - (bg:Int)+1)] rfl rfl (World.news_of_block (cs:= #[.int .u8 wk,.string WT,.int .u8 wv1,.int .i64 wv2,.string WS,.int .i64 (ln:Int),.int .i64 ((p:Int) - (bg:Int)+1)]) (A1 W4 _)) tS tQ tE (by have:=HSZ.out;simp;omega) ?_;intro v3 X ho3 hg3 _;have hF:=pI (t:=⟨⟨wk,wt,(wv1,wv2,wv3)⟩,(ln:Int),(p:Int) - (bg:Int)+1⟩) (HA4.out.below ((Aq _ W4).alloc (Ak _) _)) (by rw[HTN.out];simp only;rw[HWT.out,HWS.out];exact ho3) hg3;obtain⟨na,nc,rfl⟩:=Er ho3;have HF:=Ax hF;clear hF ho3 hg3 c0 c1 c2 c3 c4 c5 c6;go_wp2_with fail;go_roundw
   case rel=>exact⟨E,ln,bg,ts++[⟨⟨wk,wt,(wv1,wv2,wv3)⟩,(ln:Int),(p:Int) - (bg:Int)+1⟩],na,nc,by rw[Ab,HTN.out];rfl,rfl,rfl,rfl,by have:=HPE.out;omega,by omega,by have:=HPE.out;omega,by rw[Ab,HTN.out];have:=HPE.out;simp;omega,Ax ⟨by have:=HF.out;rw[Ab,HTN.out];exact this,HN.out⟩⟩
   case measure=>have:=HPE.out;simp [intOf]<;>omega
 obtain rfl:p=s.size:=by omega
 have d0:decide (s.size<s.size)=false:=An tE;have HE:=Ax (show Ev (dl s)= .ok ts by rw[HX.out,Ie (Ak _),Iy,aU]);clear hgo;obtain⟨r0,r1,rz⟩:=A0 HA.out.r;obtain⟨n0,n1,_⟩:=A0 HA.out.n;have rz0:=rz 0;have rz1:=rz 1;clear rz;have hne:¬w.heap.size=w.heap.size+1:=by omega
 go_wp2_with fail;refine wp_region_noPanic ?_;refine wp_region_held_drew (S:=fun X=>X.cell? ⟨w.heap.size+1,0,none⟩=some (.int .i64 0)/\X.cell? ⟨w.heap.size+1,1,none⟩=some (.int .i64 0)) tF ?_ (fun hHeld=>?_)
 ·(try dsimp only);go_keep
 refine QH 0 ⟨some 75,_,_,_,_,_⟩ (h:=?_)
 try simp only[Act.put,Ac,Ad,Ae]
 refine QH 1 ⟨some 76,_,_,_,_,_⟩ (h:=?_)
 try simp only[Act.put,Ac,Ad,Ae]
 refine QH 2 ⟨some 2,_,_,_,_,_⟩ (h:=?_)
 try simp only[Act.put,Ac,Ad,Ae]
 refine wpAnyH_ready (rs:=[3]) tF tH ?_;refine AllReadyH.cons (o:=⟨none,_,_,_,_,_⟩) (rs:=[]) rfl (fun K hK=>?_) AllReadyH.nil
 go_simp
 try go_wp2_with fail
 clear hHeld;refine hK.out _ _ ?_ (fun hHeld=>?_)
 ·(try dsimp only);go_keep
 clear hK K
 try simp only[Act.put,Ac,Ad,Ae]
 refine QH 4 ⟨some 4,_,_,_,_,_⟩ (h:=?_)
 try simp only[Act.put,Ac,Ad,Ae]
 refine wpAnyH_done tF ?_ _;refine NoPanic.normal ?_;go_wp2_with fail;exact Au (v:= .tuple #[.slice va tn vc,.agg #[.int .i64 0,.int .i64 0],.int .i64 0]) (by simp [results,Tryz.results25,go_sem, *]) rfl (pT HA.out HTN.out HE.out)
open Go Go.RowKit
structure Cv (w:World)(B:Nat)(X:List Nat)(b:Nat)(vl:Value)(ts r:List Tkn)(d:Nat)(vt:Value)(nds:List Nd):Prop where
 suf:Suf r ts
 toks:I8 w vl ts
 nam:∀t∈ts,t.w.k=1->t.w.t≠[40]
 tl:∀g,vl.ownBlock=some g->g<B
 hB:B<=b
 xl:∀x∈X,x<w.heap.size
 hd:d<=12
 big:ts.length<=1000000
 few:nds.length+r.length<=1000000
 blk:w.heap[b]? =some (.cells #[vl,.int .i64 ((ts.length - r.length:Nat):Int),.int .i64 (d:Int),vt,.int .i64 0,.int .i64 0] 155 (0,0))
 tree:Ii w B X vt nds
theorem Cv.below {w w':World}{B b d:Nat}{X:List Nat}{vl vt:Value}{ts r:List Tkn}{nds:List Nd}(h:Cv w B X b vl ts r d vt nds)(hb:Below w.heap.size w w'):Cv w' B X b vl ts r d vt nds:=
 ⟨h.suf,h.toks.below hb,h.nam,h.tl,h.hB,fun x hx=>Nat.lt_of_lt_of_le (h.xl x hx) hb.size,h.hd,h.big,h.few,(hb.block b (Ay h.blk)).trans h.blk,h.tree.below hb⟩
theorem Cv.turn {w w':World}{B b d d':Nat}{X:List Nat}{vl vt:Value}{ts r r':List Tkn}{nds:List Nd}(h:Cv w B X b vl ts r d vt nds)(ho:Bc [b] w w')(hs:Suf r' r)(hd:d'<=12)
 (hb:w'.heap[b]? =some (.cells #[vl,.int .i64 ((ts.length - r'.length:Nat):Int),.int .i64 (d':Int),vt,.int .i64 0,.int .i64 0] 155 (0,0))):Cv w' B X b vl ts r' d' vt nds:=by
 exact zys
theorem Cv.step {w:World}{B b d:Nat}{X:List Nat}{vl vt:Value}{ts q:List Tkn}{t:Tkn}{nds:List Nd}(h:Cv w B X b vl ts (t::q) d vt nds):
 Cv (w.setCell ⟨b,1,none⟩ (.int .i64 (((ts.length - (q.length+1):Nat):Int)+1))) B X b vl ts q d vt nds:=by
 exact zxr
theorem Cv.deep {w:World}{B b d d':Nat}{X:List Nat}{vl vt:Value}{ts r:List Tkn}{nds:List Nd}(h:Cv w B X b vl ts r d vt nds)(hd:d'<=12):Cv (w.setCell ⟨b,2,none⟩ (.int .i64 (d':Int))) B X b vl ts r d' vt nds:=by
 refine h.turn (A3 _ _ _ _) (Suf.refl _) hd ?_;rw[A2 h.blk];rfl
theorem Cv.head {w:World}{B b d:Nat}{X:List Nat}{vl vt:Value}{ts q:List Tkn}{t:Tkn}{nds:List Nd}(h:Cv w B X b vl ts (t::q) d vt nds):∃g c,vl= .slice (some ⟨g,0,none⟩) ts.length c/\g<w.heap.size/\ts.length - (t::q).length<ts.length/\
 w.cell? ⟨g,(ts.length - (t::q).length)*7,none⟩=some (.int .u8 t.w.k)/\w.cell? ⟨g,(ts.length - (t::q).length)*7+1,none⟩=some (.string ⟨t.w.t.toArray⟩)/\w.cell? ⟨g,(ts.length - (t::q).length)*7+2,none⟩=some (.int .u8 t.w.v.1)/\
 w.cell? ⟨g,(ts.length - (t::q).length)*7+3,none⟩=some (.int .i64 t.w.v.2.1)/\w.cell? ⟨g,(ts.length - (t::q).length)*7+4,none⟩=some (.string ⟨t.w.v.2.2.toArray⟩)/\w.cell? ⟨g,(ts.length - (t::q).length)*7+5,none⟩=some (.int .i64 t.line)/\w.cell? ⟨g,(ts.length - (t::q).length)*7+6,none⟩=some (.int .i64 t.col):=by
 exact zyo
theorem Cv.lay {w W Z:World}{B b d:Nat}{X:List Nat}{vl vt v' kv:Value}{ts r:List Tkn}{nds:List Nd}{kvs:List Value}{n:Nd}(h:Cv w B X b vl ts r d vt nds)(hk1:w.ownsRow B 38 8 vt nds.length (Fb kvs nds))(hk2:C8 w B X kvs nds)
 (hkv:w.ownsRow B 3 1 kv n.kids.length (Gq n.kids)) (hkx:∀g,kv.ownBlock=some g->g∉X) (hbw:Below w.heap.size w W) (hg:W.grownBy Z vt.ownBlock) (hown:Z.ownsRow B 38 8 v' (nds.length+1) (Fb kvs nds++Fb [kv] [n])) (hv:∀g,v'.ownBlock=some g->vt.ownBlock=some g\/w.heap.size<=g)
 (hroom:nds.length+1+r.length<=1000000):Cv (Z.setCell ⟨b,3,none⟩ v') B X b vl ts r d v' (nds++[n])/\Rch b w vt (Z.setCell ⟨b,3,none⟩ v') v':=by
 have hX:Bc vt.ownBlock.toList w Z:=(Bc.of_below hbw _).trans (Bc.of_grown hg _ fun k hk=>by simp [hk]);have hbt:vt.ownBlock≠some b:=h.tree.not h.blk tG;have hbX:Z.heap[b]? =some (.cells #[vl,.int .i64 ((ts.length - r.length:Nat):Int),.int .i64 (d:Int),vt,.int .i64 0,.int .i64 0] 155 (0,0)):=(hX.block b (Ay h.blk) (by simpa using hbt)).trans h.blk
 have hb2:(Z.setCell ⟨b,3,none⟩ v').heap[b]? =some (.cells #[vl,.int .i64 ((ts.length - r.length:Nat):Int),.int .i64 (d:Int),v',.int .i64 0,.int .i64 0] 155 (0,0)):=by
  rw[A2 hbX];rfl
 have hO:Bc (b::vt.ownBlock.toList) w (Z.setCell ⟨b,3,none⟩ v'):=(hX.mono fun i hi=>Aj _ hi).setCell (.inl tH) _
 have hint:∀v k xs,w.ownsRow B 3 1 v k xs->Z.ownsRow B 3 1 v k xs:=fun v k xs q=>Bm q hX fun g e hm=>by
  exact zxq
 have hset:∀{t:TypeId} {sz:Nat} v k xs,t≠155->Z.ownsRow B t sz v k xs->(Z.setCell ⟨b,3,none⟩ v').ownsRow B t sz v k xs:=fun v k xs ht q=>Bm q (A3 Z b 3 v') fun g e hm=>by
  simp at hm;subst hm;exact Bi q hbX ht e
 exact zy3
def Gj (r:List Tkn):List UInt8:=match r with
 |t::_=>if t.w.k=1\/t.w.k=7 then t.w.t else[]
 |[]=>[]
theorem J3 {r:List Tkn}{s:List UInt8}(hs:s≠[]):decide (Gj r=s)=isH s r:=by
 cases r with
 |nil=>show decide ([]=s)=false;exact An (fun e=>hs e.symm)
 |cons t q=>
  show decide ((if t.w.k=1\/t.w.k=7 then t.w.t else[])=s)=(decide (t.w.t=s) && (decide (t.w.k=1)||decide (t.w.k=7)));by_cases h:t.w.k=1\/t.w.k=7
  ·rw[Ap h]
   have:(decide (t.w.k=1)||decide (t.w.k=7))=true:=by rcases h with h|h<;>simp [h]
   rw[this,Bool.and_true]
  rw[Ao h,An (fun e=>hs e.symm)]
  have:(decide (t.w.k=1)||decide (t.w.k=7))=false:=by simp only[not_or] at h;simp [h.1,h.2]
  rw[this,Bool.and_false]
theorem Bd {w:World}{b:Nat}{x y z u v t:Value}{ty:TypeId}(h:w.heap[b]? =some (.cells #[x,y,z,u,v,t] ty (0,0))):
 w.cell? ⟨b,0,none⟩=some x/\w.cell? ⟨b,1,none⟩=some y/\w.cell? ⟨b,2,none⟩=some z/\w.cell? ⟨b,3,none⟩=some u/\w.cell? ⟨b,4,none⟩=some v/\w.cell? ⟨b,5,none⟩=some t/\∀i,w.frozen? ⟨b,i,none⟩=false:=
 ⟨by simp only[World.cell?,h];rfl,by simp only[World.cell?,h];rfl,by simp only[World.cell?,h];rfl,by simp only[World.cell?,h];rfl,by simp only[World.cell?,h];rfl,by simp only[World.cell?,h];rfl,fun i=>by simp only[World.frozen?,h];simp⟩
structure Ej (w:World)(B b:Nat)(vl:Value)(ts:List Tkn)(vt:Value)(e:Int)(bad cap:Nat):Prop where
 toks:I8 w vl ts
 tl:∀g,vl.ownBlock=some g->g<B
 hB:B<=b
 big:ts.length<=1000000
 room:cap<=1000000
 ne:e≠0
 blk:∃(at':Nat) (dd:Int),w.heap[b]? =some (.cells #[vl,.int .i64 (at':Int),.int .i64 dd,vt,.int .i64 e,.int .i64 (bad:Int)] 155 (0,0))
 row:∃m xs,m<=cap/\w.ownsRow B 38 8 vt m xs
theorem Ej.below {w w':World}{B b bad cap:Nat}{vl vt:Value}{ts:List Tkn}{e:Int}(h:Ej w B b vl ts vt e bad cap)(hb:Below w.heap.size w w'):Ej w' B b vl ts vt e bad cap:=by
 obtain⟨a,dd,hk⟩:=h.blk;obtain⟨m,xs,h1,h2⟩:=h.row;exact⟨h.toks.below hb,h.tl,h.hB,h.big,h.room,h.ne,⟨a,dd,(hb.block b (Ay hk)).trans hk⟩,m,xs,h1,Di h2 hb⟩
theorem Ej.mono {w:World}{B b bad cap cap':Nat}{vl vt:Value}{ts:List Tkn}{e:Int}(h:Ej w B b vl ts vt e bad cap)(hc:cap<=cap')(h6:cap'<=1000000):Ej w B b vl ts vt e bad cap':=by
 obtain⟨m,xs,h1,h2⟩:=h.row;exact⟨h.toks,h.tl,h.hB,h.big,h6,h.ne,h.blk,m,xs,Al h1 hc,h2⟩
open Go Go.RowKit Go.Lib
theorem mP {ts:List Tkn}{n:Nat}(h:n<ts.length):Gj (ts.drop n)=if ts[n].w.k=1\/ts[n].w.k=7 then ts[n].w.t else[]:=by rw[List.drop_eq_getElem_cons h];rfl
theorem cF {ts:List Tkn}{n:Nat}(h:ts.length<=n):Gj (ts.drop n)=[]:=by rw[List.drop_eq_nil_of_le h];rfl
theorem Wo {w:World}{b n:Nat}{vl:Value}{ts:List Tkn}(htk:I8 w vl ts)(c0:w.cell? ⟨b,0,none⟩=some vl)(c1:w.cell? ⟨b,1,none⟩=some (.int .i64 (n:Int)))(_:ts.length<=1000000):
 Calls Tryz.prog 126 #[.pointer (some ⟨b,0,none⟩)] w fun e w'=>e= .returned (.string ⟨(Gj (ts.drop n)).toArray⟩)/\Below w.heap.size w w':=by
 by_cases hlt:n<ts.length
 ·obtain⟨g,c,rfl,hg,t0,t1,hrest⟩:=htk.at hlt;clear hrest;rw[mP hlt];have i0:(n:Int)<(ts.length:Int):=by omega
  have i1:decide ((n:Int)<(ts.length:Int))=true:=by simp;omega
  have i2:(0:Int)<=(n:Int):=by omega
  obtain⟨k,hk⟩:∃k,ts[n].w.k=k:=⟨_,rfl⟩;obtain⟨tt,htt⟩:∃tt,ts[n].w.t=tt:=⟨_,rfl⟩;rw[hk] at t0 ⊢;rw[htt] at t1 ⊢;clear hk htt htk hlt;by_cases k1:k=1
  ·subst k1;rw[Ap (.inl rfl)];exact zw7
  have f1:(k==1)=false:=by simpa using k1
  by_cases k7:k=7
  ·subst k7;rw[Ap (.inr rfl)];exact zw7
  have f3:(k==7)=false:=by simpa using k7
  rw[Ao (by simp [k1,k7])];go_enter Tryz.func126,Tryz.ntmps126;exact zyy
 rw[cF tE];obtain⟨va,vc,rfl⟩:=htk.form;have i0:¬((n:Int)<(ts.length:Int)):=by omega
 have i1:decide ((n:Int)<(ts.length:Int))=false:=by simp;omega
 have i2:decide (n<ts.length)=false:=An hlt;clear htk hlt;go_enter Tryz.func126,Tryz.ntmps126;exact zyy
theorem Cv.drop {w:World}{B b d:Nat}{X:List Nat}{vl vt:Value}{ts r:List Tkn}{nds:List Nd}(h:Cv w B X b vl ts r d vt nds):ts.drop (ts.length - r.length)=r:=h.suf.at_drop.symm
theorem Fu {w:World}{B b d:Nat}{X:List Nat}{vl vt:Value}{ts r:List Tkn}{nds:List Nd}(h:Cv w B X b vl ts r d vt nds):
 Calls Tryz.prog 126 #[.pointer (some ⟨b,0,none⟩)] w fun e w'=>e= .returned (.string ⟨(Gj r).toArray⟩)/\Below w.heap.size w w':=by
 obtain⟨c0,c1,_⟩:=Bd h.blk
 have:=Wo h.toks c0 c1 h.big
 rwa [h.drop] at this
theorem fL {w:World}{B b bad cap:Nat}{vl vt:Value}{ts:List Tkn}{e:Int}(h:Ej w B b vl ts vt e bad cap):
 Calls Tryz.prog 126 #[.pointer (some ⟨b,0,none⟩)] w fun e w'=>(∃S:ByteArray,e= .returned (.string S))/\Below w.heap.size w w':=by
 obtain⟨a,dd,hk⟩:=h.blk;obtain⟨c0,c1,_⟩:=Bd hk;exact(Wo h.toks c0 c1 h.big).mono fun e w' ⟨h1,h2⟩=>⟨⟨_,h1⟩,h2⟩
theorem jG (w:World)(n:Nat)(o:Obj)(a b x y:Value)(T:TypeId)(ho:o= .cells #[a,b] T):
 ((((w.alloc o).drewN n).setCell ⟨w.heap.size,0,none⟩ x).setCell ⟨w.heap.size,1,none⟩ y).heap[w.heap.size]? =some (.cells #[x,y] T (0,0)):=by
 subst ho;have h0:((w.alloc (.cells #[a,b] T)).drewN n).heap[w.heap.size]? =some (.cells #[a,b] T (0,0)):=A1 w _;rw[A2 (A2 h0)];rfl
theorem Oy {w:World}{B b d:Nat}{X:List Nat}{vl vt:Value}{ts r:List Tkn}{nds:List Nd}(h:Cv w B X b vl ts r d vt nds):
 Calls Tryz.prog 125 #[.pointer (some ⟨b,0,none⟩)] w fun e w'=>e= .returned (.agg #[.int .i64 (plH r).1,.int .i64 (plH r).2])/\Below w.heap.size w w':=by
 obtain⟨c0,c1,c2,c3,_⟩:=Bd h.blk;have hl:=h.suf.len;have hbig:=h.big;have hB:=Ay h.blk;cases r with
 |nil=>
  obtain⟨va,vc,rfl⟩:=h.toks.form;have i0:¬(((ts.length - ([]:List Tkn).length:Nat):Int)<(ts.length:Int)):=by simp
  have i1:decide (((ts.length - ([]:List Tkn).length:Nat):Int)<(ts.length:Int))=false:=by simp
  clear h hl;go_enter Tryz.func125,Tryz.ntmps125;go_wp2_with fail;go_quiet (fail);go_wp2_with fail;refine Au (v:= .agg #[.int .i64 0,.int .i64 0]) (by simp [results,Tryz.results125,go_sem, *]) rfl ?_;exact zxb
 |cons t q=>
  obtain⟨g,c,rfl,hg,hlt,t0,t1,t2,t3,t4,t5,t6⟩:=h.head;obtain⟨n,hn⟩:∃n,ts.length - (t::q).length=n:=⟨_,rfl⟩;rw[hn] at c1 hlt t0 t1 t2 t3 t4 t5 t6;have i0:(n:Int)<(ts.length:Int):=by omega
  have i1:decide ((n:Int)<(ts.length:Int))=true:=by simp;omega
  have i2:(0:Int)<=(n:Int):=by omega
  clear h hl hn;go_enter Tryz.func125,Tryz.ntmps125;go_wp2_with fail;go_quiet (fail);go_wp2_with fail;have hg0:¬w.heap.size=g:=by omega
  have hb0:¬w.heap.size=b:=by omega
  clear t0 t1 t2 t3 t4;refine wp_region_noPanic ?_;refine wp_region_held_drew (S:=fun V=>V.cell? ⟨b,0,none⟩=some (.slice (some ⟨g,0,none⟩) ts.length c)/\V.cell? ⟨b,1,none⟩=some (.int .i64 (n:Int))/\V.cell? ⟨g,n*7+5,none⟩=some (.int .i64 t.line)/\V.cell? ⟨g,n*7+6,none⟩=some (.int .i64 t.col)) tF ?_ (fun hHeld=>?_)
  ·(try dsimp only);go_keep
  refine QH 0 ⟨some 13,_,_,_,_,_⟩ (h:=?_)
  try simp only[Act.put,Ac,Ad,Ae]
  refine QH 1 ⟨some 14,_,_,_,_,_⟩ (h:=?_)
  try simp only[Act.put,Ac,Ad,Ae]
  refine QH 2 ⟨some 15,_,_,_,_,_⟩ (h:=?_)
  try simp only[Act.put,Ac,Ad,Ae]
  refine QH 3 ⟨some 16,_,_,_,_,_⟩ (h:=?_)
  try simp only[Act.put,Ac,Ad,Ae]
  refine QH 4 ⟨some 17,_,_,_,_,_⟩ (h:=?_)
  try simp only[Act.put,Ac,Ad,Ae]
  refine QH 5 ⟨some 18,_,_,_,_,_⟩ (h:=?_)
  try simp only[Act.put,Ac,Ad,Ae]
  refine QH 6 ⟨some 19,_,_,_,_,_⟩ (h:=?_)
  try simp only[Act.put,Ac,Ad,Ae]
  refine QH 7 ⟨some 20,_,_,_,_,_⟩ (h:=?_)
  try simp only[Act.put,Ac,Ad,Ae]
  refine QH 8 ⟨some 21,_,_,_,_,_⟩ (h:=?_)
  try simp only[Act.put,Ac,Ad,Ae]
  refine QH 9 ⟨some 22,_,_,_,_,_⟩ (h:=?_)
  try simp only[Act.put,Ac,Ad,Ae]
  refine QH 10 ⟨some 23,_,_,_,_,_⟩ (h:=?_)
  try simp only[Act.put,Ac,Ad,Ae]
  refine wpAnyH_ready (rs:=[11]) tF tH ?_;refine AllReadyH.cons (o:=⟨none,_,_,_,_,_⟩) (rs:=[]) rfl (fun K hK=>?_) AllReadyH.nil
  go_simp
  try go_wp2_with fail
  clear hHeld;refine hK.out _ _ ?_ (fun hHeld=>?_)
  ·(try dsimp only);go_keep
  clear hK K
  try simp only[Act.put,Ac,Ad,Ae]
  refine wpAnyH_done tF ?_ _;refine NoPanic.normal ?_;go_wp2_with fail;obtain⟨z0,z1,_⟩:=Bo (jG w (nq+1) (.cells #[.int .i64 0,.int .i64 0] 26) _ _ (.int .i64 t.line) (.int .i64 t.col) _ rfl);refine Au (v:= .agg #[.int .i64 t.line,.int .i64 t.col]) (by simp [results,Tryz.results125,go_sem,z0,z1]) rfl ?_;exact zxb
theorem Cv.stop {w w':World}{B b d:Nat}{X:List Nat}{vl vt:Value}{ts r:List Tkn}{nds:List Nd}(h:Cv w B X b vl ts r d vt nds){e:Int}(he:e≠0){dd:Int}(ho:Bc [b] w w')
 (hb:w'.heap[b]? =some (.cells #[vl,.int .i64 ((ts.length - r.length:Nat):Int),.int .i64 dd,vt,.int .i64 e,.int .i64 ((ts.length - r.length:Nat):Int)] 155 (0,0))):Ej w' B b vl ts vt e (ts.length - r.length) (nds.length+r.length):=by
 have h2:=h.turn (w':=w.setCell ⟨b,2,none⟩ (.int .i64 (d:Int))) (A3 _ _ _ _) (Suf.refl _) h.hd (by rw[A2 h.blk];rfl);refine⟨h.toks.kept ho.size fun g hg hlt=>ho.block g hlt ?_,h.tl,h.hB,h.big,by have:=h.few;omega,he,⟨_,dd,hb⟩,nds.length,?_⟩
 ·have:=h.tl g hg
  have:=h.hB
  simp;omega
 obtain⟨kvs,hk1,_⟩:=h.tree;refine⟨_,by omega,Bm hk1 ho fun g e hm=>?_⟩;simp at hm;subst hm;exact Bi hk1 h.blk tG e
theorem Jg {w:World}{B b d:Nat}{X:List Nat}{vl vt:Value}{ts r:List Tkn}{nds:List Nd}(h:Cv w B X b vl ts r d vt nds)(e:Int)(he:e≠0):
 Calls Tryz.prog 168 #[.pointer (some ⟨b,0,none⟩),.int .i64 e] w fun en w'=>en= .returned (.tuple #[])/\Ej w' B b vl ts vt e (ts.length - r.length) (nds.length+r.length)/\Bc [b] w w'/\w'.cell? ⟨b,2,none⟩=some (.int .i64 (d:Int)):=by
 obtain⟨c0,c1,c2,c3,c4,c5,cf⟩:=Bd h.blk;have cf4:=cf 4;have cf5:=cf 5;have hb1:=A2 (i:=5) (u:= .int .i64 ((ts.length - r.length:Nat):Int)) (A2 (i:=4) (u:= .int .i64 e) h.blk);have ho:Bc [b] w ((w.setCell ⟨b,4,none⟩ (.int .i64 e)).setCell ⟨b,5,none⟩ (.int .i64 ((ts.length - r.length:Nat):Int))):=(A3 w b 4 _).trans (A3 _ b 5 _);have HS:=Ax (h.stop he ho hb1);have HO:=Ax ho;have HC:Hid (((w.setCell ⟨b,4,none⟩ (.int .i64 e)).setCell ⟨b,5,none⟩ (.int .i64 ((ts.length - r.length:Nat):Int))).cell? ⟨b,2,none⟩=some (.int .i64 (d:Int))):=Ax (by simp only[World.cell?,hb1];rfl);clear h hb1 ho cf;go_enter Tryz.func168,Tryz.ntmps168;go_wp2_with fail
 go_end0
 exact⟨rfl,HS.out,HO.out,HC.out⟩
open Go Go.RowKit
def hdK (h:Hd)(kv:Value):Value:= .agg #[.int .u8 h.op,.int .u8 h.v.1,.int .i64 h.v.2.1,.string ⟨h.v.2.2.toArray⟩,.string ⟨h.name.toArray⟩,kv,.int .i64 h.line,.int .i64 h.col]
theorem Mg {w:World}{B b d:Nat}{X:List Nat}{vl vt:Value}{ts r:List Tkn}{nds:List Nd}(h:Cv w B X b vl ts r d vt nds)(hroom:nds.length+1+r.length<=1000000)(hB:B<=w.heap.size)(hd:Hd)(kids:List Nat)(ka:Option Addr)(kc:Nat)(hk:w.ownsRow B 3 1 (.slice ka kids.length kc) kids.length (Gq kids))(hkx:∀g,(Value.slice ka kids.length kc).ownBlock=some g->g∉X):
 Calls Tryz.prog 128 #[.pointer (some ⟨b,0,none⟩),hdK hd (.slice ka kids.length kc)] w fun e w'=>e= .returned (.int .i64 (nds.length:Int))/\∃vt',Cv w' B X b vl ts r d vt' (nds++[⟨hd,kids⟩])/\Rch b w vt w' vt':=by
 obtain⟨kvs,hk1,hk2⟩:=h.tree;obtain⟨la,lc,rfl⟩:=Er hk1;obtain⟨c0,c1,c2,c3,c4,c5,cf⟩:=Bd h.blk;have cf3:=cf 3;obtain⟨i0,hi,hz0,hz1,hz2⟩:=Jr;have hb:=Ay h.blk;obtain⟨op,⟨vk,vn,vs⟩,nm,ln,cl⟩:=hd;have Ow:Hid (((w.alloc (.cells #[.int .u8 op,.int .u8 vk,.int .i64 vn,.string ⟨vs.toArray⟩,.string ⟨nm.toArray⟩,.slice ka kids.length kc,.int .i64 ln,.int .i64 cl] 38)).alloc (.cells #[.int .u8 op,.int .u8 vk,.int .i64 vn,.string ⟨vs.toArray⟩,.string ⟨nm.toArray⟩,.slice ka kids.length kc,.int .i64 ln,.int .i64 cl] 38)).drew.ownsRow B 38 8 (.slice la nds.length lc) nds.length (Fb kvs nds)):=Ax (Di hk1 (Bc.drew (((Bc.refl [] w).alloc _).alloc _)).below);have OW:Hid (Below w.heap.size w ((w.alloc (.cells #[.int .u8 op,.int .u8 vk,.int .i64 vn,.string ⟨vs.toArray⟩,.string ⟨nm.toArray⟩,.slice ka kids.length kc,.int .i64 ln,.int .i64 cl] 38)).alloc (.cells #[.int .u8 op,.int .u8 vk,.int .i64 vn,.string ⟨vs.toArray⟩,.string ⟨nm.toArray⟩,.slice ka kids.length kc,.int .i64 ln,.int .i64 cl] 38)).drew):=Ax (Bc.drew (((Bc.refl [] w).alloc _).alloc _)).below;have HS:Hid (((w.alloc (.cells #[.int .u8 op,.int .u8 vk,.int .i64 vn,.string ⟨vs.toArray⟩,.string ⟨nm.toArray⟩,.slice ka kids.length kc,.int .i64 ln,.int .i64 cl] 38)).alloc (.cells #[.int .u8 op,.int .u8 vk,.int .i64 vn,.string ⟨vs.toArray⟩,.string ⟨nm.toArray⟩,.slice ka kids.length kc,.int .i64 ln,.int .i64 cl] 38)).drew.heap.size=w.heap.size+2):=Ax vQ;have hbt:Hid (Value.ownBlock (.slice la nds.length lc)≠some b):=Ax (h.tree.not h.blk tG)
 have HN:Hid (((w.alloc (.cells #[.int .u8 op,.int .u8 vk,.int .i64 vn,.string ⟨vs.toArray⟩,.string ⟨nm.toArray⟩,.slice ka kids.length kc,.int .i64 ln,.int .i64 cl] 38)).alloc (.cells #[.int .u8 op,.int .u8 vk,.int .i64 vn,.string ⟨vs.toArray⟩,.string ⟨nm.toArray⟩,.slice ka kids.length kc,.int .i64 ln,.int .i64 cl] 38)).drew.heap[w.heap.size+1]? =some (.cells #[.int .u8 op,.int .u8 vk,.int .i64 vn,.string ⟨vs.toArray⟩,.string ⟨nm.toArray⟩,.slice ka kids.length kc,.int .i64 ln,.int .i64 cl] 38)):=Ax (by
  exact zy4)
 have p3:=Ba OW.out c3;have pf:((w.alloc (.cells #[.int .u8 op,.int .u8 vk,.int .i64 vn,.string ⟨vs.toArray⟩,.string ⟨nm.toArray⟩,.slice ka kids.length kc,.int .i64 ln,.int .i64 cl] 38)).alloc (.cells #[.int .u8 op,.int .u8 vk,.int .i64 vn,.string ⟨vs.toArray⟩,.string ⟨nm.toArray⟩,.slice ka kids.length kc,.int .i64 ln,.int .i64 cl] 38)).drew.frozen? ⟨b,3,none⟩=false:=(OW.out.frozen (p:=⟨b,3,none⟩) hb).trans cf3;have HK1:=Ax hk1;have HK2:=Ax hk2;have HK:=Ax hk;have Hkx:=Ax hkx;have H:=Ax h;have Hi:=Ax hi;have Hz0:=Ax hz0;have Hz1:=Ax hz1;have Hz2:=Ax hz2;clear h hk1 hk2 hk hkx hi hz0 hz1 hz2 cf;unfold hdK;clear c0 c1 c2 c4 c5;go_enter Tryz.func128,Tryz.ntmps128;go_wp2_with fail
 go_region_law
  ((refine step_append_lies _ vF _ _ _ vF B 38 i0 (.agg #[.int .u8 0,.int .u8 0,.int .i64 0,.string ⟨#[]⟩,.string ⟨#[]⟩,.slice none 0 0,.int .i64 0,.int .i64 0]) 8 96 Tryz.underlying24 Hi.out Hz0.out Hz1.out Hz2.out rfl tG (.slice la nds.length lc) nds.length (Fb kvs nds) vF Ow.out ⟨w.heap.size+1,0,none⟩ 1 1 [.int .u8 op,.int .u8 vk,.int .i64 vn,.string ⟨vs.toArray⟩,.string ⟨nm.toArray⟩,.slice ka kids.length kc,.int .i64 ln,.int .i64 cl] vF vF (World.news_of_block (cs:= #[.int .u8 op,.int .u8 vk,.int .i64 vn,.string ⟨vs.toArray⟩,.string ⟨nm.toArray⟩,.slice ka kids.length kc,.int .i64 ln,.int .i64 cl]) (t:=38) (fr:=(0,0)) HN.out) tS tG tQ tE (by rw[HS.out];omega) (w.heap.size+2) HS.out ?_;intro g cap w3 hown3 hgrow hat hlt;have r0:=(hgrow.cell_far ⟨b,3,none⟩ uS (Ne.symm hbt.out)).trans p3;have rf:=(hgrow.frozen_far ⟨b,3,none⟩ uS (Ne.symm hbt.out)).trans pf))
 all_goals
  have hG:=H.out.lay (n:=⟨⟨op,(vk,vn,vs),nm,ln,cl⟩,kids⟩) HK1.out HK2.out HK.out Hkx.out OW.out hgrow hown3 (fun x hx=>by
   simp only[Value.ownBlock,Option.some.injEq] at hx;subst hx;rcases hat with q|q
   ·exact .inl q
   exact .inr tE) hroom
  clear hown3 hgrow hat hlt r0 rf p3 pf c3 Ow OW HS hbt HN HK1 HK2 HK;obtain⟨W1,hW1⟩:∃W1,w3.setCell ⟨b,3,none⟩ (.slice (some ⟨g,0,none⟩) (nds.length+1) cap)=W1:=⟨_,rfl⟩;rw[hW1] at hG ⊢;clear hW1;obtain⟨_,_,_,c3,_⟩:=Bd hG.1.blk;have HG:=Ax hG;clear hG;go_wp2_with fail;go_ret;refine⟨?_,_,HG.out.1,HG.out.2⟩
  first|rfl|(simp;done)
theorem Ej.deep {w:World}{B b bad cap:Nat}{vl vt:Value}{ts:List Tkn}{e:Int}(h:Ej w B b vl ts vt e bad cap)(x:Int):Ej (w.setCell ⟨b,2,none⟩ (.int .i64 x)) B b vl ts vt e bad cap:=by
 obtain⟨a,dd,hk⟩:=h.blk;obtain⟨m,xs,h1,h2⟩:=h.row;have ho:=A3 w b 2 (.int .i64 x);refine⟨h.toks.kept ho.size fun g hg hlt=>ho.block g hlt ?_,h.tl,h.hB,h.big,h.room,h.ne,⟨a,x,?_⟩,m,xs,h1,Bm h2 ho fun g e hm=>?_⟩
 ·have:=h.tl g hg
  have:=h.hB
  simp;omega
 ·rw[A2 hk];rfl
 simp at hm;subst hm;exact Bi h2 hk tG e
def jM (w:World)(B:Nat)(X:List Nat)(b:Nat)(vl:Value)(ts r:List Tkn)(d:Nat)(vt:Value)(nds:List Nd)(e:Ending)(w':World):Prop:=
 e= .returned (.tuple #[])/\Bc [b] w w'/\if d=12 then Ej w' B b vl ts vt 12 (ts.length - r.length) (nds.length+r.length) else Cv w' B X b vl ts r (d+1) vt nds
theorem Kj {w:World}{B b d:Nat}{X:List Nat}{vl vt:Value}{ts r:List Tkn}{nds:List Nd}(h:Cv w B X b vl ts r d vt nds):
 Calls Tryz.prog 127 #[.pointer (some ⟨b,0,none⟩)] w (jM w B X b vl ts r d vt nds):=by
 obtain⟨c0,c1,c2,c3,c4,c5,cf⟩:=Bd h.blk;have cf2:=cf 2;have hd12:=h.hd;by_cases hd:d=12
 ·subst hd;have HS:=Ax (Jg h 12 tG);have c2':w.cell? ⟨b,2,none⟩=some (.int .i64 12):=c2;clear h cf hd12 c2;go_enter Tryz.func127,Tryz.ntmps127;go_wp2_with fail;refine HS.out.mono ?_;rintro e V ⟨rfl,hx,ho,hc⟩;have hc2:V.cell? ⟨b,2,none⟩=some (.int .i64 12):=hc
  have hfz:V.frozen? ⟨b,2,none⟩=false:=by
   obtain⟨_,_,hk⟩:=hx.blk;obtain⟨_,_,_,_,_,_,q⟩:=Bd hk;exact q 2
  have HX:=Ax (hx.deep 13);have HO:=Ax (ho.trans (A3 V b 2 (.int .i64 13)));clear hx ho hc c0 c1 c2' c3 c4 c5 cf2 HS;go_wp2_with fail
  go_end0
  exact⟨rfl,HO.out,by rw[Ap rfl];exact HX.out⟩
 have hlt:(d:Int)<12:=by omega
 have hlt2:decide ((12:Int)<=(d:Int))=false:=An tE;have hlt3:decide (12<=d)=false:=An tE;have HN:=Ax (h.deep (d':=d+1) tE);have HO:=Ax (A3 w b 2 (.int .i64 ((d+1:Nat):Int)));have HD:=Ax hd;clear h cf hd;go_enter Tryz.func127,Tryz.ntmps127;go_wp2_with fail
 go_end0
 exact⟨rfl,HO.out,by rw[Ao HD.out];exact HN.out⟩
def jZ (w:World)(B:Nat)(X:List Nat)(b:Nat)(vl:Value)(ts r:List Tkn)(d:Nat)(vt:Value)(nds:List Nd)(s:List UInt8)(e:Ending)(w':World):Prop:=
 e= .returned (.tuple #[])/\Bc [b] w w'/\if isH s r=true then Cv w' B X b vl ts r.tail d vt nds else Ej w' B b vl ts vt 4 (ts.length - r.length) (nds.length+r.length)
theorem Ia {w:World}{B b d:Nat}{X:List Nat}{vl vt:Value}{ts r:List Tkn}{nds:List Nd}(h:Cv w B X b vl ts r d vt nds)(s:List UInt8)(hs:s≠[]):
 Calls Tryz.prog 170 #[.pointer (some ⟨b,0,none⟩),.string ⟨s.toArray⟩] w (jZ w B X b vl ts r d vt nds s):=by
 have HI:=Ax (Fu h);have H:=Ax h;obtain⟨c0,c1,c2,c3,c4,c5,cf⟩:=Bd h.blk;have he:=J3 (r:=r) hs;obtain⟨S,hS⟩:∃S:ByteArray,⟨(Gj r).toArray⟩=S:=⟨_,rfl⟩;obtain⟨Z,hZ⟩:∃Z:ByteArray,⟨s.toArray⟩=Z:=⟨_,rfl⟩
 have hSZ:(S.toList==Z.toList)=isH s r:=by
  rw[←he,←hS,←hZ,Az,Az,Dj,Dj];by_cases q:Gj r=s<;>simp [q]
 rw[hS] at HI;rw[hZ];by_cases e:isH s r=true
 ·rw[e] at hSZ;obtain⟨t,q,rfl⟩:=Cf e;have HE:=Ax e;clear h he hS hZ e cf;go_enter Tryz.func170,Tryz.ntmps170;go_wp2_with fail;refine HI.out.mono ?_;rintro e V ⟨rfl,hb⟩;have h':=H.out.below hb;clear c0 c1 c2 c3 c4 c5;obtain⟨c0,c1,c2,c3,c4,c5,cf⟩:=Bd h'.blk;have cf1:=cf 1;have hbig:=h'.big;have hst:=Ax h'.step;have ho:=Ax ((Bc.of_below hb [b]).trans (A3 V b 1 (.int .i64 (((ts.length - (t::q).length:Nat):Int)+1))));clear cf h' H hb;go_wp2_with fail
  go_end0
  exact⟨rfl,ho.out,by rw[Ap HE.out];exact hst.out⟩
 have e':isH s r=false:=by simpa using e
 rw[e'] at hSZ;have HE:=Ax e;clear h he hS hZ e e' cf;go_enter Tryz.func170,Tryz.ntmps170;go_wp2_with fail;refine HI.out.mono ?_;rintro e V ⟨rfl,hb⟩;have h':=H.out.below hb;have HB:=Ax hb;have HS:=Ax (Jg h' 4 tG);clear c0 c1 c2 c3 c4 c5 h' H hb;go_wp2_with fail;refine HS.out.mono ?_;rintro e V2 ⟨rfl,hx,ho,_⟩;obtain⟨a,dd,hk⟩:=hx.blk;obtain⟨k0,k1,k2,k3,k4,k5,_⟩:=Bd hk;have HX:=Ax hx;have HO:=Ax ((Bc.of_below HB.out [b]).trans ho);clear hx ho hk;go_wp2_with fail
 go_end0
 exact⟨rfl,HO.out,by rw[Ao HE.out];exact HX.out⟩
theorem Dh {w:World}{B b bad cap:Nat}{vl vt:Value}{ts:List Tkn}{e:Int}(h:Ej w B b vl ts vt e bad cap)(Z:ByteArray):
 Calls Tryz.prog 170 #[.pointer (some ⟨b,0,none⟩),.string Z] w fun en w'=>en= .returned (.tuple #[])/\w=w':=by
 obtain⟨a,dd,hk⟩:=h.blk;obtain⟨k0,k1,k2,k3,k4,k5,_⟩:=Bd hk;have d0:(e==0)=false:=Af.2 h.ne;clear h hk;go_enter Tryz.func170,Tryz.ntmps170;go_wp2_with fail
 go_end0
 exact⟨rfl,rfl⟩
end Go.Proofs.YtmpfilddeglgbaaGreatDoor
