import Derived.Test.YtmpfilddeglgbaaGreatDoorQj15
set_option maxRecDepth 100000
set_option maxHeartbeats 16000000
namespace Go.Proofs.YtmpfilddeglgbaaGreatDoor
open Go Go.RowKit Go.Lib Go.Sort Go.Shelf
def Co (l:List Nz):Nat->List (List UInt8)
 |0=>[]
 |k+1=>Co l k++[match l[k]? with
  |some x=>D9 x.h x.kids.length (Dy l (Co l k) x.kids)
  |none=>[]]
theorem E0 (l:List Nz):∀k,(Co l k).length=k
 |0=>rfl
 |k+1=>by rw[Co,Ab,E0 l k];rfl
theorem Ry (l:List Nz){k:Nat}:∀m,k<=m->∀t∈Co l k,t∈Co l m
 |0,h,t,ht=>by
  obtain rfl:k=0:=by omega
  exact ht
 |m+1,h,t,ht=>by
  by_cases e:k=m+1
  ·rw[←e];exact ht
  rw[Co];exact List.mem_append.2 (.inl (Ry l m tE t ht))
def Kw (ts:List (List UInt8)):Bool:=ts.all fun t=>decide (t.length<=65536)
def Ra (l:List Nz):List UInt8:=if Kw (Co l l.length)=true then((Co l l.length).getLast?).getD [] else[]
theorem Og {ts:List (List UInt8)}(h:Kw ts=true):∀t∈ts,t.length<=65536:=fun t ht=>by
 have:=List.all_eq_true.1 h t ht
 simpa using this
def eA (l:List Nz)(k:Nat):List UInt8:=((Co l k).getLast?).getD []
theorem mK (l:List Nz):(Ra l).length<=65536:=by
 unfold Ra
 split
 ·rename_i h
  cases hl:(Co l l.length).getLast? with
  |none=>simp
  |some t=>exact Og h t (List.mem_of_getLast? hl)
 simp
def Iu (w:World)(b:Nat)(l:List (List UInt8)):Prop:=w.heap[b]? =some (.cells (Pv l).toArray 9 (0,0))
theorem Iu.cell {w:World}{b:Nat}{l:List (List UInt8)}(h:Iu w b l){i:Nat}{x:List UInt8}(hx:l[i]? =some x):w.cell? ⟨b,i,none⟩=some (.string ⟨x.toArray⟩):=by
 unfold Iu at h;simp only[World.cell?,h];simp [Pv,hx]
theorem Iu.frozen {w:World}{b:Nat}{l:List (List UInt8)}(h:Iu w b l)(i:Nat):w.frozen? ⟨b,i,none⟩=false:=by
 unfold Iu at h;simp only[World.frozen?,h];simp
theorem Iu.set {w:World}{b:Nat}{l:List (List UInt8)}(h:Iu w b l)(i:Nat)(x:List UInt8):Iu (w.setCell ⟨b,i,none⟩ (.string ⟨x.toArray⟩)) b (l.set i x):=by
 unfold Iu at h ⊢;rw[A2 h];congr 2;apply Array.ext';simp [Pv,List.map_set]
theorem Iu.below {w w':World}{b:Nat}{l:List (List UInt8)}(h:Iu w b l)(hb:Below w.heap.size w w'):Iu w' b l:=(hb.block b (Ay h)).trans h
theorem gU (n:Nat)(hn:n<=1000000)(w:World):∃w',(Instr.makeSlice 87 (.int .i64 (n:Int)) (.int .i64 (n:Int))).run Tryz.prog w= .ok (.slice (some ⟨w.heap.size,0,none⟩) n n) w'/\Below w.heap.size w w'/\Iu w' w.heap.size (List.replicate n []):=by
 obtain⟨i0,hi,hz0,hz1,hz2⟩:=N6;obtain⟨w',hrun,hown,hg⟩:=run_make_full (P:=Tryz.prog) w w.heap.size 87 9 i0 (.string ⟨#[]⟩) 1 Tryz.underlying87 hi hz0 hz1 .i64 .i64 n (by rw[hz2];omega) tQ (Ak _);refine⟨w',hrun,(Bc.of_grown hg [] (fun k e=>by cases e)).below,?_⟩;rcases hown.2 with ⟨e,_⟩|⟨g,cap,cur,e,_,hgb,_,_,hcs,hct⟩
 ·cases e
 injection e with e1 _ e3;injection e1 with e1;injection e1 with e1;subst e1;subst e3;unfold Iu;rw[hgb];congr 2;apply Array.ext';rw[List.take_of_length_le wH] at hct;rw[hct];simp [madeCells,Pv];rw[List.eq_replicate_iff];refine⟨by simp,fun u hu=>?_⟩;obtain⟨x,_,rfl⟩:=List.mem_map.1 hu
 show(#[Value.string ⟨#[]⟩]:Array Value)[x % 1]! =_
 rw[Nat.mod_one];rfl
def Un (l:List Nz)(k:Nat):List (List UInt8):=Co l k++List.replicate (l.length - k) []
theorem kP {l:List Nz}{k j:Nat}{t:List UInt8}(h:(Co l k)[j]? =some t):(Un l k)[j]? =some t:=by
 unfold Un;rw[List.getElem?_append_left (List.getElem?_eq_some_iff.1 h).1];exact h
theorem lF {l:List Nz}{k:Nat}(hk:k<l.length){t:List UInt8}(ht:Co l (k+1)=Co l k++[t]):(Un l k).set k t=Un l (k+1):=by
 unfold Un;have hl:=E0 l k;obtain⟨m,hm⟩:∃m,l.length - k=m+1:=⟨l.length - k - 1,by omega⟩;rw[List.set_append_right _ _ tE,hl,Nat.sub_self,hm,List.replicate_succ,Ad,ht,show l.length - (k+1)=m by omega,List.append_assoc];rfl
structure cL (w wr:World)(b tb:Nat)(tv:Value)(l:List Nz)(k:Nat):Prop where
 box:wr.heap[b]? =some (.cells #[tv,.slice (some ⟨tb,0,none⟩) l.length l.length] 158 (0,0))
 row:Iu wr tb (Un l k)
 bel:Below w.heap.size w wr
 ne:tb<b
 hi:w.heap.size<=tb
 short:Kw (Co l k)=true
theorem Ri {ts:List (List UInt8)}{t:List UInt8}(h:Kw ts=true)(ht:t.length<=65536):Kw (ts++[t])=true:=by
 unfold Kw at h ⊢;rw[List.all_append,h];simpa using ht
theorem cL.at {w wr:World}{b tb:Nat}{tv:Value}{l:List Nz}{k:Nat}(h:cL w wr b tb tv l k)(ht:TrZ w tv l)(hk:k<=l.length)(ho:∀x∈l,0<=x.h.op):Pq wr b tv tb l (Co l k):=by
 obtain⟨c0,c1,_⟩:=Bo h.box;exact⟨ht.below h.bel,c0,c1,fun j t hj=>h.row.cell (kP hj),by rw[E0];exact hk,ho,Og h.short⟩
theorem cL.next {w wr V:World}{b tb:Nat}{tv:Value}{l:List Nz}{k:Nat}(h:cL w wr b tb tv l k)(hb:Below wr.heap.size wr V)(hk:k<l.length){t:List UInt8}(ht:Co l (k+1)=Co l k++[t])(hs:t.length<=65536):
 cL w (V.setCell ⟨tb,k,none⟩ (.string ⟨t.toArray⟩)) b tb tv l (k+1):=by
 refine⟨?_,?_,(h.bel.trans (hb.mono h.bel.size)).setCell h.hi _,h.ne,h.hi,by rw[ht];exact Ri h.short hs⟩
 ·rw[Below.heap_setCell _ _ _ _ (by show b≠tb;have:=h.ne;omega)];exact(hb.block b (Ay h.box)).trans h.box
 rw[←lF hk ht];exact(h.row.below hb).set k t
theorem Yq {w:World}{tv:Value}{l:List Nz}(ht:TrZ w tv l)(ho:∀x∈l,0<=x.h.op)(hf:∀x∈l,O7 x.h)(hR:Rd w):
 Calls Tryz.prog 38 #[tv] w fun e w'=>e= .returned (.string ⟨(Ra l).toArray⟩)/\Below w.heap.size w w':=by
 have hlm:=ht.1;have HT:=Ax ht;obtain⟨ta,tc,rfl⟩:=ht.slice;obtain⟨W0,hmk,hb0,hrow⟩:=gU l.length hlm w;obtain⟨tb,htb⟩:∃tb,w.heap.size=tb:=⟨_,rfl⟩;obtain⟨W1,hW1⟩:∃W1,W0.alloc (.cells #[.slice ta l.length tc,.slice (some ⟨tb,0,none⟩) l.length l.length] 158)=W1:=⟨_,rfl⟩;have hp1:=A1 W0 (.cells #[.slice ta l.length tc,.slice (some ⟨tb,0,none⟩) l.length l.length] 158);have hb1:Below W0.heap.size W0 W1:=by rw[←hW1];exact(Aq _ _).alloc (Ak _) _
 rw[hW1] at hp1;rw[htb] at hmk;have hlt:tb<W0.heap.size:=by rw[←htb];exact Ay hrow
 have HS:Hid (cL w W1 W0.heap.size tb (.slice ta l.length tc) l 0):=Ax ⟨hp1,by rw[←htb];exact(show Iu W0 w.heap.size (Un l 0) from hrow).below hb1,hb0.trans (hb1.mono hb0.size),hlt,by omega,rfl⟩;have Htb:=Ax htb;have HO:=Ax ho;have HF:=Ax hf;have HR:=Ax hR;clear ht ho hf hR hb0 hrow hp1 hb1 htb hlt;go_enter Tryz.func38,Tryz.ntmps38;go_wp2_with fail
 go_loopw [4,14] (fun v4 v14 wr=>∃k:Nat,k<=l.length/\v14= .int .i64 k/\v4= .string ⟨(eA l k).toArray⟩/\Hid (cL w wr W0.heap.size tb (.slice ta l.length tc) l k)) (fun _ v14 _=>l.length - (intOf v14).toNat)
 case atStart=>exact⟨0,Nat.zero_le _,rfl,rfl,HS⟩
 obtain⟨k,hk,rfl,rfl,hq⟩:=hrel;have hwd:=hq.out;by_cases hkl:k<l.length
 ·have hN:=iQ (x:=l[k]) (hwd.at HT.out hk HO.out) (by rw[E0];exact Ag hkl) (HR.out.below hwd.bel) (HF.out _ (List.getElem_mem hkl));rw[E0] at hN
  have hnx:Co l (k+1)=Co l k++[D9 l[k].h l[k].kids.length (Dy l (Co l k) l[k].kids)]:=by
   rw[Co,Ag hkl]
  obtain⟨t,htt⟩:∃t,D9 l[k].h l[k].kids.length (Dy l (Co l k) l[k].kids)=t:=⟨_,rfl⟩;rw[htt] at hN hnx;have i0:(0:Int)<=(k:Int):=by omega
  have i1:(k:Int)<(l.length:Int):=by omega
  have i2:decide ((k:Int)<(l.length:Int))=true:=Am i1;have HN:=Ax hN;have HW:=Ax hwd;have Hnx:=Ax hnx;obtain⟨c0,c1,_⟩:=Bo hwd.box;clear hN hwd hnx htt hq HS hmk;go_wp2_with fail;refine HN.out.mono ?_;rintro e V ⟨rfl,hbV⟩;have HV:=Ax hbV;obtain⟨d0,d1,_⟩:=Bo ((hbV.block _ (Ay HW.out.box)).trans HW.out.box);clear hbV HN c0 c1;by_cases hbig:65536<t.length
  ·have j1:decide ((65536:Int)<(t.length:Int))=true:=Am tE
   have HZ:Hid (Ra l=[]):=Ax (by
    unfold Ra;rw[Ao];intro hs;have h1:t∈Co l (k+1):=by rw[Hnx.out];simp
    have:=Og hs t (Ry l l.length tE t h1)
    omega)
   clear hbig;go_wp2_with fail;go_ret;exact⟨by rw[HZ.out];rfl,HW.out.bel.trans (HV.out.mono HW.out.bel.size)⟩
  have j1:decide ((65536:Int)<(t.length:Int))=false:=An tE;have hs:t.length<=65536:=by omega
  have hnw:=HW.out.next HV.out hkl Hnx.out hs;have HNW:=Ax hnw;have HL:Hid (eA l (k+1)=t):=Ax (by unfold eA;rw[Hnx.out];simp);have hfz:=(HW.out.row.below HV.out).frozen k
  have hrk:=(HW.out.row.below HV.out).cell (i:=k) (x:=((Un l k)[k]?).getD []) (by
   have:k<(Un l k).length:=by unfold Un;rw[Ab,List.length_replicate,E0];omega
   rw[Ag this];rfl)
  clear hbig hnw;go_wp2_with fail;go_roundw
  case rel=>exact⟨k+1,by omega,by go_num,by rw[HL.out],HNW⟩
  case measure=>simp [intOf];omega
 obtain rfl:k=l.length:=by omega
 have i2:decide ((l.length:Int)<(l.length:Int))=false:=by simp
 have HZ:Hid (Ra l=eA l l.length):=Ax (by unfold Ra;rw[Ap hwd.short];rfl);have HB:=Ax hwd.bel;clear hwd hq HS hmk hkl;go_wp2_with fail;go_ret;exact⟨by rw[HZ.out];rfl,HB.out⟩
def G4 (l:List Nz):Option (List UInt8):=if 60<l.length then none else match Bj (Ra l) with
 | .ok u=>if E6 l ((u.flat 0).map Nd.z)=true then some (Ra l) else none
 | .error _=>none
def kX:Option (List UInt8)->Int
 |some _=>0
 |none=>4
theorem fG {w:World}{tv:Value}{l:List Nz}(ht:TrZ w tv l)(ho:∀x∈l,0<=x.h.op)(hf:∀x∈l,O7 x.h)(hR:Rd w):
 Calls Tryz.prog 15 #[tv] w fun e w'=>e= .returned (.tuple #[.string ⟨((G4 l).getD []).toArray⟩,.int .i64 (kX (G4 l))])/\Below w.heap.size w w':=by
 obtain⟨ta,tc,rfl⟩:=ht.slice;have hlm:=ht.1;by_cases h60:60<l.length
 ·have hz:G4 l=none:=by unfold G4;rw[Ap h60]
  rw[hz];have i1:decide ((60:Int)<(l.length:Int))=true:=Am tE;clear ht ho hf hR hz h60;go_enter Tryz.func15,Tryz.ntmps15;go_wp2_with fail;go_ret2;exact⟨rfl,Aq _ _⟩
 have i1:decide ((60:Int)<(l.length:Int))=false:=An tE;have HW:=Ax (Yq ht ho hf hR);have hsz:=mK l;obtain⟨s,hs⟩:∃s,Ra l=s:=⟨_,rfl⟩
 have hz:G4 l=match Bj s with
  | .ok u=>if E6 l ((u.flat 0).map Nd.z)=true then some s else none
  | .error _=>none:=by unfold G4;rw[Ao h60,hs]
 rw[hs] at HW hsz;have HT:=Ax ht;cases hr:Bj s with
 |error p=>
  obtain⟨⟨x,y⟩,q⟩:=p;rw[hr] at hz;simp only at hz;rw[hz];have hq:=Wk hr;have hq1:(q !=0)=true:=by simpa using hq
  have HL:=fun V hV=>Ax (sX (s:=⟨s.toArray⟩) V (by show s.toArray.size<=_;simp;omega) hV (show Bj (dl ⟨s.toArray⟩)=_ from hr))
  have HR:=Ax hR;clear ht ho hf hR hz h60 hs hr hq;go_enter Tryz.func15,Tryz.ntmps15;go_wp2_with fail;refine HW.out.mono ?_;rintro e V1 ⟨rfl,hb1⟩;have HB1:=Ax hb1;clear hb1 HW;go_wp2_with fail;refine(HL _ (HR.out.below HB1.out)).out.mono ?_;rintro e V2 ⟨rfl,hb2⟩;have HB2:=Ax (HB1.out.trans (hb2.mono HB1.out.size));clear hb2 HL;go_wp2_with fail;go_ret2;exact⟨rfl,HB2.out.alloc HB2.out.size _⟩
 |ok u=>
  rw[hr] at hz;simp only at hz;have HL:=fun V hV=>Ax (sR (s:=⟨s.toArray⟩) V (by show s.toArray.size<=_;simp;omega) hV (show Bj (dl ⟨s.toArray⟩)=_ from hr))
  have HSL:=Ax (U4 hr);have hu60:u.size<=60:=by obtain⟨_,_,_,h3⟩:=D0 hr;exact h3
  have HR:=Ax hR;obtain⟨m,hm⟩:∃m,E6 l ((u.flat 0).map Nd.z)=m:=⟨_,rfl⟩;rw[hm] at hz;have HM:=Ax hm;have HZ:=Ax hz;clear ht ho hf hR h60 hs hr hm hz;go_enter Tryz.func15,Tryz.ntmps15;go_wp2_with fail;refine HW.out.mono ?_;rintro e V1 ⟨rfl,hb1⟩;have HB1:=Ax hb1;clear hb1 HW;go_wp2_with fail;refine(HL _ (HR.out.below HB1.out)).out.mono ?_;rintro e V2 ⟨uv,rfl,htu,hb2⟩;have hb3:=HB1.out.trans (hb2.mono HB1.out.size);have hV3:Below V2.heap.size V2 (V2.alloc (.cells #[.int .i64 0,.int .i64 0] 26)):=(Aq _ V2).alloc (Ak _) _;have hzu:=(htu.z vO HSL.out).below hV3;have hb4:=hb3.trans (hV3.mono hb3.size);have hsm:=nB _ (HT.out.below hb4) hzu;rw[HM.out] at hsm;have HSM:=Ax hsm;have HB4:=Ax hb4;obtain⟨ua,uc,rfl⟩:=htu.slice;clear hb2 hb3 hV3 hzu hb4 hsm htu HL;go_wp2_with fail;refine HSM.out.mono ?_;rintro e V5 ⟨rfl,hb5⟩;have HB5:=Ax (HB4.out.trans (hb5.mono HB4.out.size));clear hb5 HSM;cases m with
  |true=>
   go_wp2_with fail;go_ret2;exact⟨by rw[HZ.out];rfl,HB5.out⟩
  |false=>
   go_wp2_with fail;go_ret2;exact⟨by rw[HZ.out];rfl,HB5.out⟩
theorem oJ {w:World}{tv:Value}{l:List Nz}(ht:TrZ w tv l)(ho:∀x∈l,0<=x.h.op)(hf:∀x∈l,O7 x.h)(hR:Rd w):
 Calls Tryz.prog 17 #[tv] w fun e w'=>e= .returned (.bool (G4 l).isSome)/\Below w.heap.size w w':=by
 have HT:=Ax (fG ht ho hf hR);obtain⟨ta,tc,rfl⟩:=ht.slice;cases hz:G4 l with
 |some t=>
  exact zx2
 |none=>
  exact zx2
open Go Go.RowKit Go.Lib Go.Sort Go.Shelf
mutual
def Ex.texts:Ex->List (List UInt8)| .mk h ks=>Gc ks++[P3 h (Jv ks)]
def Gc:List Ex->List (List UInt8)|[]=>[]|e::es=>e.texts++Gc es
end
mutual
theorem Ex.texts_len:∀e:Ex,e.texts.length=e.size
 | .mk h ks=>by rw[Ex.texts,Ab,Jp ks,Ex.size];rfl
theorem Jp:∀l:List Ex,(Gc l).length=Bf l
 |[]=>rfl
 |e::l=>by rw[Gc,Ab,Ex.texts_len e,Jp l,Bf]
end
theorem Ex.texts_last (e:Ex):e.texts[e.size - 1]? =some e.text:=by
 cases e with
 |mk h ks=>
  rw[Ex.texts,Ex.size,Nat.add_sub_cancel,List.getElem?_append_right (by rw[Jp];omega),Jp,Nat.sub_self,Ex.text];rfl
theorem Ex.flat_last (e:Ex)(b:Nat):∃n,(e.flat b)[e.size - 1]? =some n/\n.h=e.hd:=by
 cases e with
 |mk h ks=>
  refine⟨⟨h,Ct ks b⟩,?_,rfl⟩;rw[Ex.flat,Ex.size,Nat.add_sub_cancel,List.getElem?_append_right (by rw[Cd];omega),Cd,Nat.sub_self];rfl
theorem eU:∀(es:List Ex) (b k m:Nat) (e:Ex),es[k]? =some e->(Ct es b)[k]? =some m->b<=m/\m<b+Bf es/\(∃n,(Bz es b)[m - b]? =some n/\n.h=e.hd)/\(Gc es)[m - b]? =some e.text
 |[],_,k,_,_,h,_=>by simp at h
 |x::es,b,0,m,e,h,hm=>by
  injection h with h;subst h;have hp:=x.size_pos;have hm':b+x.size - 1=m:=by injection hm
  subst hm';obtain⟨n,h1,h2⟩:=x.flat_last b;rw[Bf,show b+x.size - 1 - b=x.size - 1 by omega];refine⟨by omega,by omega,⟨n,?_,h2⟩,?_⟩
  ·rw[Bz,List.getElem?_append_left vO];exact h1
  rw[Gc,List.getElem?_append_left (by rw[Ex.texts_len];omega)];exact x.texts_last
 |x::es,b,k+1,m,e,h,hm=>by
  obtain⟨h1,h2,⟨n,h3,h4⟩,h5⟩:=eU es (b+x.size) k m e uB (by simpa[Ct] using hm);rw[Bf];refine⟨by omega,by omega,⟨n,?_,h4⟩,?_⟩
  ·rw[Bz,List.getElem?_append_right vO,Ex.flat_len,show m - b - x.size=m - (b+x.size) by omega];exact h3
  rw[Gc,List.getElem?_append_right (by rw[Ex.texts_len];omega),Ex.texts_len,show m - b - x.size=m - (b+x.size) by omega];exact h5
theorem oP {h:Hd}(h1:1<=h.op)(ks:List Ex)(F:Nat->Nat->List UInt8)(hF:∀k n,F k n=Um (Jv ks) k n):D9 h ks.length F=P3 h (Jv ks):=by
 unfold D9 P3;by_cases o1:h.op=1
 ·rw[Ap o1,Ap tE];unfold Km;rw[Ap o1]
 rw[Ao o1];by_cases o2:h.op=2
 ·rw[Ap o2,Ap tE];unfold Km;rw[Ao o1,Ap o2]
 rw[Ao o2];by_cases o3:h.op=3
 ·rw[Ap o3,Ap tE];unfold Km;rw[Ao o1,Ao o2]
 have o4:¬h.op<=3:=by omega
 rw[Ao o3,Ao o4]
 have hjoin:(List.range ks.length).map (fun k=>F k 0)=(Jv ks).map Prod.snd:=by
  rw[J5,List.map_map];refine List.ext_getElem tH fun i g1 g2=>?_
  have hi:i<ks.length:=by simpa using g1
  rw[List.getElem_map,List.getElem_range,hF];unfold Um;rw[J5,List.getElem?_map,Ag hi];simp
 rw[hjoin,hF,hF,hF,hF]
theorem Zh:∀(k:Nat),(∀(e:Ex) (b:Nat) (L pre post:List Nz),e.size<=k->e.All F8->L=pre++((e.flat b).map Nd.z++post)->pre.length=b->Co L (b+e.size)=Co L b++e.texts)/\
 (∀(es:List Ex) (b:Nat) (L pre post:List Nz),Bf es<=k->Kb F8 es->L=pre++((Bz es b).map Nd.z++post)->pre.length=b->Co L (b+Bf es)=Co L b++Gc es):=by
 intro k
 induction k with
 |zero=>
  refine⟨fun e b L pre post h=>absurd e.size_pos tE,fun es b L pre post h _ _ _=>?_⟩;cases es with
  |nil=>rw[Bf,Nat.add_zero,Gc,List.append_nil]
  |cons e es=>rw[Bf] at h;exact absurd e.size_pos tE
 |succ k ih=>
  have one:∀(e:Ex) (b:Nat) (L pre post:List Nz),e.size<=k+1->e.All F8->L=pre++((e.flat b).map Nd.z++post)->pre.length=b->Co L (b+e.size)=Co L b++e.texts:=fun e b L pre post hs hg hL hp=>by
   cases e with
   |mk h ks=>
    rw[Ex.size] at hs ⊢;rw[Ex.All] at hg;rw[Ex.flat,List.map_append,List.append_assoc] at hL;have h1:=ih.2 ks b L pre _ tE hg.2 hL hp
    have hat:L[b+Bf ks]? =some (Nd.z ⟨h,Ct ks b⟩):=by
     rw[hL,List.getElem?_append_right tE,List.getElem?_append_right (by rw[List.length_map,Cd];omega),List.length_map,Cd,hp,show b+Bf ks - b - Bf ks=0 by omega];rfl
    rw[←Nat.add_assoc,Co,hat,h1,Ex.texts,List.append_assoc];congr 2;have hlen:(Nd.z ⟨h,Ct ks b⟩).kids.length=ks.length:=by simp [Nd.z,Il]
    show[D9 h (Nd.z ⟨h,Ct ks b⟩).kids.length (Dy L (Co L b++Gc ks) (Nd.z ⟨h,Ct ks b⟩).kids)]=[P3 h (Jv ks)]
    rw[hlen,oP hg.1.op1];intro i n;unfold Dy Um;rw[J5,List.getElem?_map];have hkz:(Nd.z ⟨h,Ct ks b⟩).kids[i]? =((Ct ks b)[i]?).map fun(x:Nat)=>(x:Int):=by simp [Nd.z]
    rw[hkz];by_cases hi:i<ks.length
    ·have hi2:i<(Ct ks b).length:=by rw[Il];exact hi
     rw[Ag hi,Ag hi2];obtain⟨e1,e2,⟨nd,e3,e4⟩,e5⟩:=eU ks b i _ _ (Ag hi) (Ag hi2);obtain⟨m,hm⟩:∃m,(Ct ks b)[i]=m:=⟨_,rfl⟩;rw[hm] at e1 e2 e3 e5 ⊢
     have hLm:L[m]? =some (Nd.z nd):=by
      rw[hL,List.getElem?_append_right tE,hp,List.getElem?_append_left (by rw[List.length_map,Cd];omega),List.getElem?_map,e3];rfl
     have hTm:(Co L b++Gc ks)[m]? =some ks[i].text:=by
      rw[List.getElem?_append_right (by rw[E0];omega),E0];exact e5
     simp only[Option.map_some,Int.toNat_natCast];rw[Ap (by rw[Ab,E0,Jp];omega),hLm,hTm];simp only;rw[show(Nd.z nd).h=ks[i].hd from e4]
    have g1:ks[i]? =none:=List.getElem?_eq_none tE;have g2:(Ct ks b)[i]? =none:=List.getElem?_eq_none (by rw[Il];omega);rw[g1,g2];rfl
  refine⟨one,fun es=>?_⟩
  induction es with
  |nil=>intro b L pre post _ _ _ _;rw[Bf,Nat.add_zero,Gc,List.append_nil]
  |cons e es ihs=>
   intro b L pre post hs hg hL hp;rw[Bf] at hs ⊢;rw[Bz,List.map_append,List.append_assoc] at hL;have h1:=one e b L pre _ tE hg.1 hL hp;have hes:=e.size_pos;have h2:=ihs (b+e.size) L (pre++(e.flat b).map Nd.z) post tE hg.2 (by rw[hL,List.append_assoc]) (by rw[Ab,List.length_map,Ex.flat_len,hp]);rw[←Nat.add_assoc,h2,h1,Gc,List.append_assoc]
theorem jL {a:Ex}(hg:a.All F8)(h60:a.size<=60):Ra ((a.flat 0).map Nd.z)=a.text:=by
 have h1:=(Zh a.size).1 a 0 ((a.flat 0).map Nd.z) [] [] (Ak _) hg tH rfl;have hlen:((a.flat 0).map Nd.z).length=a.size:=by rw[List.length_map,Ex.flat_len]
 rw[Nat.zero_add,Co,List.nil_append] at h1
 have hsh:∀(k:Nat),(∀e:Ex,e.size<=k->e.All F8->e.size<=60->Kw e.texts=true)/\(∀es:List Ex,Bf es<=k->Kb F8 es->Bf es<=60->Kw (Gc es)=true):=fun k=>by
  induction k with
  |zero=>
   refine⟨fun e h=>absurd e.size_pos tE,fun es h _ _=>?_⟩;cases es with
   |nil=>rfl
   |cons e es=>rw[Bf] at h;exact absurd e.size_pos tE
  |succ k ih=>
   have one:∀e:Ex,e.size<=k+1->e.All F8->e.size<=60->Kw e.texts=true:=fun e h hg h6=>by
    cases e with
    |mk hd ks=>
     have hs:=Ts _ (.mk hd ks) (Ak _) hg;rw[Ex.size] at h h6 hs;rw[Ex.All] at hg;rw[Ex.texts];refine Ri (ih.2 ks tE hg.2 tE) ?_;rw[Ex.text] at hs;omega
   refine⟨one,fun es=>?_⟩
   induction es with
   |nil=>intro _ _ _;rfl
   |cons e es ihs=>
    intro h hg h6;rw[Bf] at h h6;rw[Gc];have h1:=one e tE hg.1 tE;have h2:=ihs (by have:=e.size_pos;omega) hg.2 tE;unfold Kw at h1 h2 ⊢;rw[List.all_append,h1,h2];rfl
 unfold Ra;rw[hlen,h1,Ap ((hsh a.size).1 a (Ak _) hg h60)];have hl:=a.texts_last;rw[←a.texts_len,←List.getLast?_eq_getElem?] at hl;rw[hl];rfl
theorem bK {l:List UInt8}{a:Ex}(h:Bj l= .ok a):G4 ((a.flat 0).map Nd.z)=some a.text:=by
 obtain⟨_,_,_,h60⟩:=D0 h;obtain⟨a',h1,h2⟩:=gB h;unfold G4;rw[Ao (by rw[List.length_map,Ex.flat_len];omega),jL (Nv h) h60,h1];simp only;rw[Ap (Yi h2.symm)]
theorem Yb {l:List UInt8}{v:Int×Int×List UInt8}(h:D2 l= .ok v){n:List UInt8}{a b:Int}(hn:n=[]:=by rfl):O7 ⟨1,v,n,a,b⟩:=by
 subst hn;have hf:=Wh l;have hl:l.length<=402:=by obtain⟨k,m,s⟩:=v;exact(Xb h).2.2.2
 have hr:Eu l= .ok v:=by
  unfold D2 at h
  repeat' split at h
  all_goals first
   |(cases h;done)
   |(injection h with h;subst h;assumption)
 rw[hr] at hf;obtain⟨h1,h2,h3⟩:=hf;refine⟨h1,h2,?_,by simp⟩;show v.2.2.length<=1000000;omega
theorem kD {t:Tkn}{h:Hd}(hf:Qp t.w)(he:B8 t=some h):O7 h:=by
 obtain⟨⟨k,t,v⟩,l,c⟩:=t;unfold B8 at he;simp only at he;cases hf with
 |name hk ht hv=>
  simp only at hk ht hv;subst hk hv;rw[Ao tG,Ao tG,Ao tG,Ap rfl] at he;cases hc:De t with
  |some x=>rw[hc] at he;cases he
  |none=>
   rw[hc] at he;cases hl:Lf t with
   |none=>rw[hl] at he;cases he
   |some v=>
    rw[hl] at he;injection he with he;subst he;unfold Lf at hl
    repeat' split at hl
    all_goals first
     |(cases hl;done)
     |(injection hl with hl;subst hl;refine⟨?_,?_,?_,?_⟩<;>simp [v0];done)
 |var hk ht hv=>
  simp only at hk ht hv;subst hk hv;rw[Ao tG,Ap rfl] at he;injection he with he;subst he
  have:=(Fm ht).2.1
  refine⟨by simp [v0],by simp [v0],by simp [v0],?_⟩;show t.length<=1000000;omega
 |self hk ht hv=>
  simp only at hk ht hv;subst hk ht hv;rw[Ao tG,Ao tG,Ap rfl] at he;injection he with he;subst he;refine⟨?_,?_,?_,?_⟩<;>simp [v0]
 |num hk ht hm=>
  simp only at hk ht;subst hk;rw[Ap tG] at he;injection he with he;subst he;exact Yb ht
 |str hk ht hm hs=>
  simp only at hk ht;subst hk;rw[Ap tG] at he;injection he with he;subst he;exact Yb ht
 |sym hk ht hv=>
  simp only at hk ht hv;subst hk hv;rw[Ap tG] at he;injection he with he;subst he
  have:=(Fm ht).2.1
  refine⟨by simp,by simp,?_,by simp⟩;show t.length<=1000000;omega
 |sign hk _ _=>
  simp only at hk;subst hk;rw[Ao tG,Ao tG,Ao tG,Ao tG] at he;cases he
theorem Wq {l:List UInt8}{a:Ex}(h:Bj l= .ok a):∀x∈(a.flat 0).map Nd.z,0<=x.h.op/\O7 x.h:=by
 obtain⟨ts,h1,h2,_⟩:=D0 h;have hg:=Nv h
 have hl:a.All (fun h k=>h.op<=3->O7 h):=by
  refine Wv (P:=fun h _=>h.op<=3->O7 h) (W:=fun t=>Qp t.w) ?_ ?_ ?_ ?_ (.lvl 0) 0 ts vB trivial (fun t ht=>Qg h1 t ht) a [] h2
  ·exact fun t hd hf he _=>kD hf he
  ·intro n t hn _ h3
   have:=(show 3<K4 n by rcases hn with rfl|rfl<;>decide)
   have h4:K4 n<=3:=h3;omega
  ·intro n t q _ hz h3
   have:=Oe n _ (Nh hz)
   simp only at h3;omega
  intro t c k _ hc _ _ h3;have h4:=(Tl hc).1;unfold Gf at h4;simp only at h3;omega
 intro x hx;obtain⟨n,hn,rfl⟩:=List.mem_map.1 hx;obtain⟨g1,g2⟩:=T3 a 0 (hg.and hl) n hn;have ho:=g1.op1;refine⟨by show 0<=n.h.op;omega,?_⟩;show O7 n.h;by_cases h3:n.h.op<=3
 ·exact g2 h3
 obtain⟨e1,e2⟩:=g1.inner tE;unfold O7;rw[e1,e2];refine⟨?_,?_,?_,?_⟩<;>simp [v0]
open Go Go.Lib
inductive Ex.Sub:Ex->Ex->Prop where
 |self (e:Ex):Ex.Sub e e
 |kid {s e:Ex} {h:Hd} {ks:List Ex} (he:e∈ks) (hs:Ex.Sub s e):Ex.Sub s (.mk h ks)
theorem T0:∀(l:List Ex) (b:Nat),∀x∈Ct l b,b<=x/\x<b+Bf l
 |[],_,x,h=>by cases h
 |e::l,b,x,h=>by
  have hp:=e.size_pos;rw[Bf];rw[Ct] at h;rcases List.mem_cons.1 h with rfl|h
  ·omega
  have:=T0 l (b+e.size) x h
  omega
theorem iI:∀(k:Nat),(∀(e:Ex) (b j:Nat) (n:Nd),e.size<=k->(e.flat b)[j]? =some n->∀x∈n.kids,b<=x/\x<b+j)/\
 (∀(l:List Ex) (b j:Nat) (n:Nd),Bf l<=k->(Bz l b)[j]? =some n->∀x∈n.kids,b<=x/\x<b+j):=by
 intro k
 induction k with
 |zero=>
  refine⟨fun e b j n h=>?_,fun l b j n h hj=>?_⟩
  ·have:=e.size_pos;omega
  have:=(List.getElem?_eq_some_iff.1 hj).1
  rw[Cd] at this;omega
 |succ k ih=>
  have one:∀(e:Ex) (b j:Nat) (n:Nd),e.size<=k+1->(e.flat b)[j]? =some n->∀x∈n.kids,b<=x/\x<b+j:=fun e b j n h hj x hx=>by
   cases e with
   |mk hd ks=>
    rw[Ex.size] at h;rw[Ex.flat] at hj;by_cases hlt:j<Bf ks
    ·rw[List.getElem?_append_left (by rw[Cd];exact hlt)] at hj;exact ih.2 ks b j n tE hj x hx
    rw[List.getElem?_append_right (by rw[Cd];omega),Cd] at hj;obtain⟨m,hm⟩:∃m,j - Bf ks=m:=⟨_,rfl⟩;rw[hm] at hj;cases m with
    |zero=>
     injection hj with hj;subst hj
     have:=T0 ks b x hx
     omega
    |succ m=>cases hj
  refine⟨one,fun l=>?_⟩
  induction l with
  |nil=>intro b j n _ hj;cases hj
  |cons e l il=>
   intro b j n h hj x hx;rw[Bf] at h;rw[Bz] at hj;by_cases hlt:j<e.size
   ·rw[List.getElem?_append_left (by rw[Ex.flat_len];exact hlt)] at hj;exact one e b j n tE hj x hx
   rw[List.getElem?_append_right vO,Ex.flat_len] at hj
   have:=il (b+e.size) (j - e.size) n (by have:=e.size_pos;omega) hj x hx
   omega
theorem Ex.Sub.all {P:Hd->Nat->Prop}{s e:Ex}(h:Ex.Sub s e)(ha:e.All P):s.All P:=by
 induction h with
 |self=>exact ha
 |kid he _ ih=>exact ih (Jt ha.2 _ he)
theorem Ex.Sub.size {s e:Ex}(h:Ex.Sub s e):s.size<=e.size:=by
 induction h with
 |self=>exact Ak _
 |kid he _ ih=>
  rw[Ex.size]
  have:=K9 he
  omega
theorem oH {h:Hd}{ks:List Ex}(hg:(Ex.mk h ks).All F8){e:Ex}(he:e∈ks):e.need<=(Ex.mk h ks).need:=by
 rw[Ex.All] at hg;cases G6 hg.1 with
 |leaf h1 h3 ok=>cases he
 |pre n hn ho=>
  rw[(Ky hn ho _).2.2,List.mem_singleton.1 he,D6];omega
 |mid hi=>
  rw[(L4 hi _ _).2.2];rcases List.mem_cons.1 he with rfl|he
  ·have:=D6 (Fc (A8 h.op)) e
   omega
  rw[List.mem_singleton.1 he]
  have:=D6 (A8 h.op+1)
  simp only[this];omega
 |call hc q1 q2=>
  rw[(I6 hc _).2.2]
  have:=eR (List.mem_map_of_mem (f:=Ex.need) he)
  omega
theorem Ex.Sub.need {s e:Ex}(h:Ex.Sub s e)(ha:e.All F8):s.need<=e.need:=by
 induction h with
 |self=>exact Ak _
 |kid he _ ih=>exact Al (ih (Jt ha.2 _ he)) (oH ha he)
def InT (t u:List UInt8):Prop:=∃A B,u=A++(t++B)
theorem InT.refl (t:List UInt8):InT t t:=⟨[],[],by simp⟩
theorem InT.left {t u:List UInt8}(h:InT t u)(r:List UInt8):InT t (u++r):=by
 obtain⟨A,B,rfl⟩:=h;exact⟨A,B++r,by simp⟩
theorem InT.right {t u:List UInt8}(h:InT t u)(r:List UInt8):InT t (r++u):=by
 obtain⟨A,B,rfl⟩:=h;exact⟨r++A,B,by simp⟩
theorem InT.cons {t u:List UInt8}(h:InT t u)(c:UInt8):InT t (c::u):=h.right [c]
theorem InT.par {t u:List UInt8}(h:InT t u):InT t (Nc u):=(h.left [41]).cons 40
theorem InT.at {t:List UInt8}{e:Ex}(h:InT t e.text)(n:Nat):InT t (Iz n e):=by
 unfold Iz
 split
 ·exact h.par
 exact h
theorem InT.args {t:List UInt8}{e:Ex}(h:InT t e.text):∀{l:List Ex},e∈l->InT t (Gl [44,32] (l.map Ex.text))
 |[],he=>by cases he
 |[x],he=>by rw[List.mem_singleton.1 he] at h;exact h
 |x::y::l,he=>by
  show InT t (x.text++([44,32]++Gl [44,32] ((y::l).map Ex.text)));rcases List.mem_cons.1 he with rfl|he
  ·exact h.left _
  exact((InT.args h he).right _).right _
theorem nV {h:Hd}{ks:List Ex}(hg:(Ex.mk h ks).All F8){e:Ex}(he:e∈ks){t:List UInt8}(ht:InT t e.text):InT t (Ex.mk h ks).text:=by
 rw[Ex.All] at hg;cases G6 hg.1 with
 |leaf h1 h3 ok=>cases he
 |pre n hn ho=>
  rw[(Ky hn ho _).1];rw[List.mem_singleton.1 he] at ht;exact(ht.at n).right _
 |mid hi=>
  rw[(L4 hi _ _).1];rcases List.mem_cons.1 he with rfl|he
  ·exact(ht.at _).left _
  rw[List.mem_singleton.1 he] at ht;exact((((ht.at _).cons 32).right _).cons 32).right _
 |call hc q1 q2=>
  rw[(I6 hc _).1];exact((ht.args he).par).right _
theorem Ex.Sub.text {s e:Ex}(h:Ex.Sub s e)(ha:e.All F8):InT s.text e.text:=by
 induction h with
 |self=>exact .refl _
 |kid he _ ih=>exact nV ha he (ih (Jt ha.2 _ he))
open Go Go.RowKit Go.Lib
structure S7 (l:List Nz):Prop where
 ne:0<l.length
 len:l.length<=60
 op:∀i (h:i<l.length),1<=l[i].h.op/\l[i].h.op<=26
 few:∀i (h:i<l.length),(D4 l[i].h.op).1<=l[i].kids.length/\l[i].kids.length<=(D4 l[i].h.op).2
 kids:∀i (h:i<l.length),∀k∈l[i].kids,0<=k/\k<(i:Int)
 lit:∀i (h:i<l.length),l[i].h.op=1->0<=l[i].h.v.1/\l[i].h.v.1<=5
theorem Mr.kind {h:Hd}(hl:Mr h)(h1:h.op=1):0<=h.v.1/\h.v.1<=5:=by
 have ha:=hl.again 0 0;by_cases ha1:h.v.1=1\/h.v.1=2
 ·omega
 by_cases ha3:h.v.1=3
 ·omega
 by_cases ha5:h.v.1=5
 ·omega
 have hw:I3 h=⟨1,Po h.v.1 h.v.2.1 h.v.2.2,v0⟩:=by
  unfold I3;rw[Ao tE,Ao tE,Ao ha1,Ao ha3,Ao ha5]
 rw[hw] at ha;unfold B8 at ha;rw[Ao (show ¬((1:Int)=4\/(1:Int)=5\/(1:Int)=6) by decide),Ao (show ¬(1:Int)=2 by decide),Ao (show ¬(1:Int)=3 by decide),Ap (show(1:Int)=1 from rfl)] at ha;simp only at ha
 split at ha
 ·cases ha
 unfold Lf at ha
 have key:∀v:Int×Int×List UInt8,(0<=v.1/\v.1<=5)->((some v).map fun v=>(⟨1,v,[],0,0⟩:Hd)).map Hd.bare=some h.bare->0<=h.v.1/\h.v.1<=5:=fun v hv e=>by
  injection e with e;have e2:=Ar (fun x:Hd=>x.v.1) e;have e3:v.1=h.v.1:=e2;omega
 split at ha
 ·exact key _ tG ha
 split at ha
 ·exact key _ tG ha
 split at ha
 ·exact key _ tG ha
 cases ha
theorem Mn {l:List Nz}{t:List UInt8}(h:G4 l=some t):S7 l:=by
 unfold G4 at h;by_cases h60:60<l.length
 ·rw[Ap h60] at h;cases h
 rw[Ao h60] at h;cases hr:Bj (Ra l) with
 |error p=>
  rw[hr] at h;cases h
 |ok u=>
  rw[hr] at h;simp only at h;by_cases hs:E6 l ((u.flat 0).map Nd.z)=true
  ·have hb:=(Ls _ _).1 hs;have hall:=T3 u 0 (Nv hr)
   have hn:l.length=u.size:=by
    have:=Ar List.length hb
    simpa[Ex.flat_len] using this
   have key:∀i (h:i<l.length),∃n:Nd,(u.flat 0)[i]? =some n/\(l[i].h.op=n.h.op/\l[i].h.v=n.h.v)/\l[i].kids=n.kids.map fun(k:Nat)=>(k:Int):=fun i hi=>by
    have hi2:i<(u.flat 0).length:=by rw[Ex.flat_len];omega
    have e:=Ar (fun m=>m[i]?) hb;simp only[List.getElem?_map,Ag hi,Ag hi2,Option.map_some,Option.some.injEq] at e;refine⟨_,Ag hi2,?_,?_⟩
    ·have h1:=Ar (fun x:Nz=>x.h.op) e;have h2:=Ar (fun x:Nz=>x.h.v) e;exact⟨h1,h2⟩
    have:=Ar (fun x:Nz=>x.kids) e
    exact this
   have hok:∀i (h:i<l.length),∃n:Nd,(l[i].h.op=n.h.op/\l[i].h.v=n.h.v)/\l[i].kids=(n.kids.map fun(k:Nat)=>(k:Int))/\F8 n.h n.kids.length/\∀x∈n.kids,x<i:=fun i hi=>by
    obtain⟨n,h1,h2,h3⟩:=key i hi;refine⟨n,h2,h3,hall n (List.mem_of_getElem? h1),fun x hx=>?_⟩
    have:=((iI u.size).1 u 0 i n (Ak _) h1 x hx).2
    omega
   refine⟨by have:=Ex.size_pos u;omega,by omega,fun i hi=>?_,fun i hi=>?_,fun i hi k hk=>?_,fun i hi h1=>?_⟩
   ·obtain⟨n,⟨h1,_⟩,_,h3,_⟩:=hok i hi;rw[h1];exact⟨h3.op1,h3.op2⟩
   ·obtain⟨n,⟨h1,_⟩,h2,h3,_⟩:=hok i hi;rw[h1,h2,List.length_map];exact⟨h3.few,h3.many⟩
   ·obtain⟨n,_,h2,_,h4⟩:=hok i hi;rw[h2] at hk;obtain⟨x,hx,rfl⟩:=List.mem_map.1 hk
    have:=h4 x hx
    omega
   obtain⟨n,⟨g1,g2⟩,_,h3,_⟩:=hok i hi;rw[g2];rw[g1] at h1;exact(h3.leaf tE).kind h1
  rw[Ao hs] at h;cases h
def Ks (vars:List (List UInt8×Int))(self:Int)(ks:List Int)(x:Nz):Int×Int:=
 if x.kids=[] then Mk x.h vars self else if Fa x.h.op (x.kids.map fun j=>ks.getD j.toNat 0)=255 then(0,8) else(Fa x.h.op (x.kids.map fun j=>ks.getD j.toNat 0),0)
def ofE (vars:List (List UInt8×Int))(self:Int):List Nz->List Int->Except ((Int×Int)×Int) (List Int)
 |[],ks=> .ok ks
 |x::r,ks=>if(Ks vars self ks x).2=0 then ofE vars self r (ks++[(Ks vars self ks x).1]) else .error ((x.h.line,x.h.col),(Ks vars self ks x).2)
theorem Mo {vars:List (List UInt8×Int)}{self:Int}:∀{l:List Nz} {ks r:List Int} (_:ofE vars self l ks= .ok r) (m:List Nz),ofE vars self (l++m) ks=ofE vars self m r
 |[],ks,r,h,m=>by
  injection h with h;subst h;rfl
 |x::l,ks,r,h,m=>by
  unfold ofE at h;rw[List.cons_append];rw[ofE]
  split at h
  ·rename_i hz
   rw[Ap hz];exact Mo h m
  cases h
def ofP (vars:List (List UInt8×Int))(self:Int)(l:List Nz):Int×(Int×Int)×Int:=match G4 l with
 |none=>(0,(0,0),4)
 |some _=>match ofE vars self l [] with
  | .ok ks=>(ks.getLastD 0,(0,0),0)
  | .error p=>(0,p)
open Go Go.RowKit Go.Lib
theorem bF {op:Int}(h1:1<=op)(h26:op<=26)(h:(D4 op).1=0):op<=3:=by
 rcases (show op<=3\/op=4\/op=5\/op=6\/op=7\/op=8\/op=9\/op=10\/op=11\/op=12\/op=13\/op=14\/op=15\/op=16\/op=17\/op=18\/op=19\/op=20\/op=21\/op=22\/op=23\/op=24\/op=25\/op=26 by omega) with h3|h3|h3|h3|h3|h3|h3|h3|h3|h3|h3|h3|h3|h3|h3|h3|h3|h3|h3|h3|h3|h3|h3|h3
 ·exact h3
 all_goals
  subst h3;exact absurd h tG
theorem S7.leaf {l:List Nz}(hg:S7 l){x:Nz}(hx:x∈l)(hk:x.kids=[]):x.h.op=1\/x.h.op=2\/x.h.op=3:=by
 obtain⟨i,hi,rfl⟩:=List.getElem_of_mem hx;have h1:=hg.op i hi;have h2:=(hg.few i hi).1;rw[hk,List.length_nil] at h2
 have:=bF h1.1 h1.2 tE
 omega
theorem S7.self {l:List Nz}(hg:S7 l){x:Nz}(hx:x∈l)(h3:x.h.op=3):x.kids=[]:=by
 obtain⟨i,hi,rfl⟩:=List.getElem_of_mem hx;have h2:=(hg.few i hi).2;rw[h3] at h2;exact List.eq_nil_of_length_eq_zero (Nat.le_zero.1 h2)
theorem eJ {vars:List (List UInt8×Int)}{self:Int}:∀{l:List Nz} {ks:List Int} {p:(Int×Int)×Int},ofE vars self l ks= .error p->p.2≠0
 |[],_,_,h=>by cases h
 |y::l,ks,p,h=>by
  unfold ofE at h
  split at h
  ·exact eJ h
  rename_i hz
  injection h with h;subst h;exact hz
open Go Go.RowKit Go.Lib
theorem mN.of_row {w:World}{B:Nat}{v:Value}{l:List (List UInt8)}(hl:l.length<=1000000)(h:w.ownsRow B 9 1 v l.length (Pv l)):mN w v l:=by
 rcases h.2 with ⟨e,h0⟩|⟨g,cap,cur,rfl,_,hg,hc,_⟩
 ·have:l=[]:=List.eq_nil_of_length_eq_zero h0
  subst this;exact⟨hl,none,0,e,fun i hi=>by simp at hi⟩
 refine⟨hl,_,_,rfl,fun i hi=>⟨g,0,rfl,?_⟩⟩
 have:=h.cells (g:=g) rfl i (.string ⟨l[i].toArray⟩) (by simp [Pv,hi])
 simpa only[Addr.add_lit] using this
open Go Go.RowKit Go.Lib
theorem S7.var {l:List Nz}(hg:S7 l){x:Nz}(hx:x∈l)(h2:x.h.op=2):x.kids=[]:=by
 obtain⟨i,hi,rfl⟩:=List.getElem_of_mem hx;have h3:=(hg.few i hi).2;rw[h2] at h3;exact List.eq_nil_of_length_eq_zero (Nat.le_zero.1 h3)
theorem dU:∀{l:List Int} {k:Int},k<=2->Fx k l<=2\/Fx k l=255
 |[],k,h=> .inl h
 |x::l,k,h=>by
  unfold Fx
  split
  ·exact .inr rfl
  exact dU tE
theorem jO {op:Int}{ks:List Int}(h5:∀x∈ks,x<=5):Fa op ks<=5\/Fa op ks=255:=by
 have hg:∀i,ks.getD i 0<=5:=fun i=>by
  rw[List.getD_eq_getElem?_getD];cases e:ks[i]? with
  |none=>show(0:Int)<=5;decide
  |some x=>exact h5 x (List.mem_of_getElem? e)
 unfold Fa;cases hc:J1 op with
 |some c=>
  simp only
  split
  ·left;unfold J1 at hc
   repeat' split at hc
   all_goals first|(cases hc;done)|(injection hc with hc;subst hc;decide)
  exact .inr rfl
 |none=>
  simp only;have g1:=hg 1;have g2:=hg 2
  split
  ·split
   ·exact .inl tG
   exact .inr rfl
  split
  ·split
   ·exact .inl tG
   exact .inr rfl
  split
  ·split
   ·exact .inl tE
   exact .inr rfl
  rcases dU (l:=ks) (k:=0) tG with h|h
  ·exact .inl tE
  exact .inr h
theorem nH {vars:List (List UInt8×Int)}{self:Int}{ks:List Int}{x:Nz}(hl:x.h.op=1->x.h.v.1<=5)(h5:∀y∈ks,y<=5)(h0:(Ks vars self ks x).2=0):(Ks vars self ks x).1<=5:=by
 have hs:∀k,(L5 k).2=0->(L5 k).1<=5:=fun k h=>by
  unfold L5 at h ⊢
  split
  ·decide
  simp only;omega
 unfold Ks at h0 ⊢
 split
 ·rename_i hk
  rw[Ap hk] at h0;unfold Mk at h0 ⊢
  split
  ·rename_i h1
   exact hl h1
  rename_i h1
  rw[Ao h1] at h0
  split
  ·rename_i h2
   rw[Ap h2] at h0;cases e:Ma x.h.name vars with
   |none=>simp only;decide
   |some k=>
    rw[e] at h0;exact hs k h0
  rename_i h2
  rw[Ao h2] at h0
  split
  ·decide
  rename_i h3
  rw[Ao h3] at h0;exact hs self h0
 rename_i hk
 rw[Ao hk] at h0
 split
 ·decide
 rename_i h2
 rcases jO (op:=x.h.op) (ks:=x.kids.map fun j=>ks.getD j.toNat 0) (fun y hy=>by
  obtain⟨j,_,rfl⟩:=List.mem_map.1 hy;rw[List.getD_eq_getElem?_getD];cases e:ks[j.toNat]? with
  |none=>show(0:Int)<=5;decide
  |some z=>exact h5 z (List.mem_of_getElem? e)) with h|h
 ·exact h
 exact absurd h h2
theorem kY {vars:List (List UInt8×Int)}{self:Int}:∀{l:List Nz} {ks r:List Int},ofE vars self l ks= .ok r->(∀x∈l,x.h.op=1->x.h.v.1<=5)->(∀y∈ks,y<=5)->∀y∈r,y<=5
 |[],ks,r,h,_,h5=>by
  injection h with h;subst h;exact h5
 |x::l,ks,r,h,hl,h5=>by
  unfold ofE at h
  split at h
  ·rename_i h0
   refine kY h (fun y hy=>hl y (.tail _ hy)) fun y hy=>?_
   rcases List.mem_append.1 hy with hy|hy
   ·exact h5 y hy
   simp only[List.mem_singleton] at hy;subst hy;exact nH (hl x (.head _)) h5 h0
  cases h
theorem lO {vars:List (List UInt8×Int)}{self:Int}{l:List Nz}:(ofP vars self l).1<=5:=by
 unfold ofP;cases ht:G4 l with
 |none=>show(0:Int)<=5;decide
 |some t=>
  have hg:=Mn ht;simp only;cases he:ofE vars self l [] with
  |error p=>show(0:Int)<=5;decide
  |ok ks=>
   have hks:=kY he (fun x hx h1=>by
    obtain⟨i,hi,rfl⟩:=List.getElem_of_mem hx
    exact(hg.lit i hi h1).2) (fun y hy=>by cases hy)
   show ks.getLastD 0<=5;rw[List.getLastD_eq_getLast?];cases e:ks.getLast? with
   |none=>show(0:Int)<=5;decide
   |some z=>exact hks z (List.mem_of_getLast? e)
open Go Go.RowKit Go.Lib Go.Sort Go.Shelf
def Ox (t:Tkn):Prop:=t.w=⟨7,[44],v0⟩
theorem K6 {t:Tkn}(h:Ox t)(r:List Tkn)(u:List UInt8):isH u (t::r)=decide ([44]=u):=by
 unfold Ox at h
 show(decide (t.w.t=u) && (decide (t.w.k=1)||decide (t.w.k=7)))=_
 rw[h];simp
theorem Sg {t:Tkn}(h:Fq t)(r:List Tkn)(u:List UInt8):isH u (t::r)=decide ([41]=u):=by
 unfold Fq at h
 show(decide (t.w.t=u) && (decide (t.w.k=1)||decide (t.w.k=7)))=_
 rw[h];simp
theorem Ub {t:Tkn}{s:List UInt8}(h:∀r u,isH u (t::r)=decide (s=u))(hs:s=[44]\/s=[41])(r:List Tkn)(n:Nat):Be (t::r) (Bp n)=0:=by
 by_cases h5:n<=5
 ·rcases hs with rfl|rfl
  all_goals
   rcases (show n=0\/n=1\/n=2\/n=3\/n=4\/n=5 by omega) with rfl|rfl|rfl|rfl|rfl|rfl
   all_goals simp [Bp,Be,h]
 rw[Nk tE];rfl
theorem Tu {p s:Tkn}(hp:F1 p)(hs:Fq s){ts us post:List Tkn}{a:Ex}(ha:A9 0 0 ts= .ok (a,[]))(hu:us.map Tkn.w=ts.map Tkn.w)(hpost:∀n,Be post (Bp n)=0)(d:Nat):
 (∃q,A9 0 d (p::(us++s::post))= .error (12,q))\/∃a',A9 0 d (p::(us++s::post))= .ok (a',post)/\a'.bare=a.bare:=by
 rcases O8 hp hs (post:=post) ha hu d with ⟨q,e⟩|⟨a',e,h⟩
 ·exact .inl ⟨q,Mf (fun n=>Iv hp _ n) 7 0 rfl e⟩
 exact .inr ⟨a',Jd (fun n=>Iv hp _ n) 0 (fun n _=>hpost n) 7 0 rfl (Nat.zero_le _) e,h⟩
def ifW (t:Tkn):Prop:=t.w=⟨1,[105,102],v0⟩
def rT (t:Tkn):Prop:=t.w=⟨1,[109,105,110],v0⟩
def rL (t:Tkn):Prop:=t.w=⟨1,[116,114,117,101],v0⟩
theorem Sp {t:Tkn}{s:List UInt8}(h:t.w=⟨1,s,v0⟩)(h1:s≠[110,111,116])(h2:s≠[45])(r:List Tkn)(n:Nat):isH (Ea n) (t::r)=false:=by
 show(decide (t.w.t=Ea n) && (decide (t.w.k=1)||decide (t.w.k=7)))=false
 rw[h];unfold Ea
 split
 ·simp [h1]
 simp [h2]
theorem Vd {c:Cl}{ks:List Ex}{d:Nat}{p s e:Tkn}(hp:F1 p)(hs:Fq s)(he:Fq e)(hl:c.least<=ks.length+1){ts us:List Tkn}{a:Ex}(ha:A9 0 0 ts= .ok (a,[]))(hu:us.map Tkn.w=ts.map Tkn.w):
 (∃q,D8 c ks d (p::(us++s::[e]))= .error (12,q))\/∃a',D8 c ks d (p::(us++s::[e]))= .ok (.mk ⟨c.op,v0,[],c.line,c.col⟩ (ks++[a']),[])/\a'.bare=a.bare:=by
 rw[Eb];rcases Tu hp hs (post:=[e]) ha hu (fun n=>Ub (Sg he) (.inr rfl) [] n) d with ⟨q,g⟩|⟨a',g,h⟩
 ·rw[g];exact .inl ⟨q,rfl⟩
 rw[g];refine .inr ⟨a',?_,h⟩;simp only[ExR.next];rw[Sg he,Sg he,An (show ¬(ks.length+1<c.least) by omega)];simp only[Bool.and_false,Bool.or_false];rw[Ao tH,Ao tH];unfold Cy;rw[Sg he,Ap tH];rfl
theorem U5 {c:Cl}{ks:List Ex}{d:Nat}{p s m:Tkn}(hp:F1 p)(hs:Fq s)(hm:Ox m)(hl:ks.length+1≠c.most){ts us post:List Tkn}{a:Ex}(ha:A9 0 0 ts= .ok (a,[]))(hu:us.map Tkn.w=ts.map Tkn.w):
 (∃q,D8 c ks d (p::(us++s::m::post))= .error (12,q))\/∃a',D8 c ks d (p::(us++s::m::post))=D8 c (ks++[a']) d post/\a'.bare=a.bare:=by
 rw[Eb];rcases Tu hp hs (post:=m::post) ha hu (fun n=>Ub (K6 hm) (.inl rfl) post n) d with ⟨q,g⟩|⟨a',g,h⟩
 ·rw[g];exact .inl ⟨q,rfl⟩
 rw[g];refine .inr ⟨a',?_,h⟩;simp only[ExR.next];rw[K6 hm,K6 hm,An hl];simp
theorem Sx {t p:Tkn}{s:List UInt8}{c:Cl}(ht:t.w=⟨1,s,v0⟩)(h1:s≠[110,111,116])(h2:s≠[45])(hc:Cu t=some c)(hl:B8 t=none)(hp:F1 p){r:List Tkn}:
 (∀q,D8 c [] 1 r= .error (12,q)->A9 0 0 (t::p::r)= .error (12,q))/\∀u,D8 c [] 1 r= .ok (u,[])->A9 0 0 (t::p::r)= .ok (u,[]):=by
 have h7:A9 7 0 (t::p::r)=D8 c [] 1 r:=by
  rw[Bs];simp only[hl,hc];unfold B4;rw[Xl hp,Ap tH,Ao tG,List.tail_cons]
 refine⟨fun q e=>?_,fun u e=>?_⟩
 ·exact Mf (fun n=>Sp ht h1 h2 _ n) 7 0 rfl (h7.trans e)
 exact Jd (fun n=>Sp ht h1 h2 _ n) 0 (fun n _=>Ji _) 7 0 rfl (Nat.zero_le _) (h7.trans e)
theorem lA {t p0 p1 s1 m p2 s2 e:Tkn}(h0:rT t)(hp0:F1 p0)(h1:F1 p1)(h2:Fq s1)(h3:Ox m)(h4:F1 p2)(h5:Fq s2)(h6:Fq e){ts us ts' us':List Tkn}{a b:Ex}(ha:A9 0 0 ts= .ok (a,[]))(hb:A9 0 0 ts'= .ok (b,[]))(hu:us.map Tkn.w=ts.map Tkn.w)(hu':us'.map Tkn.w=ts'.map Tkn.w):
 (∃q,A9 0 0 (t::p0::p1::(us++s1::m::p2::(us'++s2::[e])))= .error (12,q))\/
 ∃a' b' l c,A9 0 0 (t::p0::p1::(us++s1::m::p2::(us'++s2::[e])))= .ok (.mk ⟨19,v0,[],l,c⟩ [a',b'],[])/\a'.bare=a.bare/\b'.bare=b.bare:=by
 have hc:Cu t=some ⟨19,1,8,t.line,t.col⟩:=by unfold rT at h0;unfold Cu;rw[h0];rfl
 have hl:B8 t=none:=by unfold rT at h0;unfold B8;rw[h0];rfl
 obtain⟨w1,w2⟩:=Sx (p:=p0) h0 tG tG hc hl hp0 (r:=p1::(us++s1::m::p2::(us'++s2::[e])));rcases U5 (c:=⟨19,1,8,t.line,t.col⟩) (ks:=[]) (d:=1) h1 h2 h3 tH (post:=p2::(us'++s2::[e])) ha hu with ⟨q,g⟩|⟨a',g,hba⟩
 ·exact .inl ⟨q,w1 q g⟩
 rcases Vd (c:=⟨19,1,8,t.line,t.col⟩) (ks:=[]++[a']) (d:=1) h4 h5 h6 tH hb hu' with ⟨q,g2⟩|⟨b',g2,hbb⟩
 ·exact .inl ⟨q,w1 q (g.trans g2)⟩
 exact .inr ⟨a',b',_,_,w2 _ (g.trans g2),hba,hbb⟩
theorem qK {t p0 y m0 p1 s1 m p2 s2 e:Tkn}(h0:ifW t)(hp0:F1 p0)(hy:rL y)(hm0:Ox m0)(h1:F1 p1)(h2:Fq s1)(h3:Ox m)(h4:F1 p2)(h5:Fq s2)(h6:Fq e){ts us ts' us':List Tkn}{a b:Ex}(ha:A9 0 0 ts= .ok (a,[]))(hb:A9 0 0 ts'= .ok (b,[]))(hu:us.map Tkn.w=ts.map Tkn.w)(hu':us'.map Tkn.w=ts'.map Tkn.w):
 (∃q,A9 0 0 (t::p0::y::m0::p1::(us++s1::m::p2::(us'++s2::[e])))= .error (12,q))\/
 ∃a' b' l c k n,A9 0 0 (t::p0::y::m0::p1::(us++s1::m::p2::(us'++s2::[e])))= .ok (.mk ⟨26,v0,[],l,c⟩ [.mk ⟨1,(4,1,[]),[],k,n⟩ [],a',b'],[])/\a'.bare=a.bare/\b'.bare=b.bare:=by
 have hc:Cu t=some ⟨26,3,3,t.line,t.col⟩:=by unfold ifW at h0;unfold Cu;rw[h0];rfl
 have hl:B8 t=none:=by unfold ifW at h0;unfold B8;rw[h0];rfl
 obtain⟨w1,w2⟩:=Sx (p:=p0) h0 tG tG hc hl hp0 (r:=y::m0::p1::(us++s1::m::p2::(us'++s2::[e])))
 have g0:D8 ⟨26,3,3,t.line,t.col⟩ [] 1 (y::m0::p1::(us++s1::m::p2::(us'++s2::[e])))=D8 ⟨26,3,3,t.line,t.col⟩ ([]++[.mk ⟨1,(4,1,[]),[],y.line,y.col⟩ []]) 1 (p1::(us++s1::m::p2::(us'++s2::[e]))):=by
  rw[Eb];have hly:B8 y=some ⟨1,(4,1,[]),[],y.line,y.col⟩:=by unfold rL at hy;unfold B8;rw[hy];rfl
  have h7:A9 7 1 (y::m0::p1::(us++s1::m::p2::(us'++s2::[e])))= .ok (.mk ⟨1,(4,1,[]),[],y.line,y.col⟩ [],m0::p1::(us++s1::m::p2::(us'++s2::[e]))):=by
   rw[Bs];simp only[hly]
  have h0:=Jd (fun n=>Sp hy tG tG _ n) 0 (fun n _=>Ub (K6 hm0) (.inl rfl) _ n) 7 0 rfl (Nat.zero_le _) h7;rw[h0];simp only[ExR.next];rw[K6 hm0,K6 hm0];simp
 rcases U5 (c:=⟨26,3,3,t.line,t.col⟩) (ks:=[]++[.mk ⟨1,(4,1,[]),[],y.line,y.col⟩ []]) (d:=1) h1 h2 h3 tH (post:=p2::(us'++s2::[e])) ha hu with ⟨q,g⟩|⟨a',g,hba⟩
 ·exact .inl ⟨q,w1 q (g0.trans g)⟩
 rcases Vd (c:=⟨26,3,3,t.line,t.col⟩) (ks:=[]++[.mk ⟨1,(4,1,[]),[],y.line,y.col⟩ []]++[a']) (d:=1) h4 h5 h6 tH hb hu' with ⟨q,g2⟩|⟨b',g2,hbb⟩
 ·exact .inl ⟨q,w1 q (g0.trans (g.trans g2))⟩
 exact .inr ⟨a',b',_,_,_,_,w2 _ (g0.trans (g.trans g2)),hba,hbb⟩
def Uk (l m:List UInt8):List UInt8:=109::105::110::40::40::(l++10::41::44::32::40::(m++[10,41,41]))
def ifT (l m:List UInt8):List UInt8:=105::102::40::116::114::117::101::44::32::40::(l++10::41::44::32::40::(m++[10,41,41]))
theorem Qv (r:List UInt8)(a b:Int):LX (41::r) a b=G5 ⟨⟨7,[41],v0⟩,a,b⟩ (LX r a (b+1)):=by
 have h:Bh (41::r)= .ok (⟨7,[41],v0⟩,1):=rfl;exact zx5
theorem U3 (r:List UInt8)(a b:Int):LX (40::r) a b=G5 ⟨⟨7,[40],v0⟩,a,b⟩ (LX r a (b+1)):=by
 have h:Bh (40::r)= .ok (⟨7,[40],v0⟩,1):=rfl;exact zx5
theorem Tc (r:List UInt8)(a b:Int):LX (44::r) a b=G5 ⟨⟨7,[44],v0⟩,a,b⟩ (LX r a (b+1)):=by
 have h:Bh (44::r)= .ok (⟨7,[44],v0⟩,1):=rfl;exact zx5
theorem mV (r:List UInt8)(a b:Int):LX (109::105::110::40::r) a b=G5 ⟨⟨1,[109,105,110],v0⟩,a,b⟩ (LX (40::r) a (b+3)):=by
 have h:Bh (109::105::110::40::r)= .ok (⟨1,[109,105,110],v0⟩,3):=rfl;exact zx5
theorem pL (r:List UInt8)(a b:Int):LX (105::102::40::r) a b=G5 ⟨⟨1,[105,102],v0⟩,a,b⟩ (LX (40::r) a (b+2)):=by
 have h:Bh (105::102::40::r)= .ok (⟨1,[105,102],v0⟩,2):=rfl;exact zx5
theorem jE (r:List UInt8)(a b:Int):LX (116::114::117::101::44::r) a b=G5 ⟨⟨1,[116,114,117,101],v0⟩,a,b⟩ (LX (44::r) a (b+4)):=by
 have h:Bh (116::114::117::101::44::r)= .ok (⟨1,[116,114,117,101],v0⟩,4):=rfl;exact zx5
theorem Wp {l m:List UInt8}{ts ts':List Tkn}(h:Ev l= .ok ts)(h':Ev m= .ok ts')(x y:Int):
 ∃p1 us s1 c p2 us' s2 e,LX (40::(l++10::41::44::32::40::(m++[10,41,41]))) x y= .ok (p1::(us++s1::c::p2::(us'++s2::[e])))/\F1 p1/\Fq s1/\Ox c/\F1 p2/\Fq s2/\Fq e/\us.map Tkn.w=ts.map Tkn.w/\us'.map Tkn.w=ts'.map Tkn.w:=by
 obtain⟨us,h1,h2⟩:=Ir _ l 1 1 x (y+1) ts (Ak _) h;obtain⟨us',h3,h4⟩:=Ir _ m 1 1 (x+(l.count 10:Nat)+1) (1+1+1+1+1) ts' (Ak _) h'
 have e:LX (40::(l++10::41::44::32::40::(m++[10,41,41]))) x y= .ok (⟨⟨7,[40],v0⟩,x,y⟩::(us++⟨⟨7,[41],v0⟩,x+(l.count 10:Nat)+1,1⟩::⟨⟨7,[44],v0⟩,x+(l.count 10:Nat)+1,1+1⟩::⟨⟨7,[40],v0⟩,x+(l.count 10:Nat)+1,1+1+1+1⟩::(us'++⟨⟨7,[41],v0⟩,x+(l.count 10:Nat)+1+(m.count 10:Nat)+1,1⟩::[⟨⟨7,[41],v0⟩,x+(l.count 10:Nat)+1+(m.count 10:Nat)+1,1+1⟩]))):=by
  rw[Qa,h1,Qv,Tc,E8,show[10,41,41]=(10:UInt8)::[41,41] from rfl,Qa,h3,Qv,Qv,Iy];rfl
 exact⟨_,us,_,_,_,us',_,_,e,rfl,rfl,rfl,rfl,rfl,rfl,h2,h4⟩
theorem kH {l m:List UInt8}{a b u:Ex}(h:Bj l= .ok a)(h':Bj m= .ok b)(hu:Bj (Uk l m)= .ok u):∃a' b' y z,u= .mk ⟨19,v0,[],y,z⟩ [a',b']/\a'.bare=a.bare/\b'.bare=b.bare:=by
 obtain⟨ts,t1,t2,_⟩:=D0 h;obtain⟨ts',t3,t4,_⟩:=D0 h';obtain⟨w,q1,q2,_⟩:=D0 hu;obtain⟨p1,us,s1,c,p2,us',s2,e,hx,g1,g2,g3,g4,g5,g6,g7,g8⟩:=Wp t1 t3 1 (1+3+1)
 have hw:Ev (Uk l m)= .ok (⟨⟨1,[109,105,110],v0⟩,1,1⟩::⟨⟨7,[40],v0⟩,1,1+3⟩::p1::(us++s1::c::p2::(us'++s2::[e]))):=by
  unfold Uk;rw[Ns,mV,U3,hx];rfl
 rw[hw] at q1;injection q1 with q1;subst q1;rcases lA (t:=⟨⟨1,[109,105,110],v0⟩,1,1⟩) (p0:=⟨⟨7,[40],v0⟩,1,1+3⟩) rfl rfl g1 g2 g3 g4 g5 g6 t2 t4 g7 g8 with ⟨q,g⟩|⟨a',b',y,z,g,hba,hbb⟩
 ·rw[g] at q2;cases q2
 rw[g] at q2;injection q2 with q2;injection q2 with q2 _;exact⟨a',b',y,z,q2.symm,hba,hbb⟩
theorem qG {l m:List UInt8}{a b u:Ex}(h:Bj l= .ok a)(h':Bj m= .ok b)(hu:Bj (ifT l m)= .ok u):∃a' b' y z k n,u= .mk ⟨26,v0,[],y,z⟩ [.mk ⟨1,(4,1,[]),[],k,n⟩ [],a',b']/\a'.bare=a.bare/\b'.bare=b.bare:=by
 obtain⟨ts,t1,t2,_⟩:=D0 h;obtain⟨ts',t3,t4,_⟩:=D0 h';obtain⟨w,q1,q2,_⟩:=D0 hu;obtain⟨p1,us,s1,c,p2,us',s2,e,hx,g1,g2,g3,g4,g5,g6,g7,g8⟩:=Wp t1 t3 1 (1+2+1+4+1+1)
 have hw:Ev (ifT l m)= .ok (⟨⟨1,[105,102],v0⟩,1,1⟩::⟨⟨7,[40],v0⟩,1,1+2⟩::⟨⟨1,[116,114,117,101],v0⟩,1,1+2+1⟩::⟨⟨7,[44],v0⟩,1,1+2+1+4⟩::p1::(us++s1::c::p2::(us'++s2::[e]))):=by
  unfold ifT;rw[Ns,pL,U3,jE,Tc,E8,hx];rfl
 rw[hw] at q1;injection q1 with q1;subst q1;rcases qK (t:=⟨⟨1,[105,102],v0⟩,1,1⟩) (p0:=⟨⟨7,[40],v0⟩,1,1+2⟩) (y:=⟨⟨1,[116,114,117,101],v0⟩,1,1+2+1⟩) (m0:=⟨⟨7,[44],v0⟩,1,1+2+1+4⟩) rfl rfl rfl rfl g1 g2 g3 g4 g5 g6 t2 t4 g7 g8 with ⟨q,g⟩|⟨a',b',y,z,k,n,g,hba,hbb⟩
 ·rw[g] at q2;cases q2
 rw[g] at q2;injection q2 with q2;injection q2 with q2 _;exact⟨a',b',y,z,k,n,q2.symm,hba,hbb⟩
open Go Go.RowKit Go.Lib
theorem cC (op:Int){v:Value}{ks:List Int}(c k:Int)(hc:J1 op=some (c,k))(w:World)(h:Md w v ks):Calls Tryz.prog 44 #[.int .u8 op,v] w fun e w'=>e= .returned (.int .u8 (if Qw c ks then k else 255))/\Below w.heap.size w w':=by
 have HC:=Ax (J8 op w);rw[hc] at HC;have HK:=Ax h;have HE:=fun V (hV:Below w.heap.size w V)=>Ax (Qh c V (h.below hV))
 obtain⟨q,hq⟩:∃q,Qw c ks=q:=⟨_,rfl⟩;rw[hq] at HE ⊢;obtain⟨r,hr⟩:∃r,(if q then k else 255)=r:=⟨_,rfl⟩;have HS:=fun V=>Ax (K5 q k V)
 rw[hr] at HS ⊢;clear hr;obtain⟨_,a,cc,rfl,_⟩:=h;clear hc hq;simp only[Option.getD_some,Option.isSome_some,ofV] at HC;go_enter Tryz.func44,Tryz.ntmps44;go_wp2_with fail;refine HC.out.mono ?_;rintro e V ⟨rfl,hb⟩;have HB:=Ax hb;clear hb HC;obtain⟨W1,hW1⟩:∃W1,V.alloc (.cells #[.int .u8 c,.int .u8 k] 169)=W1:=⟨_,rfl⟩;have hp:=A1 V (.cells #[.int .u8 c,.int .u8 k] 169);have hb1:Below V.heap.size V W1:=by rw[←hW1];exact(Aq _ V).alloc (Ak _) _
 rw[hW1] at hp;obtain⟨s0,s1,_⟩:=Su hp;have HW1:=Ax hW1;have HB1:=Ax (HB.out.trans (hb1.mono HB.out.size));have hlt:=Ay hp;clear hW1 hp hb1;go_upto_region 3 with fail
 rw[HW1.out];clear HW1;have S1:=Ax (show W1.drew.cell? ⟨V.heap.size,1,none⟩=some (.int .u8 k) from s1);have HD:=Ax HB1.out.drew
 go_region_with (first
  |(go_at_call 79
    refine(HE _ HD.out).out.mono ?_;rintro e V2 ⟨rfl,hb2⟩;have s1:=Ba hb2 S1.out;have HB2:=Ax (HD.out.trans (hb2.mono HD.out.size))
    clear hb2)
  |(go_at_call 78
    refine(HS _).out.mono ?_;rintro e V3 ⟨rfl,hb3⟩;have HB3:=Ax (HB2.out.trans (hb3.mono HB2.out.size))
    clear hb3))
 all_goals
  go_wp2_with fail;go_ret;exact⟨rfl,HB3.out⟩
theorem fD (op:Int)(ho:op=7\/op=8){v:Value}{ks:List Int}(h2:2<=ks.length)(h0:∀x∈ks,0<=x)(w:World)(h:Md w v ks):Calls Tryz.prog 44 #[.int .u8 op,v] w fun e w'=>e= .returned (.int .u8 (if Ml (ks.getD 0 0) (ks.getD 1 0) then 4 else 255))/\Below w.heap.size w w':=by
 have hn:J1 op=none:=by rcases ho with rfl|rfl<;>rfl
 have HC:=Ax (J8 op w);rw[hn] at HC;obtain⟨hlm,a,cc,rfl,hcell⟩:=h;obtain⟨b,off,rfl,c0⟩:=hcell 0 tE;obtain⟨_,_,e1,c1⟩:=hcell 1 tE;injection e1 with e1;injection e1 with e2 e3;subst e2 e3;have p0:0<=ks[0]:=h0 _ (List.getElem_mem tE);have p1:0<=ks[1]:=h0 _ (List.getElem_mem tE);rw[List.getD_eq_getElem?_getD,List.getD_eq_getElem?_getD,Ag (show 0<ks.length by omega),Ag (show 1<ks.length by omega),Option.getD_some,Option.getD_some];obtain⟨x,hx⟩:∃x,ks[0]=x:=⟨_,rfl⟩;obtain⟨y,hy⟩:∃y,ks[1]=y:=⟨_,rfl⟩;rw[hx] at c0 p0 ⊢;rw[hy] at c1 p1 ⊢;have HM:=fun V=>Ax (Zz x y p0 p1 V)
 obtain⟨q,hq⟩:∃q,Ml x y=q:=⟨_,rfl⟩;rw[hq] at HM ⊢;obtain⟨r,hr⟩:∃r,(if q then(4:Int) else 255)=r:=⟨_,rfl⟩;have HS:=fun V=>Ax (K5 q 4 V)
 rw[hr] at HS ⊢;rw[Nat.add_zero] at c0;have C0:=Ax c0;have C1:=Ax c1;have i0:(0:Int)<(ks.length:Int):=by omega
 have i1:(1:Int)<(ks.length:Int):=by omega
 clear hcell h0 hx hy hq hr hn c0 c1;simp only[Option.getD_none,Option.isSome_none,ofV] at HC;rcases ho with rfl|rfl
 all_goals
  go_enter Tryz.func44,Tryz.ntmps44;go_wp2_with fail;refine HC.out.mono ?_;rintro e V ⟨rfl,hb⟩;obtain⟨W1,hW1⟩:∃W1,V.alloc (.cells #[.int .u8 0,.int .u8 0] 169)=W1:=⟨_,rfl⟩;have hb1:Below V.heap.size V W1:=by rw[←hW1];exact(Aq _ V).alloc (Ak _) _
  have hb':=hb.trans (hb1.mono hb.size);have c0:=Ba hb' C0.out;have c1:=Ba hb' C1.out;have HW1:=Ax hW1;have HB1:=Ax hb';have HD:=Ax hb'.drew;clear hW1 hb1 hb hb' HC;go_upto_region 7 with fail
  rw[HW1.out];clear HW1
  go_region_with (first
   |(go_at_call 80
     refine(HM _).out.mono ?_;rintro e V2 ⟨rfl,hb2⟩;have HB2:=Ax (HD.out.trans (hb2.mono HD.out.size))
     clear hb2)
   |(go_at_call 78
     refine(HS _).out.mono ?_;rintro e V3 ⟨rfl,hb3⟩;have HB3:=Ax (HB2.out.trans (hb3.mono HB2.out.size))
     clear hb3))
  all_goals
   go_wp2_with fail;go_ret;exact⟨rfl,HB3.out⟩
end Go.Proofs.YtmpfilddeglgbaaGreatDoor
