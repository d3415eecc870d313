import Derived.Test.YtgfakdobajgnfaaGreatDoorQe30
import Derived.Test.YtgfakdobajgnfaaGreatDoorQe29
set_option maxRecDepth 100000
set_option maxHeartbeats 16000000
namespace Go.Proofs.YtgfakdobajgnfaaGreatDoor
open Go Go.RowKit Go.Lib Go.Sort Go.Shelf
def B8 (l:List Nz):Nat->List (List UInt8)
 |0=>[]
 |k+1=>B8 l k++[match l[k]? with
  |some x=>D7 x.h x.kids.length (Dj l (B8 l k) x.kids)
  |none=>[]]
theorem Fb (l:List Nz):∀k,(B8 l k).length=k
 |0=>rfl
 |k+1=>by rw[B8,Ab,Fb l k];rfl
theorem Rn (l:List Nz){k:Nat}:∀m,k<=m->∀t∈B8 l k,t∈B8 l m
 |0,h,t,ht=>by
  obtain rfl:k=0:=by omega
  exact ht
 |m+1,h,t,ht=>by
  by_cases e:k=m+1
  ·rw[←e];exact ht
  ·rw[B8];exact List.mem_append.2 (.inl (Rn l m rA t ht))
def K5 (ts:List (List UInt8)):Bool:=ts.all fun t=>decide (t.length<=65536)
def O5 (l:List Nz):List UInt8:=if K5 (B8 l l.length)=true then((B8 l l.length).getLast?).getD [] else[]
theorem Ol {ts:List (List UInt8)}(h:K5 ts=true):∀t∈ts,t.length<=65536:=fun t ht=>by
 have:=List.all_eq_true.1 h t ht
 simpa using this
def cM (l:List Nz)(k:Nat):List UInt8:=((B8 l k).getLast?).getD []
theorem lZ (l:List Nz):(O5 l).length<=65536:=by
 unfold O5
 split
 ·rename_i h
  cases hl:(B8 l l.length).getLast? with
  |none=>simp
  |some t=>exact Ol h t (List.mem_of_getLast? hl)
 ·simp
def Ja (w:World)(b:Nat)(l:List (List UInt8)):Prop:=w.heap[b]? =some (.cells (Sd l).toArray 9 (0,0))
theorem Ja.cell {w:World}{b:Nat}{l:List (List UInt8)}(h:Ja w b l){i:Nat}{x:List UInt8}(hx:l[i]? =some x):w.cell? ⟨b,i,none⟩=some (.string ⟨x.toArray⟩):=by
 unfold Ja at h;simp only[World.cell?,h];simp [Sd,hx]
theorem Ja.frozen {w:World}{b:Nat}{l:List (List UInt8)}(h:Ja w b l)(i:Nat):w.frozen? ⟨b,i,none⟩=false:=by
 unfold Ja at h;simp only[World.frozen?,h];simp
theorem Ja.set {w:World}{b:Nat}{l:List (List UInt8)}(h:Ja w b l)(i:Nat)(x:List UInt8):Ja (w.setCell ⟨b,i,none⟩ (.string ⟨x.toArray⟩)) b (l.set i x):=by
 unfold Ja at h ⊢;rw[Av h]
 congr 2
 apply Array.ext';simp [Sd,List.map_set]
theorem Ja.below {w w':World}{b:Nat}{l:List (List UInt8)}(h:Ja w b l)(hb:Below w.heap.size w w'):Ja w' b l:=(hb.block b (Aq h)).trans h
theorem gR (n:Nat)(hn:n<=1000000)(w:World):∃w',(Instr.makeSlice 39 (.int .i64 (n:Int)) (.int .i64 (n:Int))).run Tryz.prog w= .ok (.slice (some ⟨w.heap.size,0,none⟩) n n) w'/\Below w.heap.size w w'/\Ja w' w.heap.size (List.replicate n []):=by
 obtain⟨i0,hi,hz0,hz1,hz2⟩:=Oi
 obtain⟨w',hrun,hown,hg⟩:=run_make_full (P:=Tryz.prog) w w.heap.size 39 9 i0 (.string ⟨#[]⟩) 1 Tryz.underlying39 hi hz0 hz1 .i64 .i64 n (by rw[hz2];omega) rL (Ak _)
 refine⟨w',hrun,(A4.of_grown hg [] (fun k e=>by cases e)).below,?_⟩
 rcases hown.2 with ⟨e,_⟩|⟨g,cap,cur,e,_,hgb,_,_,hcs,hct⟩
 ·cases e
 ·injection e with e1 _ e3;injection e1 with e1;injection e1 with e1;subst e1;subst e3;unfold Ja;rw[hgb]
  congr 2
  apply Array.ext'
  rw[List.take_of_length_le (by rw[Array.length_toList,hcs];omega)] at hct
  rw[hct];simp [madeCells,Sd];rw[List.eq_replicate_iff]
  refine⟨by simp,fun u hu=>?_⟩
  obtain⟨x,_,rfl⟩:=List.mem_map.1 hu
  show(#[Value.string ⟨#[]⟩]:Array Value)[x % 1]! =_
  rw[Nat.mod_one];rfl
def Ui (l:List Nz)(k:Nat):List (List UInt8):=B8 l k++List.replicate (l.length - k) []
theorem lI {l:List Nz}{k j:Nat}{t:List UInt8}(h:(B8 l k)[j]? =some t):(Ui l k)[j]? =some t:=by
 unfold Ui;rw[List.getElem?_append_left (List.getElem?_eq_some_iff.1 h).1];exact h
theorem lF {l:List Nz}{k:Nat}(hk:k<l.length){t:List UInt8}(ht:B8 l (k+1)=B8 l k++[t]):(Ui l k).set k t=Ui l (k+1):=by
 unfold Ui;have hl:=Fb l k
 obtain⟨m,hm⟩:∃m,l.length - k=m+1:=⟨l.length - k - 1,by omega⟩
 rw[List.set_append_right _ _ rA,hl,Nat.sub_self,hm,List.replicate_succ,Ad,ht,show l.length - (k+1)=m by omega,List.append_assoc]
 rfl
structure bI (w wr:World)(b tb:Nat)(tv:Value)(l:List Nz)(k:Nat):Prop where
 box:wr.heap[b]? =some (.cells #[tv,.slice (some ⟨tb,0,none⟩) l.length l.length] 139 (0,0))
 row:Ja wr tb (Ui l k)
 bel:Below w.heap.size w wr
 ne:tb<b
 hi:w.heap.size<=tb
 short:K5 (B8 l k)=true
theorem Rm {ts:List (List UInt8)}{t:List UInt8}(h:K5 ts=true)(ht:t.length<=65536):K5 (ts++[t])=true:=by
 unfold K5 at h ⊢;rw[List.all_append,h]
 simpa using ht
theorem bI.at {w wr:World}{b tb:Nat}{tv:Value}{l:List Nz}{k:Nat}(h:bI w wr b tb tv l k)(ht:TrZ w tv l)(hk:k<=l.length)(ho:∀x∈l,0<=x.h.op):Qc wr b tv tb l (B8 l k):=by
 obtain⟨c0,c1,_⟩:=B1 h.box
 exact⟨ht.below h.bel,c0,c1,fun j t hj=>h.row.cell (lI hj),by rw[Fb];exact hk,ho,Ol h.short⟩
theorem bI.next {w wr V:World}{b tb:Nat}{tv:Value}{l:List Nz}{k:Nat}(h:bI w wr b tb tv l k)(hb:Below wr.heap.size wr V)(hk:k<l.length){t:List UInt8}(ht:B8 l (k+1)=B8 l k++[t])(hs:t.length<=65536):
 bI w (V.setCell ⟨tb,k,none⟩ (.string ⟨t.toArray⟩)) b tb tv l (k+1):=by
 refine⟨?_,?_,(h.bel.trans (hb.mono h.bel.size)).setCell h.hi _,h.ne,h.hi,by rw[ht];exact Rm h.short hs⟩
 ·rw[Below.heap_setCell _ _ _ _ (by show b≠tb;have:=h.ne;omega)]
  exact(hb.block b (Aq h.box)).trans h.box
 ·rw[←lF hk ht];exact(h.row.below hb).set k t
theorem Yi {w:World}{tv:Value}{l:List Nz}(ht:TrZ w tv l)(ho:∀x∈l,0<=x.h.op)(hf:∀x∈l,P9 x.h)(hR:Rd w):
 Calls Tryz.prog 61 #[tv] w fun e w'=>e= .returned (.string ⟨(O5 l).toArray⟩)/\Below w.heap.size w w':=by
 have hlm:=ht.1;have HT:=Ao ht;obtain⟨ta,tc,rfl⟩:=ht.slice;obtain⟨W0,hmk,hb0,hrow⟩:=gR l.length hlm w
 obtain⟨tb,htb⟩:∃tb,w.heap.size=tb:=⟨_,rfl⟩
 obtain⟨W1,hW1⟩:∃W1,W0.alloc (.cells #[.slice ta l.length tc,.slice (some ⟨tb,0,none⟩) l.length l.length] 139)=W1:=⟨_,rfl⟩
 have hp1:=Au W0 (.cells #[.slice ta l.length tc,.slice (some ⟨tb,0,none⟩) l.length l.length] 139)
 have hb1:Below W0.heap.size W0 W1:=by rw[←hW1];exact(Below.refl _ _).alloc (Ak _) _
 rw[hW1] at hp1;rw[htb] at hmk
 have hlt:tb<W0.heap.size:=by rw[←htb];exact Aq hrow
 have HS:Hid (bI w W1 W0.heap.size tb (.slice ta l.length tc) l 0):=Ao ⟨hp1,by rw[←htb];exact(show Ja W0 w.heap.size (Ui l 0) from hrow).below hb1,hb0.trans (hb1.mono hb0.size),hlt,by omega,rfl⟩
 have Htb:=Ao htb;have HO:=Ao ho;have HF:=Ao hf;have HR:=Ao hR;clear ht ho hf hR hb0 hrow hp1 hb1 htb hlt;go_enter Tryz.func61,Tryz.ntmps61;go_wp2_with fail
 go_loopw [4,14] (fun v4 v14 wr=>∃k:Nat,k<=l.length/\v14= .int .i64 k/\v4= .string ⟨(cM l k).toArray⟩/\Hid (bI w wr W0.heap.size tb (.slice ta l.length tc) l k)) (fun _ v14 _=>l.length - (intOf v14).toNat)
 case atStart=>exact⟨0,Nat.zero_le _,rfl,rfl,HS⟩
 case round=>
  obtain⟨k,hk,rfl,rfl,hq⟩:=hrel;have hwd:=hq.out
  by_cases hkl:k<l.length
  ·have hN:=fC (x:=l[k]) (hwd.at HT.out hk HO.out) (by rw[Fb];exact Ag hkl) (HR.out.below hwd.bel) (HF.out _ (List.getElem_mem hkl))
   rw[Fb] at hN
   have hnx:B8 l (k+1)=B8 l k++[D7 l[k].h l[k].kids.length (Dj l (B8 l k) l[k].kids)]:=by
    rw[B8,Ag hkl]
   obtain⟨t,htt⟩:∃t,D7 l[k].h l[k].kids.length (Dj l (B8 l k) l[k].kids)=t:=⟨_,rfl⟩
   rw[htt] at hN hnx
   have i0:(0:Int)<=(k:Int):=by omega
   have i1:(k:Int)<(l.length:Int):=by omega
   have i2:decide ((k:Int)<(l.length:Int))=true:=Am i1;have HN:=Ao hN;have HW:=Ao hwd;have Hnx:=Ao hnx;obtain⟨c0,c1,_⟩:=B1 hwd.box;clear hN hwd hnx htt hq HS hmk;go_wp2_with fail;refine HN.out.mono ?_;rintro e V ⟨rfl,hbV⟩;have HV:=Ao hbV;obtain⟨d0,d1,_⟩:=B1 ((hbV.block _ (Aq HW.out.box)).trans HW.out.box);clear hbV HN c0 c1
   by_cases hbig:65536<t.length
   ·have j1:decide ((65536:Int)<(t.length:Int))=true:=Am rA
    have HZ:Hid (O5 l=[]):=Ao (by
     unfold O5;rw[if_neg];intro hs
     have h1:t∈B8 l (k+1):=by rw[Hnx.out];simp
     have:=Ol hs t (Rn l l.length rA t h1)
     omega)
    clear hbig;go_wp2_with fail;go_ret
    exact⟨by rw[HZ.out];rfl,HW.out.bel.trans (HV.out.mono HW.out.bel.size)⟩
   ·have j1:decide ((65536:Int)<(t.length:Int))=false:=An rA
    have hs:t.length<=65536:=by omega
    have hnw:=HW.out.next HV.out hkl Hnx.out hs;have HNW:=Ao hnw
    have HL:Hid (cM l (k+1)=t):=Ao (by unfold cM;rw[Hnx.out];simp)
    have hfz:=(HW.out.row.below HV.out).frozen k
    have hrk:=(HW.out.row.below HV.out).cell (i:=k) (x:=((Ui l k)[k]?).getD []) (by
     have:k<(Ui l k).length:=by unfold Ui;rw[Ab,List.length_replicate,Fb];omega
     rw[Ag this];rfl)
    clear hbig hnw;go_wp2_with fail;go_roundw
    case rel=>exact⟨k+1,by omega,by go_num,by rw[HL.out],HNW⟩
    case measure=>simp [intOf];omega
  ·obtain rfl:k=l.length:=by omega
   have i2:decide ((l.length:Int)<(l.length:Int))=false:=by simp
   have HZ:Hid (O5 l=cM l l.length):=Ao (by unfold O5;rw[if_pos hwd.short];rfl)
   have HB:=Ao hwd.bel;clear hwd hq HS hmk hkl;go_wp2_with fail;go_ret
   exact⟨by rw[HZ.out];rfl,HB.out⟩
def Ll (l:List Nz):Option (List UInt8):=if 60<l.length then none else match Bn (O5 l) with
 | .ok u=>if Dg l ((u.flat 0).map Nd.z)=true then some (O5 l) else none
 | .error _=>none
def jK:Option (List UInt8)->Int
 |some _=>0
 |none=>4
theorem Q6 {w:World}{tv:Value}{l:List Nz}(ht:TrZ w tv l)(ho:∀x∈l,0<=x.h.op)(hf:∀x∈l,P9 x.h)(hR:Rd w):
 Calls Tryz.prog 25 #[tv] w fun e w'=>e= .returned (.tuple #[.string ⟨((Ll l).getD []).toArray⟩,.int .i64 (jK (Ll l))])/\Below w.heap.size w w':=by
 obtain⟨ta,tc,rfl⟩:=ht.slice;have hlm:=ht.1
 by_cases h60:60<l.length
 ·have hz:Ll l=none:=by unfold Ll;rw[if_pos h60]
  rw[hz];have i1:decide ((60:Int)<(l.length:Int))=true:=Am rA;clear ht ho hf hR hz h60;go_enter Tryz.func25,Tryz.ntmps25;go_wp2_with fail;go_ret2;exact⟨rfl,Below.refl _ _⟩
 ·have i1:decide ((60:Int)<(l.length:Int))=false:=An rA;have HW:=Ao (Yi ht ho hf hR);have hsz:=lZ l
  obtain⟨s,hs⟩:∃s,O5 l=s:=⟨_,rfl⟩
  have hz:Ll l=match Bn s with
   | .ok u=>if Dg l ((u.flat 0).map Nd.z)=true then some s else none
   | .error _=>none:=by unfold Ll;rw[if_neg h60,hs]
  rw[hs] at HW hsz;have HT:=Ao ht
  cases hr:Bn s with
  |error p=>
   obtain⟨⟨x,y⟩,q⟩:=p;rw[hr] at hz;simp only at hz;rw[hz];have hq:=Ii hr
   have hq1:(q !=0)=true:=by simpa using hq
   have HL:=fun V hV=>Ao (qP (s:=⟨s.toArray⟩) V (by show s.toArray.size<=_;simp;omega) hV (show Bn (dl ⟨s.toArray⟩)=_ from hr))
   have HR:=Ao hR;clear ht ho hf hR hz h60 hs hr hq;go_enter Tryz.func25,Tryz.ntmps25;go_wp2_with fail;refine HW.out.mono ?_;rintro e V1 ⟨rfl,hb1⟩;have HB1:=Ao hb1;clear hb1 HW;go_wp2_with fail;refine(HL _ (HR.out.below HB1.out)).out.mono ?_;rintro e V2 ⟨rfl,hb2⟩;have HB2:=Ao (HB1.out.trans (hb2.mono HB1.out.size));clear hb2 HL;go_wp2_with fail;go_ret2;exact⟨rfl,HB2.out.alloc HB2.out.size _⟩
  |ok u=>
   rw[hr] at hz;simp only at hz
   have HL:=fun V hV=>Ao (pG (s:=⟨s.toArray⟩) V (by show s.toArray.size<=_;simp;omega) hV (show Bn (dl ⟨s.toArray⟩)=_ from hr))
   have HSL:=Ao (Qk hr)
   have hu60:u.size<=60:=by obtain⟨_,_,_,h3⟩:=Dx hr;exact h3
   have HR:=Ao hR
   obtain⟨m,hm⟩:∃m,Dg l ((u.flat 0).map Nd.z)=m:=⟨_,rfl⟩
   rw[hm] at hz;have HM:=Ao hm;have HZ:=Ao hz;clear ht ho hf hR h60 hs hr hm hz;go_enter Tryz.func25,Tryz.ntmps25;go_wp2_with fail;refine HW.out.mono ?_;rintro e V1 ⟨rfl,hb1⟩;have HB1:=Ao hb1;clear hb1 HW;go_wp2_with fail;refine(HL _ (HR.out.below HB1.out)).out.mono ?_;rintro e V2 ⟨uv,rfl,htu,hb2⟩;have hb3:=HB1.out.trans (hb2.mono HB1.out.size);have hV3:Below V2.heap.size V2 (V2.alloc (.cells #[.int .i64 0,.int .i64 0] 33)):=(Below.refl _ V2).alloc (Ak _) _;have hzu:=(htu.z sO HSL.out).below hV3;have hb4:=hb3.trans (hV3.mono hb3.size);have hsm:=S0 _ (HT.out.below hb4) hzu;rw[HM.out] at hsm;have HSM:=Ao hsm;have HB4:=Ao hb4;obtain⟨ua,uc,rfl⟩:=htu.slice;clear hb2 hb3 hV3 hzu hb4 hsm htu HL;go_wp2_with fail;refine HSM.out.mono ?_;rintro e V5 ⟨rfl,hb5⟩;have HB5:=Ao (HB4.out.trans (hb5.mono HB4.out.size));clear hb5 HSM
   cases m with
   |true=>
    go_wp2_with fail;go_ret2
    exact⟨by rw[HZ.out];rfl,HB5.out⟩
   |false=>
    go_wp2_with fail;go_ret2
    exact⟨by rw[HZ.out];rfl,HB5.out⟩
theorem jV {w:World}{tv:Value}{l:List Nz}(ht:TrZ w tv l)(ho:∀x∈l,0<=x.h.op)(hf:∀x∈l,P9 x.h)(hR:Rd w):
 Calls Tryz.prog 30 #[tv] w fun e w'=>e= .returned (.bool (Ll l).isSome)/\Below w.heap.size w w':=by
 have HT:=Ao (Q6 ht ho hf hR);obtain⟨ta,tc,rfl⟩:=ht.slice
 cases hz:Ll l with
 |some t=>
  exact zx5
 |none=>
  exact zx5
open Go Go.RowKit Go.Lib Go.Sort Go.Shelf
mutual
def Ex.texts:Ex->List (List UInt8)| .mk h ks=>Gq ks++[Qa h (Gp ks)]
def Gq:List Ex->List (List UInt8)|[]=>[]|e::es=>e.texts++Gq es
end
mutual
theorem Ex.texts_len:∀e:Ex,e.texts.length=e.size
 | .mk h ks=>by rw[Ex.texts,Ab,Kb ks,Ex.size];rfl
theorem Kb:∀l:List Ex,(Gq l).length=A6 l
 |[]=>rfl
 |e::l=>by rw[Gq,Ab,Ex.texts_len e,Kb l,A6]
end
theorem Ex.texts_last (e:Ex):e.texts[e.size - 1]? =some e.text:=by
 cases e with
 |mk h ks=>
  rw[Ex.texts,Ex.size,Nat.add_sub_cancel,List.getElem?_append_right (by rw[Kb];omega),Kb,Nat.sub_self,Ex.text]
  rfl
theorem Ex.flat_last (e:Ex)(b:Nat):∃n,(e.flat b)[e.size - 1]? =some n/\n.h=e.hd:=by
 cases e with
 |mk h ks=>
  refine⟨⟨h,Ck ks b⟩,?_,rfl⟩
  rw[Ex.flat,Ex.size,Nat.add_sub_cancel,List.getElem?_append_right (by rw[B5];omega),B5,Nat.sub_self]
  rfl
theorem cR:∀(es:List Ex) (b k m:Nat) (e:Ex),es[k]? =some e->(Ck es b)[k]? =some m->b<=m/\m<b+A6 es/\(∃n,(Bl es b)[m - b]? =some n/\n.h=e.hd)/\(Gq es)[m - b]? =some e.text
 |[],_,k,_,_,h,_=>by simp at h
 |x::es,b,0,m,e,h,hm=>by
  injection h with h;subst h;have hp:=x.size_pos
  have hm':b+x.size - 1=m:=by injection hm
  subst hm';obtain⟨n,h1,h2⟩:=x.flat_last b
  rw[A6,show b+x.size - 1 - b=x.size - 1 by omega]
  refine⟨by omega,by omega,⟨n,?_,h2⟩,?_⟩
  ·rw[Bl,List.getElem?_append_left sO];exact h1
  ·rw[Gq,List.getElem?_append_left (by rw[Ex.texts_len];omega)]
   exact x.texts_last
 |x::es,b,k+1,m,e,h,hm=>by
  obtain⟨h1,h2,⟨n,h3,h4⟩,h5⟩:=cR es (b+x.size) k m e rY (by simpa[Ck] using hm)
  rw[A6]
  refine⟨by omega,by omega,⟨n,?_,h4⟩,?_⟩
  ·rw[Bl,List.getElem?_append_right sO,Ex.flat_len,show m - b - x.size=m - (b+x.size) by omega]
   exact h3
  ·rw[Gq,List.getElem?_append_right (by rw[Ex.texts_len];omega),Ex.texts_len,show m - b - x.size=m - (b+x.size) by omega]
   exact h5
theorem oQ {h:Hd}(h1:1<=h.op)(ks:List Ex)(F:Nat->Nat->List UInt8)(hF:∀k n,F k n=Uj (Gp ks) k n):D7 h ks.length F=Qa h (Gp ks):=by
 unfold D7 Qa
 by_cases o1:h.op=1
 ·rw[if_pos o1,if_pos rA];unfold Ks;rw[if_pos o1]
 rw[if_neg o1]
 by_cases o2:h.op=2
 ·rw[if_pos o2,if_pos rA];unfold Ks;rw[if_neg o1,if_pos o2]
 rw[if_neg o2]
 by_cases o3:h.op=3
 ·rw[if_pos o3,if_pos rA];unfold Ks;rw[if_neg o1,if_neg o2]
 have o4:¬h.op<=3:=by omega
 rw[if_neg o3,if_neg o4]
 have hjoin:(List.range ks.length).map (fun k=>F k 0)=(Gp ks).map Prod.snd:=by
  rw[Ki,List.map_map]
  refine List.ext_getElem rC fun i g1 g2=>?_
  have hi:i<ks.length:=by simpa using g1
  rw[List.getElem_map,List.getElem_range,hF];unfold Uj;rw[Ki,List.getElem?_map,Ag hi];simp
 rw[hjoin,hF,hF,hF,hF]
theorem Y0:∀(k:Nat),(∀(e:Ex) (b:Nat) (L pre post:List Nz),e.size<=k->e.All F4->L=pre++((e.flat b).map Nd.z++post)->pre.length=b->B8 L (b+e.size)=B8 L b++e.texts)/\
 (∀(es:List Ex) (b:Nat) (L pre post:List Nz),A6 es<=k->Kl F4 es->L=pre++((Bl es b).map Nd.z++post)->pre.length=b->B8 L (b+A6 es)=B8 L b++Gq es):=by
 intro k
 induction k with
 |zero=>
  refine⟨fun e b L pre post h=>absurd e.size_pos rA,fun es b L pre post h _ _ _=>?_⟩
  cases es with
  |nil=>rw[A6,Nat.add_zero,Gq,List.append_nil]
  |cons e es=>rw[A6] at h;exact absurd e.size_pos rA
 |succ k ih=>
  have one:∀(e:Ex) (b:Nat) (L pre post:List Nz),e.size<=k+1->e.All F4->L=pre++((e.flat b).map Nd.z++post)->pre.length=b->B8 L (b+e.size)=B8 L b++e.texts:=fun e b L pre post hs hg hL hp=>by
   cases e with
   |mk h ks=>
    rw[Ex.size] at hs ⊢;rw[Ex.All] at hg;rw[Ex.flat,List.map_append,List.append_assoc] at hL;have h1:=ih.2 ks b L pre _ rA hg.2 hL hp
    have hat:L[b+A6 ks]? =some (Nd.z ⟨h,Ck ks b⟩):=by
     rw[hL,List.getElem?_append_right rA,List.getElem?_append_right (by rw[List.length_map,B5];omega),List.length_map,B5,hp,show b+A6 ks - b - A6 ks=0 by omega]
     rfl
    rw[←Nat.add_assoc,B8,hat,h1,Ex.texts,List.append_assoc]
    congr 2
    have hlen:(Nd.z ⟨h,Ck ks b⟩).kids.length=ks.length:=by simp [Nd.z,Ka]
    show[D7 h (Nd.z ⟨h,Ck ks b⟩).kids.length (Dj L (B8 L b++Gq ks) (Nd.z ⟨h,Ck ks b⟩).kids)]=[Qa h (Gp ks)]
    rw[hlen,oQ hg.1.op1];intro i n;unfold Dj Uj;rw[Ki,List.getElem?_map]
    have hkz:(Nd.z ⟨h,Ck ks b⟩).kids[i]? =((Ck ks b)[i]?).map fun(x:Nat)=>(x:Int):=by simp [Nd.z]
    rw[hkz]
    by_cases hi:i<ks.length
    ·have hi2:i<(Ck ks b).length:=by rw[Ka];exact hi
     rw[Ag hi,Ag hi2];obtain⟨e1,e2,⟨nd,e3,e4⟩,e5⟩:=cR ks b i _ _ (Ag hi) (Ag hi2)
     obtain⟨m,hm⟩:∃m,(Ck ks b)[i]=m:=⟨_,rfl⟩
     rw[hm] at e1 e2 e3 e5 ⊢
     have hLm:L[m]? =some (Nd.z nd):=by
      rw[hL,List.getElem?_append_right rA,hp,List.getElem?_append_left (by rw[List.length_map,B5];omega),List.getElem?_map,e3]
      rfl
     have hTm:(B8 L b++Gq ks)[m]? =some ks[i].text:=by
      rw[List.getElem?_append_right (by rw[Fb];omega),Fb]
      exact e5
     simp only[Option.map_some,Int.toNat_natCast]
     rw[if_pos (by rw[Ab,Fb,Kb];omega),hLm,hTm]
     simp only
     rw[show(Nd.z nd).h=ks[i].hd from e4]
    ·have g1:ks[i]? =none:=List.getElem?_eq_none rA
     have g2:(Ck ks b)[i]? =none:=List.getElem?_eq_none (by rw[Ka];omega)
     rw[g1,g2];rfl
  refine⟨one,fun es=>?_⟩
  induction es with
  |nil=>intro b L pre post _ _ _ _;rw[A6,Nat.add_zero,Gq,List.append_nil]
  |cons e es ihs=>
   intro b L pre post hs hg hL hp;rw[A6] at hs ⊢;rw[Bl,List.map_append,List.append_assoc] at hL;have h1:=one e b L pre _ rA hg.1 hL hp;have hes:=e.size_pos
   have h2:=ihs (b+e.size) L (pre++(e.flat b).map Nd.z) post rA hg.2 (by rw[hL,List.append_assoc]) (by rw[Ab,List.length_map,Ex.flat_len,hp])
   rw[←Nat.add_assoc,h2,h1,Gq,List.append_assoc]
theorem Ph {a:Ex}(hg:a.All F4)(h60:a.size<=60):O5 ((a.flat 0).map Nd.z)=a.text:=by
 have h1:=(Y0 a.size).1 a 0 ((a.flat 0).map Nd.z) [] [] (Ak _) hg rC rfl
 have hlen:((a.flat 0).map Nd.z).length=a.size:=by rw[List.length_map,Ex.flat_len]
 rw[Nat.zero_add,B8,List.nil_append] at h1
 have hsh:∀(k:Nat),(∀e:Ex,e.size<=k->e.All F4->e.size<=60->K5 e.texts=true)/\(∀es:List Ex,A6 es<=k->Kl F4 es->A6 es<=60->K5 (Gq es)=true):=fun k=>by
  induction k with
  |zero=>
   refine⟨fun e h=>absurd e.size_pos rA,fun es h _ _=>?_⟩
   cases es with
   |nil=>rfl
   |cons e es=>rw[A6] at h;exact absurd e.size_pos rA
  |succ k ih=>
   have one:∀e:Ex,e.size<=k+1->e.All F4->e.size<=60->K5 e.texts=true:=fun e h hg h6=>by
    cases e with
    |mk hd ks=>
     have hs:=Kg _ (.mk hd ks) (Ak _) hg;rw[Ex.size] at h h6 hs;rw[Ex.All] at hg;rw[Ex.texts];refine Rm (ih.2 ks rA hg.2 rA) ?_;rw[Ex.text] at hs;omega
   refine⟨one,fun es=>?_⟩
   induction es with
   |nil=>intro _ _ _;rfl
   |cons e es ihs=>
    intro h hg h6;rw[A6] at h h6;rw[Gq];have h1:=one e rA hg.1 rA
    have h2:=ihs (by have:=e.size_pos;omega) hg.2 rA
    unfold K5 at h1 h2 ⊢;rw[List.all_append,h1,h2];rfl
 unfold O5;rw[hlen,h1,if_pos ((hsh a.size).1 a (Ak _) hg h60)];have hl:=a.texts_last;rw[←a.texts_len,←List.getLast?_eq_getElem?] at hl;rw[hl];rfl
theorem aF {l:List UInt8}{a:Ex}(h:Bn l= .ok a):Ll ((a.flat 0).map Nd.z)=some a.text:=by
 obtain⟨_,_,_,h60⟩:=Dx h;obtain⟨a',h1,h2⟩:=Wf h;unfold Ll
 rw[if_neg (by rw[List.length_map,Ex.flat_len];omega),Ph (Ei h) h60,h1]
 simp only;rw[if_pos (Nn h2.symm)]
theorem Zh {l:List UInt8}{v:Int×Int×List UInt8}(h:Dy l= .ok v){n:List UInt8}{a b:Int}(hn:n=[]:=by rfl):P9 ⟨1,v,n,a,b⟩:=by
 subst hn;have hf:=Uw l
 have hl:l.length<=402:=by obtain⟨k,m,s⟩:=v;exact(Xg h).2.2.2
 have hr:E0 l= .ok v:=by
  unfold Dy at h
  repeat' split at h
  all_goals first
   |(cases h;done)
   |(injection h with h;subst h;assumption)
 rw[hr] at hf;obtain⟨h1,h2,h3⟩:=hf
 refine⟨h1,h2,?_,by simp⟩
 show v.2.2.length<=1000000
 omega
theorem jG {t:Tkn}{h:Hd}(hf:Qg t.w)(he:Ce t=some h):P9 h:=by
 obtain⟨⟨k,t,v⟩,l,c⟩:=t;unfold Ce at he;simp only at he
 cases hf with
 |name hk ht hv=>
  simp only at hk ht hv;subst hk hv;rw[if_neg rB,if_neg rB,if_neg rB,if_pos rfl] at he
  cases hc:Dd t with
  |some x=>rw[hc] at he;cases he
  |none=>
   rw[hc] at he
   cases hl:Lx t with
   |none=>rw[hl] at he;cases he
   |some v=>
    rw[hl] at he;injection he with he;subst he;unfold Lx at hl
    repeat' split at hl
    all_goals first
     |(cases hl;done)
     |(injection hl with hl;subst hl;refine⟨?_,?_,?_,?_⟩<;>simp [v0];done)
 |var hk ht hv=>
  simp only at hk ht hv;subst hk hv;rw[if_neg rB,if_pos rfl] at he;injection he with he;subst he
  have:=(Fa ht).2.1
  refine⟨by simp [v0],by simp [v0],by simp [v0],?_⟩
  show t.length<=1000000
  omega
 |self hk ht hv=>
  simp only at hk ht hv;subst hk ht hv;rw[if_neg rB,if_neg rB,if_pos rfl] at he;injection he with he;subst he
  refine⟨?_,?_,?_,?_⟩<;>simp [v0]
 |num hk ht hm=>
  simp only at hk ht;subst hk;rw[if_pos rB] at he;injection he with he;subst he;exact Zh ht
 |str hk ht hm hs=>
  simp only at hk ht;subst hk;rw[if_pos rB] at he;injection he with he;subst he;exact Zh ht
 |sym hk ht hv=>
  simp only at hk ht hv;subst hk hv;rw[if_pos rB] at he;injection he with he;subst he
  have:=(Fa ht).2.1
  refine⟨by simp,by simp,?_,by simp⟩
  show t.length<=1000000
  omega
 |sign hk _ _=>
  simp only at hk;subst hk;rw[if_neg rB,if_neg rB,if_neg rB,if_neg rB] at he;cases he
theorem Rc {l:List UInt8}{a:Ex}(h:Bn l= .ok a):∀x∈(a.flat 0).map Nd.z,0<=x.h.op/\P9 x.h:=by
 obtain⟨ts,h1,h2,_⟩:=Dx h;have hg:=Ei h
 have hl:a.All (fun h k=>h.op<=3->P9 h):=by
  refine Xa (P:=fun h _=>h.op<=3->P9 h) (W:=fun t=>Qg t.w) ?_ ?_ ?_ ?_ (.lvl 0) 0 ts sY trivial (fun t ht=>Pl h1 t ht) a [] h2
  ·exact fun t hd hf he _=>jG hf he
  ·intro n t hn _ h3
   have:=(show 3<J2 n by rcases hn with rfl|rfl<;>decide)
   have h4:J2 n<=3:=h3;omega
  ·intro n t q _ hz h3
   have:=Om n _ (Nm hz)
   simp only at h3;omega
  ·intro t c k _ hc _ _ h3;have h4:=(Sy hc).1;unfold Fq at h4;simp only at h3;omega
 intro x hx;obtain⟨n,hn,rfl⟩:=List.mem_map.1 hx;obtain⟨g1,g2⟩:=Zi a 0 (hg.and hl) n hn;have ho:=g1.op1
 refine⟨by show 0<=n.h.op;omega,?_⟩
 show P9 n.h
 by_cases h3:n.h.op<=3
 ·exact g2 h3
 ·obtain⟨e1,e2⟩:=g1.inner rA;unfold P9;rw[e1,e2]
  refine⟨?_,?_,?_,?_⟩<;>simp [v0]
theorem Gl {l:List UInt8}{a:Ex}(h:Bn l= .ok a){w:World}{tv:Value}(ht:TrZ w tv ((a.flat 0).map Nd.z))(hR:Rd w):
 Calls Tryz.prog 25 #[tv] w fun e w'=>e= .returned (.tuple #[.string ⟨a.text.toArray⟩,.int .i64 0])/\Below w.heap.size w w':=by
 have:=Q6 ht (fun x hx=>(Rc h x hx).1) (fun x hx=>(Rc h x hx).2) hR
 rw[aF h] at this;exact this
open Go Go.RowKit Go.Lib Go.Sort Go.Shelf
def k8s:Nat->ByteArray
 |0=>⟨#[40,63,97,41,43,40,40,50,42,51,41,41]⟩
 |1=>⟨#[49,45,40,50,45,51,41]⟩
 |2=>⟨#[110,111,116,32,40,63,112,32,97,110,100,32,116,114,117,101,41]⟩
 |_=>⟨#[45,40,49,41]⟩
def k8t:Nat->ByteArray
 |0=>⟨#[63,97,32,43,32,50,32,42,32,51]⟩
 |1=>⟨#[49,32,45,32,40,50,32,45,32,51,41]⟩
 |2=>⟨#[110,111,116,32,40,63,112,32,97,110,100,32,116,114,117,101,41]⟩
 |_=>⟨#[45,49]⟩
def k8e (k:Nat):Ex:=match Bn (dl (k8s k)) with
 | .ok a=>a
 | .error _=> .mk ⟨0,v0,[],0,0⟩ []
theorem oJ {k:Nat}(h:k<4):Bn (dl (k8s k))= .ok (k8e k)/\(k8s k).size<=65536/\(⟨(k8e k).text.toArray⟩:ByteArray)=k8t k:=by
 obtain rfl|rfl|rfl|rfl:k=0\/k=1\/k=2\/k=3:=by omega
 ·exact zw3
 ·exact zw3
 ·exact zw3
 ·exact zw3
theorem kW {k:Nat}(h:k<4)(w:World):(Instr.index 99 (.agg #[.string ⟨#[40,63,97,41,43,40,40,50,42,51,41,41]⟩,.string ⟨#[63,97,32,43,32,50,32,42,32,51]⟩,.string ⟨#[49,45,40,50,45,51,41]⟩,.string ⟨#[49,32,45,32,40,50,32,45,32,51,41]⟩,.string ⟨#[110,111,116,32,40,63,112,32,97,110,100,32,116,114,117,101,41]⟩,.string ⟨#[110,111,116,32,40,63,112,32,97,110,100,32,116,114,117,101,41]⟩,.string ⟨#[45,40,49,41]⟩,.string ⟨#[45,49]⟩]) (.int .i64 (k:Int))).run Tryz.prog w= .ok (.agg #[.string (k8s k),.string (k8t k)]) w:=by
 obtain rfl|rfl|rfl|rfl:k=0\/k=1\/k=2\/k=3:=by omega
 all_goals kernel_rfl
theorem qF (w:World):Calls Tryz.prog 27 #[.int .u8 8] w fun e w'=>e= .returned (.string ⟨#[60,62]⟩)/\Below w.heap.size w w':=Lz 8 rB w
theorem nR (w:World):Calls Tryz.prog 27 #[.int .u8 17] w fun e w'=>e= .returned (.string ⟨#[]⟩)/\Below w.heap.size w w':=Lz 17 rB w
theorem Ep (w:World)(hR:Rd w):Calls Tryz.prog 24 #[] w fun e w'=>e= .returned (.bool true)/\Below w.heap.size w w':=by
 have HR:=Ao hR;clear hR;go_enter Tryz.func24,Tryz.ntmps24;go_wp2_with fail
 go_loopw [13] (fun v13 wr=>∃k:Nat,k<=4/\v13= .int .i64 k/\Hid (Below w.heap.size w wr)) (fun v13 _=>4 - (intOf v13).toNat)
 case atStart=>exact⟨0,Nat.zero_le _,rfl,Ao (Below.refl _ w)⟩
 case round=>
  obtain⟨k,hk,rfl,hq⟩:=hrel
  by_cases hk4:k<4
  ·obtain⟨hr,hs,htx⟩:=oJ hk4;have i2:decide ((k:Int)<4)=true:=Am rA;have Hix:=kW hk4 wr
   obtain⟨s,hsk⟩:∃s,k8s k=s:=⟨_,rfl⟩
   obtain⟨u,htk⟩:∃u,k8t k=u:=⟨_,rfl⟩
   rw[hsk] at hr hs;rw[htk] at htx;rw[hsk,htk] at Hix
   obtain⟨a,ha⟩:∃a,k8e k=a:=⟨_,rfl⟩
   rw[ha] at hr htx
   obtain⟨W1,hW1⟩:∃W1,wr.alloc (.cells #[.string s,.string u] 51)=W1:=⟨_,rfl⟩
   have hb1:Below wr.heap.size wr W1:=by rw[←hW1];exact(Below.refl _ wr).alloc (Ak _) _
   have hp1:=Au wr (.cells #[.string s,.string u] 51);rw[hW1] at hp1;obtain⟨x0,x1,_⟩:=B1 hp1;have HP1:=Ao hp1;have HB1:=Ao (hq.out.trans (hb1.mono hq.out.size));have L1:=mS W1 hs hr;simp only[zOf,pOf] at L1;have L1:=Ao L1;have Hr:=Ao hr;have Htx:=Ao htx;clear hb1 hp1 hr hs htx hsk htk ha hq;subst hW1;go_wp2_with fail;refine L1.out.mono ?_;rintro e V1 ⟨a1,k1,c1,rfl,hz1,hb2⟩;obtain⟨x0,x1,_⟩:=B1 ((hb2.block _ (Aq HP1.out)).trans HP1.out)
   obtain⟨W2,hW2⟩:∃W,V1.alloc (.cells #[.int .i64 0,.int .i64 0] 33)=W:=⟨_,rfl⟩
   have hb3:Below V1.heap.size V1 W2:=by rw[←hW2];exact(Below.refl _ V1).alloc (Ak _) _
   have HX1:=Ao (A5 hb3 x1);have HB2:=Ao (HB1.out.trans ((hb2.trans (hb3.mono hb2.size)).mono HB1.out.size));have hT:=Gl Hr.out (hz1.below hb3) (HR.out.below HB2.out);rw[Htx.out] at hT;have HT:=Ao hT;clear hz1 hb2 hb3 x0 x1 hT L1 HB1 HP1;subst hW2;go_wp2_with fail;refine HT.out.mono ?_;rintro e V3 ⟨rfl,hb4⟩;have x1:=A5 hb4 HX1.out;have HB3:=Ao (HB2.out.trans (hb4.mono HB2.out.size));clear hb4 HT HX1 HB2;go_wp2_with fail;go_roundw
   case rel=>exact⟨k+1,by omega,by go_num,HB3⟩
   case measure=>simp [intOf];omega
  ·obtain rfl:k=4:=by omega
   have HB:=hq;have HI8:=Ao (qF wr);clear hq;go_wp2_with fail;refine HI8.out.mono ?_;rintro e V1 ⟨rfl,hb1⟩;have HB1:=Ao (HB.out.trans (hb1.mono HB.out.size));have HI17:=Ao (nR V1);clear hb1 HI8;go_wp2_with fail;refine HI17.out.mono ?_;rintro e V2 ⟨rfl,hb2⟩;have HB2:=Ao (HB1.out.trans (hb2.mono HB1.out.size));clear hb2 HI17;go_wp2_with fail;go_ret;exact⟨rfl,HB2.out⟩
end Go.Proofs.YtgfakdobajgnfaaGreatDoor
