import Derived.Test.YtgfakdobajgnfaaGreatDoorQn14
set_option maxRecDepth 100000
set_option maxHeartbeats 16000000
namespace Go.Proofs.YtgfakdobajgnfaaGreatDoor
open Go Go.RowKit Go.Lib Go.Sort Go.Shelf
def Dc (l:List Nz):Nat->List (List UInt8)
 |0=>[]
 |k+1=>Dc l k++[match l[k]? with
  |some x=>D5 x.h x.kids.length (Dl l (Dc l k) x.kids)
  |none=>[]]
theorem Gc (l:List Nz):∀k,(Dc l k).length=k
 |0=>rfl
 |k+1=>by rw[Dc,Ab,Gc l k];rfl
theorem Pw (l:List Nz){k:Nat}:∀m,k<=m->∀t∈Dc l k,t∈Dc l m
 |0,h,t,ht=>by
  obtain rfl:k=0:=by omega
  exact ht
 |m+1,h,t,ht=>by
  by_cases e:k=m+1
  ·rw[←e];exact ht
  rw[Dc];exact List.mem_append.2 (.inl (Pw l m nU t ht))
def O6 (ts:List (List UInt8)):Bool:=ts.all fun t=>decide (t.length<=65536)
def Rg (l:List Nz):List UInt8:=if O6 (Dc l l.length)=true then((Dc l l.length).getLast?).getD [] else[]
theorem Mp {ts:List (List UInt8)}(h:O6 ts=true):∀t∈ts,t.length<=65536:=fun t ht=>by
 have:=List.all_eq_true.1 h t ht
 simpa using this
def Z9 (l:List Nz)(k:Nat):List UInt8:=((Dc l k).getLast?).getD []
theorem gM (l:List Nz):(Rg l).length<=65536:=by
 unfold Rg
 split
 ·rename_i h
  cases hl:(Dc l l.length).getLast? with
  |none=>simp
  |some t=>exact Mp h t (List.mem_of_getLast? hl)
 simp
def Gn (w:World)(b:Nat)(l:List (List UInt8)):Prop:=w.heap[b]? =some (.cells (Jp l).toArray 9 (0,0))
theorem Gn.cell {w:World}{b:Nat}{l:List (List UInt8)}(h:Gn w b l){i:Nat}{x:List UInt8}(hx:l[i]? =some x):w.cell? ⟨b,i,none⟩=some (.string ⟨x.toArray⟩):=by
 unfold Gn at h;simp only[World.cell?,h];simp [Jp,hx]
theorem Gn.frozen {w:World}{b:Nat}{l:List (List UInt8)}(h:Gn w b l)(i:Nat):w.frozen? ⟨b,i,none⟩=false:=by
 unfold Gn at h;simp only[World.frozen?,h];simp
theorem Gn.set {w:World}{b:Nat}{l:List (List UInt8)}(h:Gn w b l)(i:Nat)(x:List UInt8):Gn (w.setCell ⟨b,i,none⟩ (.string ⟨x.toArray⟩)) b (l.set i x):=by
 unfold Gn at h ⊢;rw[A2 h];congr 2;apply Array.ext';simp [Jp,List.map_set]
theorem Gn.below {w w':World}{b:Nat}{l:List (List UInt8)}(h:Gn w b l)(hb:Below w.heap.size w w'):Gn w' b l:=(hb.block b (Ay h)).trans h
theorem cR (n:Nat)(hn:n<=1000000)(w:World):∃w',(Instr.makeSlice 39 (.int .i64 (n:Int)) (.int .i64 (n:Int))).run Tryz.prog w= .ok (.slice (some ⟨w.heap.size,0,none⟩) n n) w'/\Below w.heap.size w w'/\Gn w' w.heap.size (List.replicate n []):=by
 obtain⟨i0,hi,hz0,hz1,hz2⟩:=Jh;obtain⟨w',hrun,hown,hg⟩:=run_make_full (P:=Tryz.prog) w w.heap.size 39 9 i0 (.string ⟨#[]⟩) 1 Tryz.underlying39 hi hz0 hz1 .i64 .i64 n (by rw[hz2];omega) oF (Ak _);refine⟨w',hrun,(A8.of_grown hg [] (fun k e=>by cases e)).below,?_⟩;rcases hown.2 with ⟨e,_⟩|⟨g,cap,cur,e,_,hgb,_,_,hcs,hct⟩
 ·cases e
 injection e with e1 _ e3;injection e1 with e1;injection e1 with e1;subst e1;subst e3;unfold Gn;rw[hgb];congr 2;apply Array.ext';rw[List.take_of_length_le qW] at hct;rw[hct];simp [madeCells,Jp];rw[List.eq_replicate_iff];refine⟨by simp,fun u hu=>?_⟩;obtain⟨x,_,rfl⟩:=List.mem_map.1 hu
 show(#[Value.string ⟨#[]⟩]:Array Value)[x % 1]! =_
 rw[Nat.mod_one];rfl
def Sc (l:List Nz)(k:Nat):List (List UInt8):=Dc l k++List.replicate (l.length - k) []
theorem iH {l:List Nz}{k j:Nat}{t:List UInt8}(h:(Dc l k)[j]? =some t):(Sc l k)[j]? =some t:=by
 unfold Sc;rw[List.getElem?_append_left (List.getElem?_eq_some_iff.1 h).1];exact h
theorem jA {l:List Nz}{k:Nat}(hk:k<l.length){t:List UInt8}(ht:Dc l (k+1)=Dc l k++[t]):(Sc l k).set k t=Sc l (k+1):=by
 unfold Sc;have hl:=Gc l k;obtain⟨m,hm⟩:∃m,l.length - k=m+1:=⟨l.length - k - 1,by omega⟩;rw[List.set_append_right _ _ nU,hl,Nat.sub_self,hm,List.replicate_succ,Ad,ht,show l.length - (k+1)=m by omega,List.append_assoc];rfl
structure Y3 (w wr:World)(b tb:Nat)(tv:Value)(l:List Nz)(k:Nat):Prop where
 box:wr.heap[b]? =some (.cells #[tv,.slice (some ⟨tb,0,none⟩) l.length l.length] 139 (0,0))
 row:Gn wr tb (Sc l k)
 bel:Below w.heap.size w wr
 ne:tb<b
 hi:w.heap.size<=tb
 short:O6 (Dc l k)=true
theorem Vd {ts:List (List UInt8)}{t:List UInt8}(h:O6 ts=true)(ht:t.length<=65536):O6 (ts++[t])=true:=by
 unfold O6 at h ⊢;rw[List.all_append,h];simpa using ht
theorem Y3.at {w wr:World}{b tb:Nat}{tv:Value}{l:List Nz}{k:Nat}(h:Y3 w wr b tb tv l k)(ht:TrZ w tv l)(hk:k<=l.length)(ho:∀x∈l,0<=x.h.op):Nl wr b tv tb l (Dc l k):=by
 obtain⟨c0,c1,_⟩:=Be h.box;exact⟨ht.below h.bel,c0,c1,fun j t hj=>h.row.cell (iH hj),by rw[Gc];exact hk,ho,Mp h.short⟩
theorem Y3.next {w wr V:World}{b tb:Nat}{tv:Value}{l:List Nz}{k:Nat}(h:Y3 w wr b tb tv l k)(hb:Below wr.heap.size wr V)(hk:k<l.length){t:List UInt8}(ht:Dc l (k+1)=Dc l k++[t])(hs:t.length<=65536):
 Y3 w (V.setCell ⟨tb,k,none⟩ (.string ⟨t.toArray⟩)) b tb tv l (k+1):=by
 refine⟨?_,?_,(h.bel.trans (hb.mono h.bel.size)).setCell h.hi _,h.ne,h.hi,by rw[ht];exact Vd h.short hs⟩
 ·rw[Below.heap_setCell _ _ _ _ (by show b≠tb;have:=h.ne;omega)];exact(hb.block b (Ay h.box)).trans h.box
 rw[←jA hk ht];exact(h.row.below hb).set k t
theorem Vn {w:World}{tv:Value}{l:List Nz}(ht:TrZ w tv l)(ho:∀x∈l,0<=x.h.op)(hf:∀x∈l,Kt x.h)(hR:Rd w):
 Calls Tryz.prog 61 #[tv] w fun e w'=>e= .returned (.string ⟨(Rg l).toArray⟩)/\Below w.heap.size w w':=by
 have hlm:=ht.1;have HT:=Ax ht;obtain⟨ta,tc,rfl⟩:=ht.slice;obtain⟨W0,hmk,hb0,hrow⟩:=cR l.length hlm w;obtain⟨tb,htb⟩:∃tb,w.heap.size=tb:=⟨_,rfl⟩;obtain⟨W1,hW1⟩:∃W1,W0.alloc (.cells #[.slice ta l.length tc,.slice (some ⟨tb,0,none⟩) l.length l.length] 139)=W1:=⟨_,rfl⟩;have hp1:=A0 W0 (.cells #[.slice ta l.length tc,.slice (some ⟨tb,0,none⟩) l.length l.length] 139);have hb1:Below W0.heap.size W0 W1:=by rw[←hW1];exact(Aq _ _).alloc (Ak _) _
 rw[hW1] at hp1;rw[htb] at hmk;have hlt:tb<W0.heap.size:=by rw[←htb];exact Ay hrow
 have HS:Hid (Y3 w W1 W0.heap.size tb (.slice ta l.length tc) l 0):=Ax ⟨hp1,by rw[←htb];exact(show Gn W0 w.heap.size (Sc l 0) from hrow).below hb1,hb0.trans (hb1.mono hb0.size),hlt,by omega,rfl⟩;have Htb:=Ax htb;have HO:=Ax ho;have HF:=Ax hf;have HR:=Ax hR;clear ht ho hf hR hb0 hrow hp1 hb1 htb hlt;go_enter Tryz.func61,Tryz.ntmps61;go_wp2_with fail
 go_loopw [4,14] (fun v4 v14 wr=>∃k:Nat,k<=l.length/\v14= .int .i64 k/\v4= .string ⟨(Z9 l k).toArray⟩/\Hid (Y3 w wr W0.heap.size tb (.slice ta l.length tc) l k)) (fun _ v14 _=>l.length - (intOf v14).toNat)
 case atStart=>exact⟨0,Nat.zero_le _,rfl,rfl,HS⟩
 obtain⟨k,hk,rfl,rfl,hq⟩:=hrel;have hwd:=hq.out;by_cases hkl:k<l.length
 ·have hN:=dL (x:=l[k]) (hwd.at HT.out hk HO.out) (by rw[Gc];exact Ag hkl) (HR.out.below hwd.bel) (HF.out _ (List.getElem_mem hkl));rw[Gc] at hN
  have hnx:Dc l (k+1)=Dc l k++[D5 l[k].h l[k].kids.length (Dl l (Dc l k) l[k].kids)]:=by
   rw[Dc,Ag hkl]
  obtain⟨t,htt⟩:∃t,D5 l[k].h l[k].kids.length (Dl l (Dc l k) l[k].kids)=t:=⟨_,rfl⟩;rw[htt] at hN hnx;have i0:(0:Int)<=(k:Int):=by omega
  have i1:(k:Int)<(l.length:Int):=by omega
  have i2:decide ((k:Int)<(l.length:Int))=true:=Am i1;have HN:=Ax hN;have HW:=Ax hwd;have Hnx:=Ax hnx;obtain⟨c0,c1,_⟩:=Be hwd.box;clear hN hwd hnx htt hq HS hmk;go_wp2_with fail;refine HN.out.mono ?_;rintro e V ⟨rfl,hbV⟩;have HV:=Ax hbV;obtain⟨d0,d1,_⟩:=Be ((hbV.block _ (Ay HW.out.box)).trans HW.out.box);clear hbV HN c0 c1;by_cases hbig:65536<t.length
  ·have j1:decide ((65536:Int)<(t.length:Int))=true:=Am nU
   have HZ:Hid (Rg l=[]):=Ax (by
    unfold Rg;rw[Ao];intro hs;have h1:t∈Dc l (k+1):=by rw[Hnx.out];simp
    have:=Mp hs t (Pw l l.length nU t h1)
    omega)
   clear hbig;go_wp2_with fail;go_ret;exact⟨by rw[HZ.out];rfl,HW.out.bel.trans (HV.out.mono HW.out.bel.size)⟩
  have j1:decide ((65536:Int)<(t.length:Int))=false:=An nU;have hs:t.length<=65536:=by omega
  have hnw:=HW.out.next HV.out hkl Hnx.out hs;have HNW:=Ax hnw;have HL:Hid (Z9 l (k+1)=t):=Ax (by unfold Z9;rw[Hnx.out];simp);have hfz:=(HW.out.row.below HV.out).frozen k
  have hrk:=(HW.out.row.below HV.out).cell (i:=k) (x:=((Sc l k)[k]?).getD []) (by
   have:k<(Sc l k).length:=by unfold Sc;rw[Ab,List.length_replicate,Gc];omega
   rw[Ag this];rfl)
  clear hbig hnw;go_wp2_with fail;go_roundw
  case rel=>exact⟨k+1,by omega,by go_num,by rw[HL.out],HNW⟩
  case measure=>simp [intOf];omega
 obtain rfl:k=l.length:=by omega
 have i2:decide ((l.length:Int)<(l.length:Int))=false:=by simp
 have HZ:Hid (Rg l=Z9 l l.length):=Ax (by unfold Rg;rw[Ap hwd.short];rfl);have HB:=Ax hwd.bel;clear hwd hq HS hmk hkl;go_wp2_with fail;go_ret;exact⟨by rw[HZ.out];rfl,HB.out⟩
def Fg (l:List Nz):Option (List UInt8):=if 60<l.length then none else match Cm (Rg l) with
 | .ok u=>if Ef l ((u.flat 0).map Nd.z)=true then some (Rg l) else none
 | .error _=>none
def jB:Option (List UInt8)->Int
 |some _=>0
 |none=>4
theorem bR {w:World}{tv:Value}{l:List Nz}(ht:TrZ w tv l)(ho:∀x∈l,0<=x.h.op)(hf:∀x∈l,Kt x.h)(hR:Rd w):
 Calls Tryz.prog 25 #[tv] w fun e w'=>e= .returned (.tuple #[.string ⟨((Fg l).getD []).toArray⟩,.int .i64 (jB (Fg l))])/\Below w.heap.size w w':=by
 obtain⟨ta,tc,rfl⟩:=ht.slice;have hlm:=ht.1;by_cases h60:60<l.length
 ·have hz:Fg l=none:=by unfold Fg;rw[Ap h60]
  rw[hz];have i1:decide ((60:Int)<(l.length:Int))=true:=Am nU;clear ht ho hf hR hz h60;go_enter Tryz.func25,Tryz.ntmps25;go_wp2_with fail;go_ret2;exact⟨rfl,Aq _ _⟩
 have i1:decide ((60:Int)<(l.length:Int))=false:=An nU;have HW:=Ax (Vn ht ho hf hR);have hsz:=gM l;obtain⟨s,hs⟩:∃s,Rg l=s:=⟨_,rfl⟩
 have hz:Fg l=match Cm s with
  | .ok u=>if Ef l ((u.flat 0).map Nd.z)=true then some s else none
  | .error _=>none:=by unfold Fg;rw[Ao h60,hs]
 rw[hs] at HW hsz;have HT:=Ax ht;cases hr:Cm s with
 |error p=>
  obtain⟨⟨x,y⟩,q⟩:=p;rw[hr] at hz;simp only at hz;rw[hz];have hq:=cQ hr;have hq1:(q !=0)=true:=by simpa using hq
  have HL:=fun V hV=>Ax (nB (s:=⟨s.toArray⟩) V (by show s.toArray.size<=_;simp;omega) hV (show Cm (dl ⟨s.toArray⟩)=_ from hr))
  have HR:=Ax hR;clear ht ho hf hR hz h60 hs hr hq;go_enter Tryz.func25,Tryz.ntmps25;go_wp2_with fail;refine HW.out.mono ?_;rintro e V1 ⟨rfl,hb1⟩;have HB1:=Ax hb1;clear hb1 HW;go_wp2_with fail;refine(HL _ (HR.out.below HB1.out)).out.mono ?_;rintro e V2 ⟨rfl,hb2⟩;have HB2:=Ax (HB1.out.trans (hb2.mono HB1.out.size));clear hb2 HL;go_wp2_with fail;go_ret2;exact⟨rfl,HB2.out.alloc HB2.out.size _⟩
 |ok u=>
  rw[hr] at hz;simp only at hz;have HL:=fun V hV=>Ax (nI (s:=⟨s.toArray⟩) V (by show s.toArray.size<=_;simp;omega) hV (show Cm (dl ⟨s.toArray⟩)=_ from hr))
  have HSL:=Ax (Sg hr);have hu60:u.size<=60:=by obtain⟨_,_,_,h3⟩:=Ky hr;exact h3
  have HR:=Ax hR;obtain⟨m,hm⟩:∃m,Ef l ((u.flat 0).map Nd.z)=m:=⟨_,rfl⟩;rw[hm] at hz;have HM:=Ax hm;have HZ:=Ax hz;clear ht ho hf hR h60 hs hr hm hz;go_enter Tryz.func25,Tryz.ntmps25;go_wp2_with fail;refine HW.out.mono ?_;rintro e V1 ⟨rfl,hb1⟩;have HB1:=Ax hb1;clear hb1 HW;go_wp2_with fail;refine(HL _ (HR.out.below HB1.out)).out.mono ?_;rintro e V2 ⟨uv,rfl,htu,hb2⟩;have hb3:=HB1.out.trans (hb2.mono HB1.out.size);have hV3:Below V2.heap.size V2 (V2.alloc (.cells #[.int .i64 0,.int .i64 0] 33)):=(Aq _ V2).alloc (Ak _) _;have hzu:=(htu.z (by rw[Ex.flat_len];omega) HSL.out).below hV3;have hb4:=hb3.trans (hV3.mono hb3.size);have hsm:=eU _ (HT.out.below hb4) hzu;rw[HM.out] at hsm;have HSM:=Ax hsm;have HB4:=Ax hb4;obtain⟨ua,uc,rfl⟩:=htu.slice;clear hb2 hb3 hV3 hzu hb4 hsm htu HL;go_wp2_with fail;refine HSM.out.mono ?_;rintro e V5 ⟨rfl,hb5⟩;have HB5:=Ax (HB4.out.trans (hb5.mono HB4.out.size));clear hb5 HSM;cases m with
  |true=>
   go_wp2_with fail;go_ret2;exact⟨by rw[HZ.out];rfl,HB5.out⟩
  |false=>
   go_wp2_with fail;go_ret2;exact⟨by rw[HZ.out];rfl,HB5.out⟩
theorem U7 {w:World}{tv:Value}{l:List Nz}(ht:TrZ w tv l)(ho:∀x∈l,0<=x.h.op)(hf:∀x∈l,Kt x.h)(hR:Rd w):
 Calls Tryz.prog 30 #[tv] w fun e w'=>e= .returned (.bool (Fg l).isSome)/\Below w.heap.size w w':=by
 have HT:=Ax (bR ht ho hf hR);obtain⟨ta,tc,rfl⟩:=ht.slice;cases hz:Fg l with
 |some t=>
  exact zx3
 |none=>
  exact zx3
open Go Go.RowKit Go.Lib Go.Sort Go.Shelf
mutual
def Ex.texts:Ex->List (List UInt8)| .mk h ks=>fK ks++[Wu h (Mg ks)]
def fK:List Ex->List (List UInt8)|[]=>[]|e::es=>e.texts++fK es
end
theorem Vm {l:List UInt8}{v:Int×Int×List UInt8}(h:Dq l= .ok v){n:List UInt8}{a b:Int}(hn:n=[]:=by rfl):Kt ⟨1,v,n,a,b⟩:=by
 subst hn;have hf:=Sn l;have hl:l.length<=402:=by obtain⟨k,m,s⟩:=v;exact(Um h).2.2.2
 have hr:Ea l= .ok v:=by
  unfold Dq at h
  repeat' split at h
  all_goals first
   |(cases h;done)
   |(injection h with h;subst h;assumption)
 rw[hr] at hf;obtain⟨h1,h2,h3⟩:=hf;refine⟨h1,h2,?_,by simp⟩;show v.2.2.length<=1000000;omega
theorem gD {t:Tkn}{h:Hd}(hf:Sd t.w)(he:Da t=some h):Kt h:=by
 obtain⟨⟨k,t,v⟩,l,c⟩:=t;unfold Da at he;simp only at he;cases hf with
 |name hk ht hv=>
  simp only at hk ht hv;subst hk hv;rw[Ao nV,Ao nV,Ao nV,Ap rfl] at he;cases hc:C9 t with
  |some x=>rw[hc] at he;cases he
  |none=>
   rw[hc] at he;cases hl:Kb t with
   |none=>rw[hl] at he;cases he
   |some v=>
    rw[hl] at he;injection he with he;subst he;unfold Kb at hl
    repeat' split at hl
    all_goals first
     |(cases hl;done)
     |(injection hl with hl;subst hl;refine⟨?_,?_,?_,?_⟩<;>simp [v0];done)
 |var hk ht hv=>
  simp only at hk ht hv;subst hk hv;rw[Ao nV,Ap rfl] at he;injection he with he;subst he
  have:=(Fi ht).2.1
  refine⟨by simp [v0],by simp [v0],by simp [v0],?_⟩;show t.length<=1000000;omega
 |self hk ht hv=>
  simp only at hk ht hv;subst hk ht hv;rw[Ao nV,Ao nV,Ap rfl] at he;injection he with he;subst he;refine⟨?_,?_,?_,?_⟩<;>simp [v0]
 |num hk ht hm=>
  simp only at hk ht;subst hk;rw[Ap nV] at he;injection he with he;subst he;exact Vm ht
 |str hk ht hm hs=>
  simp only at hk ht;subst hk;rw[Ap nV] at he;injection he with he;subst he;exact Vm ht
 |sym hk ht hv=>
  simp only at hk ht hv;subst hk hv;rw[Ap nV] at he;injection he with he;subst he
  have:=(Fi ht).2.1
  refine⟨by simp,by simp,?_,by simp⟩;show t.length<=1000000;omega
 |sign hk _ _=>
  simp only at hk;subst hk;rw[Ao nV,Ao nV,Ao nV,Ao nV] at he;cases he
theorem Te {l:List UInt8}{a:Ex}(h:Cm l= .ok a):∀x∈(a.flat 0).map Nd.z,0<=x.h.op/\Kt x.h:=by
 obtain⟨ts,h1,h2,_⟩:=Ky h;have hg:=Sm h
 have hl:a.All (fun h k=>h.op<=3->Kt h):=by
  refine Ub (P:=fun h _=>h.op<=3->Kt h) (W:=fun t=>Sd t.w) ?_ ?_ ?_ ?_ (.lvl 0) 0 ts qG trivial (fun t ht=>Nh h1 t ht) a [] h2
  ·exact fun t hd hf he _=>gD hf he
  ·intro n t hn _ h3
   have:=(show 3<K5 n by rcases hn with rfl|rfl<;>decide)
   have h4:K5 n<=3:=h3;omega
  ·intro n t q _ hz h3
   have:=Mm n _ (Ns hz)
   simp only at h3;omega
  intro t c k _ hc _ _ h3;have h4:=(Vu hc).1;unfold G0 at h4;simp only at h3;omega
 intro x hx;obtain⟨n,hn,rfl⟩:=List.mem_map.1 hx;obtain⟨g1,g2⟩:=Qr a 0 (hg.and hl) n hn;have ho:=g1.op1;refine⟨by show 0<=n.h.op;omega,?_⟩;show Kt n.h;by_cases h3:n.h.op<=3
 ·exact g2 h3
 obtain⟨e1,e2⟩:=g1.inner nU;unfold Kt;rw[e1,e2];refine⟨?_,?_,?_,?_⟩<;>simp [v0]
open Go Go.Lib
inductive Ex.Sub:Ex->Ex->Prop where
 |self (e:Ex):Ex.Sub e e
 |kid {s e:Ex} {h:Hd} {ks:List Ex} (he:e∈ks) (hs:Ex.Sub s e):Ex.Sub s (.mk h ks)
theorem Qt:∀(l:List Ex) (b:Nat),∀x∈D4 l b,b<=x/\x<b+Bs l
 |[],_,x,h=>by cases h
 |e::l,b,x,h=>by
  have hp:=e.size_pos;rw[Bs];rw[D4] at h;rcases List.mem_cons.1 h with rfl|h
  ·omega
  have:=Qt l (b+e.size) x h
  omega
theorem cK:∀(k:Nat),(∀(e:Ex) (b j:Nat) (n:Nd),e.size<=k->(e.flat b)[j]? =some n->∀x∈n.kids,b<=x/\x<b+j)/\
 (∀(l:List Ex) (b j:Nat) (n:Nd),Bs l<=k->(B3 l b)[j]? =some n->∀x∈n.kids,b<=x/\x<b+j):=by
 intro k
 induction k with
 |zero=>
  refine⟨fun e b j n h=>?_,fun l b j n h hj=>?_⟩
  ·have:=e.size_pos;omega
  have:=(List.getElem?_eq_some_iff.1 hj).1
  rw[Cr] at this;omega
 |succ k ih=>
  have one:∀(e:Ex) (b j:Nat) (n:Nd),e.size<=k+1->(e.flat b)[j]? =some n->∀x∈n.kids,b<=x/\x<b+j:=fun e b j n h hj x hx=>by
   cases e with
   |mk hd ks=>
    rw[Ex.size] at h;rw[Ex.flat] at hj;by_cases hlt:j<Bs ks
    ·rw[List.getElem?_append_left (by rw[Cr];exact hlt)] at hj;exact ih.2 ks b j n nU hj x hx
    rw[List.getElem?_append_right (by rw[Cr];omega),Cr] at hj;obtain⟨m,hm⟩:∃m,j - Bs ks=m:=⟨_,rfl⟩;rw[hm] at hj;cases m with
    |zero=>
     injection hj with hj;subst hj
     have:=Qt ks b x hx
     omega
    |succ m=>cases hj
  refine⟨one,fun l=>?_⟩
  induction l with
  |nil=>intro b j n _ hj;cases hj
  |cons e l il=>
   intro b j n h hj x hx;rw[Bs] at h;rw[B3] at hj;by_cases hlt:j<e.size
   ·rw[List.getElem?_append_left (by rw[Ex.flat_len];exact hlt)] at hj;exact one e b j n nU hj x hx
   rw[List.getElem?_append_right (by rw[Ex.flat_len];omega),Ex.flat_len] at hj
   have:=il (b+e.size) (j - e.size) n (by have:=e.size_pos;omega) hj x hx
   omega
theorem Ex.Sub.all {P:Hd->Nat->Prop}{s e:Ex}(h:Ex.Sub s e)(ha:e.All P):s.All P:=by
 induction h with
 |self=>exact ha
 |kid he _ ih=>exact ih (Oc ha.2 _ he)
theorem Ex.Sub.size {s e:Ex}(h:Ex.Sub s e):s.size<=e.size:=by
 induction h with
 |self=>exact Ak _
 |kid he _ ih=>
  rw[Ex.size]
  have:=S2 he
  omega
theorem gR {h:Hd}{ks:List Ex}(hg:(Ex.mk h ks).All Rp){e:Ex}(he:e∈ks):e.need<=(Ex.mk h ks).need:=by
 rw[Ex.All] at hg;cases Rr hg.1 with
 |leaf h1 h3 ok=>cases he
 |pre n hn ho=>
  rw[(fJ hn ho _).2.2,List.mem_singleton.1 he,O5];omega
 |mid hi=>
  rw[(jG hi _ _).2.2];rcases List.mem_cons.1 he with rfl|he
  ·have:=O5 (Rk (Bc h.op)) e
   omega
  rw[List.mem_singleton.1 he]
  have:=O5 (Bc h.op+1)
  simp only[this];omega
 |call hc q1 q2=>
  rw[(Zq hc _).2.2]
  have:=kQ (List.mem_map_of_mem (f:=Ex.need) he)
  omega
theorem Ex.Sub.need {s e:Ex}(h:Ex.Sub s e)(ha:e.All Rp):s.need<=e.need:=by
 induction h with
 |self=>exact Ak _
 |kid he _ ih=>exact Al (ih (Oc ha.2 _ he)) (gR ha he)
def InT (t u:List UInt8):Prop:=∃A B,u=A++(t++B)
theorem InT.refl (t:List UInt8):InT t t:=⟨[],[],by simp⟩
theorem InT.left {t u:List UInt8}(h:InT t u)(r:List UInt8):InT t (u++r):=by
 obtain⟨A,B,rfl⟩:=h;exact⟨A,B++r,by simp⟩
theorem InT.right {t u:List UInt8}(h:InT t u)(r:List UInt8):InT t (r++u):=by
 obtain⟨A,B,rfl⟩:=h;exact⟨r++A,B,by simp⟩
theorem InT.cons {t u:List UInt8}(h:InT t u)(c:UInt8):InT t (c::u):=h.right [c]
theorem InT.par {t u:List UInt8}(h:InT t u):InT t (Ny u):=(h.left [41]).cons 40
theorem InT.at {t:List UInt8}{e:Ex}(h:InT t e.text)(n:Nat):InT t (Mo n e):=by
 unfold Mo
 split
 ·exact h.par
 exact h
theorem InT.args {t:List UInt8}{e:Ex}(h:InT t e.text):∀{l:List Ex},e∈l->InT t (I6 [44,32] (l.map Ex.text))
 |[],he=>by cases he
 |[x],he=>by rw[List.mem_singleton.1 he] at h;exact h
 |x::y::l,he=>by
  show InT t (x.text++([44,32]++I6 [44,32] ((y::l).map Ex.text)));rcases List.mem_cons.1 he with rfl|he
  ·exact h.left _
  exact((InT.args h he).right _).right _
theorem gI {h:Hd}{ks:List Ex}(hg:(Ex.mk h ks).All Rp){e:Ex}(he:e∈ks){t:List UInt8}(ht:InT t e.text):InT t (Ex.mk h ks).text:=by
 rw[Ex.All] at hg;cases Rr hg.1 with
 |leaf h1 h3 ok=>cases he
 |pre n hn ho=>
  rw[(fJ hn ho _).1];rw[List.mem_singleton.1 he] at ht;exact(ht.at n).right _
 |mid hi=>
  rw[(jG hi _ _).1];rcases List.mem_cons.1 he with rfl|he
  ·exact(ht.at _).left _
  rw[List.mem_singleton.1 he] at ht;exact((((ht.at _).cons 32).right _).cons 32).right _
 |call hc q1 q2=>
  rw[(Zq hc _).1];exact((ht.args he).par).right _
theorem Ex.Sub.text {s e:Ex}(h:Ex.Sub s e)(ha:e.All Rp):InT s.text e.text:=by
 induction h with
 |self=>exact .refl _
 |kid he _ ih=>exact gI ha he (ih (Oc ha.2 _ he))
open Go Go.RowKit Go.Lib
structure Q5 (l:List Nz):Prop where
 ne:0<l.length
 len:l.length<=60
 op:∀i (h:i<l.length),1<=l[i].h.op/\l[i].h.op<=26
 few:∀i (h:i<l.length),(Ds l[i].h.op).1<=l[i].kids.length/\l[i].kids.length<=(Ds l[i].h.op).2
 kids:∀i (h:i<l.length),∀k∈l[i].kids,0<=k/\k<(i:Int)
 lit:∀i (h:i<l.length),l[i].h.op=1->0<=l[i].h.v.1/\l[i].h.v.1<=5
theorem L9.kind {h:Hd}(hl:L9 h)(h1:h.op=1):0<=h.v.1/\h.v.1<=5:=by
 have ha:=hl.again 0 0;by_cases ha1:h.v.1=1\/h.v.1=2
 ·omega
 by_cases ha3:h.v.1=3
 ·omega
 by_cases ha5:h.v.1=5
 ·omega
 have hw:Nn h=⟨1,P0 h.v.1 h.v.2.1 h.v.2.2,v0⟩:=by
  unfold Nn;rw[Ao nU,Ao nU,Ao ha1,Ao ha3,Ao ha5]
 rw[hw] at ha;unfold Da at ha;rw[Ao (show ¬((1:Int)=4\/(1:Int)=5\/(1:Int)=6) by decide),Ao (show ¬(1:Int)=2 by decide),Ao (show ¬(1:Int)=3 by decide),Ap (show(1:Int)=1 from rfl)] at ha;simp only at ha
 split at ha
 ·cases ha
 unfold Kb at ha
 have key:∀v:Int×Int×List UInt8,(0<=v.1/\v.1<=5)->((some v).map fun v=>(⟨1,v,[],0,0⟩:Hd)).map Hd.bare=some h.bare->0<=h.v.1/\h.v.1<=5:=fun v hv e=>by
  injection e with e;have e2:=Ar (fun x:Hd=>x.v.1) e;have e3:v.1=h.v.1:=e2;omega
 split at ha
 ·exact key _ nV ha
 split at ha
 ·exact key _ nV ha
 split at ha
 ·exact key _ nV ha
 cases ha
theorem Kn {l:List Nz}{t:List UInt8}(h:Fg l=some t):Q5 l:=by
 unfold Fg at h;by_cases h60:60<l.length
 ·rw[Ap h60] at h;cases h
 rw[Ao h60] at h;cases hr:Cm (Rg l) with
 |error p=>
  rw[hr] at h;cases h
 |ok u=>
  rw[hr] at h;simp only at h;by_cases hs:Ef l ((u.flat 0).map Nd.z)=true
  ·have hb:=(Mr _ _).1 hs;have hall:=Qr u 0 (Sm hr)
   have hn:l.length=u.size:=by
    have:=Ar List.length hb
    simpa[Ex.flat_len] using this
   have key:∀i (h:i<l.length),∃n:Nd,(u.flat 0)[i]? =some n/\(l[i].h.op=n.h.op/\l[i].h.v=n.h.v)/\l[i].kids=n.kids.map fun(k:Nat)=>(k:Int):=fun i hi=>by
    have hi2:i<(u.flat 0).length:=by rw[Ex.flat_len];omega
    have e:=Ar (fun m=>m[i]?) hb;simp only[List.getElem?_map,Ag hi,Ag hi2,Option.map_some,Option.some.injEq] at e;refine⟨_,Ag hi2,?_,?_⟩
    ·have h1:=Ar (fun x:Nz=>x.h.op) e;have h2:=Ar (fun x:Nz=>x.h.v) e;exact⟨h1,h2⟩
    have:=Ar (fun x:Nz=>x.kids) e
    exact this
   have hok:∀i (h:i<l.length),∃n:Nd,(l[i].h.op=n.h.op/\l[i].h.v=n.h.v)/\l[i].kids=(n.kids.map fun(k:Nat)=>(k:Int))/\Rp n.h n.kids.length/\∀x∈n.kids,x<i:=fun i hi=>by
    obtain⟨n,h1,h2,h3⟩:=key i hi;refine⟨n,h2,h3,hall n (List.mem_of_getElem? h1),fun x hx=>?_⟩
    have:=((cK u.size).1 u 0 i n (Ak _) h1 x hx).2
    omega
   refine⟨by have:=Ex.size_pos u;omega,by omega,fun i hi=>?_,fun i hi=>?_,fun i hi k hk=>?_,fun i hi h1=>?_⟩
   ·obtain⟨n,⟨h1,_⟩,_,h3,_⟩:=hok i hi;rw[h1];exact⟨h3.op1,h3.op2⟩
   ·obtain⟨n,⟨h1,_⟩,h2,h3,_⟩:=hok i hi;rw[h1,h2,List.length_map];exact⟨h3.few,h3.many⟩
   ·obtain⟨n,_,h2,_,h4⟩:=hok i hi;rw[h2] at hk;obtain⟨x,hx,rfl⟩:=List.mem_map.1 hk
    have:=h4 x hx
    omega
   obtain⟨n,⟨g1,g2⟩,_,h3,_⟩:=hok i hi;rw[g2];rw[g1] at h1;exact(h3.leaf nU).kind h1
  rw[Ao hs] at h;cases h
def F0 (vars:List (List UInt8×Int))(self:Int)(ks:List Int)(x:Nz):Int×Int:=
 if x.kids=[] then Lu x.h vars self else if J9 x.h.op (x.kids.map fun j=>ks.getD j.toNat 0)=255 then(0,8) else(J9 x.h.op (x.kids.map fun j=>ks.getD j.toNat 0),0)
def ofE (vars:List (List UInt8×Int))(self:Int):List Nz->List Int->Except ((Int×Int)×Int) (List Int)
 |[],ks=> .ok ks
 |x::r,ks=>if(F0 vars self ks x).2=0 then ofE vars self r (ks++[(F0 vars self ks x).1]) else .error ((x.h.line,x.h.col),(F0 vars self ks x).2)
theorem Qg {vars:List (List UInt8×Int)}{self:Int}:∀{l:List Nz} {ks r:List Int} (_:ofE vars self l ks= .ok r) (m:List Nz),ofE vars self (l++m) ks=ofE vars self m r
 |[],ks,r,h,m=>by
  injection h with h;subst h;rfl
 |x::l,ks,r,h,m=>by
  unfold ofE at h;rw[List.cons_append];rw[ofE]
  split at h
  ·rename_i hz
   rw[Ap hz];exact Qg h m
  cases h
def ofP (vars:List (List UInt8×Int))(self:Int)(l:List Nz):Int×(Int×Int)×Int:=match Fg l with
 |none=>(0,(0,0),4)
 |some _=>match ofE vars self l [] with
  | .ok ks=>(ks.getLastD 0,(0,0),0)
  | .error p=>(0,p)
open Go Go.RowKit Go.Lib
def KAt (w:World)(b:Nat)(l:List Int):Prop:=w.heap[b]? =some (.cells (l.map (Value.int .u8)).toArray 5 (0,0))
theorem KAt.cell {w:World}{b:Nat}{l:List Int}(h:KAt w b l){i:Nat}{x:Int}(hx:l[i]? =some x):w.cell? ⟨b,i,none⟩=some (.int .u8 x)/\w.frozen? ⟨b,i,none⟩=false:=by
 unfold KAt at h;simp only[World.cell?,World.frozen?,h];simp [hx]
theorem KAt.set {w:World}{b:Nat}{l:List Int}(h:KAt w b l)(i:Nat)(x:Int):KAt (w.setCell ⟨b,i,none⟩ (.int .u8 x)) b (l.set i x):=by
 unfold KAt at h ⊢;rw[A2 h];congr 2;apply Array.ext';simp [List.map_set]
theorem KAt.below {w w':World}{b:Nat}{l:List Int}(h:KAt w b l)(hb:Below w.heap.size w w'):KAt w' b l:=(hb.block b (Ay h)).trans h
theorem mF:(Tryz.prog.info? 5).map (fun i=>(i.zero,i.size,i.bytes))=some (some (.int .u8 0),1,1):=by kernel_rfl
theorem Wq:∃i,Tryz.prog.info? 5=some i/\i.zero=some (.int .u8 0)/\i.size=1/\i.bytes=1:=by
 have h:=mF;cases hi:Tryz.prog.info? 5 with
 |none=>simp [hi] at h
 |some i=>
  exact zyc
theorem lK (n:Nat)(hn:n<=1000000)(w:World):∃w',(Instr.makeSlice 40 (.int .i64 (n:Int)) (.int .i64 (n:Int))).run Tryz.prog w= .ok (.slice (some ⟨w.heap.size,0,none⟩) n n) w'/\Below w.heap.size w w'/\KAt w' w.heap.size (List.replicate n 0):=by
 obtain⟨i0,hi,hz0,hz1,hz2⟩:=Wq;obtain⟨w',hrun,hown,hg⟩:=run_make_full (P:=Tryz.prog) w w.heap.size 40 5 i0 (.int .u8 0) 1 Tryz.underlying40 hi hz0 hz1 .i64 .i64 n (by rw[hz2];omega) oF (Ak _);refine⟨w',hrun,(A8.of_grown hg [] (fun k e=>by cases e)).below,?_⟩;rcases hown.2 with ⟨e,_⟩|⟨g,cap,cur,e,_,hgb,_,_,hcs,hct⟩
 ·cases e
 injection e with e1 _ e3;injection e1 with e1;injection e1 with e1;subst e1;subst e3;unfold KAt;rw[hgb];congr 2;apply Array.ext';rw[List.take_of_length_le qW] at hct;rw[hct];simp [madeCells];rw[List.eq_replicate_iff];refine⟨by simp,fun u hu=>?_⟩;obtain⟨x,_,rfl⟩:=List.mem_map.1 hu
 show(#[Value.int .u8 0]:Array Value)[x % 1]! =_
 rw[Nat.mod_one];rfl
theorem N8 {op:Int}{ks:List Int}(h0:∀x∈ks,0<=x):0<=J9 op ks:=by
 have hnum:∀(l:List Int) (k:Int),0<=k->0<=Gm k l:=by
  intro l
  induction l with
  |nil=>intro k hk;exact hk
  |cons x l ih=>
   intro k hk;unfold Gm
   split
   ·omega
   exact ih _ nU
 have hg:∀i,0<=ks.getD i 0:=fun i=>by
  rw[List.getD_eq_getElem?_getD];cases e:ks[i]? with
  |none=>exact Int.le_refl 0
  |some x=>exact h0 x (List.mem_of_getElem? e)
 unfold J9;cases hc:Ii op with
 |some c=>
  simp only
  split
  ·unfold Ii at hc
   repeat' split at hc
   all_goals first|(cases hc;done)|(injection hc with hc;subst hc;decide)
  omega
 |none=>
  simp only;have g1:=hg 1;have g2:=hg 2
  repeat' split
  all_goals first|omega|exact hnum ks 0 (Int.le_refl 0)
theorem Sx {n:List UInt8}:∀{l:List (List UInt8×Int)} {k:Int},Di n l=some k->∃x∈l,x.2=k
 |[],k,h=>by cases h
 |x::l,k,h=>by
  unfold Di at h
  split at h
  ·injection h with h;exact⟨x,.head _,h⟩
  obtain⟨y,hy,e⟩:=Sx h;exact⟨y,.tail _ hy,e⟩
theorem Ug {vars:List (List UInt8×Int)}{self:Int}{ks:List Int}{x:Nz}(hv:∀y∈vars,0<=y.2)(hs:0<=self)(h0:∀y∈ks,0<=y)(hl:x.h.op=1->0<=x.h.v.1):0<=(F0 vars self ks x).1:=by
 have hsc:∀k:Int,0<=k->0<=(J0 k).1:=fun k hk=>by
  unfold J0
  split
  ·exact Int.le_refl 0
  exact hk
 unfold F0
 split
 ·unfold Lu
  split
  ·rename_i h
   exact hl h
  split
  ·cases e:Di x.h.name vars with
   |none=>exact Int.le_refl 0
   |some k=>
    obtain⟨y,hy,rfl⟩:=Sx e;exact hsc _ (hv y hy)
  split
  ·exact Int.le_refl 0
  exact hsc _ hs
 split
 ·exact Int.le_refl 0
 refine N8 fun y hy=>?_
 obtain⟨j,_,rfl⟩:=List.mem_map.1 hy;rw[List.getD_eq_getElem?_getD];cases e:ks[j.toNat]? with
 |none=>exact Int.le_refl 0
 |some z=>exact h0 z (List.mem_of_getElem? e)
open Go Go.RowKit Go.Lib
def T6 (p:Int×(Int×Int)×Int):Value:= .tuple #[.int .u8 p.1,.agg #[.int .i64 p.2.1.1,.int .i64 p.2.1.2],.int .i64 p.2.2]
structure Px (w:World)(l:List Nz)(vars:List (List UInt8×Int))(sf:Int)(sv:Value)(g:Nat)(ks:List Int)(k:Nat)(X:World):Prop where
 ok:ofE vars sf (l.take k) []= .ok ks
 len:ks.length=k
 pos:∀y∈ks,0<=y
 kat:KAt X g (ks++List.replicate (l.length - k) 0)
 box:X.heap[w.heap.size]? =some (.cells #[sv,.int .u8 sf] 59 (0,0))
 pl:X.heap[w.heap.size+1]? =some (.cells #[.int .i64 0,.int .i64 0] 33 (0,0))
 below:Below w.heap.size w X
 gw:w.heap.size+1<g
theorem Px.to {w X X':World}{l:List Nz}{vars:List (List UInt8×Int)}{self:Int}{sv:Value}{g k:Nat}{ks:List Int}(h:Px w l vars self sv g ks k X)(hb:Below X.heap.size X X'):Px w l vars self sv g ks k X':=
 ⟨h.ok,h.len,h.pos,h.kat.below hb,(hb.block _ (Ay h.box)).trans h.box,(hb.block _ (Ay h.pl)).trans h.pl,h.below.trans (hb.mono h.below.size),h.gw⟩
theorem Px.next {w X:World}{l:List Nz}{vars:List (List UInt8×Int)}{self:Int}{sv:Value}{g k:Nat}{ks:List Int}(h:Px w l vars self sv g ks k X)(hk:k<l.length){z:Int}(hz:F0 vars self ks l[k]=(z,0))(h0:0<=z):Px w l vars self sv g (ks++[z]) (k+1) (X.setCell ⟨g,k,none⟩ (.int .u8 z)):=by
 have hgw:=h.gw;have ho:A8 [g] X (X.setCell ⟨g,k,none⟩ (.int .u8 z)):=(A8.refl [g] X).setCell (.inl nW) _;have hne:∀{b:Nat},b<g->b∉[g]:=fun hb hm=>by simp only[List.mem_singleton] at hm;omega
 refine⟨?_,by simp [h.len],fun y hy=>?_,?_,(ho.block _ (Ay h.box) (hne nU)).trans h.box,(ho.block _ (Ay h.pl) (hne hgw)).trans h.pl,h.below.setCell (by show w.heap.size<=g;omega) _,hgw⟩
 ·rw[List.take_succ_eq_append_getElem hk,Qg h.ok,ofE,hz,Ap rfl];rfl
 ·rcases List.mem_append.1 hy with hy|hy
  ·exact h.pos y hy
  simp only[List.mem_singleton] at hy;subst hy;exact h0
 have e:=h.kat.set k z;rw[List.set_append_right _ _ (by rw[h.len];exact Ak _),h.len,Nat.sub_self,show l.length - k=(l.length - (k+1))+1 by omega,List.replicate_succ,Ad] at e;rw[List.append_assoc];exact e
theorem Px.bad {w X:World}{l:List Nz}{vars:List (List UInt8×Int)}{self:Int}{sv:Value}{g k:Nat}{ks:List Int}(h:Px w l vars self sv g ks k X)(hk:k<l.length){p:Int×Int}(hz:F0 vars self ks l[k]=p)(h0:p.2≠0){t:List UInt8}(ht:Fg l=some t):ofP vars self l=(0,(l[k].h.line,l[k].h.col),p.2):=by
 unfold ofP;rw[ht];simp only
 have:ofE vars self l []= .error ((l[k].h.line,l[k].h.col),p.2):=by
  conv=>lhs;rw[←List.take_append_drop k l]
  rw[Qg h.ok,List.drop_eq_getElem_cons hk,ofE,hz,Ao h0]
 rw[this]
theorem Px.fin {w X:World}{l:List Nz}{vars:List (List UInt8×Int)}{self:Int}{sv:Value}{g:Nat}{ks:List Int}(h:Px w l vars self sv g ks l.length X){t:List UInt8}(ht:Fg l=some t):ofP vars self l=(ks.getLastD 0,(0,0),0):=by
 unfold ofP;rw[ht]
 have:=h.ok
 rw[List.take_length] at this;simp only[this]
theorem Kc.of_row {w:World}{B:Nat}{v:Value}{l:List Int}(hl:l.length<=1000000)(h:w.ownsRow B 5 1 v l.length (l.map (.int .u8))):Kc w v l:=by
 rcases h.2 with ⟨e,h0⟩|⟨g,cap,cur,rfl,_,hg,hc,_⟩
 ·exact zxu
 refine⟨hl,_,_,rfl,fun i hi=>⟨g,0,rfl,?_⟩⟩
 have:=h.cells (g:=g) rfl i (.int .u8 l[i]) (by simp [hi])
 simpa only[Addr.add_lit] using this
theorem Vw {w:World}{tv:Value}{l:List Nz}(ht:TrZ w tv l)(ho:∀x∈l,0<=x.h.op)(hf:∀x∈l,Kt x.h)(hR:Rd w){va:Option Addr}{vc:Nat}{vars:List (List UInt8×Int)}(self:Int)(hv:Nj w (.slice va vars.length vc) vars)(hv0:∀y∈vars,0<=y.2)(hs0:0<=self):
 Calls Tryz.prog 35 #[tv,.agg #[.slice va vars.length vc,.int .u8 self]] w fun e w'=>e= .returned (T6 (ofP vars self l))/\Below w.heap.size w w':=by
 obtain⟨ta,tc,rfl⟩:=ht.slice;obtain⟨W1,hW1⟩:∃W1,w.alloc (.cells #[.slice va vars.length vc,.int .u8 self] 59)=W1:=⟨_,rfl⟩;have hb1:Below w.heap.size w W1:=by rw[←hW1];exact(Aq _ w).alloc (Ak _) _
 have hp1:=A0 w (.cells #[.slice va vars.length vc,.int .u8 self] 59);have hz1:W1.heap.size=w.heap.size+1:=by rw[←hW1];simp
 rw[hW1] at hp1;obtain⟨W2,hW2⟩:∃W2,W1.alloc (.cells #[.int .i64 0,.int .i64 0] 33)=W2:=⟨_,rfl⟩;have hb2:Below W1.heap.size W1 W2:=by rw[←hW2];exact(Aq _ W1).alloc (Ak _) _
 have hp2:=A0 W1 (.cells #[.int .i64 0,.int .i64 0] 33);have hz2:W2.heap.size=w.heap.size+2:=by rw[←hW2];simp [hz1]
 rw[hW2,hz1] at hp2;have hb:=hb1.trans (hb2.mono hb1.size);have hq1:=(hb2.block _ (Ay hp1)).trans hp1;have HM:=Ax (U7 (ht.below hb) ho hf (hR.below hb));have HW1:=Ax hW1;have HW2:=Ax hW2;have HB:=Ax hb;have HP1:=Ax hq1;have HP2:=Ax hp2;have HT:=Ax ht;have HV:=Ax hv;have HV0:=Ax hv0;clear hW1 hb1 hp1 hW2 hb2 hp2 hb hq1 ht ho hf hR hv hv0 hz1;cases hz:Fg l with
 |none=>
  have HZ:Hid (ofP vars self l=(0,(0,0),4)):=Ax (by unfold ofP;rw[hz]);rw[hz] at HM;clear hz;go_enter Tryz.func35,Tryz.ntmps35;go_upto_region 1 with fail
  rw[HW1.out,HW2.out];go_wp2_with fail;refine HM.out.mono ?_;rintro e V ⟨rfl,hb⟩;have HBV:=Ax (HB.out.trans (hb.mono HB.out.size));obtain⟨y0,y1,yf⟩:=Be ((hb.block _ (Ay HP2.out)).trans HP2.out);have yf0:=yf 0;have yf1:=yf 1;clear hb yf HM;go_wp2_with fail;go_region
  all_goals
   go_wp2
   refine Au (v:= .tuple #[.int .u8 0,.agg #[.int .i64 0,.int .i64 0],.int .i64 4]) pR rfl ?_;refine⟨by rw[HZ.out];rfl,?_⟩;exact(HBV.out.drew.setCell oY _).setCell oY _
 |some t=>
  have hg:=Kn hz;have hn60:=hg.len;have hn0:=hg.ne;have HG:=Ax hg;have HZ:=Ax hz;rw[hz] at HM;clear hz hg;obtain⟨n,hn⟩:∃n,l.length=n:=⟨_,rfl⟩;have HN:=Ax hn;rw[hn] at hn60 hn0;rw[hn];go_enter Tryz.func35,Tryz.ntmps35;go_upto_region 1 with fail
  rw[HW1.out,HW2.out];rw[hn] at HM;clear hn;go_wp2_with fail;refine HM.out.mono ?_;rintro e V ⟨rfl,hb⟩;obtain⟨X0,hmk,hbX,hkat⟩:=lK n nU V;have hbV:=HB.out.trans (hb.mono HB.out.size);have hVz:=hb.size;have HS0:Hid (Px w l vars self (.slice va vars.length vc) V.heap.size [] 0 X0):=Ax ⟨rfl,rfl,by simp,by rw[HN.out];exact hkat,(hbX.block _ nU).trans ((hb.block _ (Ay HP1.out)).trans HP1.out),(hbX.block _ nU).trans ((hb.block _ (Ay HP2.out)).trans HP2.out),hbV.trans (hbX.mono hbV.size),by omega⟩;obtain⟨g,hg⟩:∃g,V.heap.size=g:=⟨_,rfl⟩;rw[hg] at hmk HS0;clear hb hbX hkat hbV HM HW1 HW2 HP1 HP2 HB hg hVz;go_wp2_with fail
  go_loopw [6,22] (fun u6 vi wr=>∃(k:Nat) (ks:List Int),k<=n/\vi= .int .i64 k/\u6= .int .i64 0/\Hid (Px w l vars self (.slice va vars.length vc) g ks k wr)) (fun _ vi _=>n - (intOf vi).toNat)
  case atStart=>exact⟨0,[],Nat.zero_le _,rfl,rfl,HS0.out⟩
  clear HS0;obtain⟨k,ks,hk,rfl,rfl,hq⟩:=hrel;obtain⟨wo,rfl⟩:∃wo:World,wo=wr:=⟨_,rfl⟩;by_cases hkn:k<n
  ·have hkl:k<l.length:=by rw[HN.out];exact hkn
   have hO:=hq.out;obtain⟨_,a',c',ev,hnd⟩:=HT.out.below hO.below;cases ev;obtain⟨b,off,kv,rfl,hnode,hkr⟩:=hnd k hkl;obtain⟨hkm,ka,kc,rfl,hkc⟩:=hkr;have hop:=HG.out.op k hkl;have hfew:=HG.out.few k hkl;have hkid:=HG.out.kids k hkl;have hlit:=HG.out.lit k hkl;have hnext:=fun(X:World) (hX:Below wo.heap.size wo X) (z:Int) hz h0=>(hO.to hX).next hkl (z:=z) hz h0
   have hbad:=fun(p:Int×Int) hz h0=>hO.bad hkl (p:=p) hz h0 HZ.out
   have hpos:=fun hl=>Ug (x:=l[k]'hkl) HV0.out hs0 hO.pos hl
   obtain⟨x,hx⟩:∃x,l[k]=x:=⟨_,rfl⟩;rw[hx] at hnode hkm hkc hop hfew hkid hlit;simp only[hx] at hnext hbad hpos;obtain⟨⟨op,⟨vk,vn,vs⟩,nm,ln,cl⟩,kids⟩:=x;obtain⟨d0,d1,d2,d3,d4,d5,d6,d7⟩:=hnode;simp only at d0 d1 d2 d3 d4 d5 d6 d7 hkm hkc hop hfew hkid hlit hbad hpos;obtain⟨W3,hW3⟩:∃W3,wo.alloc (.cells #[.int .u8 op,.int .u8 vk,.int .i64 vn,.string ⟨vs.toArray⟩,.string ⟨nm.toArray⟩,.slice ka kids.length kc,.int .i64 ln,.int .i64 cl] 43)=W3:=⟨_,rfl⟩;have hb3:Below wo.heap.size wo W3:=by rw[←hW3];exact(Aq _ wo).alloc (Ak _) _
   have hp3:=A0 wo (.cells #[.int .u8 op,.int .u8 vk,.int .i64 vn,.string ⟨vs.toArray⟩,.string ⟨nm.toArray⟩,.slice ka kids.length kc,.int .i64 ln,.int .i64 cl] 43);rw[hW3] at hp3;have hgw:=Ay hO.kat;have hwg:=hO.gw;have hwB:=hO.below.size;have HW3:=Ax hW3;have HB3:=Ax hb3;have HP3:=Ax hp3;have HO:=Ax hO;have Hnext:=Ax hnext;have Hbad:=Ax hbad;have Hpos:=Ax hpos;have Hkc:=Ax hkc;have Hkid:=Ax hkid;have Hfew:=Ax hfew;have Hlit:=Ax hlit;have Hop:=Ax hop
   have Hcell:Hid (∀X,Below W3.heap.size W3 X->X.cell? ⟨wo.heap.size,0,none⟩=some (.int .u8 op)/\X.cell? ⟨wo.heap.size,6,none⟩=some (.int .i64 ln)/\X.cell? ⟨wo.heap.size,7,none⟩=some (.int .i64 cl)/\X.cell? ⟨w.heap.size+1,0,none⟩=some (.int .i64 0)/\X.cell? ⟨w.heap.size+1,1,none⟩=some (.int .i64 0)/\(∀i,X.frozen? ⟨w.heap.size+1,i,none⟩=false)/\X.cell? ⟨g,k,none⟩=some (.int .u8 0)/\X.frozen? ⟨g,k,none⟩=false):=Ax fun X hX=>by
    have hXo:=hO.to (hb3.trans (hX.mono hb3.size));obtain⟨n0,_,_,_,_,_,n6,n7,_⟩:=Bp ((hX.block _ (Ay hp3)).trans hp3);obtain⟨y0,y1,yf⟩:=Be hXo.pl;obtain⟨z0,z1⟩:=hXo.kat.cell (i:=k) (x:=0) (by rw[List.getElem?_append_right (by rw[hO.len];exact Ak _),hO.len,Nat.sub_self,List.getElem?_replicate,Ap nU]);exact⟨n0,n6,n7,y0,y1,yf,z0,z1⟩
   have HSt:Hid (∀X z,Below W3.heap.size W3 X->∀i,(X.setCell ⟨g,k,none⟩ (.int .u8 z)).cell? ⟨wo.heap.size,i,none⟩=X.cell? ⟨wo.heap.size,i,none⟩/\(X.setCell ⟨g,k,none⟩ (.int .u8 z)).cell? ⟨w.heap.size+1,i,none⟩=X.cell? ⟨w.heap.size+1,i,none⟩/\(X.setCell ⟨g,k,none⟩ (.int .u8 z)).frozen? ⟨w.heap.size+1,i,none⟩=X.frozen? ⟨w.heap.size+1,i,none⟩):=Ax fun X z _ i=>by
    have e1:(X.setCell ⟨g,k,none⟩ (.int .u8 z)).heap[wo.heap.size]? =X.heap[wo.heap.size]?:=Below.heap_setCell _ _ _ _ (by show wo.heap.size≠g;omega);have e2:(X.setCell ⟨g,k,none⟩ (.int .u8 z)).heap[w.heap.size+1]? =X.heap[w.heap.size+1]?:=Below.heap_setCell _ _ _ _ (by show w.heap.size+1≠g;omega);exact⟨World.cell?_of_block (w:=X) e1,World.cell?_of_block (w:=X) e2,World.frozen?_of_block (w:=X) e2⟩
   obtain⟨n0,n1,n2,n3,n4,n5,n6,n7,_⟩:=Bp hp3;obtain⟨s0,s1,_⟩:=Be ((hb3.block _ (Ay hO.box)).trans hO.box);obtain⟨y0,y1,yf⟩:=Be ((hb3.block _ (Ay hO.pl)).trans hO.pl);have i0:(0:Int)<=(k:Int):=by omega
   have i1:(k:Int)<(n:Int):=by omega
   clear hW3 hb3 hp3 hO hq hx hnd hnext hbad hpos hkc hkid hfew hlit hop;go_upto_region 7 with fail
   rw[HW3.out];by_cases hk0:kids=[]
   ·subst hk0;have HL:=Ax (gK op vk vn vs nm ka 0 kc ln cl self W3 ((HV.out.below HO.out.below).below HB3.out));have hkz:F0 vars self ks ⟨⟨op,(vk,vn,vs),nm,ln,cl⟩,[]⟩=Lu ⟨op,(vk,vn,vs),nm,ln,cl⟩ vars self:=Ap rfl;obtain⟨⟨z,er⟩,hzr⟩:∃p,Lu ⟨op,(vk,vn,vs),nm,ln,cl⟩ vars self=p:=⟨_,rfl⟩;rw[hzr] at HL hkz;simp only at HL;have Hkz:=Ax hkz;clear hkz hzr;simp only[List.length_nil] at*
    go_wp2_with fail;refine HL.out.mono ?_;rintro e V ⟨rfl,hb⟩;have HbV:=Ax hb;obtain⟨m0,m6,m7,q0,q1,qf,z0,z1⟩:=Hcell.out V hb;clear n0 n1 n2 n3 n4 n5 n6 n7 s0 s1 y0 y1 yf hb HL;go_upto_region 9 with fail
    obtain⟨Z,hZ⟩:∃Z,V.setCell ⟨g,k,none⟩ (.int .u8 z)=Z:=⟨_,rfl⟩;have hst:=HSt.out V z HbV.out;rw[hZ] at hst ⊢;have HZe:=Ax hZ;have HbO:=Ax (HB3.out.trans (HbV.out.mono HB3.out.size));by_cases her:er=0
    ·subst her;have hp:=Hpos.out (fun h1=>(Hlit.out h1).1);rw[Hkz.out] at hp;have HF:=Hnext.out V HbO.out z Hkz.out hp;rw[hZ] at HF;have HF:=Ax HF;clear hst hZ hp m0 m6 m7 q0 q1 qf z0 z1;exact zwt
    have gne:(er !=0)=true:=by simpa using her
    have hbd:=Hbad.out (z,er) Hkz.out her;have Hbd:=Ax hbd;have m6:=(hst 6).1.trans m6;have m7:=(hst 7).1.trans m7;have q0:=(hst 0).2.1.trans q0;have q1:=(hst 1).2.1.trans q1;have qf0:=(hst 0).2.2.trans (qf 0);have qf1:=(hst 1).2.2.trans (qf 1);have HBZ:Hid (Below w.heap.size w Z):=Ax pY;clear hst hZ hbd her m0 qf z0 z1;go_wp2_with fail;go_region
    all_goals
     go_wp2
     refine Au (v:= .tuple #[.int .u8 0,.agg #[.int .i64 ln,.int .i64 cl],.int .i64 er]) pR rfl ?_;refine⟨by rw[Hbd.out];rfl,?_⟩;exact(HBZ.out.drew.setCell oY _).setCell oY _
   have hm0:0<kids.length:=List.length_pos_iff.2 hk0;obtain⟨m,hm⟩:∃m,kids.length=m:=⟨_,rfl⟩;have hmb:((m:Int)==0)=false:=by simp;omega
   have hko:¬kids=[]:=hk0;have Hm:=Ax hm;rw[hm] at hkm n5 hm0;simp only[hm]
   have hfl:∀j,(kids.take (j+1)).map (fun x=>ks.getD x.toNat 0)=(kids.take j).map (fun x=>ks.getD x.toNat 0)++(if h:j<kids.length then[ks.getD kids[j].toNat 0] else[]):=fun j=>by
    split
    ·rename_i h
     rw[List.take_succ_eq_append_getElem h,List.map_append];rfl
    rename_i h
    rw[List.take_of_length_le nU,List.take_of_length_le nU,List.append_nil]
   have Hfl:=Ax hfl;have Hko:=Ax hko;obtain⟨i8,hi8,hu0,hu1,hu2⟩:=Wq;have Hi8:=Ax hi8;have Hu0:=Ax hu0;have Hu1:=Ax hu1;have Hu2:=Ax hu2;have Hn5:=Ax n5;clear hm hfl hko hk0 hi8 hu0 hu1 hu2 d0 d1 d2 d3 d4 d5 d6 d7;go_wp2_with fail
   go_loopw [10,12,48] (fun u10 _ vj wx=>∃(j:Nat) (oa:Option Addr) (oc:Nat),j<=m/\vj= .int .i64 j/\u10= .slice oa j oc/\Hid (wx.ownsRow W3.heap.size 5 1 (.slice oa j oc) j (((kids.take j).map (fun x=>ks.getD x.toNat 0)).map (Value.int .u8))/\Below W3.heap.size W3 wx)) (fun _ _ vj _=>m - (intOf vj).toNat)
   case atStart=>exact⟨0,none,0,Nat.zero_le _,rfl,rfl,World.ownsRow_nil _ _ _ _,Aq _ _⟩
   obtain⟨j,oa,oc,hj,rfl,rfl,hq⟩:=hrel;obtain⟨hrow,hbx⟩:=hq.out;obtain⟨m0,m6,m7,q0,q1,qf,z0,z1⟩:=Hcell.out wr hbx;clear n0 n1 n2 n3 n4 n5 n6 n7 s0 s1 y0 y1 yf;have HBX:=Ax hbx;have Hrow:=Ax hrow;have hzx:W3.heap.size<=wr.heap.size:=hbx.size;by_cases hjm:j<m
   ·have hjl:j<kids.length:=by rw[Hm.out];exact hjm
    obtain⟨b2,off2,rfl,e0⟩:=Hkc.out j hjl;have e0:=A6 (HB3.out.trans (hbx.mono HB3.out.size)) e0;have hkd:=Hkid.out kids[j] (List.getElem_mem hjl);have hst:=Hfl.out j;rw[dif_pos hjl] at hst;obtain⟨y,hy⟩:∃y,kids[j]=y:=⟨_,rfl⟩;rw[hy] at e0 hkd hst;obtain⟨yn,rfl⟩:∃yn:Nat,y=(yn:Int):=⟨y.toNat,by omega⟩;have hyk:yn<ks.length:=by rw[HO.out.len];omega
    obtain⟨c0,_⟩:=(HO.out.to (HB3.out.trans (hbx.mono HB3.out.size))).kat.cell (i:=yn) (x:=ks[yn]) (by rw[List.getElem?_append_left hyk,Ag hyk])
    have hgd:ks.getD ((yn:Int).toNat) 0=ks[yn]:=by
     rw[Int.toNat_natCast,List.getD_eq_getElem?_getD,Ag hyk,Option.getD_some]
    rw[hgd] at hst;obtain⟨kv,hkv⟩:∃kv,ks[yn]=kv:=⟨_,rfl⟩;rw[hkv] at c0 hst;have Hst:=Ax hst;have j0:(0:Int)<=(j:Int):=by omega
    have j1:(j:Int)<(m:Int):=by omega
    have j2:(0:Int)<=(yn:Int):=by omega
    have hyn:yn<n:=by have:=HO.out.len;omega
    have j3:(yn:Int)<(n:Int):=by omega
    clear hq hrow hbx hst hy hkd hgd hkv hyk m0 m6 m7 q0 q1 qf z0 z1;go_wp2_with (at_builtin;refine wpList_append_own _ rfl (.tmp 52) (.tmp 57) _ rfl W3.heap.size 5 i8 (.int .u8 0) 1 1 Tryz.underlying40 Hi8.out Hu0.out Hu1.out Hu2.out rfl nV (.slice oa j oc) j _ rfl (Hrow.out.alloc _) ⟨wr.heap.size,0,none⟩ 1 1 [.int .u8 kv] rfl rfl (World.news_of_block (cs:= #[.int .u8 kv]) (heap_alloc_new wr _)) oH oF nU (by simp only[World.size_alloc];omega) ?_;intro v3 X ho3 hg3 _;obtain⟨na,nc,rfl⟩:=D9 ho3;have HX:=Ax ((HBX.out.alloc hzx _).grown hg3 (by simp only[World.size_alloc];omega) (fun k e=>Cf Hrow.out k e));have Ho3:=Ax ho3;clear ho3 hg3);go_roundw
    case rel=>exact⟨j+1,na,nc,by omega,by go_num,rfl,by rw[Hst.out,List.map_append];exact Ho3.out,HX.out⟩
    case measure=>simp [intOf];omega
   obtain rfl:j=m:=by omega
   have hkr:Kc wr (.slice oa j oc) (kids.map fun x=>ks.getD x.toNat 0):=by
    have h1:=hrow;rw[List.take_of_length_le (by rw[Hm.out];exact Ak _)] at h1;exact Kc.of_row (by rw[List.length_map,Hm.out];omega) (by rw[List.length_map,Hm.out];exact h1)
   have hpo:∀y∈kids.map fun x=>ks.getD x.toNat 0,0<=y:=fun y hy=>by
    obtain⟨x,_,rfl⟩:=List.mem_map.1 hy;rw[List.getD_eq_getElem?_getD];cases e:ks[x.toNat]? with
    |none=>exact Int.le_refl 0
    |some z=>exact HO.out.pos z (List.mem_of_getElem? e)
   have hfw:=Hfew.out;rw[Hm.out] at hfw
   have HN:=Ax (bK op (ks:=kids.map fun x=>ks.getD x.toNat 0) (fun h7 h12=>by
    rw[List.length_map,Hm.out];unfold Ds at hfw;rw[Ap nU] at hfw
    exact hfw.1) (fun h26=>by
    rw[List.length_map,Hm.out];subst h26
    exact hfw.1) hpo wr hkr)
   have hkz:F0 vars self ks ⟨⟨op,(vk,vn,vs),nm,ln,cl⟩,kids⟩=if J9 op (kids.map fun x=>ks.getD x.toNat 0)=255 then(0,8) else(J9 op (kids.map fun x=>ks.getD x.toNat 0),0):=Ao Hko.out
   have hr0:=N8 (op:=op) hpo;obtain⟨r,hr⟩:∃r,J9 op (kids.map fun x=>ks.getD x.toNat 0)=r:=⟨_,rfl⟩;rw[hr] at HN hkz hr0;have Hkz:=Ax hkz;clear hq hrow hbx hkr hpo hfw hkz hr;go_wp2_with fail;refine HN.out.mono ?_;rintro e V ⟨rfl,hb⟩;have HbV:=Ax (HBX.out.trans (hb.mono HBX.out.size));clear m0 m6 m7 q0 q1 qf z0 z1 hb HN;obtain⟨m0,m6,m7,q0,q1,qf,z0,z1⟩:=Hcell.out V HbV.out;go_upto_region 18 with fail
   have z2:(V.setCell ⟨g,k,none⟩ (.int .u8 r)).cell? ⟨g,k,none⟩=some (.int .u8 r):=World.cell?_setCell_same _ _ _ z0;obtain⟨Z,hZ⟩:∃Z,V.setCell ⟨g,k,none⟩ (.int .u8 r)=Z:=⟨_,rfl⟩;have hst:=HSt.out V r HbV.out;rw[hZ] at hst z2 ⊢;have HbO:=Ax (HB3.out.trans (HbV.out.mono HB3.out.size));by_cases her:r=255
   ·subst her;have hbd:=Hbad.out (0,8) (Hkz.out.trans (Ap rfl)) nV;have Hbd:=Ax hbd;have m6:=(hst 6).1.trans m6;have m7:=(hst 7).1.trans m7;have q0:=(hst 0).2.1.trans q0;have q1:=(hst 1).2.1.trans q1;have qf0:=(hst 0).2.2.trans (qf 0);have qf1:=(hst 1).2.2.trans (qf 1);have HBZ:Hid (Below w.heap.size w Z):=Ax pY;clear hst hZ hbd m0 qf z0 z1;go_wp2_with fail;go_region
    all_goals
     go_wp2
     refine Au (v:= .tuple #[.int .u8 0,.agg #[.int .i64 ln,.int .i64 cl],.int .i64 8]) pR rfl ?_;refine⟨by rw[Hbd.out];rfl,?_⟩;exact(HBZ.out.drew.setCell oY _).setCell oY _
   have gne:(r==255)=false:=Af.2 her;have HF:=Hnext.out V HbO.out r (Hkz.out.trans (Ao her)) hr0;rw[hZ] at HF;have HF:=Ax HF;clear hst hZ m0 m6 m7 q0 q1 qf z0 z1;exact zwt
  obtain rfl:k=n:=by omega
  obtain⟨n',rfl⟩:∃n',k=n'+1:=⟨k - 1,by omega⟩;have hO:=hq.out;have hkl:ks.length=n'+1:=hO.len;have hwg:=hO.gw
  have hfin:ofP vars self l=(ks[n'],(0,0),0):=by
   have h1:=hO;rw[←HN.out] at h1;rw[h1.fin HZ.out,List.getLastD_eq_getLast?,List.getLast?_eq_getElem?,show ks.length - 1=n' by omega,Ag nU];rfl
  obtain⟨c0,_⟩:=hO.kat.cell (i:=n') (x:=ks[n']) (by rw[List.getElem?_append_left nU,Ag nU]);obtain⟨y0,y1,yf⟩:=Be hO.pl;have yf0:=yf 0;have yf1:=yf 1;obtain⟨kv,hkv⟩:∃kv,ks[n']=kv:=⟨_,rfl⟩;rw[hkv] at c0 hfin;have Hfin:=Ax hfin;have HB:=Ax hO.below;have j0:(0:Int)<=(n':Int):=by omega
  have j1:(n':Int)<((n'+1:Nat):Int):=by omega
  have j2:IntKind.i64.wrap (((n'+1:Nat):Int) - 1)=(n':Int):=by
   rw[IntWalk.i64_in _ ⟨by omega,by omega⟩];omega
  have j3:((n'+1:Nat):Int) - 1=(n':Int):=by omega
  clear hq hO hfin hkv yf hkl;go_wp2_with fail;go_region
  all_goals
   go_wp2
   refine Au (v:= .tuple #[.int .u8 kv,.agg #[.int .i64 0,.int .i64 0],.int .i64 0]) pR rfl ?_;refine⟨by rw[Hfin.out];rfl,?_⟩;exact(HB.out.drew.setCell oY _).setCell oY _
open Go Go.RowKit Go.Lib
theorem Yc {op:Int}(h1:1<=op)(h26:op<=26)(h:(Ds op).1=0):op<=3:=by
 rcases (show op<=3\/op=4\/op=5\/op=6\/op=7\/op=8\/op=9\/op=10\/op=11\/op=12\/op=13\/op=14\/op=15\/op=16\/op=17\/op=18\/op=19\/op=20\/op=21\/op=22\/op=23\/op=24\/op=25\/op=26 by omega) with h3|h3|h3|h3|h3|h3|h3|h3|h3|h3|h3|h3|h3|h3|h3|h3|h3|h3|h3|h3|h3|h3|h3|h3
 ·exact h3
 all_goals
  subst h3;exact absurd h nV
theorem Q5.leaf {l:List Nz}(hg:Q5 l){x:Nz}(hx:x∈l)(hk:x.kids=[]):x.h.op=1\/x.h.op=2\/x.h.op=3:=by
 obtain⟨i,hi,rfl⟩:=List.getElem_of_mem hx;have h1:=hg.op i hi;have h2:=(hg.few i hi).1;rw[hk,List.length_nil] at h2
 have:=Yc h1.1 h1.2 nU
 omega
theorem Q5.self {l:List Nz}(hg:Q5 l){x:Nz}(hx:x∈l)(h3:x.h.op=3):x.kids=[]:=by
 obtain⟨i,hi,rfl⟩:=List.getElem_of_mem hx;have h2:=(hg.few i hi).2;rw[h3] at h2;exact List.eq_nil_of_length_eq_zero (Nat.le_zero.1 h2)
theorem aP {vars:List (List UInt8×Int)}{self:Int}:∀{l:List Nz} {ks:List Int} {p:(Int×Int)×Int},ofE vars self l ks= .error p->p.2≠0
 |[],_,_,h=>by cases h
 |y::l,ks,p,h=>by
  unfold ofE at h
  split at h
  ·exact aP h
  rename_i hz
  injection h with h;subst h;exact hz
end Go.Proofs.YtgfakdobajgnfaaGreatDoor
