import Derived.ProofKit
import Derived.OpenShut
import Derived.Deep.Fields
import Derived.Lib.LaidU8
import Derived.Test.YtgfakdobajgnfaaGreatDoorQt17
import Derived.Test.YtgfakdobajgnfaaGreatDoorRows
set_option maxRecDepth 100000
set_option maxHeartbeats 16000000
namespace Go.Proofs.YtgfakdobajgnfaaGreatDoor
open Go Go.RowKit Go.Lib Go.Sort Go.Shelf
mutual
def Ex.texts:Ex->List (List UInt8)| .mk h ks=>F7 ks++[Pg h (Jb ks)]
def F7:List Ex->List (List UInt8)|[]=>[]|e::es=>e.texts++F7 es
end
mutual
theorem Ex.texts_len:∀e:Ex,e.texts.length=e.size
 | .mk h ks=>by rw[Ex.texts,Ab,Jh ks,Ex.size];rfl
theorem Jh:∀l:List Ex,(F7 l).length=Bi l
 |[]=>rfl
 |e::l=>by rw[F7,Ab,Ex.texts_len e,Jh l,Bi]
end
theorem Ex.texts_last (e:Ex):e.texts[e.size - 1]? =some e.text:=by
 cases e with
 |mk h ks=>
  rw[Ex.texts,Ex.size,Nat.add_sub_cancel,List.getElem?_append_right (by rw[Jh];omega),Jh,Nat.sub_self,Ex.text];rfl
theorem Ex.flat_last (e:Ex)(b:Nat):∃n,(e.flat b)[e.size - 1]? =some n/\n.h=e.hd:=by
 cases e with
 |mk h ks=>
  refine⟨⟨h,Co ks b⟩,?_,rfl⟩;rw[Ex.flat,Ex.size,Nat.add_sub_cancel,List.getElem?_append_right (by rw[Cy];omega),Cy,Nat.sub_self];rfl
theorem cV:∀(es:List Ex) (b k m:Nat) (e:Ex),es[k]? =some e->(Co es b)[k]? =some m->b<=m/\m<b+Bi es/\(∃n,(B2 es b)[m - b]? =some n/\n.h=e.hd)/\(F7 es)[m - b]? =some e.text
 |[],_,k,_,_,h,_=>by simp at h
 |x::es,b,0,m,e,h,hm=>by
  injection h with h;subst h;have hp:=x.size_pos;have hm':b+x.size - 1=m:=by injection hm
  subst hm';obtain⟨n,h1,h2⟩:=x.flat_last b;rw[Bi,show b+x.size - 1 - b=x.size - 1 by omega];refine⟨by omega,by omega,⟨n,?_,h2⟩,?_⟩
  ·rw[B2,List.getElem?_append_left tT];exact h1
  rw[F7,List.getElem?_append_left (by rw[Ex.texts_len];omega)];exact x.texts_last
 |x::es,b,k+1,m,e,h,hm=>by
  obtain⟨h1,h2,⟨n,h3,h4⟩,h5⟩:=cV es (b+x.size) k m e rI (by simpa[Co] using hm);rw[Bi];refine⟨by omega,by omega,⟨n,?_,h4⟩,?_⟩
  ·rw[B2,List.getElem?_append_right tT,Ex.flat_len,show m - b - x.size=m - (b+x.size) by omega];exact h3
  rw[F7,List.getElem?_append_right (by rw[Ex.texts_len];omega),Ex.texts_len,show m - b - x.size=m - (b+x.size) by omega];exact h5
theorem mO {h:Hd}(h1:1<=h.op)(ks:List Ex)(F:Nat->Nat->List UInt8)(hF:∀k n,F k n=Tl (Jb ks) k n):Cr h ks.length F=Pg h (Jb ks):=by
 unfold Cr Pg;by_cases o1:h.op=1
 ·rw[Ap o1,Ap qO];unfold J6;rw[Ap o1]
 rw[Ao o1];by_cases o2:h.op=2
 ·rw[Ap o2,Ap qO];unfold J6;rw[Ao o1,Ap o2]
 rw[Ao o2];by_cases o3:h.op=3
 ·rw[Ap o3,Ap qO];unfold J6;rw[Ao o1,Ao o2]
 have o4:¬h.op<=3:=by omega
 rw[Ao o3,Ao o4]
 have hjoin:(List.range ks.length).map (fun k=>F k 0)=(Jb ks).map Prod.snd:=by
  rw[Ji,List.map_map];refine List.ext_getElem qQ fun i g1 g2=>?_
  have hi:i<ks.length:=by simpa using g1
  rw[List.getElem_map,List.getElem_range,hF];unfold Tl;rw[Ji,List.getElem?_map,Ag hi];simp
 rw[hjoin,hF,hF,hF,hF]
theorem Yi:∀(k:Nat),(∀(e:Ex) (b:Nat) (L pre post:List Nz),e.size<=k->e.All Gm->L=pre++((e.flat b).map Nd.z++post)->pre.length=b->Bg L (b+e.size)=Bg L b++e.texts)/\
 (∀(es:List Ex) (b:Nat) (L pre post:List Nz),Bi es<=k->Jr Gm es->L=pre++((B2 es b).map Nd.z++post)->pre.length=b->Bg L (b+Bi es)=Bg L b++F7 es):=by
 intro k
 induction k with
 |zero=>
  refine⟨fun e b L pre post h=>absurd e.size_pos qO,fun es b L pre post h _ _ _=>?_⟩;cases es with
  |nil=>rw[Bi,Nat.add_zero,F7,List.append_nil]
  |cons e es=>rw[Bi] at h;exact absurd e.size_pos qO
 |succ k ih=>
  have one:∀(e:Ex) (b:Nat) (L pre post:List Nz),e.size<=k+1->e.All Gm->L=pre++((e.flat b).map Nd.z++post)->pre.length=b->Bg L (b+e.size)=Bg L b++e.texts:=fun e b L pre post hs hg hL hp=>by
   cases e with
   |mk h ks=>
    rw[Ex.size] at hs ⊢;rw[Ex.All] at hg;rw[Ex.flat,List.map_append,List.append_assoc] at hL;have h1:=ih.2 ks b L pre _ qO hg.2 hL hp
    have hat:L[b+Bi ks]? =some (Nd.z ⟨h,Co ks b⟩):=by
     rw[hL,List.getElem?_append_right qO,List.getElem?_append_right (by rw[List.length_map,Cy];omega),List.length_map,Cy,hp,show b+Bi ks - b - Bi ks=0 by omega];rfl
    rw[←Nat.add_assoc,Bg,hat,h1,Ex.texts,List.append_assoc];congr 2;have hlen:(Nd.z ⟨h,Co ks b⟩).kids.length=ks.length:=by simp [Nd.z,Gh]
    show[Cr h (Nd.z ⟨h,Co ks b⟩).kids.length (B5 L (Bg L b++F7 ks) (Nd.z ⟨h,Co ks b⟩).kids)]=[Pg h (Jb ks)]
    rw[hlen,mO hg.1.op1];intro i n;unfold B5 Tl;rw[Ji,List.getElem?_map];have hkz:(Nd.z ⟨h,Co ks b⟩).kids[i]? =((Co ks b)[i]?).map fun(x:Nat)=>(x:Int):=by simp [Nd.z]
    rw[hkz];by_cases hi:i<ks.length
    ·have hi2:i<(Co ks b).length:=by rw[Gh];exact hi
     rw[Ag hi,Ag hi2];obtain⟨e1,e2,⟨nd,e3,e4⟩,e5⟩:=cV ks b i _ _ (Ag hi) (Ag hi2);obtain⟨m,hm⟩:∃m,(Co ks b)[i]=m:=⟨_,rfl⟩;rw[hm] at e1 e2 e3 e5 ⊢
     have hLm:L[m]? =some (Nd.z nd):=by
      rw[hL,List.getElem?_append_right qO,hp,List.getElem?_append_left (by rw[List.length_map,Cy];omega),List.getElem?_map,e3];rfl
     have hTm:(Bg L b++F7 ks)[m]? =some ks[i].text:=by
      rw[List.getElem?_append_right (by rw[Dt];omega),Dt];exact e5
     simp only[Option.map_some,Int.toNat_natCast];rw[Ap (by rw[Ab,Dt,Jh];omega),hLm,hTm];simp only;rw[show(Nd.z nd).h=ks[i].hd from e4]
    have g1:ks[i]? =none:=List.getElem?_eq_none qO;have g2:(Co ks b)[i]? =none:=List.getElem?_eq_none (by rw[Gh];omega);rw[g1,g2];rfl
  refine⟨one,fun es=>?_⟩
  induction es with
  |nil=>intro b L pre post _ _ _ _;rw[Bi,Nat.add_zero,F7,List.append_nil]
  |cons e es ihs=>
   intro b L pre post hs hg hL hp;rw[Bi] at hs ⊢;rw[B2,List.map_append,List.append_assoc] at hL;have h1:=one e b L pre _ qO hg.1 hL hp;have hes:=e.size_pos;have h2:=ihs (b+e.size) L (pre++(e.flat b).map Nd.z) post qO hg.2 (by rw[hL,List.append_assoc]) (by rw[Ab,List.length_map,Ex.flat_len,hp]);rw[←Nat.add_assoc,h2,h1,F7,List.append_assoc]
theorem iK {a:Ex}(hg:a.All Gm)(h60:a.size<=60):Om ((a.flat 0).map Nd.z)=a.text:=by
 have h1:=(Yi a.size).1 a 0 ((a.flat 0).map Nd.z) [] [] (Ak _) hg qQ rfl;have hlen:((a.flat 0).map Nd.z).length=a.size:=by rw[List.length_map,Ex.flat_len]
 rw[Nat.zero_add,Bg,List.nil_append] at h1
 have hsh:∀(k:Nat),(∀e:Ex,e.size<=k->e.All Gm->e.size<=60->Iq e.texts=true)/\(∀es:List Ex,Bi es<=k->Jr Gm es->Bi es<=60->Iq (F7 es)=true):=fun k=>by
  induction k with
  |zero=>
   refine⟨fun e h=>absurd e.size_pos qO,fun es h _ _=>?_⟩;cases es with
   |nil=>rfl
   |cons e es=>rw[Bi] at h;exact absurd e.size_pos qO
  |succ k ih=>
   have one:∀e:Ex,e.size<=k+1->e.All Gm->e.size<=60->Iq e.texts=true:=fun e h hg h6=>by
    cases e with
    |mk hd ks=>
     have hs:=S9 _ (.mk hd ks) (Ak _) hg;rw[Ex.size] at h h6 hs;rw[Ex.All] at hg;rw[Ex.texts];refine Qt (ih.2 ks qO hg.2 qO) ?_;rw[Ex.text] at hs;omega
   refine⟨one,fun es=>?_⟩
   induction es with
   |nil=>intro _ _ _;rfl
   |cons e es ihs=>
    intro h hg h6;rw[Bi] at h h6;rw[F7];have h1:=one e qO hg.1 qO;have h2:=ihs (by have:=e.size_pos;omega) hg.2 qO;unfold Iq at h1 h2 ⊢;rw[List.all_append,h1,h2];rfl
 unfold Om;rw[hlen,h1,Ap ((hsh a.size).1 a (Ak _) hg h60)];have hl:=a.texts_last;rw[←a.texts_len,←List.getLast?_eq_getElem?] at hl;rw[hl];rfl
theorem aV {l:List UInt8}{a:Ex}(h:Cf l= .ok a):Ls ((a.flat 0).map Nd.z)=some a.text:=by
 obtain⟨_,_,_,h60⟩:=Ii h;obtain⟨a',h1,h2⟩:=gF h;unfold Ls;rw[Ao (by rw[List.length_map,Ex.flat_len];omega),iK (Mo h) h60,h1];simp only;rw[Ap (Yy h2.symm)]
theorem Xp {l:List UInt8}{v:Int×Int×List UInt8}(h:D0 l= .ok v){n:List UInt8}{a b:Int}(hn:n=[]:=by rfl):Jw ⟨1,v,n,a,b⟩:=by
 subst hn;have hf:=Uh l;have hl:l.length<=402:=by obtain⟨k,m,s⟩:=v;exact(Wf h).2.2.2
 have hr:Ej l= .ok v:=by
  unfold D0 at h
  repeat' split at h
  all_goals first
   |(cases h;done)
   |(injection h with h;subst h;assumption)
 rw[hr] at hf;obtain⟨h1,h2,h3⟩:=hf;refine⟨h1,h2,?_,by simp⟩;show v.2.2.length<=1000000;omega
theorem iA {t:Tkn}{h:Hd}(hf:Pv t.w)(he:Cz t=some h):Jw h:=by
 obtain⟨⟨k,t,v⟩,l,c⟩:=t;unfold Cz at he;simp only at he;cases hf with
 |name hk ht hv=>
  simp only at hk ht hv;subst hk hv;rw[Ao qP,Ao qP,Ao qP,Ap rfl] at he;cases hc:Dg t with
  |some x=>rw[hc] at he;cases he
  |none=>
   rw[hc] at he;cases hl:Lk t with
   |none=>rw[hl] at he;cases he
   |some v=>
    rw[hl] at he;injection he with he;subst he;unfold Lk at hl
    repeat' split at hl
    all_goals first
     |(cases hl;done)
     |(injection hl with hl;subst hl;refine⟨?_,?_,?_,?_⟩<;>simp [v0];done)
 |var hk ht hv=>
  simp only at hk ht hv;subst hk hv;rw[Ao qP,Ap rfl] at he;injection he with he;subst he
  have:=(Em ht).2.1
  refine⟨by simp [v0],by simp [v0],by simp [v0],?_⟩;show t.length<=1000000;omega
 |self hk ht hv=>
  simp only at hk ht hv;subst hk ht hv;rw[Ao qP,Ao qP,Ap rfl] at he;injection he with he;subst he;refine⟨?_,?_,?_,?_⟩<;>simp [v0]
 |num hk ht hm=>
  simp only at hk ht;subst hk;rw[Ap qP] at he;injection he with he;subst he;exact Xp ht
 |str hk ht hm hs=>
  simp only at hk ht;subst hk;rw[Ap qP] at he;injection he with he;subst he;exact Xp ht
 |sym hk ht hv=>
  simp only at hk ht hv;subst hk hv;rw[Ap qP] at he;injection he with he;subst he
  have:=(Em ht).2.1
  refine⟨by simp,by simp,?_,by simp⟩;show t.length<=1000000;omega
 |sign hk _ _=>
  simp only at hk;subst hk;rw[Ao qP,Ao qP,Ao qP,Ao qP] at he;cases he
theorem Uf {l:List UInt8}{a:Ex}(h:Cf l= .ok a):∀x∈(a.flat 0).map Nd.z,0<=x.h.op/\Jw x.h:=by
 obtain⟨ts,h1,h2,_⟩:=Ii h;have hg:=Mo h
 have hl:a.All (fun h k=>h.op<=3->Jw h):=by
  refine Vt (P:=fun h _=>h.op<=3->Jw h) (W:=fun t=>Pv t.w) ?_ ?_ ?_ ?_ (.lvl 0) 0 ts sS trivial (fun t ht=>O2 h1 t ht) a [] h2
  ·exact fun t hd hf he _=>iA hf he
  ·intro n t hn _ h3
   have:=(show 3<Kh n by rcases hn with rfl|rfl<;>decide)
   have h4:Kh n<=3:=h3;omega
  ·intro n t q _ hz h3
   have:=Nv n _ (L7 hz)
   simp only at h3;omega
  intro t c k _ hc _ _ h3;have h4:=(Sx hc).1;unfold Cm at h4;simp only at h3;omega
 intro x hx;obtain⟨n,hn,rfl⟩:=List.mem_map.1 hx;obtain⟨g1,g2⟩:=Yd a 0 (hg.and hl) n hn;have ho:=g1.op1;refine⟨by show 0<=n.h.op;omega,?_⟩;show Jw n.h;by_cases h3:n.h.op<=3
 ·exact g2 h3
 obtain⟨e1,e2⟩:=g1.inner qO;unfold Jw;rw[e1,e2];refine⟨?_,?_,?_,?_⟩<;>simp [v0]
theorem Zc {l:List UInt8}{a:Ex}(h:Cf l= .ok a){w:World}{tv:Value}(ht:TrZ w tv ((a.flat 0).map Nd.z))(hR:Rd w):
 Calls Tryz.prog 25 #[tv] w fun e w'=>e= .returned (.tuple #[.string ⟨a.text.toArray⟩,.int .i64 0])/\Below w.heap.size w w':=by
 have:=Px ht (fun x hx=>(Uf h x hx).1) (fun x hx=>(Uf h x hx).2) hR
 rw[aV h] at this;exact this
open Go Go.Lib
def Ie (op:Int)(k:Nat):Bool:=decide (1<=op/\op<=26/\(Dk op).1<=k/\k<=(Dk op).2)
def Dd:Nat->List Int->List Nz->Option (List Int)
 |_,o,[]=>some o
 |i,o,n::l=>if(Ie n.h.op n.kids.length && (decide (n.kids.length<=o.length) && decide (o.drop (o.length - n.kids.length)=n.kids)))=true then Dd (i+1) (o.take (o.length - n.kids.length)++[(i:Int)]) l else none
def Eo (l:List Nz):Bool:=match Dd 0 [] l with
 |some o=>decide (o.length=1)
 |none=>false
theorem Pc:∀(l m:List Nz) (i:Nat) (o:List Int),Dm l m=true->Dd i o l=Dd i o m
 |[],[],_,_,_=>rfl
 |[],_::_,_,_,h=>by cases h
 |_::_,[],_,_,h=>by cases h
 |x::l,y::m,i,o,h=>by
  unfold Dm at h;rw[Bool.and_eq_true] at h;obtain⟨h1,h2⟩:=h;obtain⟨hb,hk⟩:=(P8 x y).1 h1;have ho:x.h.op=y.h.op:=(Ar Hd.op hb:x.h.bare.op=y.h.bare.op);rw[Dd,Dd,ho,hk,Pc l m (i+1) _ h2]
theorem Wc:∀(k:Nat),(∀(e:Ex) (i:Nat) (o:List Int) (l:List Nz),e.size<=k->e.All Gm->Dd i o ((e.flat i).map Nd.z++l)=Dd (i+e.size) (o++[((i+e.size - 1:Nat):Int)]) l)/\
 (∀(es:List Ex) (i:Nat) (o:List Int) (l:List Nz),Bi es<=k->Jr Gm es->Dd i o ((B2 es i).map Nd.z++l)=Dd (i+Bi es) (o++(Co es i).map fun(x:Nat)=>(x:Int)) l):=by
 intro k
 induction k with
 |zero=>
  refine⟨fun e i o l h=>absurd e.size_pos qO,fun es i o l h _=>?_⟩;cases es with
  |nil=>simp [B2,Bi,Co]
  |cons e es=>rw[Bi] at h;exact absurd e.size_pos qO
 |succ k ih=>
  have one:∀(e:Ex) (i:Nat) (o:List Int) (l:List Nz),e.size<=k+1->e.All Gm->Dd i o ((e.flat i).map Nd.z++l)=Dd (i+e.size) (o++[((i+e.size - 1:Nat):Int)]) l:=fun e i o l h hg=>by
   cases e with
   |mk hd ks=>
    rw[Ex.size] at h ⊢;rw[Ex.All] at hg;rw[Ex.flat,List.map_append,List.append_assoc,ih.2 ks i o _ qO hg.2];show Dd (i+Bi ks) _ (Nd.z ⟨hd,Co ks i⟩::l)=_;have hlen:(Nd.z ⟨hd,Co ks i⟩).kids.length=ks.length:=by simp [Nd.z,Gh]
    have hol:(o++(Co ks i).map fun(x:Nat)=>(x:Int)).length=o.length+ks.length:=by simp [Gh]
    rw[Dd,hlen,hol,Nat.add_sub_cancel];have hd1:(o++(Co ks i).map fun(x:Nat)=>(x:Int)).drop o.length=(Co ks i).map fun(x:Nat)=>(x:Int):=List.drop_left
    have ht1:(o++(Co ks i).map fun(x:Nat)=>(x:Int)).take o.length=o:=List.take_left;rw[hd1,ht1,Ap]
    ·rfl
    have g:=hg.1;have h1:Ie (Nd.z ⟨hd,Co ks i⟩).h.op ks.length=true:=Am ⟨g.op1,g.op2,g.few,g.many⟩;rw[h1,Am (Nat.le_add_left _ _),show decide (((Co ks i).map fun(x:Nat)=>(x:Int))=(Nd.z ⟨hd,Co ks i⟩).kids)=true from Am rfl];rfl
  refine⟨one,fun es=>?_⟩
  induction es with
  |nil=>intro i o l _ _;simp [B2,Bi,Co]
  |cons e es ihs=>
   intro i o l h hg;rw[Bi] at h ⊢;rw[B2,List.map_append,List.append_assoc,one e i o _ qO hg.1,ihs (i+e.size) _ l (by have:=e.size_pos;omega) hg.2,Co,List.map_cons,List.append_assoc,Nat.add_assoc];rfl
theorem Zw {l:List UInt8}{a:Ex}(h:Cf l= .ok a):Eo ((a.flat 0).map Nd.z)=true:=by
 have:=(Wc a.size).1 a 0 [] [] (Ak _) (Mo h)
 rw[List.append_nil] at this;unfold Eo;rw[this];rfl
def txZ (l:List Nz)(j:Nat):List UInt8:=match l[j]? with
 |some x=>Cr x.h x.kids.length (B5 l (Bg l j) x.kids)
 |none=>[]
theorem N6 (l:List Nz):∀k,Bg l k=(List.range k).map (txZ l)
 |0=>rfl
 |k+1=>by rw[Bg,Gi,←N6 l k];rfl
theorem Ol {l:List Nz}{k j:Nat}(h:j<k):(Bg l k)[j]? =some (txZ l j):=by
 rw[N6,List.getElem?_map,List.getElem?_range h];rfl
def Jq (n:Nz):Nat:=430+n.h.name.length
theorem Rt {l:List Nz}{i:Nat}{kids:List Int}{k:Nat}(least:Nat){c:Int}(hk:kids[k]? =some c):(B5 l (Bg l i) kids k least).length<=2+(txZ l c.toNat).length/\(least=0->(B5 l (Bg l i) kids k least).length<=(txZ l c.toNat).length):=by
 unfold B5;rw[hk];simp only[Dt];by_cases hc:0<=c/\c<(i:Int)
 ·rw[Ap hc,Ol (show c.toNat<i by omega)];cases hx:l[c.toNat]? with
  |none=>simp
  |some x=>
   simp only;refine⟨?_,fun h0=>?_⟩
   ·split
    ·unfold Kt;simp only[Aa,Ab,List.length_nil];omega
    omega
   subst h0;rw[Ao (Nat.not_lt_zero _)];exact Ak _
 rw[Ao hc];simp
theorem Mr {l:List Nz}{ts:List (List UInt8)}{kids:List Int}{k:Nat}(least:Nat)(hk:kids[k]? =none):B5 l ts kids k least=[]:=by
 unfold B5;rw[hk]
def Ki (l:List Nz)(kids:List Int):Nat:=(kids.map fun c=>(txZ l c.toNat).length).sum
theorem iZ {l:List Nz}{i least:Nat}{kids:List Int}{m:Nat}(hm:kids.length=m)(h1:1<=m):(B5 l (Bg l i) kids 0 least).length<=2+Ki l kids:=by
 cases kids with
 |nil=>simp at hm;omega
 |cons c r=>
  have:=(Rt (l:=l) (i:=i) (kids:=c::r) (k:=0) least rfl).1
  unfold Ki;rw[List.map_cons,List.sum_cons];omega
theorem T0 {l:List Nz}{i a b:Nat}{kids:List Int}:(B5 l (Bg l i) kids 0 a).length+(B5 l (Bg l i) kids 1 b).length<=4+Ki l kids:=by
 cases kids with
 |nil=>rw[Mr a rfl,Mr b rfl];simp
 |cons c r=>
  have h0:=(Rt (l:=l) (i:=i) (kids:=c::r) (k:=0) a rfl).1;cases r with
  |nil=>
   rw[Mr b (k:=1) rfl];unfold Ki;rw[List.map_cons,List.sum_cons];simp only[List.length_nil];omega
  |cons d r=>
   have h1:=(Rt (l:=l) (i:=i) (kids:=c::d::r) (k:=1) b rfl).1;unfold Ki;rw[List.map_cons,List.sum_cons,List.map_cons,List.sum_cons];omega
theorem Va:∀(l:List (List UInt8)),(Ei [44,32] l).length<=(l.map List.length).sum+2*l.length
 |[]=>Nat.zero_le _
 |[x]=>by simp [Ei]
 |x::y::l=>by
  have ih:=Va (y::l)
  show(x++([44,32]++Ei [44,32] (y::l))).length<=_
  simp only[Ab,Aa,List.length_nil,List.map_cons,List.sum_cons] at ih ⊢;omega
theorem X9 (l:List Nz)(i:Nat)(kids:List Int):∀n,n<=kids.length->(((List.range n).map fun k=>B5 l (Bg l i) kids k 0).map List.length).sum<=Ki l (kids.take n)
 |0,_=>Nat.zero_le _
 |n+1,h=>by
  have ih:=X9 l i kids n qO;have hn:kids[n]? =some kids[n]:=Ag qO
  have:=(Rt (l:=l) (i:=i) 0 hn).2 rfl
  rw[Gi,List.map_append,List.sum_append,List.take_succ_eq_append_getElem qO];unfold Ki at ih ⊢;rw[List.map_append,List.sum_append];simp only[List.map_cons,List.map_nil,List.sum_cons,List.sum_nil,Nat.add_zero];omega
theorem jP {l:List Nz}{j:Nat}{x:Nz}(hx:l[j]? =some x)(hf:Jw x.h)(hb:Ie x.h.op x.kids.length=true):(txZ l j).length<=Jq x+Ki l x.kids:=by
 obtain⟨o1,o2,k1,k2⟩:=of_decide_eq_true hb;have h8:=Sm x.h.op;have hw:=(Jd x.h.op).1;unfold txZ Jq;rw[hx];simp only;unfold Cr
 split
 ·have:(C5 x.h.v.1 x.h.v.2.1 x.h.v.2.2).length<=402:=by
   unfold C5
   split
   ·exact(gD qU hf.1 hf.2.1).2.1
   simp
  omega
 split
 ·simp only[Aa];omega
 split
 ·simp only[Aa,List.length_nil];omega
 split
 ·have h1:=Va ((List.range x.kids.length).map fun k=>B5 l (Bg l j) x.kids k 0);have h2:=X9 l j x.kids x.kids.length (Ak _);rw[List.take_length] at h2;rw[List.length_map,List.length_range] at h1;unfold Kt;simp only[Ab,Aa,List.length_nil];omega
 split
 ·by_cases hk:x.kids.length=0
  ·rw[Mr _ (List.getElem?_eq_none qO)];simp only[Ab,List.length_nil];omega
  have:=iZ (l:=l) (i:=j) (least:=A4 x.h.op) (kids:=x.kids) rfl qO
  simp only[Ab];omega
 split
 ·have:=T0 (l:=l) (i:=j) (a:=4) (b:=4) (kids:=x.kids)
  simp only[Ab,Aa];omega
 have:=T0 (l:=l) (i:=j) (a:=A4 x.h.op) (b:=A4 x.h.op+1) (kids:=x.kids)
 simp only[Ab,Aa];omega
theorem Ss (l:List Nz)(a b:List Int):Ki l (a++b)=Ki l a+Ki l b:=by simp [Ki]
theorem Nr (l:List Nz)(hf:∀x∈l,Jw x.h):∀(r pre:List Nz) (o o':List Int),l=pre++r->Dd pre.length o r=some o'->(∀c∈o,0<=c/\c<(pre.length:Int))->Ki l o<=(pre.map Jq).sum->
 ∀(j:Nat) (x:Nz),pre.length<=j->l[j]? =some x->Ie x.h.op x.kids.length=true/\(∀c∈x.kids,0<=c/\c<(j:Int))/\(txZ l j).length<=(l.map Jq).sum
 |[],pre,o,o',hl,_,_,_=>fun j x hj hx=>by
  have:=(List.getElem?_eq_some_iff.1 hx).1
  rw[hl,List.append_nil] at this;omega
 |n::r,pre,o,o',hl,h,ho,hs=>by
  rw[Dd] at h;by_cases hc:(Ie n.h.op n.kids.length && (decide (n.kids.length<=o.length) && decide (o.drop (o.length - n.kids.length)=n.kids)))=true
  ·rw[Ap hc] at h;rw[Bool.and_eq_true,Bool.and_eq_true] at hc;obtain⟨c1,_,c3⟩:=hc;have c3:=of_decide_eq_true c3;have hat:l[pre.length]? =some n:=by rw[hl,List.getElem?_append_right (Ak _),Nat.sub_self];rfl
   have hkids:∀c∈n.kids,0<=c/\c<(pre.length:Int):=fun c hc=>ho c (List.mem_of_mem_drop (c3▸hc))
   have hsplit:Ki l o=Ki l (o.take (o.length - n.kids.length))+Ki l n.kids:=by
    conv=>lhs;rw[←List.take_append_drop (o.length - n.kids.length) o]
    rw[Ss,c3]
   have hn:n∈l:=hl▸List.mem_append_right _ Ai;have hlen:=jP hat (hf n hn) c1
   have hnew:Ki l (o.take (o.length - n.kids.length)++[(pre.length:Int)])<=((pre++[n]).map Jq).sum:=by
    rw[Ss,List.map_append,List.sum_append]
    have:Ki l [(pre.length:Int)]=(txZ l pre.length).length:=by simp [Ki]
    rw[this];simp only[List.map_cons,List.map_nil,List.sum_cons,List.sum_nil,Nat.add_zero];omega
   have hall:((pre++[n]).map Jq).sum<=(l.map Jq).sum:=by
    rw[hl,show pre++n::r=(pre++[n])++r by simp,List.map_append (l₁:=pre++[n]),List.sum_append];exact Nat.le_add_right _ _
   have ih:=Nr l hf r (pre++[n]) (o.take (o.length - n.kids.length)++[(pre.length:Int)]) o' (by rw[hl];simp) (by rw[Ab];exact h) (fun c hc=>by
    rw[Ab,Aa,List.length_nil];rcases List.mem_append.1 hc with hc|hc
    ·have:=ho c (List.mem_of_mem_take hc)
     omega
    rw[List.mem_singleton.1 hc]
    omega) hnew
   intro j x hj hx;by_cases he:j=pre.length
   ·subst he;rw[hat] at hx;injection hx with hx;subst hx;refine⟨c1,hkids,?_⟩;rw[Ss] at hnew
    have:Ki l [(pre.length:Int)]=(txZ l pre.length).length:=by simp [Ki]
    omega
   exact ih j x (by rw[Ab,Aa,List.length_nil];omega) hx
  rw[Ao hc] at h;cases h
def Yg (l:List Nz):Option (List UInt8):=if 60<l.length\/Eo l=false then none else match Cf (txZ l (l.length - 1)) with
 | .ok u=>if Dm l ((u.flat 0).map Nd.z)=true then some (txZ l (l.length - 1)) else none
 | .error _=>none
theorem Ly {l:List Nz}(hf:∀x∈l,Jw x.h)(h:Eo l=true):0<l.length/\∀(j:Nat) (x:Nz),l[j]? =some x->Ie x.h.op x.kids.length=true/\(∀c∈x.kids,0<=c/\c<(j:Int))/\(txZ l j).length<=(l.map Jq).sum:=by
 unfold Eo at h;cases hw:Dd 0 [] l with
 |none=>rw[hw] at h;cases h
 |some o=>
  rw[hw] at h;refine⟨?_,fun j x hx=>Nr l hf l [] [] o rfl hw (fun c hc=>by cases hc) (Nat.zero_le _) j x (Nat.zero_le _) hx⟩;cases l with
  |nil=>injection hw with hw;subst hw;cases h
  |cons n l=>simp
theorem Zj {l:List Nz}(hf:∀x∈l,Jw x.h)(h:Eo l=true)(hs:(l.map Jq).sum<=65536):Om l=txZ l (l.length - 1):=by
 obtain⟨h0,hn⟩:=Ly hf h
 have hsh:Iq (Bg l l.length)=true:=by
  unfold Iq;rw[List.all_eq_true];intro t ht;rw[N6] at ht;obtain⟨j,hj,rfl⟩:=List.mem_map.1 ht;have hj:=List.mem_range.1 hj
  have:=(hn j l[j] (Ag hj)).2.2
  exact Am qO
 unfold Om;rw[Ap hsh,List.getLast?_eq_getElem?,Dt,Ol qO];rfl
theorem cU {l:List Nz}(hf:∀x∈l,Jw x.h)(hs:l.length<=60->(l.map Jq).sum<=65536):Ls l=Yg l:=by
 unfold Ls Yg;by_cases h60:60<l.length
 ·rw[Ap h60,Ap (.inl h60)]
 rw[Ao h60];by_cases hw:Eo l=true
 ·rw[Ao (by rw[hw];simp [h60]),Zj hf hw (hs qO)];cases Cf (txZ l (l.length - 1))<;>rfl
 rw[Ap (.inr (by simpa using hw))];cases hr:Cf (Om l) with
 |error e=>rfl
 |ok u=>
  simp only;rw[Ao];intro he;apply hw
  have:=Zw hr
  unfold Eo at this ⊢;rwa [Pc _ _ 0 [] he]
open Go Go.ChangeShapes Go.WideShapes Go.ChangeAt Go.RowKit
section
variable {H:Type} {enc:TypeId×Value->H} {P:Program}
theorem Tn {f:Func}{s:ChangeSpec}{apart fresh handsOn again:Bool}{W W':World}{args:Array Value}{v:Value}{ds gs:List (DataW H)}{before pa pv:List MemPlace}
 (hW:DataW.Whole enc P f.params.toList s.vars apart W args.toList ds gs before)
 (hres:∀(b:Nat) (sp:Nat->Bool) (hd:Bool),DataW.TrodAll enc P W' b sp hd f.resultTypes.toList (v.resultList f.resultTypes.size) (s.fn H (ds++gs)).results [])
 (hargs:∀sp:Nat->Bool,(∀p∈before,sp p.block=true)->DataW.TrodAll enc P W' 0 sp true f.params.toList args.toList (s.fn H (ds++gs)).args pa)
 (hvars:∀sp:Nat->Bool,(∀p∈before,sp p.block=true)->DataW.TrodVars enc P W' sp s.vars (s.fn H (ds++gs)).vars pv)
 (hps:before=pa++pv) (hb:Below W.heap.size W W')
 (hok:∀(j:Nat) (t:TypeId) (r:Value),f.resultTypes[j]? =some t->(v.resultList f.resultTypes.size)[j]? =some r->Value.okWide P W' .any 0 t r):
 s.post enc P f apart fresh handsOn again W args v W':=by
 have hlt:∀p∈before,p.block<W.heap.size:=fun p hp=>hW.lt p hp
 have hold:∀p∈before,(fun b=>decide (b<W.heap.size)) p.block=true:=fun p hp=>by simpa using hlt p hp
 refine⟨ds,gs,before,[],pa,pv,hW,hres _ _ _,hargs _ hold,hvars _ hold,World.keptBut_mono (fun p hp=>⟨hp,?_⟩) (hb.frame (· ∈before)),fun _=>?_⟩
 ·rw[hps,List.mem_append] at hp;exact Or.inr hp
 obtain⟨_,_,_,_,_,hz,hn⟩:=hW;refine⟨hok,_,_,([]++pa)++pv,⟨[]++pa,pv,trodAll_append (hargs _ (fun _ _=>rfl)) (hres _ _ _),hvars _ (fun _ _=>rfl),rfl,?_,?_⟩,?_⟩
 ·intro b off hp;have hin:MemPlace.cell b off∈before:=by rw[hps];simpa using hp
  rw[hb.frozen (hlt _ hin)];exact hz b off hin
 ·intro ha
  have:=hn ha
  rw[hps] at this;simpa using this
 intro p hp _;rw[hps];simpa using hp
end
theorem own:ownKnob Tryz.prog.godebug=none:=by kernel_rfl
open Go Go.ChangeShapes Go.WideShapes Go.ChangeAt Go.RowKit Go.Deep
section
variable {H:Type} {enc:TypeId×Value->H} {P:Program} {w:World} {base:Nat} {spare:Nat->Bool} {held:Bool}
theorem Nn {W W':World}(hl:laidOutB P=true)(hb:Below W.heap.size W W'){sp':Nat->Bool}:∀{ts:List TypeId} {vs:List Value} {ds:List (DataW H)} {ps:List MemPlace},
 (∀t∈ts,P.readableRec t=true/\t<P.types.size)->DataW.TrodAll enc P W 0 (fun _=>true) true ts vs ds ps->(∀p∈ps,p.block<W.heap.size/\sp' p.block=true)->DataW.TrodAll enc P W' 0 sp' true ts vs ds ps
 |[],[],[],_,_,h,_=>h
 |_::_,_::_,_::_,_,hT,⟨p,q,h1,h2,e⟩,hs=>⟨p,q,WideElems.Trod_stays hl (hT _ (.head _)).1 (hT _ (.head _)).2 h1 (fun x hx=>hb.same (hs x (by rw[e];exact List.mem_append_left _ hx)).1) (fun x hx=>(hs x (by rw[e];exact List.mem_append_left _ hx)).2),
   Nn hl hb (fun t ht=>hT t (.tail _ ht)) h2 (fun x hx=>hs x (by rw[e];exact List.mem_append_right _ hx)),e⟩
theorem Qf {a:Addr}{v:Value}(h:w.cell? a=some v):a=⟨a.block,a.off,none⟩:=by
 obtain⟨b,o,s⟩:=a;simp only[World.cell?] at h;cases s with
 |none=>rfl
 |some s=>
  simp only[Option.isSome_some,if_true] at h;cases hh:w.heap[b]? with
  |none=>simp [hh] at h
  |some ob=>cases ob<;>simp [hh] at h
end
theorem qF:laidOutB Tryz.prog=true:=by kernel_rfl
theorem Ka {α:Type}(p:Nat->α->Prop):∀(n:Nat),(∀i,i<n->∃v,p i v)->∃l:List α,l.length=n/\∀i (h:i<l.length),p i l[i]
 |0,_=>⟨[],rfl,fun i h=>by simp at h⟩
 |n+1,h=>by
  obtain⟨l,hl,hp⟩:=Ka p n fun i hi=>h i qO
  obtain⟨v,hv⟩:=h n qO;refine⟨l++[v],by simp [hl],fun i hi=>?_⟩;by_cases hin:i<l.length
  ·rw[List.getElem_append_left hin];exact hp i hin
  have:i=l.length:=by simp at hi;omega
  subst this;rw[List.getElem_append_right (Ak _)];simpa[hl] using hv
open Go Go.ChangeShapes Go.WideShapes Go.ChangeAt Go.RowKit Go.Deep Go.Lib
theorem pD {n:Int}(h:(Lit.int .u8 n).wf=true):0<=n/\n<=255:=by
 simp [Lit.wf,IntKind.min,IntKind.max,IntKind.signed,IntKind.bits] at h;omega
theorem oS {n:Int}(h:(Lit.int .i64 n).wf=true): -9223372036854775808<=n/\n<=9223372036854775807:=by
 simp [Lit.wf,IntKind.min,IntKind.max,IntKind.signed,IntKind.bits] at h;omega
section
variable {H:Type} {enc:TypeId×Value->H} {w:World} {base:Nat} {spare:Nat->Bool} {held:Bool}
end
open Go Go.ChangeShapes Go.WideShapes Go.ChangeAt Go.RowKit Go.Deep Go.Lib
theorem L8 {H:Type}{P:Program}{e:TypeId}:∀{l:List (DataW H)} {d:DataW H},d∈l->∀n∈d.weights P e,n∈DataW.weightsAll P e l
 |_::r,_,.head _,n,hn=>by rw[DataW.weightsAll];exact List.mem_append_left _ hn
 |_::r,_,.tail _ hm,n,hn=>by rw[DataW.weightsAll];exact List.mem_append_right _ (L8 hm n hn)
theorem Il {H:Type}{P:Program}:∀{ts:List TypeId} {l:List (DataW H)} {i:Nat} {t:TypeId} {d:DataW H},ts[i]? =some t->l[i]? =some d->∀n∈d.weights P t,n∈DataW.weightsEach P ts l
 |[],_,i,_,_,h,_,_,_=>by simp at h
 |_::_,[],i,_,_,_,h,_,_=>by simp at h
 |t::ts,d::l,0,_,_,h1,h2,n,hn=>by
  simp only[List.getElem?_cons_zero,Option.some.injEq] at h1 h2;subst h1 h2;rw[DataW.weightsEach];exact List.mem_append_left _ hn
 |t::ts,d::l,i+1,_,_,h1,h2,n,hn=>by
  simp only[List.getElem?_cons_succ] at h1 h2;rw[DataW.weightsEach];exact List.mem_append_right _ (Il h1 h2 n hn)
theorem Wu {H:Type}{P:Program}{t e:TypeId}(ht:P.underlying t=some (.slice e)){el sp:List (DataW H)}{d:DataW H}(hd:d∈el):∀n∈d.weights P e,n∈(DataW.slice el sp).weights P t:=fun n hn=>by
 rw[DataW.weights,ht];exact Aj _ (List.mem_append_left _ (L8 hd n hn))
theorem Y3 {H:Type}{P:Program}{t e:TypeId}(ht:P.underlying t=some (.slice e)){el sp:List (DataW H)}:(el.length+sp.length)*P.bytesOf e∈(DataW.slice el sp).weights P t:=by
 rw[DataW.weights,ht];exact Ai
theorem He {H:Type}{P:Program}{t:TypeId}{fs:Array Field}(ht:P.underlying t=some (.struct fs)){l:List (DataW H×List MemPlace)}{i:Nat}{f:Field}{d:DataW H×List MemPlace}(hf:fs[i]? =some f)(hd:l[i]? =some d):
 ∀n∈d.1.weights P f.type,n∈(DataW.agg (l.map (·.1))).weights P t:=fun n hn=>by
 rw[DataW.weights,ht];refine Il (i:=i) (t:=f.type) ?_ (by rw[List.getElem?_map,hd];rfl) n hn;rw[List.getElem?_map,Array.getElem?_toList,hf];rfl
structure Na where
 h:Hd
 a:Option Addr
 n:Nat
 c:Nat
def Na.kv (x:Na):Value:= .slice x.a x.n x.c
structure Na.Ok (w:World)(x:Na):Prop where
 op0:0<=x.h.op
 op1:x.h.op<=255
 v0: -9223372036854775808<=x.h.v.2.1
 v1:x.h.v.2.1<=9223372036854775807
 s:x.h.v.2.2.length<=reachBytes
 name:x.h.name.length<=reachBytes
 n:x.n<=reachBytes
 kids:x.n<=1000000->∃ks,ks.length=x.n/\En w x.kv ks
 nil:x.a=none->x.n=0/\x.c=0
def Wl (w:World)(v:Value)(l:List Na):Prop:=l.length<=maxLen/\∃a c,v= .slice a l.length c/\∀i (h:i<l.length),∃b off,a=some ⟨b,off,none⟩/\Nt w b (off+i*8) l[i].h l[i].kv/\l[i].Ok w
theorem Na.Ok.below {w w':World}{x:Na}(h:x.Ok w)(hb:Below w.heap.size w w'):x.Ok w':=
 ⟨h.op0,h.op1,h.v0,h.v1,h.s,h.name,h.n,fun q=>by obtain⟨ks,h1,h2⟩:=h.kids q;exact⟨ks,h1,h2.below hb⟩,h.nil⟩
theorem Wl.below {w w':World}{v:Value}{l:List Na}(h:Wl w v l)(hb:Below w.heap.size w w'):Wl w' v l:=by
 obtain⟨h1,a,c,h2,h3⟩:=h;refine⟨h1,a,c,h2,fun i hi=>?_⟩;obtain⟨b,off,e,hc,hk⟩:=h3 i hi;exact⟨b,off,e,hc.below hb,hk.below hb⟩
theorem Wl.z {w:World}{v:Value}{l:List Na}(h:Wl w v l)(hl:l.length<=1000000)(hk:∀x∈l,x.n<=1000000):
 ∃zs:List Nz,zs.length=l.length/\(∀i (h1:i<l.length) (h2:i<zs.length),zs[i].h=l[i].h/\zs[i].kids.length=l[i].n/\En w l[i].kv zs[i].kids)/\TrZ w v zs:=by
 obtain⟨h1,a,c,h2,h3⟩:=h
 obtain⟨zs,hz,hp⟩:=Ka (fun i (z:Nz)=>∃h:i<l.length,z.h=l[i].h/\z.kids.length=l[i].n/\En w l[i].kv z.kids) l.length (fun i hi=>by
  obtain⟨b,off,e,hc,ok⟩:=h3 i hi;obtain⟨ks,q1,q2⟩:=ok.kids (hk _ (List.getElem_mem hi))
  exact⟨⟨l[i].h,ks⟩,hi,rfl,q1,q2⟩)
 refine⟨zs,hz,fun i h1 h2=>?_,by omega,a,c,by rw[hz];exact h2,fun i hi=>?_⟩
 ·obtain⟨_,g1,g2,g3⟩:=hp i h2;exact⟨g1,g2,g3⟩
 obtain⟨b,off,e,hc,_⟩:=h3 i qO;obtain⟨_,g1,_,g3⟩:=hp i hi;exact⟨b,off,l[i].kv,e,by rw[g1];exact hc,g3⟩
section
variable {H:Type} {enc:TypeId×Value->H} {w:World} {base:Nat} {spare:Nat->Bool} {held:Bool}
theorem fD {fuel:Nat}{v:Value}{x:DataW H×List MemPlace}(h:DataW.trod enc Tryz.prog w base spare held fuel 41 [v]=some x)(hw:∀k∈x.1.weights Tryz.prog 41,k<=reachBytes):
 ∃a n c,v= .slice a n c/\n<=reachBytes/\(n<=1000000->∃ks:List Int,ks.length=n/\En w v ks)/\(a=none->n=0/\c=0):=by
 rcases open_slice Tryz.underlying41 h with ⟨hc,_⟩|⟨a,len,cap,m,n,D,Pl,hc,hb,hle,hcap,hm,rfl,hi⟩
 ·simp only[List.cons.injEq,and_true] at hc;subst hc;exact⟨none,0,0,rfl,Nat.zero_le _,fun _=>⟨[],rfl,by simp,none,0,rfl,fun i hi=>by simp at hi⟩,fun _=>⟨rfl,rfl⟩⟩
 simp only[List.cons.injEq,and_true] at hc;subst hc;have hl8:=hw _ (Y3 Tryz.underlying41);rw[show Tryz.prog.bytesOf 3=8 from by kernel_rfl] at hl8;simp only[List.length_map,List.length_range] at hl8;refine⟨some a,len,cap,rfl,by omega,fun hn=>?_,fun e=>by cases e⟩;have hml:len<=m:=by rw[hm];split<;>omega
 have hcells:∀i,i<len->∃z:Int,w.cell? (a.add i)=some (.int .i64 z):=by
  intro i hil;obtain⟨cs',hcs,ht⟩:=hi i qO;rw[show Tryz.prog.cellsOf 3=1 from by kernel_rfl] at hcs;obtain⟨z,e0,_,_⟩:=DataW.trod_int Tryz.underlying3 ht;obtain⟨_,hcl,hat⟩:=World.cells?_some hcs
  have:=hat 0 qO
  subst e0;exact⟨z,by simpa[Addr.add] using this⟩
 obtain⟨l,hl,hp⟩:=Ka _ len hcells;refine⟨l,hl,by omega,some a,cap,by rw[hl],fun i hil=>?_⟩;have hs:=Qf (by simpa[Addr.add] using hp 0 qO)
 have:=hp i hil
 rw[hs] at this;refine⟨a.block,a.off,by rw[hs],?_⟩;simpa only[Addr.add_lit] using this
theorem aM {fuel:Nat}{v:Value}{x:DataW H×List MemPlace}(h:DataW.trod enc Tryz.prog w base spare held fuel 31 [v]=some x)(hw:∀k∈x.1.weights Tryz.prog 31,k<=reachBytes):∃l,Wl w v l:=by
 rcases open_slice Tryz.underlying31 h with ⟨hc,_⟩|⟨a,len,cap,m,n,D,Pl,hc,hb,hle,hcap,hm,rfl,hi⟩
 ·simp only[List.cons.injEq,and_true] at hc;subst hc;exact⟨[],Nat.zero_le _,none,0,rfl,fun i hi=>by simp at hi⟩
 simp only[List.cons.injEq,and_true] at hc;subst hc;have hml:len<=m:=by rw[hm];split<;>omega
 have hsp:∀i,i<len->a=⟨a.block,a.off,none⟩:=by
  intro i hil;obtain⟨cs,hcs,ht⟩:=hi 0 qO;rw[show Tryz.prog.cellsOf 43=8 from by kernel_rfl] at hcs;obtain⟨hlen,hcl,hat⟩:=World.cells?_some hcs;have h0:=hat 0 qO;rw[Ag qO] at h0;exact Qf (a:=a) h0
 have hcells:∀i,i<len->∃x:Na,Nt w a.block (a.off+i*8) x.h x.kv/\x.Ok w/\w.cell? (a.add (i*8))=some (.int .u8 x.h.op):=by
  intro i hil;obtain⟨cs,hcs,ht⟩:=hi i qO;rw[show Tryz.prog.cellsOf 43=8 from by kernel_rfl] at hcs;obtain⟨ys,n',_,hxd,hlen,hyl,hf⟩:=DataW.trod_struct Tryz.underlying43 ht;have hD:D i= .agg (ys.map (·.1)):=Ar Prod.fst hxd;have hwD:∀k∈(DataW.agg (ys.map (·.1))).weights Tryz.prog 43,k<=reachBytes:=fun k hk=>hw k (Wu Tryz.underlying31 (List.mem_map.2 ⟨i,List.mem_range.2 hil,rfl⟩) k (by rw[hD];exact hk))
  rw[show Tryz.prog.cellsOf 43=8 from by kernel_rfl] at hlen;obtain⟨_,hcl,hat⟩:=World.cells?_some hcs
  obtain⟨c0,c1,c2,c3,c4,c5,c6,c7,rfl⟩:∃c0 c1 c2 c3 c4 c5 c6 c7,cs=[c0,c1,c2,c3,c4,c5,c6,c7]:=by
   match cs,hlen with
   |[c0,c1,c2,c3,c4,c5,c6,c7],_=>exact⟨_,_,_,_,_,_,_,_,rfl⟩
  have hys:∀i,i<5->∃y,ys[i]? =some y:=fun i hi=>⟨ys[i]'(by rw[hyl];exact hi),Ag (by rw[hyl];exact hi)⟩
  obtain⟨y0,hy0⟩:=hys 0 qO;obtain⟨y1,hy1⟩:=hys 1 qO;obtain⟨y2,hy2⟩:=hys 2 qO;obtain⟨y3,hy3⟩:=hys 3 qO;obtain⟨y4,hy4⟩:=hys 4 qO;have g0:DataW.trod enc Tryz.prog w base spare held n' 5 (([c0,c1,c2,c3,c4,c5,c6,c7].drop 0).take (Tryz.prog.cellsOf 5))=ys[0]?:=hf 0 _ rfl;rw[show Tryz.prog.cellsOf 5=1 from by kernel_rfl] at g0;have g1:DataW.trod enc Tryz.prog w base spare held n' 23 (([c0,c1,c2,c3,c4,c5,c6,c7].drop 1).take (Tryz.prog.cellsOf 23))=ys[1]?:=hf 1 _ rfl;rw[show Tryz.prog.cellsOf 23=3 from by kernel_rfl] at g1;have g2:DataW.trod enc Tryz.prog w base spare held n' 9 (([c0,c1,c2,c3,c4,c5,c6,c7].drop 4).take (Tryz.prog.cellsOf 9))=ys[2]?:=hf 2 _ rfl;rw[show Tryz.prog.cellsOf 9=1 from by kernel_rfl] at g2;have g3:DataW.trod enc Tryz.prog w base spare held n' 41 (([c0,c1,c2,c3,c4,c5,c6,c7].drop 5).take (Tryz.prog.cellsOf 41))=ys[3]?:=hf 3 _ rfl;rw[show Tryz.prog.cellsOf 41=1 from by kernel_rfl] at g3;have g4:DataW.trod enc Tryz.prog w base spare held n' 33 (([c0,c1,c2,c3,c4,c5,c6,c7].drop 6).take (Tryz.prog.cellsOf 33))=ys[4]?:=hf 4 _ rfl;rw[show Tryz.prog.cellsOf 33=2 from by kernel_rfl] at g4;obtain⟨op,e0,_,hk⟩:=DataW.trod_int Tryz.underlying5 (g0.trans hy0);obtain⟨nm,e4,en4,_⟩:=DataW.trod_string Tryz.underlying9 (g2.trans hy2);have hnm:nm.data.toList.length<=reachBytes:=hwD _ (He Tryz.underlying43 (i:=2) rfl hy2 _ (by rw[en4,DataW.weights];exact List.mem_singleton.2 rfl));obtain⟨ka,kn,kc,e5,hkn,hks,hnil⟩:=fD (v:=c5) (g3.trans hy3) (fun k hk=>hwD k (He Tryz.underlying43 (i:=3) rfl hy3 k hk));obtain⟨us,n2,_,eu,_,hul,hg⟩:=DataW.trod_struct Tryz.underlying23 (g1.trans hy1);have hwU:∀k∈(DataW.agg (us.map (·.1))).weights Tryz.prog 23,k<=reachBytes:=fun k hk=>hwD k (He Tryz.underlying43 (i:=1) rfl hy1 k (by rw[eu];exact hk))
  obtain⟨ps,n3,_,_,_,hpl,hq⟩:=DataW.trod_struct Tryz.underlying33 (g4.trans hy4);have hus:∀i,i<3->∃y,us[i]? =some y:=fun i hi=>⟨us[i]'(by rw[hul];exact hi),Ag (by rw[hul];exact hi)⟩
  have hps:∀i,i<2->∃y,ps[i]? =some y:=fun i hi=>⟨ps[i]'(by rw[hpl];exact hi),Ag (by rw[hpl];exact hi)⟩
  obtain⟨u0,hu0⟩:=hus 0 qO;obtain⟨u1,hu1⟩:=hus 1 qO;obtain⟨u2,hu2⟩:=hus 2 qO;obtain⟨p0,hp0⟩:=hps 0 qO;obtain⟨p1,hp1⟩:=hps 1 qO;have f0:DataW.trod enc Tryz.prog w base spare held n2 5 (([c1,c2,c3].drop 0).take (Tryz.prog.cellsOf 5))=us[0]?:=hg 0 _ rfl;rw[show Tryz.prog.cellsOf 5=1 from by kernel_rfl] at f0;have f1:DataW.trod enc Tryz.prog w base spare held n2 2 (([c1,c2,c3].drop 1).take (Tryz.prog.cellsOf 2))=us[1]?:=hg 1 _ rfl;rw[show Tryz.prog.cellsOf 2=1 from by kernel_rfl] at f1;have f2:DataW.trod enc Tryz.prog w base spare held n2 9 (([c1,c2,c3].drop 2).take (Tryz.prog.cellsOf 9))=us[2]?:=hg 2 _ rfl;rw[show Tryz.prog.cellsOf 9=1 from by kernel_rfl] at f2;have r0:DataW.trod enc Tryz.prog w base spare held n3 3 (([c6,c7].drop 0).take (Tryz.prog.cellsOf 3))=ps[0]?:=hq 0 _ rfl;rw[show Tryz.prog.cellsOf 3=1 from by kernel_rfl] at r0;have r1:DataW.trod enc Tryz.prog w base spare held n3 3 (([c6,c7].drop 1).take (Tryz.prog.cellsOf 3))=ps[1]?:=hq 1 _ rfl;rw[show Tryz.prog.cellsOf 3=1 from by kernel_rfl] at r1;obtain⟨vk,e1,_,hvk⟩:=DataW.trod_int Tryz.underlying5 (f0.trans hu0);obtain⟨vn,e2,_,hvn⟩:=DataW.trod_int Tryz.underlying2 (f1.trans hu1);obtain⟨vs,e3,en3,_⟩:=DataW.trod_string Tryz.underlying9 (f2.trans hu2);have hvs:vs.data.toList.length<=reachBytes:=hwU _ (He Tryz.underlying23 (i:=2) rfl hu2 _ (by rw[en3,DataW.weights];exact List.mem_singleton.2 rfl));obtain⟨ln,e6,_,_⟩:=DataW.trod_int Tryz.underlying3 (r0.trans hp0);obtain⟨cl,e7,_,_⟩:=DataW.trod_int Tryz.underlying3 (r1.trans hp1);simp only[List.drop_zero,List.drop_succ_cons,List.take_succ_cons,List.take_zero,List.cons.injEq,and_true] at e0 e1 e2 e3 e4 e6 e7;subst e0 e1 e2 e3 e4 e5 e6 e7;have h0:=hat 0 qO;have h1:=hat 1 qO;have h2:=hat 2 qO;have h3:=hat 3 qO;have h4:=hat 4 qO;have h5:=hat 5 qO;have h6:=hat 6 qO;have h7:=hat 7 qO;rw[hsp i hil] at h0 h1 h2 h3 h4 h5 h6 h7 ⊢;simp only[Addr.add_lit,Nat.add_zero] at h0 h1 h2 h3 h4 h5 h6 h7 ⊢;refine⟨⟨⟨op,(vk,vn,vs.data.toList),nm.data.toList,ln,cl⟩,ka,kn,kc⟩,⟨h0,h1,h2,h3,h4,h5,h6,h7⟩,⟨(pD hk).1,(pD hk).2,(oS hvn).1,(oS hvn).2,hvs,hnm,hkn,hks,hnil⟩,h0⟩
 obtain⟨l,hl,hp⟩:=Ka _ len hcells;refine⟨l,by omega,some a,cap,by rw[hl],fun i hil=>?_⟩;have hs:=Qf (hp 0 qO).2.2;simp only[Nat.zero_mul,Addr.add,if_true] at hs;obtain⟨q1,q2,_⟩:=hp i hil;exact⟨a.block,a.off,by rw[hs],q1,q2⟩
end
open Go Go.RowKit Go.Lib
def Lc (l:List Na):Nat:=(l.map fun x=>x.h.name.length+x.h.v.2.2.length+x.n).sum
def Lw (l:List Na):Bool:=decide (70<l.length)||decide (3000<Lc l)
theorem Uo {l:List Na}{j:Nat}(hj:j<l.length):Lc (l.take (j+1))=Lc (l.take j)+(l[j].h.name.length+l[j].h.v.2.2.length+l[j].n):=by
 unfold Lc;rw[List.take_succ_eq_append_getElem hj,List.map_append,List.sum_append];simp
theorem cN {w:World}{l:List Na}(h:∀x∈l,x.Ok w):∀j,j<=l.length->Lc (l.take j)<=j*422212465053696
 |0,_=>by simp [Lc]
 |j+1,hj=>by
  have h1:=cN h j qO;have h2:=h _ (List.getElem_mem (show j<l.length by omega));rw[Uo qO];have a:=h2.s;have b:=h2.name;have c:=h2.n;unfold reachBytes at a b c;omega
theorem fZ {w:World}{v:Value}{l:List Na}(h:Wl w v l):Calls Tryz.prog 28 #[v] w fun e w'=>e= .returned (.bool (Lw l))/\Below w.heap.size w w':=by
 have HA:=Ax h;obtain⟨hlm,va,vc,rfl,hcells⟩:=h;have HC:=Ax hcells
 have hok:∀x∈l,x.Ok w:=fun x hx=>by
  obtain⟨i,hi,rfl⟩:=List.getElem_of_mem hx;obtain⟨_,_,_,_,q⟩:=hcells i hi;exact q
 have HO:=Ax hok;have HS:=Ax (cN hok);unfold maxLen at hlm;clear hcells hok;by_cases h70:70<l.length
 ·have hg:Lw l=true:=by unfold Lw;rw[Am h70,Bool.true_or]
  rw[hg];have d1:decide ((70:Int)<(l.length:Int))=true:=Am qO;have d2:decide (70<l.length)=true:=Am h70;clear hg;go_enter Tryz.func28,Tryz.ntmps28;go_wp2_with fail
  go_loopw [3,7] (fun v3 v7 wr=>∃(j:Nat) (z:Int),j<=l.length/\v7= .int .i64 j/\v3= .int .i64 z/\Hid (Below w.heap.size w wr)) (fun _ v7 _=>l.length - (intOf v7).toNat)
  case atStart=>exact⟨0,0,Nat.zero_le _,rfl,rfl,Aq _ w⟩
  obtain⟨wo,rfl⟩:∃wo:World,wo=wr:=⟨_,rfl⟩;obtain⟨j,z,hj,rfl,rfl,hb⟩:=hrel;by_cases hjl:j<l.length
  ·obtain⟨b,off,rfl,hna,_⟩:=HC.out j hjl;have hna:=hna.below hb.out;obtain⟨_,_,_,x3,x4,x5,_,_⟩:=hna;have hok:=HO.out _ (List.getElem_mem hjl);have q1:=hok.s;have q2:=hok.name;have q3:=hok.n;unfold reachBytes at q1 q2 q3;unfold Na.kv at x5;obtain⟨⟨⟨op,⟨vk,vn,vs⟩,nm,ln,cl⟩,ka,kn,kc⟩,hx⟩:∃x,l[j]=x:=⟨_,rfl⟩;rw[hx] at x3 x4 x5 q1 q2 q3;simp only at x3 x4 x5 q1 q2 q3;have j0:(0:Int)<=(j:Int):=by omega
   have j1:(j:Int)<(l.length:Int):=by omega
   have j2:decide ((j:Int)<(l.length:Int))=true:=Am j1;have HB:=fun nq=>Ax (Be hb.out nq)
   clear hb hok hx;go_wp2_with fail;go_quiet (fail);go_wp2_with fail;refine⟨⟨j+1,_,by omega,by go_num,rfl,HB _⟩,?_⟩;simp [intOf];omega
  obtain rfl:j=l.length:=by omega
  have j2:decide ((l.length:Int)<(l.length:Int))=false:=by simp
  have HB:=Ax hb.out;clear hb;go_wp2_with fail;go_ret;exact⟨rfl,HB.out⟩
 have hg:Lw l=decide (3000<Lc l):=by unfold Lw;rw[An h70,Bool.false_or]
 rw[hg];have d1:decide ((70:Int)<(l.length:Int))=false:=An qO;have d2:decide (70<l.length)=false:=An h70;clear hg;go_enter Tryz.func28,Tryz.ntmps28;go_wp2_with fail
 go_loopw [3,7] (fun v3 v7 wr=>∃(j:Nat),j<=l.length/\v7= .int .i64 j/\v3= .int .i64 (Lc (l.take j):Nat)/\Hid (Below w.heap.size w wr)) (fun _ v7 _=>l.length - (intOf v7).toNat)
 case atStart=>exact⟨0,Nat.zero_le _,rfl,rfl,Aq _ w⟩
 obtain⟨wo,rfl⟩:∃wo:World,wo=wr:=⟨_,rfl⟩;obtain⟨j,hj,rfl,rfl,hb⟩:=hrel;by_cases hjl:j<l.length
 ·obtain⟨b,off,rfl,hna,_⟩:=HC.out j hjl;have hna:=hna.below hb.out;obtain⟨_,_,_,x3,x4,x5,_,_⟩:=hna;have hok:=HO.out _ (List.getElem_mem hjl);have q1:=hok.s;have q2:=hok.name;have q3:=hok.n;unfold reachBytes at q1 q2 q3;unfold Na.kv at x5;have hst:=Uo hjl;have hsl:=HS.out j hj;have hsl:Lc (l.take j)<=29554872553758720:=by omega
  obtain⟨⟨⟨op,⟨vk,vn,vs⟩,nm,ln,cl⟩,ka,kn,kc⟩,hx⟩:∃x,l[j]=x:=⟨_,rfl⟩;rw[hx] at x3 x4 x5 q1 q2 q3 hst;simp only at x3 x4 x5 q1 q2 q3 hst;obtain⟨z,hz⟩:∃z,Lc (l.take j)=z:=⟨_,rfl⟩;rw[hz] at hst hsl;rw[hz];have j0:(0:Int)<=(j:Int):=by omega
  have j1:(j:Int)<(l.length:Int):=by omega
  have j2:decide ((j:Int)<(l.length:Int))=true:=Am j1;have HB:=fun nq=>Ax (Be hb.out nq)
  have Hst:=Ax hst;clear hb hok hx hst hz;go_wp2_with fail;go_quiet (fail);go_wp2_with fail;refine⟨⟨j+1,by omega,by go_num,?_,HB _⟩,?_⟩
  ·rw[Hst.out];congr 1
  simp [intOf];omega
 obtain rfl:j=l.length:=by omega
 have j2:decide ((l.length:Int)<(l.length:Int))=false:=by simp
 have hd:decide ((3000:Int)<((Lc l:Nat):Int))=decide (3000<Lc l):=by
  by_cases e:3000<Lc l
  ·rw[Am e];exact Am qO
  rw[An e];exact An qO
 rw[List.take_length];have HB:=Ax hb.out;have HD:=Ax hd;clear hb hd;go_wp2_with fail;go_ret;exact⟨by rw[HD.out];rfl,HB.out⟩
open Go Go.ChangeShapes Go.WideShapes Go.ChangeAt Go.RowKit Go.Lib Go.ChangeMaps
theorem Po {W:World}{n:String}{g:Nat}{nm:String}{d:DataW Unit}(h:Lib.VarReads Tryz.prog W n (.iface nm d))(hg:Tryz.prog.globalNamed n=some g)(ht:(Tryz.prog.globals[g]?).map (·.type)=some 119):
 ∃ev,W.cell? ⟨g,0,none⟩=some ev/\(ev= .nilIface\/∃te pe,ev= .iface te pe):=by
 obtain⟨g',t,cs,fuel,p,hg',ht',hv,hd⟩:=h;obtain rfl:g'=g:=Option.some.inj (hg'.symm.trans hg);obtain rfl:t=119:=Option.some.inj (ht'.symm.trans ht);obtain⟨f1,u,v,hc,_,_⟩:=iface_of_trod Tryz.underlying119 hd;refine⟨.iface u v,?_,.inr ⟨u,v,rfl⟩⟩;have h0:=World.var?_cell hg hv 0;rw[h0,←Array.getElem?_toList,hc];rfl
theorem pH:Rows.laid_internal_strconv_uint64pow10=Lib.tabData (H:=Unit) .u64 Lib.pow10Tab:=by kernel_rfl
theorem pY {W:World}{l:List (String×DataW Unit)}(hL:laidMet Tryz.prog l W)(hsh:W.ShapedOpen Tryz.prog)
 (h1:("internal/strconv.uint64pow10",Rows.laid_internal_strconv_uint64pow10)∈l) (h2:("strconv.ErrRange",Rows.laid_strconv_ErrRange)∈l) (h3:("strconv.ErrSyntax",Rows.laid_strconv_ErrSyntax)∈l):Rd W:=by
 refine⟨Go.Proofs.cell_of_shapedOpen_int (zero:= #[.int .i64 0]) (t:=3) hsh (of_decide_eq_true qN) qN rfl qN qN Tryz.underlying3,?_,?_,?_⟩
 ·have h:=Lib.laidMet.reads hL h1;rw[pH] at h;obtain⟨g,t,cs,fuel,p,hg,ht,hv,hd⟩:=h;obtain rfl:g=1:=Option.some.inj (hg.symm.trans qN);obtain rfl:t=205:=Option.some.inj (ht.symm.trans qN);unfold Lib.TabIs;rw[hv,←Lib.cells_of_tab Tryz.underlying205 Tryz.underlying55 qN qN hd]
 ·exact Po (Lib.laidMet.reads hL h2) qN qN
 exact Po (Lib.laidMet.reads hL h3) qN qN
open Go Go.ChangeShapes Go.WideShapes Go.ChangeAt Go.RowKit Go.Lib Go.ChangeMaps
theorem Vh {H:Type}{enc:TypeId×Value->H}{a:Assume}{C:Checked}{os:Os}{f:FuncId}{fn:Func}{s:ChangeSpec}{conds:List PathCond}{apart fresh handsOn again:Bool}{X:World->Array Value->Prop}
 (hX:∀(w w':World) (args:Array Value),w.heap=w'.heap->X w args->X w' args)
 (own:ownKnob C.prog.godebug=none) (started:os.Started) (noInit:C.prog.inits.idxOf? f=none) (hfn:C.prog.funcs[f]? =some fn)
 (witness:∃(w:World) (tape:Tape) (i:Input),w.os=os/\(w.forCall tape i).Shaped C.prog/\i.vars=[]/\Input.okWide C.prog (w.forCall tape i) .any w.heap.size f i/\
  ((s.pre enc C.prog fn conds apart (w.forCall tape i).memory i.args/\X (w.forCall tape i).memory i.args)/\sizedMet enc C.prog fn (OpenSpec.ofChange s) apart (w.forCall tape i).memory i.args)/\a.holds C.prog (lone (Frame.enter C.prog f i.args .normal) [] (w.forCall tape i)))
 (contract:∀(W:World) (base:Nat) (args:Array Value) (ds gs:List (DataW H)) (before:List MemPlace),
  (∀(j:Nat) t v,fn.params[j]? =some t->args[j]? =some v->Value.okWide C.prog W .any base t v)->
  DataW.Whole enc C.prog fn.params.toList s.vars apart W args.toList ds gs before->W.ShapedOpen C.prog->X W args->
  (∀(j:Nat) t d,fn.params.toList[j]? =some t->ds[j]? =some d->∀k∈d.weights C.prog t,k<=reachBytes)->
  Calls C.prog f args W fun e W'=>∃v,e= .returned v/\s.post enc C.prog fn apart fresh handsOn again W args v W'):
 ReturnsInHanded a C os f .any (fun w args=>(s.pre enc C.prog fn conds apart w args/\X w args)/\sizedMet enc C.prog fn (OpenSpec.ofChange s) apart w args) (s.post enc C.prog fn apart fresh handsOn again):=by
 refine returnsInHanded_of_calls own started noInit witness ?_;intro w tape i _ hshape _ hin hp _;obtain⟨_,_,_,g,hg,_,_,_,_,hv⟩:=hin;obtain rfl:g=fn:=Option.some.inj (hg.symm.trans hfn);obtain⟨⟨⟨ds,gs,before,hw,_⟩,hx⟩,hz⟩:=hp;have hall:=hz.weights hw;refine(contract (w.forCall tape i) w.heap.size i.args ds gs before hv (DataW.Whole.of_heap (w':=w.forCall tape i) sQ hw) hshape (hX _ _ _ sQ hx) (fun j t d h1 h2 k hk=>?_)).mono ?_
 ·have:=List.all_eq_true.1 hall k (Il (i:=j) (t:=t) (by rw[List.getElem?_append_left (List.getElem?_eq_some_iff.1 h1).1];exact h1) (by rw[List.getElem?_append_left (List.getElem?_eq_some_iff.1 h2).1];exact h2) k hk)
  simpa using this
 rintro e W' ⟨v,rfl,hq⟩;exact ChangeSpec.post_blind hq
theorem fV {H:Type}{enc:TypeId×Value->H}{w:World}{base:Nat}{spare:Nat->Bool}{held:Bool}{v:Value}{d:DataW H}{p:List MemPlace}{r:Reach}{b0:Nat}
 (hv:Value.okWide Tryz.prog w r b0 31 v) (h:DataW.Trod enc Tryz.prog w base spare held 31 v d p) (hw:∀k∈d.weights Tryz.prog 31,k<=reachBytes):∃l,Wl w v l:=by
 obtain⟨a',n',c',rfl⟩:=okWide_slice Tryz.underlying31 hv;obtain⟨fuel,h⟩:=h;exact aM h hw
end Go.Proofs.YtgfakdobajgnfaaGreatDoor
