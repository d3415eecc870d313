import Derived.Deep.CutRange
import Derived.Test.YtgfakdobajgnfaaGreatDoorQk14
set_option maxRecDepth 100000
set_option maxHeartbeats 16000000
namespace Go.Proofs.YtgfakdobajgnfaaGreatDoor
open Go Go.RowKit Go.Lib Go.Sort Go.Shelf
def Bl (l:List Nz):Nat->List (List UInt8)
 |0=>[]
 |k+1=>Bl l k++[match l[k]? with
  |some x=>Ct x.h x.kids.length (B4 l (Bl l k) x.kids)
  |none=>[]]
theorem Ei (l:List Nz):∀k,(Bl l k).length=k
 |0=>rfl
 |k+1=>by rw[Bl,Ab,Ei l k];rfl
theorem Qf (l:List Nz){k:Nat}:∀m,k<=m->∀t∈Bl l k,t∈Bl l m
 |0,h,t,ht=>by
  obtain rfl:k=0:=by omega
  exact ht
 |m+1,h,t,ht=>by
  by_cases e:k=m+1
  ·rw[←e];exact ht
  rw[Bl];exact List.mem_append.2 (.inl (Qf l m rF t ht))
def Lc (ts:List (List UInt8)):Bool:=ts.all fun t=>decide (t.length<=65536)
def Oh (l:List Nz):List UInt8:=if Lc (Bl l l.length)=true then((Bl l l.length).getLast?).getD [] else[]
theorem Ni {ts:List (List UInt8)}(h:Lc ts=true):∀t∈ts,t.length<=65536:=fun t c=>by
 have:=List.all_eq_true.1 h t c
 simpa using this
def cK (l:List Nz)(k:Nat):List UInt8:=((Bl l k).getLast?).getD []
theorem lC (l:List Nz):(Oh l).length<=65536:=by
 unfold Oh
 split
 ·rename_i h
  cases hl:(Bl l l.length).getLast? with
  |none=>simp
  |some t=>exact Ni h t (List.mem_of_getLast? hl)
 simp
def Hk (w:World)(b:Nat)(l:List (List UInt8)):Prop:=w.heap[b]? =some (.cells (Ib l).toArray 9 (0,0))
theorem Hk.cell {w:World}{b:Nat}{l:List (List UInt8)}(h:Hk w b l){i:Nat}{x:List UInt8}(c:l[i]? =some x):w.cell? ⟨b,i,none⟩=some (.string ⟨x.toArray⟩):=by
 unfold Hk at h;simp only[World.cell?,h];simp [Ib,c]
theorem Hk.frozen {w:World}{b:Nat}{l:List (List UInt8)}(h:Hk w b l)(i:Nat):w.frozen? ⟨b,i,none⟩=false:=by
 unfold Hk at h;simp only[World.frozen?,h];simp
theorem Hk.set {w:World}{b:Nat}{l:List (List UInt8)}(h:Hk w b l)(i:Nat)(x:List UInt8):Hk (w.setCell ⟨b,i,none⟩ (.string ⟨x.toArray⟩)) b (l.set i x):=by
 unfold Hk at h ⊢;rw[A2 h];congr 2;apply Array.ext';simp [Ib,List.map_set]
theorem Hk.below {w w':World}{b:Nat}{l:List (List UInt8)}(h:Hk w b l)(c:Below w.heap.size w w'):Hk w' b l:=(c.block b (Ay h)).trans h
theorem gJ (n:Nat)(A:n<=1000000)(w:World):∃w',(Instr.makeSlice 39 (.int .i64 (n:Int)) (.int .i64 (n:Int))).run Tryz.prog w= .ok (.slice (some ⟨w.heap.size,0,none⟩) n n) w'/\Below w.heap.size w w'/\Hk w' w.heap.size (List.replicate n []):=by
 obtain⟨o,p,h,i,j⟩:=G1;obtain⟨w',c,d,q⟩:=run_make_full (P:=Tryz.prog) w w.heap.size 39 9 o (.string ⟨#[]⟩) 1 Tryz.underlying39 p h i .i64 .i64 n (by rw[j];omega) rP (Ak _);refine⟨w',c,(Bb.of_grown q [] (fun k e=>by cases e)).below,?_⟩;rcases d.2 with ⟨e,_⟩|⟨g,r,v,e,_,m,_,_,hcs,f⟩
 ·cases e
 injection e with e1 _ e3;injection e1 with e1;injection e1 with e1;subst e1;subst e3;unfold Hk;rw[m];congr 2;apply Array.ext';rw[List.take_of_length_le uN] at f;rw[f];simp [madeCells,Ib];rw[List.eq_replicate_iff];refine⟨by simp,fun u y=>?_⟩;obtain⟨x,_,rfl⟩:=List.mem_map.1 y
 show(#[Value.string ⟨#[]⟩]:Array Value)[x % 1]! =_
 rw[Nat.mod_one];rfl
def Sw (l:List Nz)(k:Nat):List (List UInt8):=Bl l k++List.replicate (l.length - k) []
theorem jU {l:List Nz}{k j:Nat}{t:List UInt8}(h:(Bl l k)[j]? =some t):(Sw l k)[j]? =some t:=by
 unfold Sw;rw[List.getElem?_append_left (List.getElem?_eq_some_iff.1 h).1];exact h
theorem iT {l:List Nz}{k:Nat}(f:k<l.length){t:List UInt8}(c:Bl l (k+1)=Bl l k++[t]):(Sw l k).set k t=Sw l (k+1):=by
 unfold Sw;have d:=Ei l k;obtain⟨m,e⟩:∃m,l.length - k=m+1:=⟨l.length - k - 1,by omega⟩;rw[List.set_append_right _ _ rF,d,Nat.sub_self,e,List.replicate_succ,Ad,c,show l.length - (k+1)=m by omega,List.append_assoc];rfl
structure bC (w wr:World)(b tb:Nat)(tv:Value)(l:List Nz)(k:Nat):Prop where
 box:wr.heap[b]? =some (.cells #[tv,.slice (some ⟨tb,0,none⟩) l.length l.length] 139 (0,0))
 row:Hk wr tb (Sw l k)
 bel:Below w.heap.size w wr
 ne:tb<b
 hi:w.heap.size<=tb
 short:Lc (Bl l k)=true
theorem X6 {ts:List (List UInt8)}{t:List UInt8}(h:Lc ts=true)(c:t.length<=65536):Lc (ts++[t])=true:=by
 unfold Lc at h ⊢;rw[List.all_append,h];simpa using c
theorem bC.at {w wr:World}{b d:Nat}{c:Value}{l:List Nz}{k:Nat}(h:bC w wr b d c l k)(e:TrZ w c l)(f:k<=l.length)(g:∀x∈l,0<=x.h.op):Oi wr b c d l (Bl l k):=by
 obtain⟨i,m,_⟩:=Bf h.box;exact⟨e.below h.bel,i,m,fun j t n=>h.row.cell (jU n),by rw[Ei];exact f,g,Ni h.short⟩
theorem bC.next {w wr V:World}{b c:Nat}{e:Value}{l:List Nz}{k:Nat}(h:bC w wr b c e l k)(d:Below wr.heap.size wr V)(g:k<l.length){t:List UInt8}(f:Bl l (k+1)=Bl l k++[t])(i:t.length<=65536):
 bC w (V.setCell ⟨c,k,none⟩ (.string ⟨t.toArray⟩)) b c e l (k+1):=by
 refine⟨?_,?_,(h.bel.trans (d.mono h.bel.size)).setCell h.hi _,h.ne,h.hi,by rw[f];exact X6 h.short i⟩
 ·rw[Below.heap_setCell _ _ _ _ (by show b≠c;have:=h.ne;omega)];exact(d.block b (Ay h.box)).trans h.box
 rw[←iT g f];exact(h.row.below d).set k t
theorem Yl {w:World}{W:Value}{l:List Nz}(E:TrZ w W l)(X:∀x∈l,0<=x.h.op)(Y:∀x∈l,Gk x.h)(Z:Rd w):
 Calls Tryz.prog 61 #[W] w fun e w'=>e= .returned (.string ⟨(Oh l).toArray⟩)/\Below w.heap.size w w':=by
 have N:=E.1;have HT:=Ax E;obtain⟨F,G,rfl⟩:=E.slice;obtain⟨g,j,m,d⟩:=gJ l.length N w;obtain⟨n,f⟩:∃n,w.heap.size=n:=⟨_,rfl⟩;obtain⟨I,y⟩:∃I,g.alloc (.cells #[.slice F l.length G,.slice (some ⟨n,0,none⟩) l.length l.length] 139)=I:=⟨_,rfl⟩;have o:=Az g (.cells #[.slice F l.length G,.slice (some ⟨n,0,none⟩) l.length l.length] 139);have p:Below g.heap.size g I:=by rw[←y];exact(Aq _ _).alloc (Ak _) _
 rw[y] at o;rw[f] at j;have A:n<g.heap.size:=by rw[←f];exact Ay d
 have O:Hid (bC w I g.heap.size n (.slice F l.length G) l 0):=Ax ⟨o,by rw[←f];exact(show Hk g w.heap.size (Sw l 0) from d).below p,m.trans (p.mono m.size),A,by omega,rfl⟩;have a8:=Ax f;have HO:=Ax X;have HF:=Ax Y;have HR:=Ax Z;clear E X Y Z m d o p f A;go_enter Tryz.func61,Tryz.ntmps61;go_wp2_with fail
 go_loopw [4,14] (fun v4 v14 wr=>∃k:Nat,k<=l.length/\v14= .int .i64 k/\v4= .string ⟨(cK l k).toArray⟩/\Hid (bC w wr g.heap.size n (.slice F l.length G) l k)) (fun _ v14 _=>l.length - (intOf v14).toNat)
 case atStart=>exact⟨0,Nat.zero_le _,rfl,rfl,O⟩
 obtain⟨k,hk,rfl,rfl,R⟩:=hrel;have c:=R.out;by_cases hkl:k<l.length
 ·have L:=eL (x:=l[k]) (c.at HT.out hk HO.out) (by rw[Ei];exact Ag hkl) (HR.out.below c.bel) (HF.out _ (List.getElem_mem hkl));rw[Ei] at L
  have q:Bl l (k+1)=Bl l k++[Ct l[k].h l[k].kids.length (B4 l (Bl l k) l[k].kids)]:=by
   rw[Bl,Ag hkl]
  obtain⟨t,C⟩:∃t,Ct l[k].h l[k].kids.length (B4 l (Bl l k) l[k].kids)=t:=⟨_,rfl⟩;rw[C] at L q;have i0:(0:Int)<=(k:Int):=by omega
  have i1:(k:Int)<(l.length:Int):=by omega
  have i2:decide ((k:Int)<(l.length:Int))=true:=Am i1;have HN:=Ax L;have r:=Ax c;have u:=Ax q;obtain⟨c0,c1,_⟩:=Bf c.box;clear L c q C R O j;go_wp2_with fail;refine HN.out.mono ?_;rintro e V ⟨rfl,v⟩;have M:=Ax v;obtain⟨d0,d1,_⟩:=Bf ((v.block _ (Ay r.out.box)).trans r.out.box);clear v HN c0 c1;by_cases hbig:65536<t.length
  ·have j1:decide ((65536:Int)<(t.length:Int))=true:=Am rF
   have HZ:Hid (Oh l=[]):=Ax (by
    unfold Oh;rw[Ao];intro T;have h1:t∈Bl l (k+1):=by rw[u.out];simp
    have:=Ni T t (Qf l l.length rF t h1)
    omega)
   clear hbig;go_wp2_with fail;go_ret;exact⟨by rw[HZ.out];rfl,r.out.bel.trans (M.out.mono r.out.bel.size)⟩
  have j1:decide ((65536:Int)<(t.length:Int))=false:=An rF;have T:t.length<=65536:=by omega
  have D:=r.out.next M.out hkl u.out T;have U:=Ax D;have HL:Hid (cK l (k+1)=t):=Ax (by unfold cK;rw[u.out];simp);have b7:=(r.out.row.below M.out).frozen k
  have b8:=(r.out.row.below M.out).cell (i:=k) (x:=((Sw l k)[k]?).getD []) (by
   have:k<(Sw l k).length:=by unfold Sw;rw[Ab,List.length_replicate,Ei];omega
   rw[Ag this];rfl)
  clear hbig D;go_wp2_with fail;go_roundw
  case rel=>exact⟨k+1,by omega,by go_num,by rw[HL.out],U⟩
  case measure=>simp [intOf];omega
 obtain rfl:k=l.length:=by omega
 have i2:decide ((l.length:Int)<(l.length:Int))=false:=by simp
 have HZ:Hid (Oh l=cK l l.length):=Ax (by unfold Oh;rw[Ap c.short];rfl);have HB:=Ax c.bel;clear c R O j hkl;exact zww
def Fi (l:List Nz):Option (List UInt8):=if 60<l.length then none else match B9 (Oh l) with
 | .ok u=>if Dl l ((u.flat 0).map Nd.z)=true then some (Oh l) else none
 | .error _=>none
def P4:Option (List UInt8)->Int
 |some _=>0
 |none=>4
theorem fP {w:World}{Y:Value}{l:List Nz}(i:TrZ w Y l)(M:∀x∈l,0<=x.h.op)(N:∀x∈l,Gk x.h)(v:Rd w):
 Calls Tryz.prog 25 #[Y] w fun e w'=>e= .returned (.tuple #[.string ⟨((Fi l).getD []).toArray⟩,.int .i64 (P4 (Fi l))])/\Below w.heap.size w w':=by
 obtain⟨ta,tc,rfl⟩:=i.slice;have b7:=i.1;by_cases h60:60<l.length
 ·have d:Fi l=none:=by unfold Fi;rw[Ap h60]
  rw[d];have i1:decide ((60:Int)<(l.length:Int))=true:=Am rF;clear i M N v d h60;go_enter Tryz.func25,Tryz.ntmps25;go_wp2_with fail;go_ret2;exact⟨rfl,Aq _ _⟩
 have i1:decide ((60:Int)<(l.length:Int))=false:=An rF;have A:=Ax (Yl i M N v);have R:=lC l;obtain⟨s,O⟩:∃s,Oh l=s:=⟨_,rfl⟩
 have d:Fi l=match B9 s with
  | .ok u=>if Dl l ((u.flat 0).map Nd.z)=true then some s else none
  | .error _=>none:=by unfold Fi;rw[Ao h60,O]
 rw[O] at A R;have HT:=Ax i;cases hr:B9 s with
 |error p=>
  obtain⟨⟨x,y⟩,q⟩:=p;rw[hr] at d;simp only at d;rw[d];have Z:=Tj hr;have b8:(q !=0)=true:=by simpa using Z
  have C:=fun V T=>Ax (qG (s:=⟨s.toArray⟩) V (by show s.toArray.size<=_;simp;omega) T (show B9 (dl ⟨s.toArray⟩)=_ from hr))
  have U:=Ax v;clear i M N v d h60 O hr Z;go_enter Tryz.func25,Tryz.ntmps25;go_wp2_with fail;refine A.out.mono ?_;rintro e V1 ⟨rfl,f⟩;have c:=Ax f;clear f A;go_wp2_with fail;refine(C _ (U.out.below c.out)).out.mono ?_;rintro e D ⟨rfl,g⟩;have E:=Ax (c.out.trans (g.mono c.out.size));clear g C;go_wp2_with fail;go_ret2;exact⟨rfl,E.out.alloc E.out.size _⟩
 |ok u=>
  rw[hr] at d;simp only at d;have C:=fun V T=>Ax (qS (s:=⟨s.toArray⟩) V (by show s.toArray.size<=_;simp;omega) T (show B9 (dl ⟨s.toArray⟩)=_ from hr))
  have W:=Ax (Us hr);have a8:u.size<=60:=by obtain⟨_,_,_,h3⟩:=Lj hr;exact h3
  have U:=Ax v;obtain⟨m,X⟩:∃m,Dl l ((u.flat 0).map Nd.z)=m:=⟨_,rfl⟩;rw[X] at d;have HM:=Ax X;have HZ:=Ax d;clear i M N v h60 O hr X d;go_enter Tryz.func25,Tryz.ntmps25;go_wp2_with fail;refine A.out.mono ?_;rintro e V1 ⟨rfl,f⟩;have c:=Ax f;clear f A;go_wp2_with fail;refine(C _ (U.out.below c.out)).out.mono ?_;rintro e D ⟨uv,rfl,j,g⟩;have k:=c.out.trans (g.mono c.out.size);have n:Below D.heap.size D (D.alloc (.cells #[.int .i64 0,.int .i64 0] 33)):=(Aq _ D).alloc (Ak _) _;have F:=(j.z (by rw[Ex.flat_len];omega) W.out).below n;have o:=k.trans (n.mono k.size);have r:=iR _ (HT.out.below o) F;rw[HM.out] at r;have G:=Ax r;have I:=Ax o;obtain⟨ua,uc,rfl⟩:=j.slice;clear g k n F o r j C;go_wp2_with fail;refine G.out.mono ?_;rintro e V5 ⟨rfl,L⟩;have HB5:=Ax (I.out.trans (L.mono I.out.size));clear L G;cases m with
  |true=>
   exact zwy
  |false=>
   exact zwy
theorem We {w:World}{c:Value}{l:List Nz}(ht:TrZ w c l)(ho:∀x∈l,0<=x.h.op)(hf:∀x∈l,Gk x.h)(hR:Rd w):
 Calls Tryz.prog 30 #[c] w fun e w'=>e= .returned (.bool (Fi l).isSome)/\Below w.heap.size w w':=by
 have HT:=Ax (fP ht ho hf hR);obtain⟨d,f,rfl⟩:=ht.slice;cases hz:Fi l with
 |some t=>
  exact zxl
 |none=>
  exact zxl
open Go Go.RowKit Go.Lib Go.Sort Go.Shelf
mutual
def Ex.texts:Ex->List (List UInt8)| .mk h ks=>iO ks++[Yt h (Nl ks)]
def iO:List Ex->List (List UInt8)|[]=>[]|e::es=>e.texts++iO es
end
theorem Ww {l:List UInt8}{v:Int×Int×List UInt8}(h:Dy l= .ok v){n:List UInt8}{a b:Int}(d:n=[]:=by rfl):Gk ⟨1,v,n,a,b⟩:=by
 subst d;have c:=S9 l;have i:l.length<=402:=by obtain⟨k,m,s⟩:=v;exact(U1 h).2.2.2
 have e:Eg l= .ok v:=by
  unfold Dy at h
  repeat' split at h
  all_goals first
   |(cases h;done)
   |(injection h with h;subst h;assumption)
 rw[e] at c;obtain⟨f,g,j⟩:=c;refine⟨f,g,?_,by simp⟩;show v.2.2.length<=1000000;omega
theorem kA {t:Tkn}{h:Hd}(e:S0 t.w)(d:Dk t=some h):Gk h:=by
 obtain⟨⟨k,t,v⟩,l,c⟩:=t;unfold Dk at d;simp only at d;cases e with
 |name hk ht hv=>
  simp only at hk ht hv;subst hk hv;rw[Ao rH,Ao rH,Ao rH,Ap rfl] at d;cases hc:Di t with
  |some x=>rw[hc] at d;cases d
  |none=>
   rw[hc] at d;cases hl:K7 t with
   |none=>rw[hl] at d;cases d
   |some v=>
    rw[hl] at d;injection d with d;subst d;unfold K7 at hl
    repeat' split at hl
    all_goals first
     |(cases hl;done)
     |(injection hl with hl;subst hl;refine⟨?_,?_,?_,?_⟩<;>simp [v0];done)
 |var hk ht hv=>
  simp only at hk ht hv;subst hk hv;rw[Ao rH,Ap rfl] at d;injection d with d;subst d
  have:=(E8 ht).2.1
  refine⟨by simp [v0],by simp [v0],by simp [v0],?_⟩;show t.length<=1000000;omega
 |self hk ht hv=>
  simp only at hk ht hv;subst hk ht hv;rw[Ao rH,Ao rH,Ap rfl] at d;injection d with d;subst d;refine⟨?_,?_,?_,?_⟩<;>simp [v0]
 |num hk ht hm=>
  simp only at hk ht;subst hk;rw[Ap rH] at d;injection d with d;subst d;exact Ww ht
 |str hk ht hm hs=>
  simp only at hk ht;subst hk;rw[Ap rH] at d;injection d with d;subst d;exact Ww ht
 |sym hk ht hv=>
  simp only at hk ht hv;subst hk hv;rw[Ap rH] at d;injection d with d;subst d
  have:=(E8 ht).2.1
  refine⟨by simp,by simp,?_,by simp⟩;show t.length<=1000000;omega
 |sign hk _ _=>
  simp only at hk;subst hk;rw[Ao rH,Ao rH,Ao rH,Ao rH] at d;cases d
theorem Tk {l:List UInt8}{a:Ex}(h:B9 l= .ok a):∀x∈(a.flat 0).map Nd.z,0<=x.h.op/\Gk x.h:=by
 obtain⟨ts,i,j,_⟩:=Lj h;have m:=Py h
 have o:a.All (fun h k=>h.op<=3->Gk h):=by
  refine Vq (P:=fun h _=>h.op<=3->Gk h) (W:=fun t=>S0 t.w) ?_ ?_ ?_ ?_ (.lvl 0) 0 ts tU trivial (fun t p=>Ot i t p) a [] j
  ·exact fun t hd r u _=>kA r u
  ·intro n t e _ d
   have:=(show 3<Li n by rcases e with rfl|rfl<;>decide)
   have f:Li n<=3:=d;omega
  ·intro n t q _ v d
   have:=Mz n _ (Og v)
   simp only at d;omega
  intro t c k _ y _ _ d;have f:=(Xe y).1;unfold Cp at f;simp only at d;omega
 intro x A;obtain⟨n,e,rfl⟩:=List.mem_map.1 A;obtain⟨g,C⟩:=Sp a 0 (m.and o) n e;have F:=g.op1;refine⟨by show 0<=n.h.op;omega,?_⟩;show Gk n.h;by_cases d:n.h.op<=3
 ·exact C d
 obtain⟨D,E⟩:=g.inner rF;unfold Gk;rw[D,E];refine⟨?_,?_,?_,?_⟩<;>simp [v0]
open Go Go.Lib
inductive Ex.Sub:Ex->Ex->Prop where
 |self (e:Ex):Ex.Sub e e
 |kid {s e:Ex} {h:Hd} {ks:List Ex} (he:e∈ks) (hs:Ex.Sub s e):Ex.Sub s (.mk h ks)
theorem R4:∀(l:List Ex) (b:Nat),∀x∈Db l b,b<=x/\x<b+Bs l
 |[],_,x,h=>by cases h
 |e::l,b,x,h=>by
  have c:=e.size_pos;rw[Bs];rw[Db] at h;rcases List.mem_cons.1 h with rfl|h
  ·omega
  have:=R4 l (b+e.size) x h
  omega
theorem eB:∀(k:Nat),(∀(e:Ex) (b j:Nat) (n:Nd),e.size<=k->(e.flat b)[j]? =some n->∀x∈n.kids,b<=x/\x<b+j)/\
 (∀(l:List Ex) (b j:Nat) (n:Nd),Bs l<=k->(Bz l b)[j]? =some n->∀x∈n.kids,b<=x/\x<b+j):=by
 intro k
 induction k with
 |zero=>
  refine⟨fun e b j n h=>?_,fun l b j n h c=>?_⟩
  ·have:=e.size_pos;omega
  have:=(List.getElem?_eq_some_iff.1 c).1
  rw[Cx] at this;omega
 |succ k ih=>
  have d:∀(e:Ex) (b j:Nat) (n:Nd),e.size<=k+1->(e.flat b)[j]? =some n->∀x∈n.kids,b<=x/\x<b+j:=fun e b j n h c x f=>by
   cases e with
   |mk hd ks=>
    rw[Ex.size] at h;rw[Ex.flat] at c;by_cases hlt:j<Bs ks
    ·rw[List.getElem?_append_left (by rw[Cx];exact hlt)] at c;exact ih.2 ks b j n rF c x f
    rw[List.getElem?_append_right (by rw[Cx];omega),Cx] at c;obtain⟨m,g⟩:∃m,j - Bs ks=m:=⟨_,rfl⟩;rw[g] at c;cases m with
    |zero=>
     injection c with c;subst c
     have:=R4 ks b x f
     omega
    |succ m=>cases c
  refine⟨d,fun l=>?_⟩
  induction l with
  |nil=>intro b j n _ c;cases c
  |cons e l il=>
   intro b j n h c x f;rw[Bs] at h;rw[Bz] at c;by_cases hlt:j<e.size
   ·rw[List.getElem?_append_left (by rw[Ex.flat_len];exact hlt)] at c;exact d e b j n rF c x f
   rw[List.getElem?_append_right (by rw[Ex.flat_len];omega),Ex.flat_len] at c
   have:=il (b+e.size) (j - e.size) n (by have:=e.size_pos;omega) c x f
   omega
theorem Ex.Sub.all {P:Hd->Nat->Prop}{s e:Ex}(h:Ex.Sub s e)(c:e.All P):s.All P:=by
 induction h with
 |self=>exact c
 |kid he _ ih=>exact ih (Op c.2 _ he)
theorem Ex.Sub.size {s e:Ex}(h:Ex.Sub s e):s.size<=e.size:=by
 induction h with
 |self=>exact Ak _
 |kid he _ ih=>
  rw[Ex.size]
  have:=Tf he
  omega
theorem kU {h:Hd}{ks:List Ex}(d:(Ex.mk h ks).All Mj){e:Ex}(c:e∈ks):e.need<=(Ex.mk h ks).need:=by
 rw[Ex.All] at d;cases R6 d.1 with
 |leaf h1 h3 ok=>cases c
 |pre n hn ho=>
  rw[(kS hn ho _).2.2,List.mem_singleton.1 c,P0];omega
 |mid hi=>
  rw[(mA hi _ _).2.2];rcases List.mem_cons.1 c with rfl|c
  ·have:=P0 (Ss (A9 h.op)) e
   omega
  rw[List.mem_singleton.1 c]
  have:=P0 (A9 h.op+1)
  simp only[this];omega
 |call hc q1 q2=>
  rw[(cB hc _).2.2]
  have:=oM (List.mem_map_of_mem (f:=Ex.need) c)
  omega
theorem Ex.Sub.need {s e:Ex}(h:Ex.Sub s e)(c:e.All Mj):s.need<=e.need:=by
 induction h with
 |self=>exact Ak _
 |kid he _ ih=>exact Al (ih (Op c.2 _ he)) (kU c he)
def InT (t u:List UInt8):Prop:=∃A B,u=A++(t++B)
theorem InT.refl (t:List UInt8):InT t t:=⟨[],[],by simp⟩
theorem InT.left {t u:List UInt8}(h:InT t u)(r:List UInt8):InT t (u++r):=by
 obtain⟨A,B,rfl⟩:=h;exact⟨A,B++r,by simp⟩
theorem InT.right {t u:List UInt8}(h:InT t u)(r:List UInt8):InT t (r++u):=by
 obtain⟨A,B,rfl⟩:=h;exact⟨r++A,B,by simp⟩
theorem InT.cons {t u:List UInt8}(h:InT t u)(c:UInt8):InT t (c::u):=h.right [c]
theorem InT.par {t u:List UInt8}(h:InT t u):InT t (K6 u):=(h.left [41]).cons 40
theorem InT.at {t:List UInt8}{e:Ex}(h:InT t e.text)(n:Nat):InT t (Mu n e):=by
 unfold Mu
 split
 ·exact h.par
 exact h
theorem InT.args {t:List UInt8}{e:Ex}(h:InT t e.text):∀{l:List Ex},e∈l->InT t (E5 [44,32] (l.map Ex.text))
 |[],c=>by cases c
 |[x],c=>by rw[List.mem_singleton.1 c] at h;exact h
 |x::y::l,c=>by
  show InT t (x.text++([44,32]++E5 [44,32] ((y::l).map Ex.text)));rcases List.mem_cons.1 c with rfl|c
  ·exact h.left _
  exact((InT.args h c).right _).right _
theorem kR {h:Hd}{ks:List Ex}(f:(Ex.mk h ks).All Mj){e:Ex}(c:e∈ks){t:List UInt8}(d:InT t e.text):InT t (Ex.mk h ks).text:=by
 rw[Ex.All] at f;cases R6 f.1 with
 |leaf h1 h3 ok=>cases c
 |pre n hn ho=>
  rw[(kS hn ho _).1];rw[List.mem_singleton.1 c] at d;exact(d.at n).right _
 |mid hi=>
  rw[(mA hi _ _).1];rcases List.mem_cons.1 c with rfl|c
  ·exact(d.at _).left _
  rw[List.mem_singleton.1 c] at d;exact((((d.at _).cons 32).right _).cons 32).right _
 |call hc q1 q2=>
  rw[(cB hc _).1];exact((d.args c).par).right _
theorem Ex.Sub.text {s e:Ex}(h:Ex.Sub s e)(c:e.All Mj):InT s.text e.text:=by
 induction h with
 |self=>exact .refl _
 |kid he _ ih=>exact kR c he (ih (Op c.2 _ he))
open Go Go.RowKit Go.Lib
structure P2 (l:List Nz):Prop where
 ne:0<l.length
 len:l.length<=60
 op:∀i (h:i<l.length),1<=l[i].h.op/\l[i].h.op<=26
 few:∀i (h:i<l.length),(Cr l[i].h.op).1<=l[i].kids.length/\l[i].kids.length<=(Cr l[i].h.op).2
 kids:∀i (h:i<l.length),∀k∈l[i].kids,0<=k/\k<(i:Int)
 lit:∀i (h:i<l.length),l[i].h.op=1->0<=l[i].h.v.1/\l[i].h.v.1<=5
theorem Mr.kind {h:Hd}(f:Mr h)(j:h.op=1):0<=h.v.1/\h.v.1<=5:=by
 have c:=f.again 0 0;by_cases ha1:h.v.1=1\/h.v.1=2
 ·omega
 by_cases ha3:h.v.1=3
 ·omega
 by_cases ha5:h.v.1=5
 ·omega
 have g:Ov h=⟨1,Nc h.v.1 h.v.2.1 h.v.2.2,v0⟩:=by
  unfold Ov;rw[Ao rF,Ao rF,Ao ha1,Ao ha3,Ao ha5]
 rw[g] at c;unfold Dk at c;rw[Ao (show ¬((1:Int)=4\/(1:Int)=5\/(1:Int)=6) by decide),Ao (show ¬(1:Int)=2 by decide),Ao (show ¬(1:Int)=3 by decide),Ap (show(1:Int)=1 from rfl)] at c;simp only at c
 split at c
 ·cases c
 unfold K7 at c
 have d:∀v:Int×Int×List UInt8,(0<=v.1/\v.1<=5)->((some v).map fun v=>(⟨1,v,[],0,0⟩:Hd)).map Hd.bare=some h.bare->0<=h.v.1/\h.v.1<=5:=fun v k e=>by
  injection e with e;have i:=Ar (fun x:Hd=>x.v.1) e;have m:v.1=h.v.1:=i;omega
 split at c
 ·exact d _ rH c
 split at c
 ·exact d _ rH c
 split at c
 ·exact d _ rH c
 cases c
theorem Qm {l:List Nz}{t:List UInt8}(h:Fi l=some t):P2 l:=by
 unfold Fi at h;by_cases h60:60<l.length
 ·rw[Ap h60] at h;cases h
 rw[Ao h60] at h;cases hr:B9 (Oh l) with
 |error p=>
  rw[hr] at h;cases h
 |ok u=>
  rw[hr] at h;simp only at h;by_cases hs:Dl l ((u.flat 0).map Nd.z)=true
  ·have A:=(Nf _ _).1 hs;have o:=Sp u 0 (Py hr)
   have G:l.length=u.size:=by
    have:=Ar List.length A
    simpa[Ex.flat_len] using this
   have r:∀i (h:i<l.length),∃n:Nd,(u.flat 0)[i]? =some n/\(l[i].h.op=n.h.op/\l[i].h.v=n.h.v)/\l[i].kids=n.kids.map fun(k:Nat)=>(k:Int):=fun i c=>by
    have q:i<(u.flat 0).length:=by rw[Ex.flat_len];omega
    have e:=Ar (fun m=>m[i]?) A;simp only[List.getElem?_map,Ag c,Ag q,Option.map_some,Option.some.injEq] at e;refine⟨_,Ag q,?_,?_⟩
    ·have d:=Ar (fun x:Nz=>x.h.op) e;have j:=Ar (fun x:Nz=>x.h.v) e;exact⟨d,j⟩
    have:=Ar (fun x:Nz=>x.kids) e
    exact this
   have f:∀i (h:i<l.length),∃n:Nd,(l[i].h.op=n.h.op/\l[i].h.v=n.h.v)/\l[i].kids=(n.kids.map fun(k:Nat)=>(k:Int))/\Mj n.h n.kids.length/\∀x∈n.kids,x<i:=fun i c=>by
    obtain⟨n,d,j,g⟩:=r i c;refine⟨n,j,g,o n (List.mem_of_getElem? d),fun x y=>?_⟩
    have:=((eB u.size).1 u 0 i n (Ak _) d x y).2
    omega
   refine⟨by have:=Ex.size_pos u;omega,by omega,fun i c=>?_,fun i c=>?_,fun i c k C=>?_,fun i c d=>?_⟩
   ·obtain⟨n,⟨d,_⟩,_,g,_⟩:=f i c;rw[d];exact⟨g.op1,g.op2⟩
   ·obtain⟨n,⟨d,_⟩,j,g,_⟩:=f i c;rw[d,j,List.length_map];exact⟨g.few,g.many⟩
   ·obtain⟨n,_,j,_,D⟩:=f i c;rw[j] at C;obtain⟨x,y,rfl⟩:=List.mem_map.1 C
    have:=D x y
    omega
   obtain⟨n,⟨E,F⟩,_,g,_⟩:=f i c;rw[F];rw[E] at d;exact(g.leaf rF).kind d
  rw[Ao hs] at h;cases h
def Ew (vars:List (List UInt8×Int))(self:Int)(ks:List Int)(x:Nz):Int×Int:=
 if x.kids=[] then Ou x.h vars self else if Ey x.h.op (x.kids.map fun j=>ks.getD j.toNat 0)=255 then(0,8) else(Ey x.h.op (x.kids.map fun j=>ks.getD j.toNat 0),0)
def ofE (vars:List (List UInt8×Int))(self:Int):List Nz->List Int->Except ((Int×Int)×Int) (List Int)
 |[],ks=> .ok ks
 |x::r,ks=>if(Ew vars self ks x).2=0 then ofE vars self r (ks++[(Ew vars self ks x).1]) else .error ((x.h.line,x.h.col),(Ew vars self ks x).2)
theorem cF {vars:List (List UInt8×Int)}{self:Int}:∀{l:List Nz} {ks r:List Int},ofE vars self l ks= .ok r->r.length=ks.length+l.length
 |[],ks,r,h=>by
  injection h with h;subst h;rfl
 |x::l,ks,r,h=>by
  unfold ofE at h
  split at h
  ·have:=cF h
   simp at this ⊢;omega
  cases h
theorem Lr {vars:List (List UInt8×Int)}{self:Int}:∀{l:List Nz} {ks r:List Int} (_:ofE vars self l ks= .ok r) (m:List Nz),ofE vars self (l++m) ks=ofE vars self m r
 |[],ks,r,h,m=>by
  injection h with h;subst h;rfl
 |x::l,ks,r,h,m=>by
  unfold ofE at h;rw[List.cons_append];rw[ofE]
  split at h
  ·rename_i c
   rw[Ap c];exact Lr h m
  cases h
def ofP (vars:List (List UInt8×Int))(self:Int)(l:List Nz):Int×(Int×Int)×Int:=match Fi l with
 |none=>(0,(0,0),4)
 |some _=>match ofE vars self l [] with
  | .ok ks=>(ks.getLastD 0,(0,0),0)
  | .error p=>(0,p)
open Go Go.RowKit Go.Lib
def KAt (w:World)(b:Nat)(l:List Int):Prop:=w.heap[b]? =some (.cells (l.map (Value.int .u8)).toArray 5 (0,0))
theorem KAt.cell {w:World}{b:Nat}{l:List Int}(h:KAt w b l){i:Nat}{x:Int}(c:l[i]? =some x):w.cell? ⟨b,i,none⟩=some (.int .u8 x)/\w.frozen? ⟨b,i,none⟩=false:=by
 unfold KAt at h;simp only[World.cell?,World.frozen?,h];simp [c]
theorem KAt.set {w:World}{b:Nat}{l:List Int}(h:KAt w b l)(i:Nat)(x:Int):KAt (w.setCell ⟨b,i,none⟩ (.int .u8 x)) b (l.set i x):=by
 unfold KAt at h ⊢;rw[A2 h];congr 2;apply Array.ext';simp [List.map_set]
theorem KAt.below {w w':World}{b:Nat}{l:List Int}(h:KAt w b l)(c:Below w.heap.size w w'):KAt w' b l:=(c.block b (Ay h)).trans h
theorem pL:(Tryz.prog.info? 5).map (fun i=>(i.zero,i.size,i.bytes))=some (some (.int .u8 0),1,1):=by kernel_rfl
theorem R1:∃i,Tryz.prog.info? 5=some i/\i.zero=some (.int .u8 0)/\i.size=1/\i.bytes=1:=by
 have h:=pL;cases hi:Tryz.prog.info? 5 with
 |none=>simp [hi] at h
 |some i=>
  exact zxn
theorem nL (n:Nat)(A:n<=1000000)(w:World):∃w',(Instr.makeSlice 40 (.int .i64 (n:Int)) (.int .i64 (n:Int))).run Tryz.prog w= .ok (.slice (some ⟨w.heap.size,0,none⟩) n n) w'/\Below w.heap.size w w'/\KAt w' w.heap.size (List.replicate n 0):=by
 obtain⟨o,p,h,i,j⟩:=R1;obtain⟨w',c,d,q⟩:=run_make_full (P:=Tryz.prog) w w.heap.size 40 5 o (.int .u8 0) 1 Tryz.underlying40 p h i .i64 .i64 n (by rw[j];omega) rP (Ak _);refine⟨w',c,(Bb.of_grown q [] (fun k e=>by cases e)).below,?_⟩;rcases d.2 with ⟨e,_⟩|⟨g,r,v,e,_,m,_,_,hcs,f⟩
 ·cases e
 injection e with e1 _ e3;injection e1 with e1;injection e1 with e1;subst e1;subst e3;unfold KAt;rw[m];congr 2;apply Array.ext';rw[List.take_of_length_le uN] at f;rw[f];simp [madeCells];rw[List.eq_replicate_iff];refine⟨by simp,fun u y=>?_⟩;obtain⟨x,_,rfl⟩:=List.mem_map.1 y
 show(#[Value.int .u8 0]:Array Value)[x % 1]! =_
 rw[Nat.mod_one];rfl
theorem Ox {op:Int}{ks:List Int}(h:∀x∈ks,0<=x):0<=Ey op ks:=by
 have d:∀(l:List Int) (k:Int),0<=k->0<=Ed k l:=by
  intro l
  induction l with
  |nil=>intro k f;exact f
  |cons x l ih=>
   intro k f;unfold Ed
   split
   ·omega
   exact ih _ rF
 have g:∀i,0<=ks.getD i 0:=fun i=>by
  rw[List.getD_eq_getElem?_getD];cases e:ks[i]? with
  |none=>exact Int.le_refl 0
  |some x=>exact h x (List.mem_of_getElem? e)
 unfold Ey;cases hc:Fd op with
 |some c=>
  simp only
  split
  ·unfold Fd at hc
   repeat' split at hc
   all_goals first|(cases hc;done)|(injection hc with hc;subst hc;decide)
  omega
 |none=>
  simp only;have j:=g 1;have m:=g 2
  repeat' split
  all_goals first|omega|exact d ks 0 (Int.le_refl 0)
theorem Ta {n:List UInt8}:∀{l:List (List UInt8×Int)} {k:Int},Ez n l=some k->∃x∈l,x.2=k
 |[],k,h=>by cases h
 |x::l,k,h=>by
  unfold Ez at h
  split at h
  ·injection h with h;exact⟨x,.head _,h⟩
  obtain⟨y,c,e⟩:=Ta h;exact⟨y,.tail _ c,e⟩
theorem Pb {vars:List (List UInt8×Int)}{self:Int}{ks:List Int}{x:Nz}(f:∀y∈vars,0<=y.2)(g:0<=self)(i:∀y∈ks,0<=y)(m:x.h.op=1->0<=x.h.v.1):0<=(Ew vars self ks x).1:=by
 have c:∀k:Int,0<=k->0<=(Gq k).1:=fun k n=>by
  unfold Gq
  split
  ·exact Int.le_refl 0
  exact n
 unfold Ew
 split
 ·unfold Ou
  split
  ·rename_i h
   exact m h
  split
  ·cases e:Ez x.h.name vars with
   |none=>exact Int.le_refl 0
   |some k=>
    obtain⟨y,d,rfl⟩:=Ta e;exact c _ (f y d)
  split
  ·exact Int.le_refl 0
  exact c _ g
 split
 ·exact Int.le_refl 0
 refine Ox fun y d=>?_
 obtain⟨j,_,rfl⟩:=List.mem_map.1 d;rw[List.getD_eq_getElem?_getD];cases e:ks[j.toNat]? with
 |none=>exact Int.le_refl 0
 |some z=>exact i z (List.mem_of_getElem? e)
open Go Go.RowKit Go.Lib
theorem jI (op:Int)(h9:9<=op)(F:op<=12){v:Value}{ks:List Int}(h2:2<=ks.length)(h0:∀x∈ks,0<=x)(w:World)(h:Ii w v ks):Calls Tryz.prog 68 #[.int .u8 op,v] w fun e w'=>e= .returned (.int .u8 (if Ig (ks.getD 0 0) (ks.getD 1 0) && (Ed 0 ks !=255||Fo 3 ks) then 4 else 255))/\Below w.heap.size w w':=by
 have G:Fd op=none:=by
  exact zwj
 have HC:=Ax (Ja op w);rw[G] at HC;have HN:=fun V (A:Below w.heap.size w V)=>Ax (K9 V (h.below A))
 have HE:=fun V (A:Below w.heap.size w V)=>Ax (Pv 3 V (h.below A))
 obtain⟨b8,a,cc,rfl,g⟩:=h;obtain⟨b,off,rfl,E⟩:=g 0 rF;obtain⟨_,_,e1,I⟩:=g 1 rF;injection e1 with e1;injection e1 with e2 e3;subst e2 e3;have p0:0<=ks[0]:=h0 _ (List.getElem_mem rF);have p1:0<=ks[1]:=h0 _ (List.getElem_mem rF);rw[List.getD_eq_getElem?_getD,List.getD_eq_getElem?_getD,Ag (show 0<ks.length by omega),Ag (show 1<ks.length by omega),Option.getD_some,Option.getD_some];obtain⟨x,hx⟩:∃x,ks[0]=x:=⟨_,rfl⟩;obtain⟨y,hy⟩:∃y,ks[1]=y:=⟨_,rfl⟩;rw[hx] at E p0 ⊢;rw[hy] at I p1 ⊢;have HM:=fun V=>Ax (Wj x y p0 p1 V)
 obtain⟨q,hq⟩:∃q,Ig x y=q:=⟨_,rfl⟩;obtain⟨n,L⟩:∃n,Ed 0 ks=n:=⟨_,rfl⟩;obtain⟨o,ho⟩:∃o,Fo 3 ks=o:=⟨_,rfl⟩;rw[hq] at HM ⊢;rw[L] at HN ⊢;rw[ho] at HE ⊢;rw[Nat.add_zero] at E;have C0:=Ax E;have C1:=Ax I;have i0:(0:Int)<(ks.length:Int):=by omega
 have i1:(1:Int)<(ks.length:Int):=by omega
 have n0:0<ks.length:=by omega
 have n1:1<ks.length:=by omega
 have g7:(op==7)=false:=Af.2 rF;have g8:(op==8)=false:=Af.2 rF;clear g h0 hx hy hq L ho G E I;simp only[Option.getD_none,Option.isSome_none,ofV] at HC;obtain⟨z,hz⟩:∃z:Int,(if q && (n !=255||o) then(4:Int) else 255)=z:=⟨_,rfl⟩;have HZ:=Ax hz;rw[hz];have HS:=fun(t:Bool) V=>Ax (Ki t 4 V)
 clear hz;have H9:=Ax h9;have b7:=Ax F;clear h9 F;go_enter Tryz.func68,Tryz.ntmps68;go_wp2_with fail;refine HC.out.mono ?_;rintro e V ⟨rfl,hb⟩;obtain⟨M,C⟩:∃M,V.alloc (.cells #[.int .u8 0,.int .u8 0] 149)=M:=⟨_,rfl⟩;have N:Below V.heap.size V M:=by rw[←C];exact(Aq _ V).alloc (Ak _) _
 have i:=hb.trans (N.mono hb.size);have E:=A4 i C0.out;have I:=A4 i C1.out;have O:=Ax C;have d8:=Ax i;have u:=Ax i.drew;clear C N hb i HC;go_upto_region 8 with fail
 rw[O.out];clear O;obtain⟨q9,R⟩:∃q,(op==9)=q:=⟨_,rfl⟩;obtain⟨T,j⟩:∃q,(op==10)=q:=⟨_,rfl⟩;obtain⟨U,k⟩:∃q,(op==11)=q:=⟨_,rfl⟩;obtain⟨W,m⟩:∃q,(op==12)=q:=⟨_,rfl⟩
 have X:(((q9||T)||U)||W)=true:=by
  have:=H9.out
  have:=b7.out
  subst R j k m;exact zwj
 have HO:=Ax X;clear X
 go_cut [34] from 35 to 35 (fun u34 wx=>u34= .bool q9/\wx=M)
 case first=>
  clear j k m;exact zyz
 obtain⟨rfl,Y⟩:=hcut;rw[Y];clear Y
 go_upto_if 34 with fail
 go_cut [34] from 36 to 38 (fun u34 wx=>u34= .bool true/\wx=M)
 case first=>
  cases q9 with
  |true=>
   exact zyz
  |false=>
   cases T with
   |true=>
    exact zyz
   |false=>
    cases U with
    |true=>
     exact zyz
    |false=>
     cases W with
     |true=>
      exact zyz
     |false=>cases HO.out
 case rest=>
  obtain⟨rfl,rfl⟩:=hcut;clear HO R j k m;have HSV:Hid (∀V,Below w.heap.size w V->(Below w.heap.size w V/\V.cell? ⟨b,off,none⟩=some (.int .u8 x)/\V.cell? ⟨b,off+1,none⟩=some (.int .u8 y))):=Ax fun V A=>⟨A,A4 A C0.out,A4 A C1.out⟩
  clear E I;cases q with
  |false=>
   go_upto_region 12 with fail
   refine wp_region_noPanic ?_;refine wp_region_held_drew (S:=fun V=>Below w.heap.size w V/\V.cell? ⟨b,off,none⟩=some (.int .u8 x)/\V.cell? ⟨b,off+1,none⟩=some (.int .u8 y)) rG ?_ (fun hHeld=>?_)
   ·exact HSV.out _ u.out
   refine QH 0 ⟨some 39,_,_,_,_,_⟩ (h:=?_)
   try simp only[Act.put,Ac,Ad,Ae]
   refine QH 1 ⟨some 40,_,_,_,_,_⟩ (h:=?_)
   try simp only[Act.put,Ac,Ad,Ae]
   refine QH 2 ⟨some 41,_,_,_,_,_⟩ (h:=?_)
   try simp only[Act.put,Ac,Ad,Ae]
   refine QH 3 ⟨some 42,_,_,_,_,_⟩ (h:=?_)
   try simp only[Act.put,Ac,Ad,Ae]
   refine QH 4 ⟨some 43,_,_,_,_,_⟩ (h:=?_)
   try simp only[Act.put,Ac,Ad,Ae]
   refine QH 5 ⟨some 44,_,_,_,_,_⟩ (h:=?_)
   try simp only[Act.put,Ac,Ad,Ae]
   refine wpAnyH_ready (rs:=[6]) rG rI ?_;refine AllReadyH.cons (o:=⟨some 45,_,_,_,_,_⟩) (rs:=[]) rfl (fun K hK=>?_) AllReadyH.nil
   go_simp
   go_at_call 104
   refine(HM _).out.mono ?_;rintro e V2 ⟨rfl,d⟩;have c:=Ax (u.out.trans (d.mono u.out.size));clear d
   try go_wp2_with fail
   clear hHeld;refine hK.out _ _ ?_ (fun hHeld=>?_)
   ·exact HSV.out _ c.out
   clear hK K
   try simp only[Act.put,Ac,Ad,Ae]
   refine QH 7 ⟨some 46,_,_,_,_,_⟩ (h:=?_)
   try simp only[Act.put,Ac,Ad,Ae]
   refine QS 8 ⟨some 47,_,_,_,_,_⟩ (h:=?_)
   try simp only[Act.put,Ac,Ad,Ae]
   refine QS 9 ⟨some 48,_,_,_,_,_⟩ (h:=?_)
   try simp only[Act.put,Ac,Ad,Ae]
   refine QS 10 ⟨some 49,_,_,_,_,_⟩ (h:=?_)
   try simp only[Act.put,Ac,Ad,Ae]
   refine QS 11 ⟨some 50,_,_,_,_,_⟩ (h:=?_)
   try simp only[Act.put,Ac,Ad,Ae]
   refine QS 12 ⟨some 51,_,_,_,_,_⟩ (h:=?_)
   try simp only[Act.put,Ac,Ad,Ae]
   refine QS 13 ⟨some 52,_,_,_,_,_⟩ (h:=?_)
   try simp only[Act.put,Ac,Ad,Ae]
   refine QS 14 ⟨some 53,_,_,_,_,_⟩ (h:=?_)
   try simp only[Act.put,Ac,Ad,Ae]
   refine QH 15 ⟨some 54,_,_,_,_,_⟩ (h:=?_)
   try simp only[Act.put,Ac,Ad,Ae]
   refine wpAnyH_ready (rs:=[16]) rG rI ?_;refine AllReadyH.cons (o:=⟨some 55,_,_,_,_,_⟩) (rs:=[]) rfl (fun K hK=>?_) AllReadyH.nil
   go_simp
   go_at_call 102
   refine(HS _ _).out.mono ?_;rintro e V3 ⟨rfl,hb3⟩;have HB3:=Ax (c.out.trans (hb3.mono c.out.size));exact zx6
  |true=>
   cases G:(n !=255) with
   |true=>
    rw[G] at HZ;go_upto_region 12 with fail
    refine wp_region_noPanic ?_;refine wp_region_held_drew (S:=fun V=>Below w.heap.size w V/\V.cell? ⟨b,off,none⟩=some (.int .u8 x)/\V.cell? ⟨b,off+1,none⟩=some (.int .u8 y)) rG ?_ (fun hHeld=>?_)
    ·exact HSV.out _ u.out
    refine QH 0 ⟨some 39,_,_,_,_,_⟩ (h:=?_)
    try simp only[Act.put,Ac,Ad,Ae]
    refine QH 1 ⟨some 40,_,_,_,_,_⟩ (h:=?_)
    try simp only[Act.put,Ac,Ad,Ae]
    refine QH 2 ⟨some 41,_,_,_,_,_⟩ (h:=?_)
    try simp only[Act.put,Ac,Ad,Ae]
    refine QH 3 ⟨some 42,_,_,_,_,_⟩ (h:=?_)
    try simp only[Act.put,Ac,Ad,Ae]
    refine QH 4 ⟨some 43,_,_,_,_,_⟩ (h:=?_)
    try simp only[Act.put,Ac,Ad,Ae]
    refine QH 5 ⟨some 44,_,_,_,_,_⟩ (h:=?_)
    try simp only[Act.put,Ac,Ad,Ae]
    refine wpAnyH_ready (rs:=[6]) rG rI ?_;refine AllReadyH.cons (o:=⟨some 45,_,_,_,_,_⟩) (rs:=[]) rfl (fun K hK=>?_) AllReadyH.nil
    go_simp
    go_at_call 104
    refine(HM _).out.mono ?_;rintro e V2 ⟨rfl,d⟩;have c:=Ax (u.out.trans (d.mono u.out.size));clear d
    try go_wp2_with fail
    clear hHeld;refine hK.out _ _ ?_ (fun hHeld=>?_)
    ·exact HSV.out _ c.out
    clear hK K
    try simp only[Act.put,Ac,Ad,Ae]
    refine QH 7 ⟨some 46,_,_,_,_,_⟩ (h:=?_)
    try simp only[Act.put,Ac,Ad,Ae]
    refine QH 8 ⟨some 47,_,_,_,_,_⟩ (h:=?_)
    try simp only[Act.put,Ac,Ad,Ae]
    refine wpAnyH_ready (rs:=[9]) rG rI ?_;refine AllReadyH.cons (o:=⟨some 48,_,_,_,_,_⟩) (rs:=[]) rfl (fun K hK=>?_) AllReadyH.nil
    go_simp
    go_at_call 105
    refine(HN _ c.out).out.mono ?_;rintro e V4 ⟨rfl,p⟩;have f:=Ax (c.out.trans (p.mono c.out.size));clear p
    try go_wp2_with fail
    clear hHeld;refine hK.out _ _ ?_ (fun hHeld=>?_)
    ·exact HSV.out _ f.out
    clear hK K
    try simp only[Act.put,Ac,Ad,Ae]
    refine QH 10 ⟨some 49,_,_,_,_,_⟩ (h:=?_)
    try simp only[Act.put,Ac,Ad,Ae]
    refine QH 11 ⟨some 50,_,_,_,_,_⟩ (h:=?_)
    try simp only[Act.put,Ac,Ad,Ae]
    refine QS 12 ⟨some 51,_,_,_,_,_⟩ (h:=?_)
    try simp only[Act.put,Ac,Ad,Ae]
    refine QS 13 ⟨some 52,_,_,_,_,_⟩ (h:=?_)
    try simp only[Act.put,Ac,Ad,Ae]
    refine QH 14 ⟨some 53,_,_,_,_,_⟩ (h:=?_)
    try simp only[Act.put,Ac,Ad,Ae]
    refine QH 15 ⟨some 54,_,_,_,_,_⟩ (h:=?_)
    try simp only[Act.put,Ac,Ad,Ae]
    refine wpAnyH_ready (rs:=[16]) rG rI ?_;refine AllReadyH.cons (o:=⟨some 55,_,_,_,_,_⟩) (rs:=[]) rfl (fun K hK=>?_) AllReadyH.nil
    go_simp
    go_at_call 102
    refine(HS _ _).out.mono ?_;rintro e V3 ⟨rfl,hb3⟩;have HB3:=Ax (f.out.trans (hb3.mono f.out.size));exact zx6
   |false=>
    rw[G] at HZ;obtain⟨r,hr⟩:∃r:Int,(if o then(4:Int) else 255)=r:=⟨_,rfl⟩;have Z:=fun V=>Ax (Ki o 4 V)
    rw[hr] at Z;have Hr:=Ax hr;clear hr;go_upto_region 12 with fail
    refine wp_region_noPanic ?_;refine wp_region_held_drew (S:=fun V=>Below w.heap.size w V/\V.cell? ⟨b,off,none⟩=some (.int .u8 x)/\V.cell? ⟨b,off+1,none⟩=some (.int .u8 y)) rG ?_ (fun hHeld=>?_)
    ·exact HSV.out _ u.out
    refine QH 0 ⟨some 39,_,_,_,_,_⟩ (h:=?_)
    try simp only[Act.put,Ac,Ad,Ae]
    refine QH 1 ⟨some 40,_,_,_,_,_⟩ (h:=?_)
    try simp only[Act.put,Ac,Ad,Ae]
    refine QH 2 ⟨some 41,_,_,_,_,_⟩ (h:=?_)
    try simp only[Act.put,Ac,Ad,Ae]
    refine QH 3 ⟨some 42,_,_,_,_,_⟩ (h:=?_)
    try simp only[Act.put,Ac,Ad,Ae]
    refine QH 4 ⟨some 43,_,_,_,_,_⟩ (h:=?_)
    try simp only[Act.put,Ac,Ad,Ae]
    refine QH 5 ⟨some 44,_,_,_,_,_⟩ (h:=?_)
    try simp only[Act.put,Ac,Ad,Ae]
    refine wpAnyH_ready (rs:=[6]) rG rI ?_;refine AllReadyH.cons (o:=⟨some 45,_,_,_,_,_⟩) (rs:=[]) rfl (fun K hK=>?_) AllReadyH.nil
    go_simp
    go_at_call 104
    refine(HM _).out.mono ?_;rintro e V2 ⟨rfl,d⟩;have c:=Ax (u.out.trans (d.mono u.out.size));clear d
    try go_wp2_with fail
    clear hHeld;refine hK.out _ _ ?_ (fun hHeld=>?_)
    ·exact HSV.out _ c.out
    clear hK K
    try simp only[Act.put,Ac,Ad,Ae]
    refine QH 7 ⟨some 46,_,_,_,_,_⟩ (h:=?_)
    try simp only[Act.put,Ac,Ad,Ae]
    refine QH 8 ⟨some 47,_,_,_,_,_⟩ (h:=?_)
    try simp only[Act.put,Ac,Ad,Ae]
    refine wpAnyH_ready (rs:=[9]) rG rI ?_;refine AllReadyH.cons (o:=⟨some 48,_,_,_,_,_⟩) (rs:=[]) rfl (fun K hK=>?_) AllReadyH.nil
    go_simp
    go_at_call 105
    refine(HN _ c.out).out.mono ?_;rintro e V4 ⟨rfl,p⟩;have f:=Ax (c.out.trans (p.mono c.out.size));clear p
    try go_wp2_with fail
    clear hHeld;refine hK.out _ _ ?_ (fun hHeld=>?_)
    ·exact HSV.out _ f.out
    clear hK K
    try simp only[Act.put,Ac,Ad,Ae]
    refine QH 10 ⟨some 49,_,_,_,_,_⟩ (h:=?_)
    try simp only[Act.put,Ac,Ad,Ae]
    refine QH 11 ⟨some 50,_,_,_,_,_⟩ (h:=?_)
    try simp only[Act.put,Ac,Ad,Ae]
    refine QH 12 ⟨some 51,_,_,_,_,_⟩ (h:=?_)
    try simp only[Act.put,Ac,Ad,Ae]
    refine wpAnyH_ready (rs:=[13]) rG rI ?_;refine AllReadyH.cons (o:=⟨some 52,_,_,_,_,_⟩) (rs:=[]) rfl (fun K hK=>?_) AllReadyH.nil
    go_simp
    go_at_call 103
    refine(HE _ f.out).out.mono ?_;rintro e V5 ⟨rfl,a8⟩;have D:=Ax (f.out.trans (a8.mono f.out.size));clear a8
    try go_wp2_with fail
    clear hHeld;refine hK.out _ _ ?_ (fun hHeld=>?_)
    ·exact HSV.out _ D.out
    clear hK K
    try simp only[Act.put,Ac,Ad,Ae]
    refine QH 14 ⟨some 53,_,_,_,_,_⟩ (h:=?_)
    try simp only[Act.put,Ac,Ad,Ae]
    refine QH 15 ⟨some 54,_,_,_,_,_⟩ (h:=?_)
    try simp only[Act.put,Ac,Ad,Ae]
    refine wpAnyH_ready (rs:=[16]) rG rI ?_;refine AllReadyH.cons (o:=⟨some 55,_,_,_,_,_⟩) (rs:=[]) rfl (fun K hK=>?_) AllReadyH.nil
    go_simp
    go_at_call 102
    refine(Z _).out.mono ?_;rintro e V3 ⟨rfl,hb3⟩;have HB3:=Ax (D.out.trans (hb3.mono D.out.size));clear hb3
    try go_wp2_with fail
    clear hHeld;refine hK.out _ _ ?_ (fun hHeld=>?_)
    ·exact HSV.out _ HB3.out
    clear hK K
    try simp only[Act.put,Ac,Ad,Ae]
    refine QH 17 ⟨some 4,_,_,_,_,_⟩ (h:=?_)
    try simp only[Act.put,Ac,Ad,Ae]
    refine wpAnyH_done rG ?_ _;refine NoPanic.normal ?_;go_wp2_with fail;go_ret;exact⟨by rw[←HZ.out,←Hr.out];cases o<;>rfl,HB3.out⟩
open Go Go.RowKit Go.Lib
theorem iJ (op:Int)(p:Fd op=none)(q:op≠7)(r:op≠8)(u:¬(9<=op/\op<=12))(f:op≠26){v:Value}{ks:List Int}(w:World)(h:Ii w v ks):Calls Tryz.prog 68 #[.int .u8 op,v] w fun e w'=>e= .returned (.int .u8 (Ed 0 ks))/\Below w.heap.size w w':=by
 have k:=Ax (Ja op w);rw[p] at k;have x:=fun V (hV:Below w.heap.size w V)=>Ax (K9 V (h.below hV))
 obtain⟨_,a,E,rfl,_⟩:=h;have F:(op==7)=false:=Af.2 q;have G:(op==8)=false:=Af.2 r;have I:(op==9)=false:=Af.2 rF;have y:(op==10)=false:=Af.2 rF;have A:(op==11)=false:=Af.2 rF;have C:(op==12)=false:=Af.2 rF;have D:(op==26)=false:=Af.2 f;clear p q r u f;simp only[Option.getD_none,Option.isSome_none,ofV] at k;go_enter Tryz.func68,Tryz.ntmps68;go_wp2_with fail;refine k.out.mono ?_;rintro e V ⟨rfl,m⟩;obtain⟨n,c⟩:∃n,V.alloc (.cells #[.int .u8 0,.int .u8 0] 149)=n:=⟨_,rfl⟩;have g:Below V.heap.size V n:=by rw[←c];exact(Aq _ V).alloc (Ak _) _
 have i:=Ax c;have d:=Ax (m.trans (g.mono m.size));clear c g m k;go_upto_region 5 with fail
 rw[i.out];clear i;go_wp2_with fail;refine(x _ d.out).out.mono ?_;rintro e L ⟨rfl,j⟩;have o:=Ax (d.out.trans (j.mono d.out.size));clear j;go_wp2_with fail;go_ret;exact⟨rfl,o.out⟩
open Go Go.RowKit Go.Lib
theorem oX {v:Value}{ks:List Int}(h3:3<=ks.length)(w:World)(h:Ii w v ks):Calls Tryz.prog 68 #[.int .u8 26,v] w fun e w'=>e= .returned (.int .u8 (if Fo 4 [ks.getD 0 0] && (ks.getD 1 0==ks.getD 2 0||ks.getD 1 0==0||ks.getD 2 0==0) then max (ks.getD 1 0) (ks.getD 2 0) else 255))/\Below w.heap.size w w':=by
 have G:=Ax (Ja 26 w);obtain⟨X,a,cc,rfl,c⟩:=h;obtain⟨b,off,rfl,p⟩:=c 0 rF;obtain⟨_,_,j,u⟩:=c 1 rF;injection j with j;injection j with e2 e3;subst e2 e3;obtain⟨_,_,j,A⟩:=c 2 rF;injection j with j;injection j with e2 e3;subst e2 e3;simp only[List.getD_eq_getElem?_getD,Ag (show 0<ks.length by omega),Ag (show 1<ks.length by omega),Ag (show 2<ks.length by omega),Option.getD_some];obtain⟨x,L⟩:∃x,ks[0]=x:=⟨_,rfl⟩;obtain⟨y,M⟩:∃y,ks[1]=y:=⟨_,rfl⟩;obtain⟨z,N⟩:∃z,ks[2]=z:=⟨_,rfl⟩;rw[L] at p;rw[M] at u;rw[N] at A;simp only[L,M,N];rw[Nat.add_zero] at p;have Y:=Ax p;have Z:=Ax u;have C2:=Ax A;have i0:(0:Int)<(ks.length:Int):=by omega
 have i1:(1:Int)<(ks.length:Int):=by omega
 have i2:(2:Int)<(ks.length:Int):=by omega
 have W:∀V:World,Hid (Calls Tryz.prog 103 #[.int .u8 4,.slice (some ⟨V.heap.size,0,none⟩) 1 1] (V.alloc (.cells #[.int .u8 x] 5)) fun e w'=>e= .returned (.bool (Fo 4 [x]))/\Below (V.alloc (.cells #[.int .u8 x] 5)).heap.size (V.alloc (.cells #[.int .u8 x] 5)) w'):=fun V=>by
  have hp:=Az V (.cells #[.int .u8 x] 5);refine Ax (Pv 4 _ ⟨by simp,_,_,rfl,fun i hi=>⟨V.heap.size,0,rfl,?_⟩⟩);obtain rfl:i=0:=by simpa using hi
  simp only[World.cell?,hp];rfl
 obtain⟨q,O⟩:∃q,Fo 4 [x]=q:=⟨_,rfl⟩;obtain⟨f,hf⟩:∃f,(y==z)=f:=⟨_,rfl⟩;obtain⟨g,hg⟩:∃g,(y==0)=g:=⟨_,rfl⟩;obtain⟨t,ht⟩:∃t,(z==0)=t:=⟨_,rfl⟩;obtain⟨m,hm⟩:∃m,max y z=m:=⟨_,rfl⟩;rw[O,hf,hg,ht,hm];rw[O] at W;have HS:=fun(b:Bool) V=>Ax (Ki b m V)
 clear c L M N O p u A;obtain⟨r,R⟩:∃r:Int,(if q && (f||g||t) then m else 255)=r:=⟨_,rfl⟩;have HR:=Ax R;rw[R];clear R;have G:Hid (Calls Tryz.prog 101 #[.int .u8 26] w fun e w'=>e= .returned (.tuple #[.agg #[.int .u8 0,.int .u8 0],.bool false])/\Below w.heap.size w w'):=G;go_enter Tryz.func68,Tryz.ntmps68;go_wp2_with fail;refine G.out.mono ?_;rintro e V ⟨rfl,T⟩;obtain⟨I,k⟩:∃I,V.alloc (.cells #[.int .u8 0,.int .u8 0] 149)=I:=⟨_,rfl⟩;have C:Below V.heap.size V I:=by rw[←k];exact(Aq _ V).alloc (Ak _) _
 have d:=T.trans (C.mono T.size);have u:=A4 d Z.out;have A:=A4 d C2.out;have D:=Ax k;have U:=Ax d;clear k C T d G;go_upto_region 14 with fail
 rw[D.out];clear D;go_quiet (fail);obtain⟨E,n⟩:∃E,I.drewN nq=E:=⟨_,rfl⟩;have o:Hid (Below w.heap.size w E):=Ax (by rw[←n];exact A8 U.out nq);rw[n];clear n u A;have p:=A4 o.out Y.out;have F:Below w.heap.size w (E.alloc (.cells #[.int .u8 x] 5)):=o.out.alloc o.out.size _;have HA:=Ax F;have HEA:=W E;clear F;cases q with
 |false=>
  exact zx4
 |true=>
  cases f
  all_goals
   cases g
   all_goals
    cases t
    all_goals
     exact zx4
open Go Go.RowKit Go.Lib
theorem dX (op:Int){v:Value}{ks:List Int}(d:7<=op->op<=12->2<=ks.length)(g:op=26->3<=ks.length)(f:∀x∈ks,0<=x)(w:World)(h:Ii w v ks):Calls Tryz.prog 68 #[.int .u8 op,v] w fun e w'=>e= .returned (.int .u8 (Ey op ks))/\Below w.heap.size w w':=by
 unfold Ey;cases hc:Fd op with
 |some c=>exact aE op c.1 c.2 hc w h
 |none=>
  simp only;by_cases h78:op=7\/op=8
  ·rw[Ap h78];exact fO op h78 (d rF rF) f w h
  rw[Ao h78];by_cases h9:9<=op/\op<=12
  ·rw[Ap h9];exact jI op h9.1 h9.2 (d rF rF) f w h
  rw[Ao h9];by_cases h26:op=26
  ·subst h26;rw[Ap rfl];exact oX (g rfl) w h
  rw[Ao h26];exact iJ op hc (fun e=>h78 (.inl e)) (fun e=>h78 (.inr e)) h9 h26 w h
end Go.Proofs.YtgfakdobajgnfaaGreatDoor
