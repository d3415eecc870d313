import Derived.Test.YtmpfilddeglgbaaGreatDoorQj32
import Derived.Test.YtmpfilddeglgbaaGreatDoorQj33
set_option maxRecDepth 100000
set_option maxHeartbeats 16000000
namespace Go.Proofs.YtmpfilddeglgbaaGreatDoor
open Go Go.RowKit Go.Lib
def Uh (p:Int×Int):Except Int Int:=if p.2=0 then .ok p.1 else .error p.2
mutual
def kT (vars:List (List UInt8×Int))(sf:Int):Ex->Except Int Int
 | .mk h ks=>match kTs vars sf ks with
   | .error e=> .error e
   | .ok zs=>Uh (if zs=[] then Mk h vars sf else if Fa h.op zs=255 then(0,8) else(Fa h.op zs,0))
def kTs (vars:List (List UInt8×Int))(sf:Int):List Ex->Except Int (List Int)
 |[]=> .ok []
 |e::es=>match kT vars sf e with
  | .error er=> .error er
  | .ok z=>match kTs vars sf es with
    | .error er=> .error er
    | .ok zs=> .ok (z::zs)
end
theorem dX {vars:List (List UInt8×Int)}{sf:Int}:∀{es:List Ex} {zs:List Int},kTs vars sf es= .ok zs->zs.length=es.length
 |[],zs,h=>by
  rw[kTs] at h;injection h with h;subst h;rfl
 |e::es,zs,h=>by
  rw[kTs] at h;cases h1:kT vars sf e with
  |error er=>rw[h1] at h;cases h
  |ok z=>
   rw[h1] at h;simp only at h;cases h2:kTs vars sf es with
   |error er=>rw[h2] at h;cases h
   |ok ys=>
    rw[h2] at h;injection h with h;subst h;rw[Aa,Aa,dX h2]
mutual
theorem Ww (vars:List (List UInt8×Int))(sf:Int):∀e:Ex,kT vars sf e.bare=kT vars sf e
 | .mk h ks=>by
   rw[Ex.bare,kT,kT,Zu vars sf ks];rfl
theorem Zu (vars:List (List UInt8×Int))(sf:Int):∀es:List Ex,kTs vars sf (Mb es)=kTs vars sf es
 |[]=>rfl
 |e::es=>by
  rw[Mb,kTs,kTs,Ww vars sf e,Zu vars sf es]
end
theorem Kc {vars:List (List UInt8×Int)}{sf:Int}{a b:Ex}(h:a.bare=b.bare):kT vars sf a=kT vars sf b:=by
 rw[←Ww vars sf a,←Ww vars sf b,h]
def Xn (vars:List (List UInt8×Int))(sf:Int)(e:Ex)(n:Nat)(ks:List Int):Prop:=match kT vars sf e with
 | .ok z=>∃all,all.length+1=e.size/\ofE vars sf ((e.flat n).map Nd.z) ks= .ok (ks++all++[z])
 | .error er=>∃p,ofE vars sf ((e.flat n).map Nd.z) ks= .error (p,er)
def P8 (vars:List (List UInt8×Int))(sf:Int)(es:List Ex)(n:Nat)(ks:List Int):Prop:=match kTs vars sf es with
 | .ok zs=>∃all,all.length=Bf es/\ofE vars sf ((Bz es n).map Nd.z) ks= .ok (ks++all)/\(Ct es n).map (fun j=>(ks++all).getD j 0)=zs
 | .error er=>∃p,ofE vars sf ((Bz es n).map Nd.z) ks= .error (p,er)
theorem Mm {vars:List (List UInt8×Int)}{sf:Int}:∀{l:List Nz} {ks:List Int} {p:(Int×Int)×Int} (_:ofE vars sf l ks= .error p) (m:List Nz),ofE vars sf (l++m) ks= .error p
 |[],ks,p,h,m=>by cases h
 |x::l,ks,p,h,m=>by
  unfold ofE at h;rw[List.cons_append,ofE]
  split at h
  ·rename_i hz
   rw[Ap hz];exact Mm h m
  rename_i hz
  rw[Ao hz];exact h
mutual
theorem dS (vars:List (List UInt8×Int))(sf:Int):∀(e:Ex) (n:Nat) (ks:List Int),ks.length=n->Xn vars sf e n ks
 | .mk h cs,n,ks,hn=>by
   have ih:=Yc vars sf cs n ks hn;unfold P8 at ih;unfold Xn;rw[kT];cases hk:kTs vars sf cs with
   |error er=>
    rw[hk] at ih;obtain⟨p,hp⟩:=ih;refine⟨p,?_⟩;rw[Ex.flat,List.map_append];exact Mm hp _
   |ok zs=>
    rw[hk] at ih;obtain⟨all,h1,h2,h3⟩:=ih;have hl:=dX hk
    have hz:Ks vars sf (ks++all) (Nd.z ⟨h,Ct cs n⟩)=if zs=[] then Mk h vars sf else if Fa h.op zs=255 then(0,8) else(Fa h.op zs,0):=by
     unfold Ks;have e1:(Nd.z ⟨h,Ct cs n⟩).kids=(Ct cs n).map fun(k:Nat)=>(k:Int):=rfl
     have e2:((Nd.z ⟨h,Ct cs n⟩).kids.map fun j=>(ks++all).getD j.toNat 0)=zs:=by
      rw[e1,List.map_map,←h3];refine List.map_congr_left fun j _=>?_
      simp
     rw[e2];by_cases hz0:zs=[]
     ·have:cs=[]:=List.eq_nil_of_length_eq_zero (by rw[←hl,hz0];rfl)
      subst this;rw[Ap hz0];exact Ap rfl
     have:(Nd.z ⟨h,Ct cs n⟩).kids≠[]:=fun e=>hz0 (List.eq_nil_of_length_eq_zero (by
      rw[e1] at e
      have:=Ar List.length e
      rw[List.length_map,Il] at this;rw[hl]
      exact this))
     rw[Ao hz0];exact Ao this
    have hw:ofE vars sf (((Ex.mk h cs).flat n).map Nd.z) ks=ofE vars sf [Nd.z ⟨h,Ct cs n⟩] (ks++all):=by
     rw[Ex.flat,List.map_append,Mo h2];rfl
    rw[ofE,hz] at hw;simp only;obtain⟨q,hq⟩:∃q:Int×Int,(if zs=[] then Mk h vars sf else if Fa h.op zs=255 then(0,8) else(Fa h.op zs,0))=q:=⟨_,rfl⟩;rw[hq] at hw ⊢;unfold Uh;by_cases h0:q.2=0
    ·rw[Ap h0] at hw ⊢;refine⟨all,by rw[h1,Ex.size],?_⟩;rw[hw];rfl
    rw[Ao h0] at hw ⊢;exact⟨_,hw⟩
theorem Yc (vars:List (List UInt8×Int))(sf:Int):∀(es:List Ex) (n:Nat) (ks:List Int),ks.length=n->P8 vars sf es n ks
 |[],n,ks,hn=>by
  unfold P8;rw[kTs];exact⟨[],rfl,by rw[List.append_nil];rfl,rfl⟩
 |e::es,n,ks,hn=>by
  have ih:=dS vars sf e n ks hn;unfold Xn at ih;unfold P8;rw[kTs];cases hk:kT vars sf e with
  |error er=>
   rw[hk] at ih;obtain⟨p,hp⟩:=ih;refine⟨p,?_⟩;rw[Bz,List.map_append];exact Mm hp _
  |ok z=>
   rw[hk] at ih;obtain⟨all,h1,h2⟩:=ih
   have hsz:(ks++all++[z]).length=n+e.size:=by
    rw[Ab,Ab,List.length_singleton,hn];omega
   have ih2:=Yc vars sf es (n+e.size) (ks++all++[z]) hsz;unfold P8 at ih2
   have hw:ofE vars sf ((Bz (e::es) n).map Nd.z) ks=ofE vars sf ((Bz es (n+e.size)).map Nd.z) (ks++all++[z]):=by
    rw[Bz,List.map_append,Mo h2]
   simp only;cases hk2:kTs vars sf es with
   |error er=>
    rw[hk2] at ih2;obtain⟨p,hp⟩:=ih2;exact⟨p,hw.trans hp⟩
   |ok zs=>
    rw[hk2] at ih2;obtain⟨al2,g1,g2,g3⟩:=ih2;refine⟨all++[z]++al2,?_,?_,?_⟩
    ·rw[Ab,Ab,List.length_singleton,Bf,g1];omega
    ·rw[hw,g2];simp
    rw[Ct,List.map_cons];have e1:ks++(all++[z]++al2)=ks++all++[z]++al2:=by simp
    rw[e1,g3];congr 1;rw[List.getD_eq_getElem?_getD,List.getElem?_append_left tE,List.getElem?_append_right (by rw[Ab];omega)];rw[show n+e.size - 1 - (ks++all).length=0 by rw[Ab];omega];rfl
end
theorem oE {vars:List (List UInt8×Int)}{sf:Int}{l:List UInt8}{a:Ex}(h:Bj l= .ok a):match kT vars sf a with
 | .ok z=>ofP vars sf (zOf (Bj l))=(z,(0,0),0)
 | .error er=>er≠0/\∃p,ofP vars sf (zOf (Bj l))=(0,p,er):=by
 have ht:=dS vars sf a 0 [] rfl;unfold Xn at ht;have hr:=bK h;have hz:zOf (Bj l)=(a.flat 0).map Nd.z:=by rw[h];rfl
 rw[hz];unfold ofP;rw[hr];simp only;cases hk:kT vars sf a with
 |ok z=>
  rw[hk] at ht;obtain⟨all,_,h2⟩:=ht;simp only[h2];simp
 |error er=>
  rw[hk] at ht;obtain⟨p,hp⟩:=ht;simp only[hp];exact⟨eJ hp,p,rfl⟩
open Go Go.RowKit Go.Lib
def Ye (k:Int):Bool:=k==1||k==2||k==0
theorem So {k:Int}(h:0<=k):Ye k=decide (k<=2):=by
 unfold Ye;rw[Bool.eq_iff_iff];simp;omega
structure fN where
 t:List UInt8
 ok:Bool
 kind:Int
def P2 (x y:Int):Bool:=x==y||x==0||y==0
def n2B (x y:Int):Bool:=Ye x && Ye y
def P7 (l m:List UInt8)(x y:Int):List fN:=
 [⟨I2 l [43] m,n2B x y,if n2B x y then max x y else 0⟩,⟨ifT l m,P2 x y,max x y⟩,⟨I2 l [61] m,P2 x y||n2B x y,4⟩,⟨Uk l m,n2B x y,if n2B x y then max x y else 0⟩]
theorem Nr (k:Int)(b:Bool)(hk:k≠255):Uh (if(if b then k else 255)=255 then(0,8) else((if b then k else 255),0))=if b then .ok k else .error 8:=by
 cases b with
 |true=>simp [Uh,hk]
 |false=>rfl
theorem bI {vars:List (List UInt8×Int)}{sf x y:Int}{a b:Ex}{h:Hd}(ha:kT vars sf a= .ok x)(hb:kT vars sf b= .ok y):kT vars sf (.mk h [a,b])=Uh (if Fa h.op [x,y]=255 then(0,8) else(Fa h.op [x,y],0)):=by
 rw[kT,kTs,ha];simp only;rw[kTs,hb];simp only;rw[kTs];rfl
theorem eO {x y:Int}(hx:0<=x)(hy:0<=y):Fx 0 [x,y]=if n2B x y then max x y else 255:=by
 unfold n2B;rw[So hx,So hy];unfold Fx;by_cases h1:2<x
 ·rw[Ap h1,An tE,Bool.false_and];rfl
 rw[Ao h1,Am tE,Bool.true_and];unfold Fx;by_cases h2:2<y
 ·rw[Ap h2,An tE];rfl
 rw[Ao h2,Am tE];unfold Fx;rw[show max 0 x=x by omega];rfl
theorem nW {x y:Int}(hx:0<=x)(hy:0<=y):Ml x y=(P2 x y||n2B x y):=by
 unfold Ml P2 n2B;rw[So hx,So hy];cases x==y<;>cases x==0<;>cases y==0<;>rfl
theorem kV {vars:List (List UInt8×Int)}{sf x y:Int}{l m:List UInt8}{a b:Ex}(hl:Bj l= .ok a)(hm:Bj m= .ok b)(ha:kT vars sf a= .ok x)(hb:kT vars sf b= .ok y)(hx:0<=x/\x<=5)(hy:0<=y/\y<=5){c:fN}(hc:c∈P7 l m x y){u:Ex}(hu:Bj c.t= .ok u):
 kT vars sf u=if c.ok then .ok c.kind else .error 8:=by
 have hmax:max x y≠255:=by omega
 unfold P7 at hc;simp only[List.mem_cons,List.not_mem_nil,or_false] at hc;rcases hc with rfl|rfl|rfl|rfl
 ·rcases S9 (x:=([43],13,4)) tG hl hm with ⟨p,q,e,_⟩|⟨a',b',p,q,e,ea,eb,_⟩
  ·exact absurd (e.symm.trans hu) (fun e=>by cases e)
  have:=e.symm.trans hu
  injection this with this;subst this;exact zxz
 ·obtain⟨a',b',p,q,k,n,e,ea,eb⟩:=qG hl hm hu;subst e
  have hlit:kT vars sf (.mk ⟨1,(4,1,[]),[],k,n⟩ [])= .ok 4:=by
   rw[kT,kTs];rfl
  have hk:kT vars sf (.mk ⟨26,v0,[],p,q⟩ [.mk ⟨1,(4,1,[]),[],k,n⟩ [],a',b'])=Uh (if Fa 26 [4,x,y]=255 then(0,8) else(Fa 26 [4,x,y],0)):=by
   rw[kT,kTs,hlit];simp only;rw[kTs,(Kc ea).trans ha];simp only;rw[kTs,(Kc eb).trans hb];simp only;rw[kTs];rfl
  rw[hk];show Uh (if(if P2 x y=true then max x y else 255)=255 then(0,8) else((if P2 x y=true then max x y else 255),0))=if P2 x y then .ok (max x y) else .error 8
  exact Nr _ _ hmax
 ·rcases S9 (x:=([61],7,3)) tG hl hm with ⟨p,q,e,_⟩|⟨a',b',p,q,e,ea,eb,_⟩
  ·exact absurd (e.symm.trans hu) (fun e=>by cases e)
  have:=e.symm.trans hu
  injection this with this;subst this;rw[bI ((Kc ea).trans ha) ((Kc eb).trans hb)];have hnn:Fa 7 [x,y]=if Ml x y then 4 else 255:=rfl
  show Uh (if Fa 7 [x,y]=255 then(0,8) else(Fa 7 [x,y],0))=if(P2 x y||n2B x y) then .ok 4 else .error 8
  rw[hnn,nW hx.1 hy.1];exact Nr _ _ tG
 obtain⟨a',b',p,q,e,ea,eb⟩:=kH hl hm hu;subst e;exact zxz
theorem jI {vars:List (List UInt8×Int)}{sf:Int}(hv:∀y∈vars,0<=y.2)(hs:0<=sf):∀{l:List Nz} {ks r:List Int},ofE vars sf l ks= .ok r->(∀x∈l,x.h.op=1->0<=x.h.v.1)->(∀y∈ks,0<=y)->∀y∈r,0<=y
 |[],ks,r,h,_,h5=>by
  injection h with h;subst h;exact h5
 |x::l,ks,r,h,hl,h5=>by
  unfold ofE at h
  split at h
  ·refine jI hv hs h (fun y hy=>hl y (.tail _ hy)) fun y hy=>?_
   rcases List.mem_append.1 hy with hy|hy
   ·exact h5 y hy
   simp only[List.mem_singleton] at hy;subst hy;exact Pj hv hs h5 (hl x (.head _))
  cases h
theorem rM {vars:List (List UInt8×Int)}{sf:Int}(hv:∀y∈vars,0<=y.2)(hs:0<=sf){l:List Nz}:0<=(ofP vars sf l).1:=by
 unfold ofP;cases ht:G4 l with
 |none=>show(0:Int)<=0;decide
 |some t=>
  have hg:=Mn ht;simp only;cases he:ofE vars sf l [] with
  |error p=>show(0:Int)<=0;decide
  |ok ks=>
   have hks:=jI hv hs he (fun x hx h1=>by
    obtain⟨i,hi,rfl⟩:=List.getElem_of_mem hx
    exact(hg.lit i hi h1).1) (fun y hy=>by cases hy)
   show 0<=ks.getLastD 0;rw[List.getLastD_eq_getLast?];cases e:ks.getLast? with
   |none=>show(0:Int)<=0;decide
   |some z=>exact hks z (List.mem_of_getLast? e)
theorem Vu {vars:List (List UInt8×Int)}{sf:Int}{l:List UInt8}{a:Ex}{x:Int}{q:Int×Int}(h:Bj l= .ok a)(hp:ofP vars sf (zOf (Bj l))=(x,q,0)):kT vars sf a= .ok x:=by
 have:=oE (vars:=vars) (sf:=sf) h
 cases hk:kT vars sf a with
 |ok z=>
  rw[hk] at this
  have:=this.symm.trans hp
  injection this with e _;rw[e]
 |error er=>
  rw[hk] at this;obtain⟨hne,p,e⟩:=this
  have:=e.symm.trans hp
  injection this with _ e2;injection e2 with _ e3;exact absurd e3 hne
theorem kM {vars:List (List UInt8×Int)}{sf:Int}{l:List UInt8}{u:Ex}{b:Bool}{k:Int}(h:Bj l= .ok u)(hk:kT vars sf u=if b then .ok k else .error 8):∃p:Int×Int,ofP vars sf (zOf (Bj l))=if b then(k,(0,0),0) else(0,p,8):=by
 have:=oE (vars:=vars) (sf:=sf) h
 cases b with
 |true=>
  rw[Ap rfl] at hk;rw[hk] at this;exact⟨(0,0),this⟩
 |false=>
  rw[Ao tG] at hk;rw[hk] at this;obtain⟨_,p,e⟩:=this;exact⟨p,e⟩
open Go Go.RowKit Go.Lib Go.Sort Go.Shelf
theorem Pz {l:List UInt8}:(∀x∈zOf (Bj l),0<=x.h.op)/\∀x∈zOf (Bj l),O7 x.h:=by
 cases h:Bj l with
 |error p=>exact⟨fun x hx=>by simp [zOf] at hx,fun x hx=>by simp [zOf] at hx⟩
 |ok a=>exact⟨fun x hx=>(Wq h x hx).1,fun x hx=>(Wq h x hx).2⟩
def k9p (s:ByteArray):Int×(Int×Int)×Int:=ofP [([97],1)] 0 (zOf (Bj (dl s)))
theorem Z7 (s:ByteArray)(w:World)(hs:s.size<=65536)(hR:Rd w)(b:Nat){va:Option Addr}{vc:Nat}(c0:w.cell? ⟨b,0,none⟩=some (.slice va 1 vc))(c1:w.cell? ⟨b,1,none⟩=some (.int .u8 0))(hv:Zq w (.slice va 1 vc) [([97],1)]):
 Calls Tryz.prog 42 #[.string s,.pointer (some ⟨b,0,none⟩)] w fun e w'=>e= .returned (bQ (k9p s))/\Below w.heap.size w w':=by
 obtain⟨W1,hW1⟩:∃W1,w.alloc (.cells #[.int .i64 0,.int .i64 0] 26)=W1:=⟨_,rfl⟩;have hb1:Below w.heap.size w W1:=by rw[←hW1];exact(Aq _ w).alloc (Ak _) _
 have hp1:=A1 w (.cells #[.int .i64 0,.int .i64 0] 26);rw[hW1] at hp1;have HRd:=Ax (Se (x:=Bj (dl s)) W1 hs rfl);have HW1:=Ax hW1;have HB1:=Ax hb1;have HP1:=Ax hp1;have HR:=Ax hR;have HV:=Ax hv;have C0:=Ax c0;have C1:=Ax c1;have hlt:=Ay hp1;clear hW1 hb1 hp1 hR hv c0 c1 hs;go_enter Tryz.func42,Tryz.ntmps42;go_upto_region 1 with fail
 rw[HW1.out];go_wp2_with fail;refine HRd.out.mono ?_;rintro e V ⟨a,k,c,rfl,ht,hb⟩;obtain⟨W2,hW2⟩:∃W2,V.alloc (.cells #[.int .i64 (pOf (Bj (dl s))).1.1,.int .i64 (pOf (Bj (dl s))).1.2] 26)=W2:=⟨_,rfl⟩;have hb2:Below V.heap.size V W2:=by rw[←hW2];exact(Aq _ V).alloc (Ak _) _
 have hbV:=HB1.out.trans (hb.mono HB1.out.size);have hbW:=hbV.trans (hb2.mono hbV.size);have hof:=Zb (ht.below hb2) Pz.1 Pz.2 (HR.out.below hbW) 0 (vars:=[([97],1)]) (HV.out.below hbW) tH (Int.le_refl 0);change Calls _ _ _ _ (fun e w'=>e= .returned (bQ (k9p s))/\Below W2.heap.size W2 w') at hof;obtain⟨p,hp⟩:∃p,k9p s=p:=⟨_,rfl⟩;rw[hp] at hof;have Hp:=Ax hp;obtain⟨pk,⟨px,py⟩,pe⟩:=p;unfold bQ at hof;simp only[Aa,List.length_nil,Nat.zero_add] at hof;have HO:=Ax hof;have HW2:=Ax hW2;have HBW:=Ax hbW;have c0:=Ba hbW C0.out;have c1:=Ba hbW C1.out;have HPl:=Ax ((hb2.block _ (by have:=hb.size;omega)).trans ((hb.block _ hlt).trans HP1.out));have hl2:=Ay HPl.out;clear ht hb hW2 hb2 hbV hbW hof hp HRd;go_upto_region 2 with fail
 rw[HW2.out];go_wp2_with fail;refine HO.out.mono ?_;rintro e V3 ⟨rfl,hb3⟩;obtain⟨y0,y1,yf⟩:=Bo ((hb3.block _ hl2).trans HPl.out);have yf0:=yf 0;have yf1:=yf 1;have HB3:=Ax (HBW.out.trans (hb3.mono HBW.out.size));clear hb3 yf HO c0 c1;go_wp2_with fail;refine Au (v:= .tuple #[.int .u8 pk,.agg #[.int .i64 px,.int .i64 py],.int .i64 pe]) (by simp [results,Tryz.results42,go_sem, *]) rfl ?_;refine⟨by rw[Hp.out];rfl,?_⟩;exact(HB3.out.setCell uC _).setCell uC _
theorem kZ:k9p ⟨#[63,97,32,43,32,49,46,53]⟩=(2,(0,0),0)/\k9p ⟨#[110,117,108,108,32,61,32,34,120,34]⟩=(4,(0,0),0)/\k9p ⟨#[49,32,60,32,34,120,34]⟩=(0,(1,3),8)/\k9p ⟨#[63,32,62,32,49]⟩=(0,(1,1),11):=
 ⟨by kernel_rfl,by kernel_rfl,by kernel_rfl,by kernel_rfl⟩
theorem pP (w:World)(hR:Rd w):Calls Tryz.prog 20 #[] w fun e w'=>e= .returned (.bool true)/\Below w.heap.size w w':=by
 have hmf:∀(fn:Fn) (first cap:Array Value) (w:World),(Instr.makeFunc fn first cap).run Tryz.prog w= .ok (.func fn first cap) w:=fun _ _ _ _=>rfl
 obtain⟨W1,hW1⟩:∃W1,(w.alloc (.cells #[.string ⟨#[97]⟩,.int .u8 1] 104)).alloc (.cells #[.slice (some ⟨w.heap.size,0,none⟩) 1 1,.int .u8 0] 45)=W1:=⟨_,rfl⟩;have hb0:Below w.heap.size w (w.alloc (.cells #[.string ⟨#[97]⟩,.int .u8 1] 104)):=(Aq _ w).alloc (Ak _) _;have hb1:Below w.heap.size w W1:=by rw[←hW1];exact hb0.alloc tH _
 have hp0:W1.heap[w.heap.size]? =some (.cells #[.string ⟨#[97]⟩,.int .u8 1] 104 (0,0)):=by
  rw[←hW1];exact(MapKept.heap_alloc (w.alloc (.cells #[.string ⟨#[97]⟩,.int .u8 1] 104)) _).2 w.heap.size tH|>.trans (A1 w _)
 have hp1:W1.heap[w.heap.size+1]? =some (.cells #[.slice (some ⟨w.heap.size,0,none⟩) 1 1,.int .u8 0] 45 (0,0)):=by
  rw[←hW1,show w.heap.size+1=(w.alloc (.cells #[.string ⟨#[97]⟩,.int .u8 1] 104)).heap.size by simp];exact A1 _ _
 have hK:∀(s:ByteArray) (V:World),Below W1.heap.size W1 V->s.size<=65536->Calls Tryz.prog 42 #[.string s,.pointer (some ⟨w.heap.size+1,0,none⟩)] V fun e w'=>e= .returned (bQ (k9p s))/\Below V.heap.size V w':=fun s V hV hs=>by
  obtain⟨c0,c1,_⟩:=Bo ((hV.block _ (Ay hp1)).trans hp1);obtain⟨d0,d1,_⟩:=Bo ((hV.block _ (Ay hp0)).trans hp0);refine Z7 s V hs (hR.below (hb1.trans (hV.mono hb1.size))) (w.heap.size+1) c0 c1 ⟨by simp,_,_,rfl,fun i hi=>?_⟩;obtain rfl:i=0:=by simpa using hi
  exact⟨_,_,rfl,d0,d1⟩
 obtain⟨t0,t1,t2,t3⟩:=kZ;have K0:=fun V hV=>hK ⟨#[63,97,32,43,32,49,46,53]⟩ V hV tG
 have K1:=fun V hV=>hK ⟨#[110,117,108,108,32,61,32,34,120,34]⟩ V hV tG
 have K2:=fun V hV=>hK ⟨#[49,32,60,32,34,120,34]⟩ V hV tG
 have K3:=fun V hV=>hK ⟨#[63,32,62,32,49]⟩ V hV tG
 rw[t0] at K0;rw[t1] at K1;rw[t2] at K2;rw[t3] at K3;unfold bQ at K0 K1 K2 K3;simp only at K0 K1 K2 K3;have HW1:=Ax hW1;have HB1:=Ax hb1;have HK0:=Ax K0;have HK1:=Ax K1;have HK2:=Ax K2;have HK3:=Ax K3;clear hW1 hb0 hb1 hp0 hp1 hK t0 t1 t2 t3 K0 K1 K2 K3 hR;go_enter Tryz.func20,Tryz.ntmps20;go_upto_region 2 with fail
 rw[HW1.out];have H0:=Ax (HK0.out W1 (Aq _ _));clear HW1;go_wp2_with fail;refine H0.out.mono ?_;rintro e V1 ⟨rfl,hb1⟩;obtain⟨X1,hX1⟩:∃X,V1.alloc (.cells #[.int .i64 0,.int .i64 0] 26)=X:=⟨_,rfl⟩;have hbX1:Below V1.heap.size V1 X1:=by rw[←hX1];exact(Aq _ _).alloc (Ak _) _
 have hB1:=hb1.trans (hbX1.mono hb1.size);have H1:=Ax (HK1.out X1 hB1);have HX1:=Ax hB1;clear hb1 hbX1 hB1 H0 HK0;subst hX1;go_wp2_with fail;refine H1.out.mono ?_;rintro e V2 ⟨rfl,hb2⟩;obtain⟨X2,hX2⟩:∃X,V2.alloc (.cells #[.int .i64 0,.int .i64 0] 26)=X:=⟨_,rfl⟩;have hbX2:Below V2.heap.size V2 X2:=by rw[←hX2];exact(Aq _ _).alloc (Ak _) _
 have hB2:=HX1.out.trans ((hb2.trans (hbX2.mono hb2.size)).mono HX1.out.size);have H2:=Ax (HK2.out X2 hB2);have HX2:=Ax hB2;clear hb2 hbX2 hB2 H1 HK1 HX1;subst hX2;go_wp2_with fail;refine H2.out.mono ?_;rintro e V3 ⟨rfl,hb3⟩;obtain⟨X3,hX3⟩:∃X,V3.alloc (.cells #[.int .i64 1,.int .i64 3] 26)=X:=⟨_,rfl⟩;have hbX3:Below V3.heap.size V3 X3:=by rw[←hX3];exact(Aq _ _).alloc (Ak _) _
 have hp3:=A1 V3 (.cells #[.int .i64 1,.int .i64 3] 26);rw[hX3] at hp3;have hB3:=HX2.out.trans ((hb3.trans (hbX3.mono hb3.size)).mono HX2.out.size);have H3:=Ax (HK3.out X3 hB3);have HX3:=Ax hB3;have HP3:=Ax hp3;clear hb3 hbX3 hp3 hB3 H2 HK2 HX2;go_wp2_with fail;refine H3.out.mono ?_;rintro e V4 ⟨rfl,hb4⟩;obtain⟨X4,hX4⟩:∃X,V4.alloc (.cells #[.int .i64 1,.int .i64 1] 26)=X:=⟨_,rfl⟩;have hbX4:Below V4.heap.size V4 X4:=by rw[←hX4];exact(Aq _ _).alloc (Ak _) _
 have hp4:=A1 V4 (.cells #[.int .i64 1,.int .i64 1] 26);rw[hX4] at hp4;have HX4:=Ax (HB1.out.trans ((HX3.out.trans ((hb4.trans (hbX4.mono hb4.size)).mono HX3.out.size)).mono HB1.out.size));have hp3:=(hbX4.block _ (Nat.lt_of_lt_of_le (Ay HP3.out) hb4.size)).trans ((hb4.block _ (Ay HP3.out)).trans HP3.out);obtain⟨p0,p1,_⟩:=Bo hp3;obtain⟨q0,q1,_⟩:=Bo hp4;clear hb4 hbX4 hp3 hp4 H3 HK3 HX3 HP3;go_wp2_with fail;go_ret;exact⟨rfl,HX4.out⟩
open Go Go.RowKit Go.Lib
theorem Zc (k:Int)(w:World):Calls Tryz.prog 22 #[.int .u8 k] w fun e w'=>e= .returned (.bool (Ye k))/\w'=w:=by
 unfold Ye;obtain⟨a,ha⟩:∃a,(k==1)=a:=⟨_,rfl⟩;obtain⟨b,hb⟩:∃b,(k==2)=b:=⟨_,rfl⟩;rw[ha,hb];cases a
 all_goals
  cases b
  all_goals
   go_enter Tryz.func22,Tryz.ntmps22;go_wp2_with fail;exact zyr
theorem S4 (s t:ByteArray)(o:List UInt8)(c:ByteArray)(hc:c=⟨(10::41::32::(o++[32,40])).toArray⟩):(⟨#[40]⟩++s++c++t++⟨#[10,41]⟩:ByteArray)=⟨(I2 (dl s) o (dl t)).toArray⟩:=by
 subst hc;apply ByteArray.ext;simp [I2,dl]
theorem kL (s t:ByteArray):(⟨#[105,102,40,116,114,117,101,44,32,40]⟩++s++⟨#[10,41,44,32,40]⟩++t++⟨#[10,41,41]⟩:ByteArray)=⟨(ifT (dl s) (dl t)).toArray⟩:=by
 apply ByteArray.ext;simp [ifT,dl]
theorem fR (s t:ByteArray):(⟨#[109,105,110,40,40]⟩++s++⟨#[10,41,44,32,40]⟩++t++⟨#[10,41,41]⟩:ByteArray)=⟨(Uk (dl s) (dl t)).toArray⟩:=by
 apply ByteArray.ext;simp [Uk,dl]
theorem aR {l m:List UInt8}{x y:Int}(hl:l.length<=200)(hm:m.length<=200){c:fN}(hc:c∈P7 l m x y):c.t.length<=65536:=by
 unfold P7 at hc;simp only[List.mem_cons,List.not_mem_nil,or_false] at hc;rcases hc with rfl|rfl|rfl|rfl
 all_goals
  simp [I2,ifT,Uk];omega
theorem aM {s t:ByteArray}{sa:Option Addr}{sc:Nat}{vars:List (List UInt8×Int)}{sf:Int}(hsf:0<=sf)(w:World)(hS:mE w (.slice sa vars.length sc) vars)(hR:Rd w):
 Calls Tryz.prog 5 #[.string s,.string t,.agg #[.slice sa vars.length sc,.int .u8 sf]] w fun e w'=>e= .returned (.bool true)/\Below w.heap.size w w':=by
 obtain⟨W,hW⟩:∃W,w.alloc (.cells #[.slice sa vars.length sc,.int .u8 sf] 45)=W:=⟨_,rfl⟩;have hbW:Below w.heap.size w W:=by rw[←hW];exact(Aq _ w).alloc (Ak _) _
 have hpW:=A1 w (.cells #[.slice sa vars.length sc,.int .u8 sf] 45);rw[hW] at hpW;obtain⟨n,hn⟩:∃n,vars.length=n:=⟨_,rfl⟩;have HK:=fun(V:World) (hV:Below w.heap.size w V)=>Ax (pP V (hR.below hV))
 obtain⟨b1,hb1⟩:∃b,decide ((200:Int)<(s.size:Int))=b:=⟨_,rfl⟩;obtain⟨b2,hb2⟩:∃b,decide ((200:Int)<(t.size:Int))=b:=⟨_,rfl⟩;obtain⟨b3,hb3⟩:∃b,decide ((40:Int)<(n:Int))=b:=⟨_,rfl⟩;have HW:=Ax hW;have HBW:=Ax hbW;have HPW:=Ax hpW;have hlt:=Ay hpW;have Hn:=Ax hn;by_cases hgr:(b1||b2||b3)=true
 ·rw[hn] at HW HPW ⊢;obtain⟨s0,s1,_⟩:=Bo HPW.out;have HK':=HK W hbW;have HBq:=HBW;clear hR hW hbW hpW hS hn HK;cases b1 with
  |true=>
   clear hb2 hb3 hgr;go_enter Tryz.func5,Tryz.ntmps5;go_upto_region 1 with fail
   rw[HW.out];exact zzm
  |false=>
   cases b2 with
   |true=>
    clear hb3 hgr;go_enter Tryz.func5,Tryz.ntmps5;go_upto_region 1 with fail
    rw[HW.out];exact zzm
   |false=>
    obtain rfl:b3=true:=by simpa using hgr
    clear hgr;go_enter Tryz.func5,Tryz.ntmps5;go_upto_region 1 with fail
    rw[HW.out];exact zzm
 obtain⟨⟨rfl,rfl⟩,rfl⟩:(b1=false/\b2=false)/\b3=false:=by simpa using hgr
 have hs2:s.size<=200:=by have:=of_decide_eq_false hb1;omega
 have ht2:t.size<=200:=by have:=of_decide_eq_false hb2;omega
 have hn4:n<=40:=by have:=of_decide_eq_false hb3;omega
 have hv:=hS.rd tE;have hv0:∀y∈vars,0<=y.2:=fun y hy=>(hS.1 y hy).1
 have hO:=fun(l:List UInt8) (V:World) (hV:Below w.heap.size w V) (v:Value) (hz:TrZ V v (zOf (Bj l)))=>Zb hz Pz.1 Pz.2 (hR.below hV) sf (hv.below hV) hv0 hsf
 have hRe:=fun(l:List UInt8) (V:World) (h:l.length<=65536)=>Se (s:=⟨l.toArray⟩) (x:=Bj l) V (by simpa[ByteArray.size] using h) (by simp [dl])
 have hRs:=fun(V:World)=>Se (s:=s) (x:=Bj (dl s)) V tE rfl
 have hRt:=fun(V:World)=>Se (s:=t) (x:=Bj (dl t)) V tE rfl
 rw[hn] at HW HPW hO ⊢;unfold bQ at hO;unfold eS at hRe hRs hRt;have HO:=Ax hO;have HRe:=Ax hRe;have HRs:=Ax (hRs W);have HRt:=fun V=>Ax (hRt V)
 have hlr:∀l:List UInt8,(pOf (Bj l)).2=0->∃a,Bj l= .ok a:=fun l h=>by
  cases e:Bj l with
  |ok a=>exact⟨a,rfl⟩
  |error p=>
   rw[e] at h;exact absurd h (Wk e)
 have Hlr:=Ax hlr;have Hnn:=Ax (fun l=>rM (vars:=vars) (sf:=sf) hv0 hsf (l:=l));obtain⟨pX,hpX⟩:∃p,pOf (Bj (dl s))=p:=⟨_,rfl⟩;obtain⟨pY,hpY⟩:∃p,pOf (Bj (dl t))=p:=⟨_,rfl⟩;rw[hpX] at HRs;rw[hpY] at HRt;obtain⟨⟨xX,yX⟩,eX⟩:=pX;obtain⟨⟨xY,yY⟩,eY⟩:=pY;simp only at HRs HRt;have HpX:=Ax hpX;have HpY:=Ax hpY;obtain⟨s0,s1,_⟩:=Bo HPW.out;have hds:(dl s).length=s.size:=A4 s;have hdt:(dl t).length=t.size:=A4 t;have Hds:=Ax hds;have Hdt:=Ax hdt;clear hR hW hbW hpW hS hn hv hv0 hO hRe hRs hRt hlr hpX hpY hgr hds hdt;go_enter Tryz.func5,Tryz.ntmps5;go_upto_region 1 with fail
 rw[HW.out];clear HW;go_wp2_with fail;refine HRs.out.mono ?_;rintro e V1 ⟨a1,k1,c1,rfl,ht1,hb1⟩;obtain⟨X1,hX1⟩:∃X,V1.alloc (.cells #[.int .i64 xX,.int .i64 yX] 26)=X:=⟨_,rfl⟩;have hbX1:Below V1.heap.size V1 X1:=by rw[←hX1];exact(Aq _ _).alloc (Ak _) _
 have hb1X:=hb1.trans (hbX1.mono hb1.size);have HB1:=Ax (HBW.out.trans (hb1X.mono HBW.out.size));have HT1:=Ax (ht1.below hbX1);have HP1:=Ax ((hb1X.block _ hlt).trans HPW.out);have HX1:=Ax hX1;have HRt':=HRt X1;clear hb1 hX1 hbX1 hb1X ht1 HRs HRt s0 s1 HPW;go_upto_region 4 with fail
 (try rw[HX1.out])
 clear HX1;go_wp2_with fail;refine HRt'.out.mono ?_;rintro e V2 ⟨a2,k2,c2,rfl,ht2',hb2⟩;obtain⟨X2,hX2⟩:∃X,V2.alloc (.cells #[.int .i64 xY,.int .i64 yY] 26)=X:=⟨_,rfl⟩;have hbX2:Below V2.heap.size V2 X2:=by rw[←hX2];exact(Aq _ _).alloc (Ak _) _
 have hb2X:=hb2.trans (hbX2.mono hb2.size);have hB2:=HB1.out.trans (hb2X.mono HB1.out.size);have HBq:=Ax hB2;have HT1:=Ax (HT1.out.below hb2X);have HT2:=Ax (ht2'.below hbX2);have HP2:=Ax ((hb2X.block _ (Ay HP1.out)).trans HP1.out);have HX2:=Ax hX2;have HK':=HK X2 hB2;clear hb2 hX2 hbX2 hb2X hB2 ht2' HRt' HP1 HB1;go_upto_region 5 with fail
 (try rw[HX2.out])
 clear HX2;by_cases h1:eX=0;rotate_left
 ·have h1':(eX !=0)=true:=by simpa using h1
  clear HK HO HRe;exact zzm
 subst h1;by_cases h2:eY=0;rotate_left
 ·have h2':(eY !=0)=true:=by simpa using h2
  clear HK HO HRe;exact zzm
 subst h2;obtain⟨ta,hta⟩:=Hlr.out (dl s) (by rw[HpX.out]);obtain⟨tb,htb⟩:=Hlr.out (dl t) (by rw[HpY.out]);have HTa:=Ax hta;have HTb:=Ax htb;obtain⟨s0,s1,_⟩:=Bo HP2.out;have h3:=HO.out (dl s) X2 HBq.out _ HT1.out;obtain⟨⟨x,⟨x1,y1⟩,f1⟩,hp1⟩:∃p,ofP vars sf (zOf (Bj (dl s)))=p:=⟨_,rfl⟩;rw[hp1] at h3;simp only at h3;have H3:=Ax h3;have Hp1:=Ax hp1;clear h3 hp1 hta htb HK';go_wp2_with fail;refine H3.out.mono ?_;rintro e V3 ⟨rfl,hb3⟩;obtain⟨X3,hX3⟩:∃X,V3.alloc (.cells #[.int .i64 x1,.int .i64 y1] 26)=X:=⟨_,rfl⟩;have hbX3:Below V3.heap.size V3 X3:=by rw[←hX3];exact(Aq _ _).alloc (Ak _) _
 have hb3X:=hb3.trans (hbX3.mono hb3.size);have hB3:=HBq.out.trans (hb3X.mono HBq.out.size);have HP3:=Ax ((hb3X.block _ (Ay HP2.out)).trans HP2.out);obtain⟨s0,s1,_⟩:=Bo HP3.out;have h4:=HO.out (dl t) X3 hB3 _ (HT2.out.below hb3X);obtain⟨⟨y,⟨x2,y2⟩,f2⟩,hp2⟩:∃p,ofP vars sf (zOf (Bj (dl t)))=p:=⟨_,rfl⟩;rw[hp2] at h4;simp only at h4;have H4:=Ax h4;have Hp2:=Ax hp2;have HB3:=Ax hB3;have HX3:=Ax hX3;clear h4 hp2 hb3 hX3 hbX3 hb3X hB3 H3 HT1 HT2 HP2 HBq;go_upto_region 8 with fail
 (try rw[HX3.out])
 clear HX3;go_wp2_with fail;refine H4.out.mono ?_;rintro e V4 ⟨rfl,hb4⟩;obtain⟨X4,hX4⟩:∃X,V4.alloc (.cells #[.int .i64 x2,.int .i64 y2] 26)=X:=⟨_,rfl⟩;have hbX4:Below V4.heap.size V4 X4:=by rw[←hX4];exact(Aq _ _).alloc (Ak _) _
 have hb4X:=hb4.trans (hbX4.mono hb4.size);have hB4:=HB3.out.trans (hb4X.mono HB3.out.size);have HP4:=Ax ((hb4X.block _ (Ay HP3.out)).trans HP3.out);have HBq:=Ax hB4;have HX4:=Ax hX4;have HK':=HK X4 hB4;clear hb4 hX4 hbX4 hb4X hB4 H4 HP3 HB3 s0 s1;go_upto_region 9 with fail
 (try rw[HX4.out])
 clear HX4;by_cases h1:f1=0;rotate_left
 ·have h1':(f1 !=0)=true:=by simpa using h1
  clear HK HO HRe;exact zzm
 subst h1;by_cases h2:f2=0;rotate_left
 ·have h2':(f2 !=0)=true:=by simpa using h2
  clear HK HO HRe;exact zzm
 subst h2;clear HK';have hx0:0<=x:=by have:=Hnn.out (zOf (Bj (dl s)));rw[Hp1.out] at this;exact this
 have hy0:0<=y:=by have:=Hnn.out (zOf (Bj (dl t)));rw[Hp2.out] at this;exact this
 have hx5:x<=5:=by have:=lO (vars:=vars) (self:=sf) (l:=zOf (Bj (dl s)));rw[Hp1.out] at this;exact this
 have hy5:y<=5:=by have:=lO (vars:=vars) (self:=sf) (l:=zOf (Bj (dl t)));rw[Hp2.out] at this;exact this
 have HLaw:=Ax (fun(c:fN) (hc:c∈P7 (dl s) (dl t) x y) (u:Ex) (hu:Bj c.t= .ok u)=>kV HTa.out HTb.out (Vu HTa.out Hp1.out) (Vu HTb.out Hp2.out) ⟨hx0,hx5⟩ ⟨hy0,hy5⟩ hc hu);have HSh:=Ax (fun(c:fN) (hc:c∈P7 (dl s) (dl t) x y)=>aR (l:=dl s) (m:=dl t) (by rw[Hds.out];exact hs2) (by rw[Hdt.out];exact ht2) hc);obtain⟨l1,hl1⟩:∃b,(x==y)=b:=⟨_,rfl⟩;obtain⟨l2,hl2⟩:∃b,(x==0)=b:=⟨_,rfl⟩;obtain⟨l3,hl3⟩:∃b,(y==0)=b:=⟨_,rfl⟩;obtain⟨n1,hn1⟩:∃b,Ye x=b:=⟨_,rfl⟩;obtain⟨n2,hn2⟩:∃b,Ye y=b:=⟨_,rfl⟩;obtain⟨mx,hmx⟩:∃m,max x y=m:=⟨_,rfl⟩
 have hA:P7 (dl s) (dl t) x y=[⟨I2 (dl s) [43] (dl t),n1 && n2,if n1 && n2 then mx else 0⟩,⟨ifT (dl s) (dl t),(l1||l2)||l3,mx⟩,⟨I2 (dl s) [61] (dl t),(l1||l2)||l3||(n1 && n2),4⟩,⟨Uk (dl s) (dl t),n1 && n2,if n1 && n2 then mx else 0⟩]:=by
  unfold P7 P2 n2B;rw[hl1,hl2,hl3,hn1,hn2,hmx]
 have HA:=Ax hA;have HNx:=fun V=>Ax (Zc x V)
 have HNy:=fun V=>Ax (Zc y V)
 rw[hn1] at HNx;rw[hn2] at HNy;clear hA hn1 hn2 Hp1 Hp2 HTa HTb hx0 hy0 hx5 hy5 Hnn HpX HpY;have Hmx:=Ax hmx;clear hmx;go_upto_region 12 with fail
 rw[Hmx.out]
 go_cut [18] from 86 to 96 (fun u18 wx=>u18= .bool ((l1||l2)||l3)/\wx=X4)
 case first=>
  cases l1 with
  |true=>
   exact zy2
  |false=>
   cases l2 with
   |true=>
    exact zy2
   |false=>
    exact zy2
 obtain⟨rfl,hwx⟩:=hcut;rw[hwx];clear hwx;go_upto_region 14 with fail
 go_cut [102] from 97 to 101 (fun u102 wx=>u102= .bool (n1 && n2)/\wx=X4)
 case first=>
  cases n1
  all_goals
   go_wp2_with (first|(go_at_call 22;(with_reducible refine(HNx _).out.mono ?_);rintro e V9 ⟨rfl,rfl⟩)|(go_at_call 22;(with_reducible refine(HNy _).out.mono ?_);rintro e V9 ⟨rfl,rfl⟩))
   go_meet
   case rel=>exact⟨rfl,rfl⟩
 obtain⟨rfl,hwx⟩:=hcut;rw[hwx];clear hwx
 go_upto_if 102 with fail
 go_cut [19] from 103 to 105 (fun u19 wx=>u19= .int .u8 (if n1 && n2 then max x y else 0)/\wx=X4)
 case first=>
  cases n1
  all_goals
   cases n2
   all_goals
    exact zy2
 obtain⟨rfl,hwx⟩:=hcut;rw[hwx,Hmx.out];clear hwx;obtain⟨sm,hsm⟩:∃k:Int,(if n1 && n2 then mx else 0)=k:=⟨_,rfl⟩;obtain⟨lk,hlk⟩:∃b,((l1||l2)||l3)=b:=⟨_,rfl⟩;rw[hsm,hlk] at HA;rw[hsm,hlk];clear hl1 hl2 hl3;go_upto_region 16 with fail
 go_cut [159,160,161] from 106 to 158 (fun u159 u160 u161 wx=>u159= .slice (some ⟨X4.heap.size,0,none⟩) 4 4/\u160= .int .i64 4/\u161= .int .i64 0/\wx=X4.alloc (.cells #[.string (⟨#[40]⟩++s++⟨#[10,41,32,43,32,40]⟩++t++⟨#[10,41]⟩),.bool (n1 && n2),.int .u8 sm,.string (⟨#[105,102,40,116,114,117,101,44,32,40]⟩++s++⟨#[10,41,44,32,40]⟩++t++⟨#[10,41,41]⟩),.bool lk,.int .u8 mx,.string (⟨#[40]⟩++s++⟨#[10,41,32,61,32,40]⟩++t++⟨#[10,41]⟩),.bool (lk||(n1 && n2)),.int .u8 4,.string (⟨#[109,105,110,40,40]⟩++s++⟨#[10,41,44,32,40]⟩++t++⟨#[10,41,41]⟩),.bool (n1 && n2),.int .u8 sm] 49))
 case first=>
  cases n1
  all_goals
   cases n2
   all_goals
    cases lk
    all_goals
     go_wp2_with (first|(go_at_call 22;(with_reducible refine(HNx _).out.mono ?_);rintro e V9 ⟨rfl,rfl⟩)|(go_at_call 22;(with_reducible refine(HNy _).out.mono ?_);rintro e V9 ⟨rfl,rfl⟩))
     go_meet
     case rel=>exact⟨rfl,rfl,rfl,rfl⟩
 obtain⟨rfl,rfl,rfl,hwx⟩:=hcut;obtain⟨X5,hX5⟩:∃X,X4.alloc (.cells #[.string (⟨#[40]⟩++s++⟨#[10,41,32,43,32,40]⟩++t++⟨#[10,41]⟩),.bool (n1 && n2),.int .u8 sm,.string (⟨#[105,102,40,116,114,117,101,44,32,40]⟩++s++⟨#[10,41,44,32,40]⟩++t++⟨#[10,41,41]⟩),.bool lk,.int .u8 mx,.string (⟨#[40]⟩++s++⟨#[10,41,32,61,32,40]⟩++t++⟨#[10,41]⟩),.bool (lk||(n1 && n2)),.int .u8 4,.string (⟨#[109,105,110,40,40]⟩++s++⟨#[10,41,44,32,40]⟩++t++⟨#[10,41,41]⟩),.bool (n1 && n2),.int .u8 sm] 49)=X:=⟨_,rfl⟩;rw[hwx,hX5];obtain⟨nn,hnn⟩:∃b,(n1 && n2)=b:=⟨_,rfl⟩;rw[hnn] at HA hX5;clear hwx hnn HNx HNy;rw[S4 s t [43] ⟨#[10,41,32,43,32,40]⟩ rfl,kL,S4 s t [61] ⟨#[10,41,32,61,32,40]⟩ rfl,fR] at hX5;have hbX5:Below X4.heap.size X4 X5:=by rw[←hX5];exact(Aq _ _).alloc (Ak _) _
 have hpX5:=A1 X4 (.cells #[.string ⟨(I2 (dl s) [43] (dl t)).toArray⟩,.bool nn,.int .u8 sm,.string ⟨(ifT (dl s) (dl t)).toArray⟩,.bool lk,.int .u8 mx,.string ⟨(I2 (dl s) [61] (dl t)).toArray⟩,.bool (lk||nn),.int .u8 4,.string ⟨(Uk (dl s) (dl t)).toArray⟩,.bool nn,.int .u8 sm] 49);rw[hX5] at hpX5;have hB5:=HBq.out.trans (hbX5.mono HBq.out.size);have HP5:=Ax ((hbX5.block _ (Ay HP4.out)).trans HP4.out)
 have HEl:Hid (∀V,Below X5.heap.size X5 V->∀i,i<4->∃c:fN,(c∈P7 (dl s) (dl t) x y)/\V.cell? ⟨X4.heap.size,i*3,none⟩=some (.string ⟨c.t.toArray⟩)/\V.cell? ⟨X4.heap.size,i*3+1,none⟩=some (.bool c.ok)/\V.cell? ⟨X4.heap.size,i*3+2,none⟩=some (.int .u8 c.kind)):=Ax fun V hV i hi=>by
  have hb:=(hV.block _ (Ay hpX5)).trans hpX5;have hc:∀j,V.cell? ⟨X4.heap.size,j,none⟩=_:=fun j=>Joins.cell_of_block hb j
  rw[HA.out];rcases (show i=0\/i=1\/i=2\/i=3 by omega) with rfl|rfl|rfl|rfl
  ·exact⟨⟨I2 (dl s) [43] (dl t),nn,sm⟩,by simp,hc _,hc _,hc _⟩
  ·exact⟨⟨ifT (dl s) (dl t),lk,mx⟩,by simp,hc _,hc _,hc _⟩
  ·exact⟨⟨I2 (dl s) [61] (dl t),lk||nn,4⟩,by simp,hc _,hc _,hc _⟩
  exact⟨⟨Uk (dl s) (dl t),nn,sm⟩,by simp,hc _,hc _,hc _⟩
 have HB5:=Ax hB5;have hz5:X4.heap.size<=X5.heap.size:=hbX5.size;clear hX5 hbX5 hpX5 hB5 HP4 HA;go_wp2_with fail
 go_loopw [161] (fun v161 wr=>∃(i:Nat),i<=4/\v161= .int .i64 i/\Hid (Below X5.heap.size X5 wr)) (fun v161 _=>4 - (intOf v161).toNat)
 case atStart=>exact⟨0,Nat.zero_le _,rfl,Aq _ _⟩
 obtain⟨wo,rfl⟩:∃wo:World,wo=wr:=⟨_,rfl⟩;obtain⟨i,hi,rfl,hq⟩:=hrel;have hbo:=HB5.out.trans (hq.out.mono HB5.out.size);by_cases hi4:i<4
 ·obtain⟨c,hcm,q0,q1,q2⟩:=HEl.out wo hq.out i hi4;have hsh:=HSh.out c hcm;have hlw:=HLaw.out c hcm;obtain⟨⟨ct,ck,cd⟩,rfl⟩:∃c',c'=c:=⟨_,rfl⟩;simp only at q0 q1 q2 hsh hlw;obtain⟨R1,hR1⟩:∃X,wo.alloc (.cells #[.string ⟨ct.toArray⟩,.bool ck,.int .u8 cd] 49)=X:=⟨_,rfl⟩;have hbR1:Below wo.heap.size wo R1:=by rw[←hR1];exact(Aq _ _).alloc (Ak _) _
  have hpR1:=A1 wo (.cells #[.string ⟨ct.toArray⟩,.bool ck,.int .u8 cd] 49);rw[hR1] at hpR1;have H1:=HRe.out ct R1 hsh;obtain⟨pc,hpc⟩:∃p,pOf (Bj ct)=p:=⟨_,rfl⟩;rw[hpc] at H1;obtain⟨⟨xc,yc⟩,ec⟩:=pc;simp only at H1;have H1:=Ax H1;have Hpc:=Ax hpc;have Hlw:=Ax hlw;have HR1:=Ax hR1;have HQ1:=Ax (hq.out.trans (hbR1.mono hq.out.size));have HBo1:=Ax (hbo.trans (hbR1.mono hbo.size));have HPR1:=Ax hpR1;have j0:(0:Int)<=(i:Int):=by omega
  have j1:(i:Int)<(4:Int):=by omega
  have j2:decide ((i:Int)<(4:Int))=true:=Am j1;obtain⟨m0,m1,m2⟩:R1.cell? ⟨wo.heap.size,0,none⟩=some (.string ⟨ct.toArray⟩)/\R1.cell? ⟨wo.heap.size,1,none⟩=some (.bool ck)/\R1.cell? ⟨wo.heap.size,2,none⟩=some (.int .u8 cd):=⟨Joins.cell_of_block hpR1 0,Joins.cell_of_block hpR1 1,Joins.cell_of_block hpR1 2⟩;clear hcm hsh hlw hR1 hbR1 hpR1 hpc hq hbo HK HEl HSh HLaw;go_upto_region 19 with fail
  rw[HR1.out];clear HR1 q0 q1 q2;go_wp2_with fail;refine H1.out.mono ?_;rintro e V1 ⟨a,k,c,rfl,ht,hb⟩;obtain⟨R2,hR2⟩:∃X,V1.alloc (.cells #[.int .i64 xc,.int .i64 yc] 26)=X:=⟨_,rfl⟩;have hbR2:Below V1.heap.size V1 R2:=by rw[←hR2];exact(Aq _ _).alloc (Ak _) _
  have hb12:=hb.trans (hbR2.mono hb.size);have HQ2:=Ax (HQ1.out.trans (hb12.mono HQ1.out.size));have HBo2:=Ax (HBo1.out.trans (hb12.mono HBo1.out.size));have HPR2:=Ax ((hb12.block _ (Ay HPR1.out)).trans HPR1.out);have HTc:=Ax (ht.below hbR2);have HR2:=Ax hR2;clear hb hR2 hbR2 hb12 ht H1 HQ1 HBo1 HPR1 m0 m1 m2;go_upto_region 20 with fail
  (try rw[HR2.out])
  clear HR2;by_cases hec:ec=0;rotate_left
  ·have hec':(ec !=0)=true:=by simpa using hec
   clear hec HTc HPR2 HO;go_wp2_with fail;go_roundw
   case rel=>exact⟨i+1,by omega,by go_num,HQ2⟩
   case measure=>simp [intOf];omega
  subst hec;obtain⟨u,hu⟩:=Hlr.out ct (by rw[Hpc.out]);obtain⟨p,hp⟩:=kM hu (Hlw.out u hu);have h2:=HO.out ct R2 HBo2.out _ HTc.out;rw[hp] at h2;have hp5:=(HQ2.out.block _ (Ay HP5.out)).trans HP5.out;obtain⟨s0,s1,_⟩:=Bo hp5;have H2:=Ax h2;clear hu hp h2 hp5 Hlw Hpc HTc HO;cases ck with
  |true=>
   simp only[if_true] at H2;go_wp2_with fail;refine H2.out.mono ?_;rintro e V5 ⟨rfl,hb5⟩;obtain⟨R3,hR3⟩:∃X,V5.alloc (.cells #[.int .i64 0,.int .i64 0] 26)=X:=⟨_,rfl⟩;have hbR3:Below V5.heap.size V5 R3:=by rw[←hR3];exact(Aq _ _).alloc (Ak _) _
   have hb53:=hb5.trans (hbR3.mono hb5.size);have HQ3:=Ax (HQ2.out.trans (hb53.mono HQ2.out.size));have hpR3:=(hb53.block _ (Ay HPR2.out)).trans HPR2.out;obtain⟨m0,m1,m2⟩:R3.cell? ⟨wo.heap.size,0,none⟩=some (.string ⟨ct.toArray⟩)/\R3.cell? ⟨wo.heap.size,1,none⟩=some (.bool true)/\R3.cell? ⟨wo.heap.size,2,none⟩=some (.int .u8 cd):=⟨Joins.cell_of_block hpR3 0,Joins.cell_of_block hpR3 1,Joins.cell_of_block hpR3 2⟩;have t1:(cd==cd)=true:=beq_self_eq_true _;have t2:(cd !=cd)=false:=by simp
   clear hb5 hbR3 hb53 hpR3 H2 s0 s1;subst hR3;go_wp2_with fail;go_roundw
   case rel=>exact⟨i+1,by omega,by go_num,HQ3⟩
   case measure=>simp [intOf];omega
  |false=>
   obtain⟨px,py⟩:=p;simp only[Bool.false_eq_true,if_false] at H2;go_wp2_with fail;refine H2.out.mono ?_;rintro e V5 ⟨rfl,hb5⟩;obtain⟨R3,hR3⟩:∃X,V5.alloc (.cells #[.int .i64 px,.int .i64 py] 26)=X:=⟨_,rfl⟩;have hbR3:Below V5.heap.size V5 R3:=by rw[←hR3];exact(Aq _ _).alloc (Ak _) _
   have hb53:=hb5.trans (hbR3.mono hb5.size);have HQ3:=Ax (HQ2.out.trans (hb53.mono HQ2.out.size));have hpR3:=(hb53.block _ (Ay HPR2.out)).trans HPR2.out;obtain⟨m0,m1,m2⟩:R3.cell? ⟨wo.heap.size,0,none⟩=some (.string ⟨ct.toArray⟩)/\R3.cell? ⟨wo.heap.size,1,none⟩=some (.bool false)/\R3.cell? ⟨wo.heap.size,2,none⟩=some (.int .u8 cd):=⟨Joins.cell_of_block hpR3 0,Joins.cell_of_block hpR3 1,Joins.cell_of_block hpR3 2⟩;have HR3:=Ax hR3;clear hb5 hbR3 hb53 hpR3 H2 s0 s1 hR3;go_upto_region 22 with fail
   (try rw[HR3.out])
   clear HR3;go_wp2_with fail;go_roundw
   case rel=>exact⟨i+1,by omega,by go_num,HQ3⟩
   case measure=>simp [intOf];omega
 obtain rfl:i=4:=by omega
 have HBq:=Ax hbo;have HK':=HK wo hbo;clear hq hbo HK HO HRe HEl HSh HLaw;exact zzm
end Go.Proofs.YtmpfilddeglgbaaGreatDoor
