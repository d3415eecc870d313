import Derived.Test.YtgfakdobajgnfaaGreatDoorQn15
set_option maxRecDepth 100000
set_option maxHeartbeats 16000000
namespace Go.Proofs.YtgfakdobajgnfaaGreatDoor
open Go Go.RowKit Go.Lib
def Se (w:World)(v:Value)(l:List (List UInt8)):Prop:=l.length<=1000000/\∃a c,v= .slice a l.length c/\∀i (h:i<l.length),∃b off,a=some ⟨b,off,none⟩/\w.cell? ⟨b,off+i,none⟩=some (.string ⟨l[i].toArray⟩)
theorem Se.below {w w':World}{x:Value}{l:List (List UInt8)}(h:Se w x l)(hb:Below w.heap.size w w'):Se w' x l:=by
 exact zx6
theorem Se.of_row {w:World}{B:Nat}{v:Value}{l:List (List UInt8)}(hl:l.length<=1000000)(h:w.ownsRow B 9 1 v l.length (Jp l)):Se w v l:=by
 rcases h.2 with ⟨e,h0⟩|⟨g,cap,cur,rfl,_,hg,hc,_⟩
 ·exact zxu
 refine⟨hl,_,_,rfl,fun i hi=>⟨g,0,rfl,?_⟩⟩
 have:=h.cells (g:=g) rfl i (.string ⟨l[i].toArray⟩) (by simp [Jp,hi])
 simpa only[Addr.add_lit] using this
theorem gQ {α:Type}{l:List α}{p:α->Bool}{k:Nat}(h0:∀j (h:j<l.length),j<k->p l[j]=false)(hk:k<l.length)(h1:p l[k]=false):∀j (h:j<l.length),j<k+1->p l[j]=false:=fun j hj hjk=>by
 by_cases e:j=k
 ·subst e;exact h1
 exact h0 j hj nU
theorem Za (x:List UInt8){v:Value}{l:List (List UInt8)}(w:World)(h:Se w v l):
 Calls Tryz.prog 112 #[v,.string ⟨x.toArray⟩] w fun r w'=>r= .returned (.int .i64 (Ln l fun y=>x==y))/\w=w':=by
 have hlm:=h.1;obtain⟨_,a,cc,rfl,hc⟩:=h;have HC:=Ax hc;clear hc;go_enter Tryz.func112,Tryz.ntmps112
 go_wp2
 go_loop [8] (fun vi=>∃k:Nat,k<=l.length/\vi= .int .i64 k/\Hid (∀j (h:j<l.length),j<k->(x==l[j])=false)) (fun i=>l.length - (intOf i).toNat)
 case atStart=>exact⟨0,Nat.zero_le _,rfl,fun j h hj=>absurd hj nU⟩
 obtain⟨k,hk,rfl,hq⟩:=hrel;by_cases hlk:k<l.length
 ·obtain⟨b,off,rfl,c0⟩:=HC.out k hlk;have Hs:=fun he=>Ax (gQ (p:=fun y=>x==y) hq.out hlk he)
  have Hi:=fun he=>Ax (P6 (p:=fun y=>x==y) hlk hq.out he)
  obtain⟨y,hy⟩:∃y,l[k]=y:=⟨_,rfl⟩;simp only[hy] at c0 Hs Hi;have j0:(0:Int)<=(k:Int):=by omega
  have j1:(k:Int)<(l.length:Int):=by omega
  have j2:decide ((k:Int)<(l.length:Int))=true:=Am j1;by_cases he:(x==y)=true
  ·have Hi:=Hi he;clear hy hq Hs
   go_wp2
   go_ret;exact⟨by rw[Hi.out];rfl,rfl⟩
  have he:(x==y)=false:=by simpa using he
  have Hs:=Hs he;clear hy hq Hi
  go_wp2
  go_round
  case rel=>exact⟨k+1,by omega,by go_num,Hs.out⟩
  case measure=>simp [intOf];omega
 obtain rfl:k=l.length:=by omega
 have Hi:=Ax (Oq (p:=fun y=>x==y) fun j h=>hq.out j h h);have j2:decide ((l.length:Int)<(l.length:Int))=false:=by simp
 go_wp2
 go_ret;exact⟨by rw[Hi.out];rfl,rfl⟩
theorem R7 (x:List UInt8){v:Value}{l:List (List UInt8)}(w:World)(h:Se w v l):
 Calls Tryz.prog 70 #[v,.string ⟨x.toArray⟩] w fun r w'=>r= .returned (.bool (l.any fun y=>x==y))/\w=w':=by
 have Hi:=Ax (Za x w h);have He:=Ax (Wl l fun y=>x==y);obtain⟨_,a,cc,rfl,_⟩:=h;obtain⟨i,hi⟩:∃i,(Ln l fun y=>x==y)=i:=⟨_,rfl⟩;rw[hi] at Hi He;clear hi;go_enter Tryz.func70,Tryz.ntmps70;go_wp2_with fail;refine Hi.out.mono ?_;rintro r V ⟨rfl,rfl⟩
 go_wp2
 go_ret;exact⟨by rw[←He.out];rfl,rfl⟩
def Dp:List Nz->List (List UInt8)->List (List UInt8)
 |[],L=>L
 |x::l,L=>Dp l (if(x.h.op==2 && !(L.any fun y=>x.h.name==y))=true then L++[x.h.name] else L)
def Ip (l:List Nz):List (List UInt8):=match Fg l with
 |none=>[]
 |some _=>Dp l []
theorem Pf {x:Nz}:∀{l:List Nz} {L:List (List UInt8)},Dp (l++[x]) L=(if(x.h.op==2 && !((Dp l L).any fun y=>x.h.name==y))=true then Dp l L++[x.h.name] else Dp l L)
 |[],L=>rfl
 |y::l,L=>by
  rw[List.cons_append,Dp,Pf,Dp]
theorem Rf:∀{l:List Nz} {L:List (List UInt8)},(Dp l L).length<=L.length+l.length
 |[],L=>by simp [Dp]
 |y::l,L=>by
  rw[Dp];refine Al Rf ?_
  split
  ·simp;omega
  simp
theorem Yf {w:World}{tv:Value}{l:List Nz}(ht:TrZ w tv l)(ho:∀x∈l,0<=x.h.op)(hf:∀x∈l,Kt x.h)(hR:Rd w):
 Calls Tryz.prog 40 #[tv] w fun e w'=>∃v,e= .returned v/\Se w' v (Ip l)/\Below w.heap.size w w':=by
 have HM:=Ax (U7 ht ho hf hR);have hlm:=ht.1;have htt:=ht;obtain⟨_,ta,tc,rfl,hcell⟩:=htt;have HC:=Ax hcell;clear ht ho hf hR hcell;cases hz:Fg l with
 |none=>
  have HZ:Hid (Ip l=[]):=Ax (by unfold Ip;rw[hz]);rw[hz] at HM;clear hz;go_enter Tryz.func40,Tryz.ntmps40;go_wp2_with fail;refine HM.out.mono ?_;rintro e V ⟨rfl,hb⟩;have HB:=Ax hb;clear hb HM;go_wp2_with fail;go_ret;exact⟨_,rfl,by rw[HZ.out];exact⟨Nat.zero_le _,none,0,rfl,fun i hi=>by simp at hi⟩,HB.out⟩
 |some t=>
  have HZ:Hid (Ip l=Dp l []):=Ax (by unfold Ip;rw[hz]);rw[hz] at HM;clear hz;go_enter Tryz.func40,Tryz.ntmps40;go_wp2_with fail;refine HM.out.mono ?_;rintro e V ⟨rfl,hb⟩;have H0:Hid (V.ownsRow w.heap.size 9 1 (.slice none 0 0) 0 (Jp (Dp (l.take 0) []))/\Below w.heap.size w V):=Ax ⟨World.ownsRow_nil _ _ _ _,hb⟩;clear hb HM;go_wp2_with fail
  go_loopw [2,10] (fun v2 v10 wr=>∃(i:Nat) (L:List (List UInt8)) (oa:Option Addr) (oc:Nat),i<=l.length/\v10= .int .i64 i/\v2= .slice oa L.length oc/\Hid (Dp (l.take i) []=L)/\Hid (wr.ownsRow w.heap.size 9 1 (.slice oa L.length oc) L.length (Jp L)/\Below w.heap.size w wr)) (fun _ v10 _=>l.length - (intOf v10).toNat)
  case atStart=>exact⟨0,[],none,0,Nat.zero_le _,rfl,rfl,rfl,H0⟩
  obtain⟨wo,rfl⟩:∃wo:World,wo=wr:=⟨_,rfl⟩;obtain⟨i,L,oa,oc,hi,rfl,rfl,hL,hq⟩:=hrel;obtain⟨hrow,hbw⟩:=hq.out
  have hLl:L.length<=1000000:=by
   rw[←hL.out];refine Al Rf ?_;simp;omega
  by_cases hil:i<l.length
  ·obtain⟨b,off,kv,ea,hna,hki⟩:=HC.out i hil;subst ea;have hna:=hna.below hbw
   have hst:Dp (l.take (i+1)) []=if(l[i].h.op==2 && !(L.any fun y=>l[i].h.name==y))=true then L++[l[i].h.name] else L:=by
    rw[List.take_succ_eq_append_getElem hil,Pf,hL.out]
   obtain⟨ka,kc,ekv⟩:∃a c,kv= .slice a l[i].kids.length c:=by
    obtain⟨_,a,c,e,_⟩:=hki;exact⟨a,c,e⟩
   obtain⟨⟨⟨op,⟨vk,vn,vs⟩,nm,ln,cl⟩,ks⟩,hx⟩:∃x,l[i]=x:=⟨_,rfl⟩;simp only[hx] at hna hst ekv;subst ekv;obtain⟨x0,x1,x2,x3,x4,x5,x6,x7⟩:=hna;simp only at x0 x1 x2 x3 x4 x5 x6 x7;have j0:(0:Int)<=(i:Int):=by omega
   have j1:(i:Int)<(l.length:Int):=by omega
   have j2:decide ((i:Int)<(l.length:Int))=true:=Am j1;have hbx:=B1 x0;obtain⟨W1,hW1⟩:∃W1,wo.alloc (.cells #[.int .u8 op,.int .u8 vk,.int .i64 vn,.string ⟨vs.toArray⟩,.string ⟨nm.toArray⟩,.slice ka ks.length kc,.int .i64 ln,.int .i64 cl] 43)=W1:=⟨_,rfl⟩;have hp1:=A0 wo (.cells #[.int .u8 op,.int .u8 vk,.int .i64 vn,.string ⟨vs.toArray⟩,.string ⟨nm.toArray⟩,.slice ka ks.length kc,.int .i64 ln,.int .i64 cl] 43);have hb1:Below wo.heap.size wo W1:=by rw[←hW1];exact(Aq _ wo).alloc (Ak _) _
   rw[hW1] at hp1;obtain⟨n0,n1,n2,n3,n4,n5,n6,n7,nf⟩:=Bp hp1;have hr1:=Cc hrow hb1;have hB1:=hbw.trans (hb1.mono hbw.size);have HCn:=Ax (R7 nm W1 (Se.of_row hLl hr1));have Hst:=Ax hst;have HW1:=Ax hW1;have HR1:=Ax hr1;have HB1:=Ax hB1;have Hown:=Ax (Cf hr1);obtain⟨q,hq1⟩:∃q,(op==2)=q:=⟨_,rfl⟩;obtain⟨p,hp⟩:∃p,(L.any fun y=>nm==y)=p:=⟨_,rfl⟩;rw[hp] at HCn;have HH:Hid (Dp (l.take (i+1)) []=if(q && !p)=true then L++[nm] else L):=Ax (by rw[Hst.out,hq1,hp]);clear hq hrow hbw hst hx hp1 hb1 nf hW1 hr1 hB1 H0 Hst hp hki hL;go_upto_region 6 with fail
   rw[HW1.out];clear HW1 x0 x1 x2 x3 x4 x5 x6 x7;cases q with
   |false=>
    exact zyg
   |true=>
    go_wp2_with fail;refine HCn.out.mono ?_;rintro e V2 ⟨rfl,rfl⟩;cases p with
    |true=>
     exact zyg
    |false=>
     have HH2:Hid (Dp (l.take (i+1)) []=L++[nm]):=Ax HH.out;obtain⟨i0',hi0,hz0,hz1,hz2⟩:=Jh;have Hi0:=Ax hi0;have Hy0:=Ax hz0;have Hy1:=Ax hz1;have Hy2:=Ax hz2;have Hrow1:=Ax (HR1.out.alloc (.cells #[.string ⟨nm.toArray⟩] 9));have HN1:=Ax (A0 W1 (.cells #[.string ⟨nm.toArray⟩] 9));have HZ1:Hid ((W1.alloc (.cells #[.string ⟨nm.toArray⟩] 9)).heap.size=W1.heap.size+1):=Ax nW;have hsr:=HB1.out.size;clear HCn hi0 hz0 hz1 hz2;go_wp2_with ((refine wpList_append_lies _ rfl (.tmp 24) (.tmp 27) _ rfl w.heap.size 9 i0' (.string ⟨#[]⟩) 1 16 Tryz.underlying39 Hi0.out Hy0.out Hy1.out Hy2.out rfl nV (.slice oa L.length oc) L.length (Jp L) rfl Hrow1.out ⟨W1.heap.size,0,none⟩ 1 1 [.string ⟨nm.toArray⟩] rfl rfl (World.news_of_block (cs:= #[.string ⟨nm.toArray⟩]) HN1.out) oH nV oF nU (by rw[HZ1.out];omega) (W1.heap.size+1) HZ1.out ?_;intro g6 cap w6 hown6 hgrow6 hat6 hlt6));have hB6:=Pi (v:= .slice oa L.length oc) (HB1.out.alloc HB1.out.size (.cells #[.string ⟨nm.toArray⟩] 9)) hgrow6 Hown.out (by rw[HZ1.out];omega);rw[←S8] at hown6;have HR6:Hid (w6.ownsRow w.heap.size 9 1 (.slice (some ⟨g6,0,none⟩) (L++[nm]).length cap) (L++[nm]).length (Jp (L++[nm]))/\Below w.heap.size w w6):=Ax ⟨by rw[Ab];exact hown6,hB6⟩;clear hown6 hgrow6 hat6 hlt6 hB6 Hrow1 HN1 HZ1 hsr Hown;go_wp2_with fail;go_roundw
     case rel=>exact⟨i+1,L++[nm],some ⟨g6,0,none⟩,cap,by omega,by go_num,by rw[Ab];rfl,HH2,HR6⟩
     case measure=>simp [intOf];omega
  obtain rfl:i=l.length:=by omega
  have HL2:Hid (Dp l []=L):=Ax (by have:=hL.out;rwa [List.take_of_length_le (Ak _)] at this);have HT:=Ax (Se.of_row hLl hrow);have HB:=Ax hbw;have j2:decide ((l.length:Int)<(l.length:Int))=false:=by simp
  clear hq hrow hbw H0 hL;go_wp2_with fail;go_ret;exact⟨_,rfl,by rw[HZ.out,HL2.out];exact HT.out,HB.out⟩
open Go Go.RowKit Go.Lib
theorem Oi (n:List UInt8):∀(l m:List (List UInt8×Int)),Di n (l++m)=match Di n l with|some k=>some k|none=>Di n m
 |[],m=>rfl
 |x::l,m=>by
  rw[List.cons_append,Di,Di]
  split
  ·rfl
  exact Oi n l m
theorem Yj {n:List UInt8}{o:List UInt8×Int}(h:(o.1==n)=false)(l:List (List UInt8×Int)):Di n ([o]++l++[o])=Di n l:=by
 have e:Di n [o]=none:=by
  rw[Di,Ao (by rw[h];decide)];rfl
 rw[List.append_assoc,Oi,e];simp only;rw[Oi,e];cases Di n l<;>rfl
theorem Mb {n:List UInt8}:∀(l:List (List UInt8×Int)),Di n (l.filter fun x=>x.1 !=n)=none
 |[]=>rfl
 |x::l=>by
  by_cases h:(x.1==n)=true
  ·rw[List.filter_cons_of_neg (by simp only[bne,h];decide)];exact Mb l
  have h':(x.1==n)=false:=by simpa using h
  rw[List.filter_cons_of_pos (by simp only[bne,h'];decide),Di,Ao h];exact Mb l
theorem Mh {n g:List UInt8}(hg:n≠g):∀(l:List (List UInt8×Int)),Di n (l.filter fun x=>x.1 !=g)=Di n l
 |[]=>rfl
 |x::l=>by
  by_cases h:(x.1==g)=true
  ·rw[List.filter_cons_of_neg (by simp only[bne,h];decide),Di,Ao (fun e=>hg (by rw[←eq_of_beq e];exact eq_of_beq h)),Mh hg l]
  have h':(x.1==g)=false:=by simpa using h
  rw[List.filter_cons_of_pos (by simp only[bne,h'];decide),Di,Di,Mh hg l]
theorem Rb {v1 v2:List (List UInt8×Int)}{self:Int}{ks:List Int}{x:Nz}(h:x.kids=[]->x.h.op=2->Di x.h.name v1=Di x.h.name v2):F0 v1 self ks x=F0 v2 self ks x:=by
 unfold F0
 split
 ·rename_i hk
  unfold Lu
  split
  ·rfl
  split
  ·rename_i h2
   rw[h hk h2]
  rfl
 rfl
theorem Vo {v1 v2:List (List UInt8×Int)}{self:Int}:∀{l:List Nz} (ks:List Int),(∀x∈l,x.h.op=2->Di x.h.name v1=Di x.h.name v2)->ofE v1 self l ks=ofE v2 self l ks
 |[],_,_=>rfl
 |x::l,ks,h=>by
  unfold ofE;rw[Rb (v1:=v1) (v2:=v2) fun _ h2=>h x (.head _) h2]
  split
  ·exact Vo _ fun y hy=>h y (.tail _ hy)
  rfl
theorem Pc:∀{l:List Nz} {L:List (List UInt8)} {n:List UInt8},n∈Dp l L↔n∈L\/∃x∈l,x.h.op=2/\x.h.name=n
 |[],L,n=>by simp [Dp]
 |x::l,L,n=>by
  rw[Dp,Pc];by_cases h2:x.h.op=2
  ·cases hp:L.any fun y=>x.h.name==y with
   |true=>
    rw[Ao nW];obtain⟨y,hy,e⟩:=List.any_eq_true.1 hp;have e:=eq_of_beq e;subst e;constructor
    ·rintro (h|⟨z,hz,h⟩)
     ·exact .inl h
     exact .inr ⟨z,.tail _ hz,h⟩
    rintro (h|⟨z,hz,h⟩)
    ·exact .inl h
    rcases List.mem_cons.1 hz with rfl|hz
    ·exact .inl (h.2▸hy)
    exact .inr ⟨z,hz,h⟩
   |false=>
    rw[Ap (by simp [h2])];constructor
    ·rintro (h|⟨z,hz,h⟩)
     ·rcases List.mem_append.1 h with h|h
      ·exact .inl h
      simp only[List.mem_singleton] at h;exact .inr ⟨x,.head _,h2,h.symm⟩
     exact .inr ⟨z,.tail _ hz,h⟩
    rintro (h|⟨z,hz,h⟩)
    ·exact .inl (List.mem_append_left _ h)
    rcases List.mem_cons.1 hz with rfl|hz
    ·exact .inl (List.mem_append_right _ (by simp [h.2]))
    exact .inr ⟨z,hz,h⟩
  have:(x.h.op==2)=false:=Af.2 h2
  rw[this,Ao nW];constructor
  ·rintro (h|⟨z,hz,h⟩)
   ·exact .inl h
   exact .inr ⟨z,.tail _ hz,h⟩
  rintro (h|⟨z,hz,h⟩)
  ·exact .inl h
  rcases List.mem_cons.1 hz with rfl|hz
  ·exact absurd h.1 h2
  exact .inr ⟨z,hz,h⟩
theorem iN {vars:List (List UInt8×Int)}{self:Int}{o:List UInt8×Int}{l:List Nz}(h:∀n∈Ip l,(o.1==n)=false):ofP ([o]++vars++[o]) self l=ofP vars self l:=by
 unfold ofP;unfold Ip at h;cases ht:Fg l with
 |none=>rfl
 |some t=>
  rw[ht] at h;simp only at h ⊢;rw[Vo (v1:=[o]++vars++[o]) (v2:=vars) [] fun x hx h2=>Yj (h _ (Pc.2 (.inr ⟨x,hx,h2,rfl⟩))) vars]
theorem Q5.var {l:List Nz}(hg:Q5 l){x:Nz}(hx:x∈l)(h2:x.h.op=2):x.kids=[]:=by
 obtain⟨i,hi,rfl⟩:=List.getElem_of_mem hx;have h3:=(hg.few i hi).2;rw[h2] at h3;exact List.eq_nil_of_length_eq_zero (Nat.le_zero.1 h3)
theorem U3 {vars:List (List UInt8×Int)}{self:Int}{g:List UInt8}:∀{l:List Nz} {ks r:List Int},ofE vars self l ks= .ok r->(∀x∈l,x.h.op=2->x.kids=[])->(∃x∈l,x.h.op=2/\x.h.name=g)->∃p,ofE (vars.filter fun x=>x.1 !=g) self l ks= .error (p,11)
 |[],_,_,_,_,⟨x,hx,_⟩=>by cases hx
 |y::l,ks,r,h,hk,hx=>by
  by_cases hy:y.h.op=2/\y.h.name=g
  ·have hz:F0 (vars.filter fun x=>x.1 !=g) self ks y=(0,11):=by
    unfold F0;rw[Ap (hk y (.head _) hy.1)];unfold Lu;rw[Ao nU,Ap hy.1,hy.2,Mb]
   refine⟨(y.h.line,y.h.col),?_⟩;unfold ofE;rw[hz,Ao nV]
  have hz:F0 (vars.filter fun x=>x.1 !=g) self ks y=F0 vars self ks y:=Rb fun _ h2=>Mh (fun e=>hy ⟨h2,e⟩) vars
  unfold ofE at h ⊢;rw[hz]
  split at h
  ·rename_i h0
   rw[Ap h0];refine U3 h (fun x hx=>hk x (.tail _ hx)) ?_;obtain⟨x,hx,h2⟩:=hx;rcases List.mem_cons.1 hx with rfl|hx
   ·exact absurd h2 hy
   exact⟨x,hx,h2⟩
  cases h
theorem gV {vars:List (List UInt8×Int)}{self:Int}{g:List UInt8}{l:List Nz}(h0:(ofP vars self l).2.2=0)(hg:g∈Ip l):(ofP (vars.filter fun x=>x.1 !=g) self l).2.2=11:=by
 unfold ofP at h0 ⊢;unfold Ip at hg;cases ht:Fg l with
 |none=>rw[ht] at hg;cases hg
 |some t=>
  rw[ht] at h0 hg;simp only at h0 hg ⊢;cases he:ofE vars self l [] with
  |error p=>
   rw[he] at h0;exact absurd h0 (aP he)
  |ok ks=>
   obtain⟨p,hp⟩:=U3 he (fun x hx h2=>(Kn ht).var hx h2) (by
    rcases Pc.1 hg with h|h
    ·cases h
    exact h)
   rw[hp]
theorem iY {vars:List (List UInt8×Int)}{self:Int}{l:List Nz}(h:(ofP vars self l).2.2≠0):(ofP vars self l).1=0:=by
 unfold ofP at h ⊢;cases ht:Fg l with
 |none=>rfl
 |some t=>
  rw[ht] at h;simp only at h ⊢;cases he:ofE vars self l [] with
  |error p=>rfl
  |ok ks=>
   rw[he] at h;exact absurd rfl h
theorem Z2:∀{l:List Int} {k:Int},k<=2->Gm k l<=2\/Gm k l=255
 |[],k,h=> .inl h
 |x::l,k,h=>by
  unfold Gm
  split
  ·exact .inr rfl
  exact Z2 nU
theorem iT {op:Int}{ks:List Int}(h5:∀x∈ks,x<=5):J9 op ks<=5\/J9 op ks=255:=by
 have hg:∀i,ks.getD i 0<=5:=fun i=>by
  rw[List.getD_eq_getElem?_getD];cases e:ks[i]? with
  |none=>show(0:Int)<=5;decide
  |some x=>exact h5 x (List.mem_of_getElem? e)
 unfold J9;cases hc:Ii op with
 |some c=>
  simp only
  split
  ·left;unfold Ii at hc
   repeat' split at hc
   all_goals first|(cases hc;done)|(injection hc with hc;subst hc;decide)
  exact .inr rfl
 |none=>
  simp only;have g1:=hg 1;have g2:=hg 2
  split
  ·split
   ·exact .inl nV
   exact .inr rfl
  split
  ·split
   ·exact .inl nV
   exact .inr rfl
  split
  ·split
   ·exact .inl nU
   exact .inr rfl
  rcases Z2 (l:=ks) (k:=0) nV with h|h
  ·exact .inl nU
  exact .inr h
theorem gT {vars:List (List UInt8×Int)}{self:Int}{ks:List Int}{x:Nz}(hl:x.h.op=1->x.h.v.1<=5)(h5:∀y∈ks,y<=5)(h0:(F0 vars self ks x).2=0):(F0 vars self ks x).1<=5:=by
 have hs:∀k,(J0 k).2=0->(J0 k).1<=5:=fun k h=>by
  unfold J0 at h ⊢
  split
  ·decide
  simp only;omega
 unfold F0 at h0 ⊢
 split
 ·rename_i hk
  rw[Ap hk] at h0;unfold Lu at h0 ⊢
  split
  ·rename_i h1
   exact hl h1
  rename_i h1
  rw[Ao h1] at h0
  split
  ·rename_i h2
   rw[Ap h2] at h0;cases e:Di x.h.name vars with
   |none=>simp only;decide
   |some k=>
    rw[e] at h0;exact hs k h0
  rename_i h2
  rw[Ao h2] at h0
  split
  ·decide
  rename_i h3
  rw[Ao h3] at h0;exact hs self h0
 rename_i hk
 rw[Ao hk] at h0
 split
 ·decide
 rename_i h2
 rcases iT (op:=x.h.op) (ks:=x.kids.map fun j=>ks.getD j.toNat 0) (fun y hy=>by
  obtain⟨j,_,rfl⟩:=List.mem_map.1 hy;rw[List.getD_eq_getElem?_getD];cases e:ks[j.toNat]? with
  |none=>show(0:Int)<=5;decide
  |some z=>exact h5 z (List.mem_of_getElem? e)) with h|h
 ·exact h
 exact absurd h h2
theorem fL {vars:List (List UInt8×Int)}{self:Int}:∀{l:List Nz} {ks r:List Int},ofE vars self l ks= .ok r->(∀x∈l,x.h.op=1->x.h.v.1<=5)->(∀y∈ks,y<=5)->∀y∈r,y<=5
 |[],ks,r,h,_,h5=>by
  injection h with h;subst h;exact h5
 |x::l,ks,r,h,hl,h5=>by
  unfold ofE at h
  split at h
  ·rename_i h0
   refine fL h (fun y hy=>hl y (.tail _ hy)) fun y hy=>?_
   rcases List.mem_append.1 hy with hy|hy
   ·exact h5 y hy
   simp only[List.mem_singleton] at hy;subst hy;exact gT (hl x (.head _)) h5 h0
  cases h
theorem mJ {vars:List (List UInt8×Int)}{self:Int}{l:List Nz}:(ofP vars self l).1<=5:=by
 unfold ofP;cases ht:Fg l with
 |none=>show(0:Int)<=5;decide
 |some t=>
  have hg:=Kn ht;simp only;cases he:ofE vars self l [] with
  |error p=>show(0:Int)<=5;decide
  |ok ks=>
   have hks:=fL he (fun x hx h1=>by
    obtain⟨i,hi,rfl⟩:=List.getElem_of_mem hx
    exact(hg.lit i hi h1).2) (fun y hy=>by cases hy)
   show ks.getLastD 0<=5;rw[List.getLastD_eq_getLast?];cases e:ks.getLast? with
   |none=>show(0:Int)<=5;decide
   |some z=>exact hks z (List.mem_of_getLast? e)
end Go.Proofs.YtgfakdobajgnfaaGreatDoor
