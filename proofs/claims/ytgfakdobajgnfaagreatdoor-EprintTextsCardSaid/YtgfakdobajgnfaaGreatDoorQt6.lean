import Derived.Test.YtgfakdobajgnfaaGreatDoorQt4
set_option maxRecDepth 100000
set_option maxHeartbeats 16000000
namespace Go.Proofs.YtgfakdobajgnfaaGreatDoor
open Go Go.RowKit Go.Lib Go.Sort Go.Shelf
theorem lO (c:UInt8):Dx c=(decide (97<=(c.toNat:Int)) && decide ((c.toNat:Int)<=122)):=by
 unfold Dx;congr 1
 ·exact decide_eq_decide.2 qO
 exact decide_eq_decide.2 qO
theorem gT (c:UInt8):Bc c=(decide (48<=(c.toNat:Int)) && decide ((c.toNat:Int)<=57)):=by
 unfold Bc;congr 1
 ·exact decide_eq_decide.2 qO
 exact decide_eq_decide.2 qO
theorem Oc (c:UInt8)(w:World):Calls Tryz.prog 142 #[.int .u8 (c.toNat:Int)] w fun e w'=>e= .returned (.bool (Dx c))/\w=w':=by
 rw[lO];obtain⟨p,hp⟩:∃p,decide (97<=(c.toNat:Int))=p:=⟨_,rfl⟩;obtain⟨q,hq⟩:∃q,decide ((c.toNat:Int)<=122)=q:=⟨_,rfl⟩;cases p<;>cases q
 all_goals
  go_enter Tryz.func142,Tryz.ntmps142
  go_wp2
  go_ret;exact⟨by simp [hp,hq],rfl⟩
theorem Kr (c:UInt8)(w:World):Calls Tryz.prog 144 #[.int .u8 (c.toNat:Int)] w fun e w'=>e= .returned (.bool (Bc c))/\w=w':=by
 rw[gT];obtain⟨p,hp⟩:∃p,decide (48<=(c.toNat:Int))=p:=⟨_,rfl⟩;obtain⟨q,hq⟩:∃q,decide ((c.toNat:Int)<=57)=q:=⟨_,rfl⟩;cases p<;>cases q
 all_goals
  go_enter Tryz.func144,Tryz.ntmps144
  go_wp2
  go_ret;exact⟨by simp [hp,hq],rfl⟩
def Cn (c:UInt8):Bool:=Dx c||Bc c
theorem U6 (c:UInt8)(w:World):Calls Tryz.prog 143 #[.int .u8 (c.toNat:Int)] w fun e w'=>e= .returned (.bool (Cn c))/\w=w':=by
 unfold Cn;have h1:=Oc c w;have h2:=Kr c w;obtain⟨p,hp⟩:∃p,Dx c=p:=⟨_,rfl⟩;obtain⟨q,hq⟩:∃q,Bc c=q:=⟨_,rfl⟩;rw[hp] at h1 ⊢;rw[hq] at h2 ⊢;have H1:=Ax h1;have H2:=Ax h2;clear h1 h2 hp hq;cases p
 ·go_enter Tryz.func143,Tryz.ntmps143;go_wp2_with fail;refine H1.out.mono ?_;rintro e w' ⟨rfl,rfl⟩;go_wp2_with fail;refine H2.out.mono ?_;rintro e w' ⟨rfl,rfl⟩
  go_wp2
  go_ret;exact⟨by simp,rfl⟩
 go_enter Tryz.func143,Tryz.ntmps143;go_wp2_with fail;refine H1.out.mono ?_;rintro e w' ⟨rfl,rfl⟩
 go_wp2
 go_ret;exact⟨by simp,rfl⟩
theorem gO (c:UInt8)(w:World):Calls Tryz.prog 140 #[.int .u8 (c.toNat:Int)] w fun e w'=>e= .returned (.bool (c !=10))/\w=w':=by
 have h:(c !=10)=((c.toNat:Int) !=10):=by
  by_cases e:c=10
  ·subst e;rfl
  have h1:(c !=10)=true:=by simpa using e
  have h2:c.toNat≠10:=fun q=>e (UInt8.toNat_inj.1 q)
  have h3:((c.toNat:Int) !=10)=true:=by simp;omega
  rw[h1,h3]
 rw[h];go_enter Tryz.func140,Tryz.ntmps140
 go_wp2
 go_ret;exact⟨by simp,rfl⟩
theorem Uk (s:ByteArray)(fn:Nat)(caps:Array Value)(p:Nat->Bool)(I:Nat->World->Prop)(eg:∀args w,(callFunc fn args).run Tryz.prog w= .ok (.enter fn args) w)
 (hs:s.size<=9223372036854775806) (a n:Nat) (w:World) (han:a<=n) (hn:n<=s.size) (hlt:∀i,a<=i->i<n->p i=true) (hend:n<s.size->p n=false)
 (hI:I a w) (hstep:∀i V (h:i<s.size),a<=i->I i V->Calls Tryz.prog fn (#[.int .u8 (s[i].toNat:Int)]++caps) V fun e V'=>e= .returned (.bool (p i))/\I (i+1) V'):
 Calls Tryz.prog 139 #[.string s,.int .i64 a,.func (.func fn) #[] caps] w fun e w'=>e= .returned (.int .i64 ((n:Int) - (a:Int)))/\∃k,I k w':=by
 have Hlt:=Ax hlt;have Hend:=Ax hend;have Hst:=Ax hstep;have HI:=Ax hI;clear hlt hend hstep hI;go_enter Tryz.func139,Tryz.ntmps139
 go_wp2
 go_loopw [7] (fun v7 wr=>∃i:Nat,a<=i/\i<=n/\v7= .int .i64 i/\Hid (I i wr)) (fun v7 _=>n - (intOf v7).toNat)
 case atStart=>exact⟨a,Ak _,han,rfl,HI.out⟩
 obtain⟨i,hai,hin,rfl,hq⟩:=hrel;by_cases hi:i<s.size
 ·have hc:=Hst.out i wr hi hai hq.out;have j1:(i:Int)<(s.size:Int):=by omega
  have j0:(0:Int)<=(i:Int):=by omega
  by_cases hlt:i<n
  ·rw[Hlt.out i hai hlt] at hc;have Hc:=Ax hc;clear hc hq;go_wp2_with fail;refine Hc.out.mono ?_;rintro e V ⟨rfl,hV⟩;have HV:=Ax hV;clear hV Hc
   go_wp2
   go_roundw
   case rel=>exact⟨i+1,by omega,by omega,by go_num,HV.out⟩
   case measure=>simp [intOf];omega
  obtain rfl:i=n:=by omega
  rw[Hend.out hi] at hc;have Hc:=Ax hc;clear hc hq;go_wp2_with fail;refine Hc.out.mono ?_;rintro e V ⟨rfl,hV⟩;have HV:=Ax hV;clear hV Hc
  go_wp2
  go_ret;exact⟨rfl,_,HV.out⟩
 obtain rfl:i=n:=by omega
 have j1:¬(i:Int)<(s.size:Int):=by omega
 go_wp2
 go_ret;exact⟨rfl,_,hq.out⟩
def A7 (q:UInt8->Bool)(l:List UInt8):Nat:=(l.takeWhile q).length
theorem C2 (q:UInt8->Bool)(l:List UInt8):A7 q l<=l.length:=by
 unfold A7
 have:=Ar List.length (List.takeWhile_append_dropWhile (p:=q) (l:=l))
 rw[Ab] at this;omega
theorem Wx (q:UInt8->Bool):∀(l:List UInt8) (i:Nat),i<A7 q l->∃c,l[i]? =some c/\q c=true
 |[],i,h=>by simp [A7] at h
 |c::l,i,h=>by
  unfold A7 at h;rw[List.takeWhile_cons] at h;by_cases hc:q c=true
  ·rw[Ap hc] at h;cases i with
   |zero=>exact⟨c,rfl,hc⟩
   |succ i=>
    obtain⟨d,h1,h2⟩:=Wx q l i (by simpa[A7] using h);exact⟨d,h1,h2⟩
  rw[Ao hc] at h;simp at h
theorem Ul (q:UInt8->Bool):∀(l:List UInt8),A7 q l<l.length->∃c,l[A7 q l]? =some c/\q c=false
 |[],h=>by simp [A7] at h
 |c::l,h=>by
  unfold A7 at h ⊢;rw[List.takeWhile_cons] at h ⊢;by_cases hc:q c=true
  ·rw[Ap hc] at h ⊢;obtain⟨d,h1,h2⟩:=Ul q l (by simpa[A7] using h);exact⟨d,by simpa[A7] using h1,h2⟩
  rw[Ao hc];exact⟨c,rfl,by simpa using hc⟩
theorem Ja (s:ByteArray)(fn:Nat)(q:UInt8->Bool)(eg:∀args w,(callFunc fn args).run Tryz.prog w= .ok (.enter fn args) w)(hs:s.size<=9223372036854775806)(a:Nat)(w:World)(ha:a<=s.size)
 (hq:∀(c:UInt8) (V:World),Calls Tryz.prog fn #[.int .u8 (c.toNat:Int)] V fun e V'=>e= .returned (.bool (q c))/\V=V'):
 Calls Tryz.prog 139 #[.string s,.int .i64 a,.func (.func fn) #[] #[]] w fun e w'=>e= .returned (.int .i64 (A7 q ((dl s).drop a):Nat))/\w=w':=by
 have hle:=C2 q ((dl s).drop a);rw[List.length_drop,A5] at hle;have hget:∀i (h:i<s.size),(dl s)[i]? =some s[i]:=fun i h=>Gq h
 refine(Uk s fn #[] (fun i=>((dl s)[i]?.map q).getD false) (fun _ V=>w=V) eg hs a (a+A7 q ((dl s).drop a)) w qO qO (fun i h1 h2=>?_) (fun h=>?_) rfl (fun i V h _ hV=>?_)).mono ?_
 ·obtain⟨c,h3,h4⟩:=Wx q ((dl s).drop a) (i - a) qO;rw[List.getElem?_drop,show a+(i - a)=i by omega] at h3;simp [h3,h4]
 ·obtain⟨c,h3,h4⟩:=Ul q ((dl s).drop a) sY;rw[List.getElem?_drop] at h3;simp [h3,h4]
 ·refine(hq s[i] V).mono ?_;rintro e V' ⟨rfl,rfl⟩;exact⟨by rw[hget i h];rfl,hV⟩
 rintro e w' ⟨rfl,k,hk⟩;exact⟨by congr 2;omega,hk⟩
open Go Go.Lib
def Br (l:List UInt8):Nat:=
 match l.drop (A7 Bc l) with
 |46::c::r=>if Bc c then A7 Bc l+(1+A7 Bc (c::r)) else A7 Bc l
 |_=>A7 Bc l
def Lv (l:List UInt8):Except Int (Wd×Nat):=
 match D0 (l.take (Br l)) with
 | .ok v=> .ok (⟨4,l.take (Br l),v⟩,Br l)
 | .error e=> .error (if e=9 then 9 else 4)
def Ba:Bool->List UInt8->Nat
 |_,[]=>0
 |esc,c::r=>if(c==34 && !esc)||!El c then 0 else 1+Ba (c==92 && !esc) r
def S0 (l:List UInt8):Except Int (Wd×Nat):=
 if(l.drop (1+Ba false l.tail)).head? =some 34 then
  match D0 (l.take (Ba false l.tail+2)) with
  | .ok v=> .ok (⟨5,l.tail.take (Ba false l.tail),v⟩,Ba false l.tail+2)
  | .error _=> .error 4
 else .error 4
def F4:List (List UInt8):=[[60,61],[62,61],[60,62],[46,46]]
def Lz:List UInt8:=[40,41,91,93,44,58,61,60,62,43,45,42,47]
def Fj (l:List UInt8):Except Int (Wd×Nat):=
 if l.take 2∈F4 then .ok (⟨7,l.take 2,v0⟩,2) else if l.take 1∈Lz.map fun c=>[c] then .ok (⟨7,l.take 1,v0⟩,1) else .error 4
def C0 (w:Wd)(n:Nat):Except Int (Wd×Nat):=if 12<w.t.length then .error 4 else .ok (w,n)
def D6 (l:List UInt8):Bool:=match l with
 |_::c::_=>Dx c
 |_=>false
def Bq (l:List UInt8):Except Int (Wd×Nat):=
 match l with
 |[]=> .error 4
 |c::r=>
  if Dx c then C0 ⟨1,l.take (A7 Cn l),v0⟩ (A7 Cn l)
  else if Bc c then Lv l
  else if c=34 then S0 l
  else if c=63 then(if D6 l then C0 ⟨2,r.take (A7 Cn r),v0⟩ (1+A7 Cn r) else .ok (⟨3,[],v0⟩,1))
  else if c=35/\D6 l=true then C0 ⟨6,r.take (A7 Cn r),(5,0,r.take (A7 Cn r))⟩ (1+A7 Cn r)
  else Fj l
def J1:Nat->List UInt8->Int->Int->Except (Int×Int×Int) (List Tkn)
 |0,_,_,_=> .ok []
 |f+1,l,line,col=>
  match l with
  |[]=> .ok []
  |c::r=>
   if c=10 then J1 f r (line+1) 1
   else if c=59 then J1 f (l.drop (A7 (fun c=>c !=10) l)) line (col+A7 (fun c=>c !=10) l)
   else if c=32 then J1 f r line (col+1)
   else match Bq l with
    | .error e=> .error (line,col,e)
    | .ok (w,n)=>match J1 f (l.drop n) line (col+n) with
      | .error e=> .error e
      | .ok ts=> .ok (⟨w,line,col⟩::ts)
def Fu (l:List UInt8):Except (Int×Int×Int) (List Tkn):=J1 l.length l 1 1
theorem Di {q:UInt8->Bool}{c:UInt8}{r:List UInt8}(h:q c=true):A7 q (c::r)=1+A7 q r:=by
 unfold A7;rw[List.takeWhile_cons,Ap h,Aa];omega
theorem N2:∀(b:Bool) (l:List UInt8),Ba b l<=l.length
 |_,[]=>Ak _
 |b,c::r=>by
  unfold Ba
  split
  ·omega
  have:=N2 (c==92 && !b) r
  rw[Aa];omega
theorem Ny {c:UInt8}{r:List UInt8}(h:Bc c=true):1<=Br (c::r)/\Br (c::r)<=(c::r).length:=by
 have h1:=Di (q:=Bc) (r:=r) h;have h2:=C2 Bc (c::r);unfold Br
 split
 ·rename_i d q e
  have h3:=Ar List.length e;rw[List.length_drop] at h3;simp only[Aa] at h3 h2 ⊢;have h4:=C2 Bc (d::q);simp only[Aa] at h4
  split<;>omega
 omega
theorem E4 {l:List UInt8}{w:Wd}{n:Nat}(h:Bq l= .ok (w,n)):1<=n/\n<=l.length:=by
 unfold Bq at h;cases l with
 |nil=>cases h
 |cons c r=>
  simp only at h
  have hsh:∀{w':Wd} {m:Nat},C0 w' m= .ok (w,n)->m=n:=fun{w' m} hh=>by
   unfold C0 at hh
   split at hh
   ·cases hh
   injection hh with hh;exact Ar Prod.snd hh
  by_cases h1:Dx c=true
  ·rw[Ap h1] at h
   have:=hsh h
   have h2:=Di (q:=Cn) (r:=r) (show Cn c=true by unfold Cn;rw[h1];rfl);have h3:=C2 Cn (c::r);omega
  rw[Ao h1] at h;by_cases h2:Bc c=true
  ·rw[Ap h2] at h;unfold Lv at h
   split at h
   ·injection h with h
    have:=Ar Prod.snd h
    have h3:=Ny (r:=r) h2;simp only at this;omega
   cases h
  rw[Ao h2] at h;by_cases h3:c=34
  ·rw[Ap h3] at h;unfold S0 at h
   split at h
   ·rename_i hq
    split at h
    ·injection h with h
     have:=Ar Prod.snd h
     simp only[List.tail_cons] at this hq
     have h5:(1+Ba false r)<(c::r).length:=by
      rw[List.head?_drop] at hq;exact(List.getElem?_eq_some_iff.1 hq).1
     omega
    cases h
   cases h
  rw[Ao h3] at h;have hr:=C2 Cn r;by_cases h4:c=63
  ·rw[Ap h4] at h
   split at h
   ·have:=hsh h
    rw[Aa];omega
   injection h with h
   have:=Ar Prod.snd h
   simp only at this;rw[Aa];omega
  rw[Ao h4] at h;by_cases h5:c=35/\D6 (c::r)=true
  ·rw[Ap h5] at h
   have:=hsh h
   rw[Aa];omega
  rw[Ao h5] at h;unfold Fj at h
  split at h
  ·rename_i hm
   injection h with h
   have:=Ar Prod.snd h
   simp only at this
   have h6:((c::r).take 2).length=2:=by
    have:∀x∈F4,x.length=2:=by decide
    exact this _ hm
   rw[List.length_take] at h6;omega
  split at h
  ·injection h with h
   have:=Ar Prod.snd h
   simp only at this;rw[Aa];omega
  cases h
open Go Go.Lib
theorem Kx {q:UInt8->Bool}:∀(a r:List UInt8),(∀c∈a,q c=true)->(∀c,r.head? =some c->q c=false)->A7 q (a++r)=a.length
 |[],r,_,hr=>by
  cases r with
  |nil=>rfl
  |cons c r=>
   have:=hr c rfl
   unfold A7;rw[List.nil_append,List.takeWhile_cons,Ao (by simp [this])]
 |c::a,r,ha,hr=>by
  rw[List.cons_append,Di (ha c Ai),Kx a r (fun d hd=>ha d (Aj _ hd)) hr,Aa];omega
theorem Ft {q:UInt8->Bool}:∀(l:List UInt8),∀c∈l.take (A7 q l),q c=true
 |[],c,h=>by simp at h
 |d::l,c,h=>by
  by_cases hd:q d=true
  ·rw[Di hd,Nat.add_comm,List.take_succ_cons,List.mem_cons] at h;rcases h with rfl|h
   ·exact hd
   exact Ft l c h
  have:A7 q (d::l)=0:=by
   unfold A7;rw[List.takeWhile_cons,Ao hd];rfl
  rw[this] at h;simp at h
theorem La {q:UInt8->Bool}(l r:List UInt8)(hr:∀c,r.head? =some c->q c=false):A7 q (l.take (A7 q l)++r)=A7 q l:=by
 rw[Kx _ _ (Ft l) hr,List.length_take]
 have:=C2 q l
 omega
theorem Ob {q:UInt8->Bool}:∀(l:List UInt8) (m:Nat),A7 q l<=m->A7 q (l.take m)=A7 q l
 |[],m,_=>by simp
 |d::l,m,h=>by
  by_cases hd:q d=true
  ·rw[Di hd] at h ⊢;cases m with
   |zero=>omega
   |succ m=>
    rw[List.take_succ_cons,Di hd,Ob l m qO]
  have e:∀r,A7 q (d::r)=0:=fun r=>by
   unfold A7;rw[List.takeWhile_cons,Ao hd];rfl
  rw[e];cases m with
  |zero=>rfl
  |succ m=>rw[List.take_succ_cons,e]
theorem K4 {q:UInt8->Bool}:∀(l r:List UInt8),(∀c,r.head? =some c->q c=false)->A7 q (l++r)=A7 q l
 |[],r,hr=>Kx [] r qQ hr
 |d::l,r,hr=>by
  by_cases hd:q d=true
  ·rw[List.cons_append,Di hd,Di hd,K4 l r hr]
  have e:∀r,A7 q (d::r)=0:=fun r=>by
   unfold A7;rw[List.takeWhile_cons,Ao hd];rfl
  rw[List.cons_append,e,e]
open Go Go.Lib
def Yc (r:List UInt8):Prop:=∀c,r.head? =some c->c=10\/c=32
theorem Yc.dig {r:List UInt8}(h:Yc r):∀c,r.head? =some c->Bc c=false:=fun c hc=>by
 rcases h c hc with rfl|rfl<;>rfl
theorem Yc.nam {r:List UInt8}(h:Yc r):∀c,r.head? =some c->Cn c=false:=fun c hc=>by
 rcases h c hc with rfl|rfl<;>rfl
theorem B7 (b:Bool)(c:UInt8)(q:List UInt8):Ba b (c::q)=if((c==34 && !b)||!El c)=true then 0 else 1+Ba (c==92 && !b) q:=by
 conv=>lhs;unfold Ba
theorem Kf:∀(b:Bool) (l r:List UInt8),Ba b l<l.length->Ba b (l.take (Ba b l+1)++r)=Ba b l
 |b,[],r,h=>by simp [Ba] at h
 |b,c::q,r,h=>by
  have e:=B7 b c q;by_cases hc:((c==34 && !b)||!El c)=true
  ·rw[Ap hc] at e;rw[e,List.take_succ_cons,List.cons_append,B7,Ap hc]
  rw[Ao hc] at e;rw[e] at h ⊢
  rw[show 1+Ba (c==92 && !b) q+1=(Ba (c==92 && !b) q+1)+1 by omega,List.take_succ_cons,List.cons_append,B7,Ao hc,
   Kf _ q r (by rw[Aa] at h;omega)]
theorem iB (A B:List UInt8)(k:Nat):(A++B).take (A.length+k)=A++B.take k:=by
 rw[List.take_append,List.take_of_length_le qO,show A.length+k - A.length=k by omega]
theorem Vf (l r:List UInt8)(hs:Yc r):Br (l.take (Br l)++r)=Br l:=by
 have hle:=C2 Bc l;have hmem:=Ft (q:=Bc) l
 have hplain:Br l=A7 Bc l->Br (l.take (Br l)++r)=Br l:=fun e=>by
  rw[e];have h1:=La (q:=Bc) l r hs.dig
  have h2:(l.take (A7 Bc l)++r).drop (A7 Bc l)=r:=by
   rw[List.drop_append_of_le_length rS,List.drop_of_length_le rS,List.nil_append]
  unfold Br;rw[h1,h2]
  split
  ·rename_i c q
   have:=hs 46 rfl
   simp at this
  rfl
 cases hd:l.drop (A7 Bc l) with
 |nil=>exact hplain (by unfold Br;rw[hd])
 |cons a l1=>
  cases l1 with
  |nil=>exact hplain (by unfold Br;rw[hd];split<;>first|rfl|simp_all)
  |cons c q=>
   by_cases ha:a=46/\Bc c=true
   ·obtain⟨rfl,hc⟩:=ha
    have hn:Br l=A7 Bc l+(1+A7 Bc (c::q)):=by
     unfold Br;rw[hd];simp [hc]
    have hk:=Di (q:=Bc) (r:=q) hc;have hkl:=C2 Bc (c::q);have hl:l=l.take (A7 Bc l)++46::c::q:=by rw[←hd,List.take_append_drop]
    have hla:(l.take (A7 Bc l)).length=A7 Bc l:=by rw[List.length_take];omega
    have ht:l.take (Br l)=l.take (A7 Bc l)++46::(c::q).take (A7 Bc (c::q)):=by
     have h0:=iB (l.take (A7 Bc l)) (46::c::q) (1+A7 Bc (c::q));rw[←hl,hla,←hn] at h0;rw[h0,Nat.add_comm 1,List.take_succ_cons]
    have h1:A7 Bc (l.take (Br l)++r)=A7 Bc l:=by
     rw[ht,List.append_assoc,Kx _ _ hmem (by intro d hd;simp at hd;subst hd;rfl),List.length_take];omega
    have h2:(l.take (Br l)++r).drop (A7 Bc l)=46::((c::q).take (A7 Bc (c::q))++r):=by
     rw[ht,List.append_assoc,List.drop_append_of_le_length rS,List.drop_of_length_le rS];rfl
    have h3:(c::q).take (A7 Bc (c::q))++r=c::(q.take (A7 Bc q)++r):=by
     rw[hk,Nat.add_comm,List.take_succ_cons];rfl
    have h4:=La (q:=Bc) (c::q) r hs.dig;rw[h3] at h2 h4;rw[hn]
    conv=>lhs;unfold Br
    rw[←hn,h1,h2];simp only[hc,if_true,h4];omega
   refine hplain ?_;unfold Br;rw[hd];exact zwn
theorem Gc (c:UInt8)(q:List UInt8):S0 (c::q)=if((c::q).drop (1+Ba false q)).head? =some 34 then
 match D0 ((c::q).take (Ba false q+2)) with
 | .ok v=> .ok (⟨5,q.take (Ba false q),v⟩,Ba false q+2)
 | .error _=> .error 4
 else .error 4:=rfl
theorem Sr {l r:List UInt8}{n:Nat}(h:n<=l.length):(l.take n++r).take n=l.take n:=by
 rw[List.take_append_of_le_length rS,List.take_take,Nat.min_self]
theorem I3 {w w':Wd}{m n:Nat}(h:C0 w' m= .ok (w,n)):m=n/\w'=w/\C0 w' m= .ok (w',m):=by
 unfold C0 at h ⊢
 split at h
 ·cases h
 rename_i hn
 injection h with h;simp only[Prod.mk.injEq] at h;exact⟨h.2,h.1,by rw[Ao hn]⟩
theorem Y4 {l:List UInt8}{w:Wd}{n:Nat}(h:Bq l= .ok (w,n)){r:List UInt8}(hs:Yc r):Bq (l.take n++r)= .ok (w,n):=by
 obtain⟨hn1,hnl⟩:=E4 h;cases l with
 |nil=>cases h
 |cons c q=>
  obtain⟨m,rfl⟩:∃m,n=m+1:=⟨n - 1,by omega⟩;have hql:m<=q.length:=by rw[Aa] at hnl;omega
  have hL:(c::q).take (m+1)++r=c::(q.take m++r):=by rw[List.take_succ_cons];rfl
  have htk:=Sr (l:=c::q) (r:=r) (n:=m+1) hnl;have htq:=Sr (l:=q) (r:=r) (n:=m) hql;rw[hL] at htk ⊢;unfold Bq at h ⊢;simp only at h ⊢;by_cases h1:Dx c=true
  ·rw[Ap h1] at h ⊢;obtain⟨e1,e2,e3⟩:=I3 h;have hsp:=La (q:=Cn) (c::q) r hs.nam;rw[e1,hL] at hsp;rw[e1] at e2 e3;rw[hsp,htk,e3,e2]
  rw[Ao h1] at h ⊢;by_cases h2:Bc c=true
  ·rw[Ap h2] at h ⊢;unfold Lv at h ⊢;have hnl2:=Vf (c::q) r hs;cases hp:D0 ((c::q).take (Br (c::q))) with
   |error e=>rw[hp] at h;cases h
   |ok v=>
    rw[hp] at h;injection h with h;simp only[Prod.mk.injEq] at h;obtain⟨e1,e2⟩:=h;rw[e2] at hp e1 hnl2;rw[hL] at hnl2;rw[hnl2,htk,hp];simp only[e1]
  rw[Ao h2] at h ⊢;by_cases h3:c=34
  ·rw[Ap h3] at h ⊢;rw[Gc] at h ⊢;by_cases hq:((c::q).drop (1+Ba false q)).head? =some 34
   ·rw[Ap hq] at h;cases hp:D0 ((c::q).take (Ba false q+2)) with
    |error e=>rw[hp] at h;cases h
    |ok v=>
     rw[hp] at h;injection h with h;simp only[Prod.mk.injEq] at h;obtain⟨e1,e2⟩:=h;have hm:m=Ba false q+1:=by omega
     have hlt:Ba false q<q.length:=by omega
     have hag:=Kf false q r hlt;rw[←hm] at hag
     have hdr:((c::(q.take m++r)).drop (1+Ba false q)).head? =some 34:=by
      rw[Nat.add_comm,List.drop_succ_cons] at hq ⊢;rw[List.head?_drop] at hq ⊢;rw[List.getElem?_append_left rS,List.getElem?_take_of_lt qO];exact hq
     have htt:(q.take m++r).take (Ba false q)=q.take (Ba false q):=by
      rw[List.take_append_of_le_length rS,List.take_take,Nat.min_eq_left qO]
     rw[hag,Ap hdr,show Ba false q+2=m+1 by omega,htk,show m+1=Ba false q+2 by omega,hp];simp only[htt,e1]
   rw[Ao hq] at h;cases h
  rw[Ao h3] at h ⊢
  have hmk:D6 (c::q)=true->∀m',m'=A7 Cn q->D6 (c::(q.take m'++r))=true:=fun hm m' e=>by
   cases q with
   |nil=>cases hm
   |cons d q=>
    have hd:Cn d=true:=by unfold Cn;rw[show Dx d=true from hm];rfl
    rw[e,Di hd,Nat.add_comm,List.take_succ_cons];exact hm
  have hmn:D6 (c::r)=false:=by
   cases r with
   |nil=>rfl
   |cons d r=>
    rcases hs d rfl with rfl|rfl<;>rfl
  have hspq:=La (q:=Cn) q r hs.nam;by_cases h4:c=63
  ·rw[Ap h4] at h ⊢;by_cases hb:D6 (c::q)=true
   ·rw[Ap hb] at h;obtain⟨e1,e2,e3⟩:=I3 h;have hm:A7 Cn q=m:=by omega
    rw[Ap (hmk hb m hm.symm)];rw[hm] at hspq e2 e3;rw[hspq,htq,e3,e2,Nat.add_comm]
   rw[Ao hb] at h;injection h with h;simp only[Prod.mk.injEq] at h;obtain⟨e1,e2⟩:=h;have hm:m=0:=by omega
   subst hm;rw[List.take_zero,List.nil_append,Ao (by rw[hmn];simp),e1]
  rw[Ao h4] at h ⊢;by_cases h5:c=35/\D6 (c::q)=true
  ·rw[Ap h5] at h;obtain⟨e1,e2,e3⟩:=I3 h;have hm:A7 Cn q=m:=by omega
   rw[Ap ⟨h5.1,hmk h5.2 m hm.symm⟩];rw[hm] at hspq e2 e3;rw[hspq,htq,e3,e2,Nat.add_comm]
  rw[Ao h5] at h;unfold Fj at h;by_cases h6:(c::q).take 2∈F4
  ·rw[Ap h6] at h;injection h with h;simp only[Prod.mk.injEq] at h;obtain⟨e1,e2⟩:=h;have hm:m=1:=by omega
   subst hm
   have hc:c≠35:=by
    rintro rfl;cases q with
    |nil=>revert h6;decide
    |cons d q=>
     have:[(35:UInt8),d]∈F4:=h6
     unfold F4 at this;simp at this
   rw[Ao (fun hh=>hc hh.1)];unfold Fj;rw[htk,Ap h6,e1]
  rw[Ao h6] at h
  split at h
  ·rename_i h7
   injection h with h;simp only[Prod.mk.injEq] at h;obtain⟨e1,e2⟩:=h;have hm:m=0:=by omega
   subst hm
   have h8:¬(c::(q.take 0++r)).take 2∈F4:=by
    rw[List.take_zero,List.nil_append];cases r with
    |nil=>show ¬[c]∈F4;unfold F4;simp
    |cons d r=>
     show ¬[c,d]∈F4;unfold F4;rcases hs d rfl with rfl|rfl<;>simp
   rw[Ao (fun hh=>by rw[List.take_zero,List.nil_append,hmn] at hh;cases hh.2)];unfold Fj;rw[Ao h8];have h9:(c::(q.take 0++r)).take 1=(c::q).take 1:=rfl;rw[h9,Ap h7,e1]
  cases h
open Go Go.Lib
theorem Pp:∀(b:Bool) (l:List UInt8) (m:Nat),Ba b l<m->Ba b (l.take m)=Ba b l
 |b,[],m,_=>by simp
 |b,c::q,m,h=>by
  obtain⟨m,rfl⟩:∃k,m=k+1:=⟨m - 1,by omega⟩;rw[List.take_succ_cons,B7,B7];rw[B7] at h;by_cases hc:((c==34 && !b)||!El c)=true
  ·rw[Ap hc,Ap hc]
  rw[Ao hc] at h;rw[Ao hc,Ao hc,Pp _ q m qO]
def Cj (n:Nat)(x:List UInt8):Nat:=match x with
 |46::c::r=>if Bc c then n+(1+A7 Bc (c::r)) else n
 |_=>n
theorem Fm (l:List UInt8):Br l=Cj (A7 Bc l) (l.drop (A7 Bc l)):=rfl
theorem Z3 (n:Nat)(x:List UInt8):n<=Cj n x:=by
 unfold Cj
 split
 ·split<;>omega
 omega
theorem Vv (n m:Nat)(x:List UInt8)(h:Cj n x<=n+m):Cj n (x.take m)=Cj n x:=by
 match x with
 |[]=>simp
 |[a]=>
  have e:Cj n [a]=n:=by unfold Cj;split<;>simp_all
  cases m with
  |zero=>rw[e];rfl
  |succ m=>simp
 |a::c::q=>
  by_cases ha:a=46/\Bc c=true
  ·obtain⟨rfl,hc⟩:=ha;have e:∀y,Cj n (46::c::y)=n+(1+A7 Bc (c::y)):=fun y=>by unfold Cj;simp [hc]
   rw[e] at h;have hk:=Di (q:=Bc) (r:=q) hc;obtain⟨k,rfl⟩:∃k,m=k+2:=⟨m - 2,by omega⟩;have h3:=Ob (q:=Bc) (c::q) (k+1) qO;rw[List.take_succ_cons] at h3;rw[List.take_succ_cons,List.take_succ_cons,e,e,h3]
  have e1:∀y,Cj n (a::c::y)=n:=fun y=>by
   unfold Cj;exact zwn
  rw[e1]
  match m with
  |0=>rfl
  |1=>
   show Cj n [a]=n;unfold Cj
   split<;>simp_all
  |m+2=>rw[List.take_succ_cons,List.take_succ_cons,e1]
theorem X3 (l:List UInt8)(m:Nat)(h:Br l<=m):Br (l.take m)=Br l:=by
 have hsp:=Z3 (A7 Bc l) (l.drop (A7 Bc l));rw[←Fm] at hsp;rw[Fm,Ob (q:=Bc) l m qO,List.drop_take,Vv _ _ _ (by rw[←Fm];omega),←Fm]
open Go Go.Lib
theorem G2 {q:UInt8->Bool}{c:UInt8}{r:List UInt8}(h:q c=true):1<=A7 q (c::r):=by
 rw[Di h];omega
theorem G1:∀(f g:Nat) (l:List UInt8) (a b:Int),l.length<=f->l.length<=g->J1 f l a b=J1 g l a b
 |0,g,l,a,b,hf,_=>by
  obtain rfl:l=[]:=List.eq_nil_of_length_eq_zero qO;cases g with
  |zero=>rfl
  |succ g=>rfl
 |f+1,g,l,a,b,hf,hg=>by
  cases l with
  |nil=>cases g<;>rfl
  |cons c r=>
   obtain⟨g,rfl⟩:∃k,g=k+1:=⟨g - 1,by rw[Aa] at hg;omega⟩;rw[Aa] at hf hg;unfold J1;simp only;rw[G1 f g r (a+1) 1 qO qO,G1 f g r a (b+1) qO qO];by_cases h1:c=10
   ·rw[Ap h1,Ap h1]
   rw[Ao h1,Ao h1];by_cases h2:c=59
   ·rw[Ap h2,Ap h2]
    have:=G2 (q:=fun c=>c !=10) (c:=c) (r:=r) sD
    exact G1 f g _ _ _ rZ rZ
   rw[Ao h2,Ao h2];by_cases h3:c=32
   ·rw[Ap h3,Ap h3]
   rw[Ao h3,Ao h3];cases hw:Bq (c::r) with
   |error e=>rfl
   |ok p=>
    obtain⟨w,n⟩:=p;obtain⟨h4,_⟩:=E4 hw;simp only;rw[G1 f g ((c::r).drop n) a (b+n) rZ rZ]
open Go Go.Lib
theorem Mg:∀(b:Bool) (l:List UInt8),∀c∈l.take (Ba b l),El c=true
 |b,[],c,h=>by simp at h
 |b,d::q,c,h=>by
  rw[B7] at h;by_cases hc:((d==34 && !b)||!El d)=true
  ·rw[Ap hc] at h;simp at h
  rw[Ao hc,Nat.add_comm,List.take_succ_cons,List.mem_cons] at h;rcases h with rfl|h
  ·simp only[Bool.or_eq_true,not_or,Bool.not_eq_true,Bool.not_eq_false'] at hc;exact hc.2
  exact Mg _ q c h
theorem Yn (n:Nat)(x:List UInt8):∃k,Cj n x=n+k/\∀c∈x.take k,Bc c=true\/c=46:=by
 unfold Cj
 split
 ·rename_i c r
  split
  ·refine⟨1+A7 Bc (c::r),rfl,fun d hd=>?_⟩;rw[Nat.add_comm,List.take_succ_cons,List.mem_cons] at hd;rcases hd with rfl|hd
   ·exact .inr rfl
   exact .inl (Ft _ d hd)
  exact⟨0,rfl,by simp⟩
 exact⟨0,rfl,by simp⟩
theorem Zf (l:List UInt8):∀c∈l.take (Br l),Bc c=true\/c=46:=by
 intro c hc;obtain⟨k,h1,h2⟩:=Yn (A7 Bc l) (l.drop (A7 Bc l));rw[Fm,h1,List.take_add,List.mem_append] at hc;rcases hc with hc|hc
 ·exact .inl (Ft _ c hc)
 exact h2 c hc
theorem Td {c:UInt8}(h:Cn c=true):c≠10:=by rintro rfl;cases h
theorem jL {c:UInt8}(h:El c=true):c≠10:=by rintro rfl;cases h
theorem kC {c:UInt8}(h:Bc c=true\/c=46):c≠10:=by
 rintro rfl;rcases h with h|h
 ·cases h
 cases h
def Fv (w:Wd):List UInt8:=
 if w.k=2\/w.k=3 then 63::w.t else if w.k=5 then 34::(w.t++[34]) else if w.k=6 then 35::w.t else w.t
theorem Rc {q:List UInt8}{k:Nat}(h:(q.drop k).head? =some 34):q.take (k+1)=q.take k++[34]:=by
 rw[List.head?_drop] at h;rw[List.take_add_one,h];rfl
theorem Xb {l:List UInt8}{w:Wd}{n:Nat}(h:Bq l= .ok (w,n)):Fv w=l.take n/\∀c∈l.take n,c≠10:=by
 unfold Bq at h;cases l with
 |nil=>cases h
 |cons c r=>
  simp only at h;by_cases h1:Dx c=true
  ·rw[Ap h1] at h;obtain⟨e1,e2,_⟩:=I3 h;subst e1 e2;exact⟨rfl,fun d hd=>Td (Ft _ d hd)⟩
  rw[Ao h1] at h;by_cases h2:Bc c=true
  ·rw[Ap h2] at h;unfold Lv at h;cases hp:D0 ((c::r).take (Br (c::r))) with
   |error e=>rw[hp] at h;cases h
   |ok v=>
    rw[hp] at h;injection h with h;simp only[Prod.mk.injEq] at h;obtain⟨e1,e2⟩:=h;subst e1 e2;exact⟨rfl,fun d hd=>kC (Zf _ d hd)⟩
  rw[Ao h2] at h;by_cases h3:c=34
  ·rw[Ap h3,Gc] at h;by_cases hq:((c::r).drop (1+Ba false r)).head? =some 34
   ·rw[Ap hq] at h;cases hp:D0 ((c::r).take (Ba false r+2)) with
    |error e=>rw[hp] at h;cases h
    |ok v=>
     rw[hp] at h;injection h with h;simp only[Prod.mk.injEq] at h;obtain⟨e1,e2⟩:=h;subst e1 e2 h3;rw[Nat.add_comm,List.drop_succ_cons] at hq;have ht:=Rc hq;rw[List.take_succ_cons,ht];refine⟨rfl,fun d hd=>?_⟩;rw[List.mem_cons,List.mem_append] at hd;rcases hd with rfl|hd|hd
     ·decide
     ·exact jL (Mg _ _ d hd)
     rw[List.mem_singleton] at hd;subst hd;decide
   rw[Ao hq] at h;cases h
  rw[Ao h3] at h;by_cases h4:c=63
  ·rw[Ap h4] at h;by_cases hm:D6 (c::r)=true
   ·rw[Ap hm] at h;obtain⟨e1,e2,_⟩:=I3 h;subst e1 e2 h4;exact zwu
   rw[Ao hm] at h;injection h with h;simp only[Prod.mk.injEq] at h;obtain⟨e1,e2⟩:=h;subst e1 e2 h4;refine⟨rfl,fun d hd=>?_⟩;simp only[List.take_succ_cons,List.take_zero,List.mem_singleton] at hd;subst hd;decide
  rw[Ao h4] at h;by_cases h5:c=35/\D6 (c::r)=true
  ·rw[Ap h5] at h;obtain⟨e1,e2,_⟩:=I3 h;subst e1 e2;obtain⟨rfl,_⟩:=h5;exact zwu
  rw[Ao h5] at h;unfold Fj at h;by_cases h6:(c::r).take 2∈F4
  ·rw[Ap h6] at h;injection h with h;simp only[Prod.mk.injEq] at h;obtain⟨e1,e2⟩:=h;subst e1 e2;exact⟨rfl,(show ∀x∈F4,∀d∈x,d≠10 by decide) _ h6⟩
  rw[Ao h6] at h;by_cases h7:(c::r).take 1∈Lz.map fun c=>[c]
  ·rw[Ap h7] at h;injection h with h;simp only[Prod.mk.injEq] at h;obtain⟨e1,e2⟩:=h;subst e1 e2;exact⟨rfl,(show ∀x∈Lz.map (fun c=>[c]),∀d∈x,d≠10 by decide) _ h7⟩
  rw[Ao h7] at h;cases h
theorem P9 {l:List UInt8}{e:Int}(h:Bq l= .error e):e=4\/e=9:=by
 have hsh:∀{w':Wd} {m:Nat},C0 w' m= .error e->e=4:=fun{w' m} hh=>by
  unfold C0 at hh
  split at hh
  ·injection hh with hh;exact hh.symm
  cases hh
 unfold Bq at h;cases l with
 |nil=>injection h with h;exact .inl h.symm
 |cons c r=>
  simp only at h
  split at h
  ·exact .inl (hsh h)
  split at h
  ·unfold Lv at h
   split at h
   ·cases h
   injection h with h;rw[←h]
   split
   ·exact .inr rfl
   exact .inl rfl
  split at h
  ·unfold S0 at h
   split at h
   ·split at h
    ·cases h
    injection h with h;exact .inl h.symm
   injection h with h;exact .inl h.symm
  split at h
  ·split at h
   ·exact .inl (hsh h)
   cases h
  split at h
  ·exact .inl (hsh h)
  unfold Fj at h
  split at h
  ·cases h
  split at h
  ·cases h
  injection h with h;exact .inl h.symm
open Go Go.Lib
def LX (l:List UInt8)(a b:Int):Except (Int×Int×Int) (List Tkn):=J1 l.length l a b
theorem Wg (l:List UInt8):Fu l=LX l 1 1:=rfl
def Qu (t:Tkn):Except (Int×Int×Int) (List Tkn)->Except (Int×Int×Int) (List Tkn)
 | .error e=> .error e
 | .ok ts=> .ok (t::ts)
theorem L4 (a b:Int):LX [] a b= .ok []:=rfl
theorem Ru (r:List UInt8)(a b:Int):LX (10::r) a b=LX r (a+1) 1:=rfl
theorem Ma (r:List UInt8)(a b:Int):LX (32::r) a b=LX r a (b+1):=rfl
def Fi (c:UInt8):Bool:=c !=10
theorem Pw (r:List UInt8)(a b:Int):LX (59::r) a b=LX ((59::r).drop (A7 Fi (59::r))) a (b+A7 Fi (59::r)):=by
 have hp:=G2 (q:=Fi) (c:=59) (r:=r) qP;have e:LX (59::r) a b=J1 r.length ((59::r).drop (A7 Fi (59::r))) a (b+A7 Fi (59::r)):=rfl;rw[e];exact G1 _ _ _ _ _ rZ (Ak _)
def Iz (c:UInt8):Prop:=c≠10/\c≠59/\c≠32
theorem Qb {c:UInt8}{r:List UInt8}(hc:Iz c){e:Int}(h:Bq (c::r)= .error e)(a b:Int):LX (c::r) a b= .error (a,b,e):=by
 unfold LX;rw[Aa];unfold J1;simp only;rw[Ao hc.1,Ao hc.2.1,Ao hc.2.2,h]
theorem Iu {c:UInt8}{r:List UInt8}(hc:Iz c){w:Wd}{n:Nat}(h:Bq (c::r)= .ok (w,n))(a b:Int):LX (c::r) a b=Qu ⟨w,a,b⟩ (LX ((c::r).drop n) a (b+n)):=by
 obtain⟨hn,_⟩:=E4 h;have e:LX ((c::r).drop n) a (b+n)=J1 r.length ((c::r).drop n) a (b+n):=G1 _ _ _ _ _ (Ak _) rZ;rw[e];unfold LX;rw[Aa]
 conv=>lhs;unfold J1
 simp only;rw[Ao hc.1,Ao hc.2.1,Ao hc.2.2,h];simp only;cases J1 r.length ((c::r).drop n) a (b+n)<;>rfl
theorem Mp {P:List UInt8->Prop}(l:List UInt8)(h0:l=[]->P l)(h1:∀r,l=10::r->P l)(h2:∀r,l=32::r->P l)(h3:∀r,l=59::r->P l)
 (h4:∀c r e,l=c::r->Iz c->Bq l= .error e->P l) (h5:∀c r w n,l=c::r->Iz c->Bq l= .ok (w,n)->P l):P l:=by
 cases l with
 |nil=>exact h0 rfl
 |cons c r=>
  by_cases e1:c=10
  ·subst e1;exact h1 r rfl
  by_cases e2:c=32
  ·subst e2;exact h2 r rfl
  by_cases e3:c=59
  ·subst e3;exact h3 r rfl
  cases hw:Bq (c::r) with
  |error e=>exact h4 c r e rfl ⟨e1,e3,e2⟩ hw
  |ok p=>obtain⟨w,n⟩:=p;exact h5 c r w n rfl ⟨e1,e3,e2⟩ hw
def Tkn.down (d:Int)(t:Tkn):Tkn:=⟨t.w,t.line+d,t.col⟩
def Ik (x:Except (Int×Int×Int) (List Tkn))(y:Except (Int×Int×Int) (List Tkn)):Except (Int×Int×Int) (List Tkn):=
 match x with
 | .error e=> .error e
 | .ok ts=>match y with
   | .error e=> .error e
   | .ok us=> .ok (ts++us)
theorem X1 {t:Tkn}{x:Except (Int×Int×Int) (List Tkn)}{ts:List Tkn}(h:Qu t x= .ok ts):∃us,x= .ok us/\ts=t::us:=by
 cases x with
 |error e=>cases h
 |ok us=>injection h with h;exact⟨us,rfl,h.symm⟩
def pT (a b c d:Int):Prop:=a<c\/a=c/\b<d
def qG (a b c d:Int):Prop:=a<c\/a=c/\b<=d
theorem Ll:∀(k:Nat) (l:List UInt8) (a b:Int),l.length<=k->1<=b->
 (∀x y e,LX l a b= .error (x,y,e)->a<=x/\1<=y/\(e=4\/e=9))/\
 (∀ts,LX l a b= .ok ts->(∀t∈ts,qG a b t.line t.col)/\ts.Pairwise (fun s t=>pT s.line s.col t.line t.col))
 |k,l,a,b,hk,hb=>by
  refine Mp (P:=fun l=>l.length<=k->(∀x y e,LX l a b= .error (x,y,e)->a<=x/\1<=y/\(e=4\/e=9))/\(∀ts,LX l a b= .ok ts->(∀t∈ts,qG a b t.line t.col)/\ts.Pairwise (fun s t=>pT s.line s.col t.line t.col))) l ?_ ?_ ?_ ?_ ?_ ?_ hk
  ·rintro rfl _;refine⟨fun x y e h=>?_,fun ts h=>?_⟩
   ·rw[L4] at h;cases h
   rw[L4] at h;injection h with h;subst h;exact⟨by simp,List.Pairwise.nil⟩
  ·rintro r rfl hk;obtain⟨k,rfl⟩:∃j,k=j+1:=⟨k - 1,by rw[Aa] at hk;omega⟩;obtain⟨h1,h2⟩:=Ll k r (a+1) 1 sB qO;rw[Ru];refine⟨fun x y e h=>?_,fun ts h=>?_⟩
   ·obtain⟨h3,h4,h5⟩:=h1 x y e h;exact⟨by omega,h4,h5⟩
   obtain⟨h3,h4⟩:=h2 ts h;refine⟨fun t ht=>?_,h4⟩;rcases h3 t ht with h5|⟨h5,h6⟩
   ·exact .inl qO
   exact .inl qO
  ·rintro r rfl hk;obtain⟨k,rfl⟩:∃j,k=j+1:=⟨k - 1,by rw[Aa] at hk;omega⟩;obtain⟨h1,h2⟩:=Ll k r a (b+1) sB qO;rw[Ma];exact zw4
  ·rintro r rfl hk;obtain⟨k,rfl⟩:∃j,k=j+1:=⟨k - 1,by rw[Aa] at hk;omega⟩;have hp:=G2 (q:=Fi) (c:=59) (r:=r) qP;rw[Pw];obtain⟨h1,h2⟩:=Ll k ((59::r).drop (A7 Fi (59::r))) a (b+A7 Fi (59::r)) rN qO;exact zw4
  ·rintro c r e rfl hc hw hk;rw[Qb hc hw];refine⟨fun x y e' h=>?_,fun ts h=>by cases h⟩;injection h with h;simp only[Prod.mk.injEq] at h;obtain⟨rfl,rfl,rfl⟩:=h;exact⟨Int.le_refl _,hb,P9 hw⟩
  rintro c r w n rfl hc hw hk;obtain⟨k,rfl⟩:∃j,k=j+1:=⟨k - 1,by rw[Aa] at hk;omega⟩;obtain⟨hn,_⟩:=E4 hw;rw[Iu hc hw];obtain⟨h1,h2⟩:=Ll k ((c::r).drop n) a (b+n) rN qO;cases hx:LX ((c::r).drop n) a (b+n) with
  |error q=>
   obtain⟨x',y',e'⟩:=q;refine⟨fun x y e h=>?_,fun ts h=>by cases h⟩;injection h with h;simp only[Prod.mk.injEq] at h;obtain⟨rfl,rfl,rfl⟩:=h;exact h1 _ _ _ hx
  |ok us=>
   refine⟨fun x y e h=>(by cases h),fun ts h=>?_⟩;injection h with h;subst h;obtain⟨h3,h4⟩:=h2 us hx;refine⟨fun t ht=>?_,List.Pairwise.cons (fun t ht=>?_) h4⟩
   ·rw[List.mem_cons] at ht;rcases ht with rfl|ht
    ·exact .inr ⟨rfl,Int.le_refl _⟩
    rcases h3 t ht with h5|⟨h5,h6⟩
    ·exact .inl h5
    exact .inr ⟨h5,by omega⟩
   rcases h3 t ht with h5|⟨h5,h6⟩
   ·exact .inl h5
   exact .inr ⟨h5,by show b<t.col;omega⟩
def cE (w:Wd):Prop:=∃c r n,Iz c/\Bq (c::r)= .ok (w,n)
theorem Sd:∀(k:Nat) (l:List UInt8) (a b:Int) (ts:List Tkn),l.length<=k->LX l a b= .ok ts->∀t∈ts,cE t.w
 |k,l,a,b,ts,hk,h=>by
  refine Mp (P:=fun l=>l.length<=k->LX l a b= .ok ts->∀t∈ts,cE t.w) l ?_ ?_ ?_ ?_ ?_ ?_ hk h
  ·rintro rfl _ h;rw[L4] at h;injection h with h;subst h;simp
  ·rintro q rfl hk h;obtain⟨k,rfl⟩:∃j,k=j+1:=⟨k - 1,by rw[Aa] at hk;omega⟩;exact Sd k q (a+1) 1 ts sB h
  ·rintro q rfl hk h;obtain⟨k,rfl⟩:∃j,k=j+1:=⟨k - 1,by rw[Aa] at hk;omega⟩;exact Sd k q a (b+1) ts sB h
  ·rintro q rfl hk h;obtain⟨k,rfl⟩:∃j,k=j+1:=⟨k - 1,by rw[Aa] at hk;omega⟩;have hp:=G2 (q:=Fi) (c:=59) (r:=q) qP;rw[Pw] at h;exact Sd k _ a _ ts rN h
  ·rintro c q e rfl hc hw hk h;rw[Qb hc hw] at h;cases h
  rintro c q w n rfl hc hw hk h;obtain⟨k,rfl⟩:∃j,k=j+1:=⟨k - 1,by rw[Aa] at hk;omega⟩;obtain⟨hn,_⟩:=E4 hw;rw[Iu hc hw] at h;obtain⟨us,hu,rfl⟩:=X1 h;intro t ht;rw[List.mem_cons] at ht;rcases ht with rfl|ht
  ·exact⟨c,q,n,hc,hw⟩
  exact Sd k _ a _ us rN hu t ht
def Ei (sep:List UInt8):List (List UInt8)->List UInt8
 |[]=>[]
 |[x]=>x
 |x::y::r=>x++(sep++Ei sep (y::r))
theorem I9:∀(k:Nat) (l:List UInt8) (a b:Int) (ts:List Tkn),l.length<=k->LX l a b= .ok ts->ts.length+(ts.map fun t=>(Fv t.w).length).sum<=2*l.length/\ts.length<=l.length
 |k,l,a,b,ts,hk,h=>by
  refine Mp (P:=fun l=>l.length<=k->LX l a b= .ok ts->ts.length+(ts.map fun t=>(Fv t.w).length).sum<=2*l.length/\ts.length<=l.length) l ?_ ?_ ?_ ?_ ?_ ?_ hk h
  ·rintro rfl _ h;rw[L4] at h;injection h with h;subst h;simp
  ·rintro q rfl hk h;obtain⟨k,rfl⟩:∃j,k=j+1:=⟨k - 1,by rw[Aa] at hk;omega⟩
   have:=I9 k q (a+1) 1 ts sB h
   rw[Aa];omega
  ·rintro q rfl hk h;obtain⟨k,rfl⟩:∃j,k=j+1:=⟨k - 1,by rw[Aa] at hk;omega⟩
   have:=I9 k q a (b+1) ts sB h
   rw[Aa];omega
  ·rintro q rfl hk h;obtain⟨k,rfl⟩:∃j,k=j+1:=⟨k - 1,by rw[Aa] at hk;omega⟩;have hp:=G2 (q:=Fi) (c:=59) (r:=q) qP;rw[Pw] at h
   have:=I9 k _ a _ ts rN h
   rw[List.length_drop] at this;omega
  ·rintro c q e rfl hc hw hk h;rw[Qb hc hw] at h;cases h
  rintro c q w n rfl hc hw hk h;obtain⟨k,rfl⟩:∃j,k=j+1:=⟨k - 1,by rw[Aa] at hk;omega⟩;obtain⟨hn,hnl⟩:=E4 hw;obtain⟨hs,_⟩:=Xb hw;rw[Iu hc hw] at h;obtain⟨us,hu,rfl⟩:=X1 h
  have:=I9 k _ a _ us rN hu
  rw[List.length_drop] at this;rw[Aa,List.map_cons,List.sum_cons,hs,List.length_take];omega
end Go.Proofs.YtgfakdobajgnfaaGreatDoor
