import Derived.Test.YtgfakdobajgnfaaGreatDoorQk6
set_option maxRecDepth 100000
set_option maxHeartbeats 16000000
namespace Go.Proofs.YtgfakdobajgnfaaGreatDoor
open Go Go.Lib
def Ce (l:List UInt8):Nat:=
 match l.drop (Ba Bg l) with
 |46::c::r=>if Bg c then Ba Bg l+(1+Ba Bg (c::r)) else Ba Bg l
 |_=>Ba Bg l
def Md (l:List UInt8):Except Int (Wd×Nat):=
 match Dy (l.take (Ce l)) with
 | .ok v=> .ok (⟨4,l.take (Ce l),v⟩,Ce l)
 | .error e=> .error (if e=9 then 9 else 4)
def Bd:Bool->List UInt8->Nat
 |_,[]=>0
 |esc,c::r=>if(c==34 && !esc)||!El c then 0 else 1+Bd (c==92 && !esc) r
def Sb (l:List UInt8):Except Int (Wd×Nat):=
 if(l.drop (1+Bd false l.tail)).head? =some 34 then
  match Dy (l.take (Bd false l.tail+2)) with
  | .ok v=> .ok (⟨5,l.tail.take (Bd false l.tail),v⟩,Bd false l.tail+2)
  | .error _=> .error 4
 else .error 4
def Jy:List (List UInt8):=[[60,61],[62,61],[60,62],[46,46]]
def Lu:List UInt8:=[40,41,91,93,44,58,61,60,62,43,45,42,47]
def F5 (l:List UInt8):Except Int (Wd×Nat):=
 if l.take 2∈Jy then .ok (⟨7,l.take 2,v0⟩,2) else if l.take 1∈Lu.map fun c=>[c] then .ok (⟨7,l.take 1,v0⟩,1) else .error 4
def C7 (w:Wd)(n:Nat):Except Int (Wd×Nat):=if 12<w.t.length then .error 4 else .ok (w,n)
def E9 (l:List UInt8):Bool:=match l with
 |_::c::_=>D7 c
 |_=>false
def B2 (l:List UInt8):Except Int (Wd×Nat):=
 match l with
 |[]=> .error 4
 |c::r=>
  if D7 c then C7 ⟨1,l.take (Ba Cv l),v0⟩ (Ba Cv l)
  else if Bg c then Md l
  else if c=34 then Sb l
  else if c=63 then(if E9 l then C7 ⟨2,r.take (Ba Cv r),v0⟩ (1+Ba Cv r) else .ok (⟨3,[],v0⟩,1))
  else if c=35/\E9 l=true then C7 ⟨6,r.take (Ba Cv r),(5,0,r.take (Ba Cv r))⟩ (1+Ba Cv r)
  else F5 l
def Jk:Nat->List UInt8->Int->Int->Except (Int×Int×Int) (List Tkn)
 |0,_,_,_=> .ok []
 |f+1,l,line,col=>
  match l with
  |[]=> .ok []
  |c::r=>
   if c=10 then Jk f r (line+1) 1
   else if c=59 then Jk f (l.drop (Ba (fun c=>c !=10) l)) line (col+Ba (fun c=>c !=10) l)
   else if c=32 then Jk f r line (col+1)
   else match B2 l with
    | .error e=> .error (line,col,e)
    | .ok (w,n)=>match Jk f (l.drop n) line (col+n) with
      | .error e=> .error e
      | .ok ts=> .ok (⟨w,line,col⟩::ts)
def Fq (l:List UInt8):Except (Int×Int×Int) (List Tkn):=Jk l.length l 1 1
theorem Fa {q:UInt8->Bool}{c:UInt8}{r:List UInt8}(h:q c=true):Ba q (c::r)=1+Ba q r:=by
 unfold Ba;rw[List.takeWhile_cons,Ap h,Aa];omega
theorem Mw:∀(b:Bool) (l:List UInt8),Bd b l<=l.length
 |_,[]=>Ak _
 |b,c::r=>by
  unfold Bd
  split
  ·omega
  have:=Mw (c==92 && !b) r
  rw[Aa];omega
theorem Nx {c:UInt8}{r:List UInt8}(h:Bg c=true):1<=Ce (c::r)/\Ce (c::r)<=(c::r).length:=by
 have j:=Fa (q:=Bg) (r:=r) h;have g:=Ds Bg (c::r);unfold Ce
 split
 ·rename_i d q e
  have f:=Ar List.length e;rw[List.length_drop] at f;simp only[Aa] at f g ⊢;have i:=Ds Bg (d::q);simp only[Aa] at i
  split<;>omega
 omega
theorem Fg {l:List UInt8}{w:Wd}{n:Nat}(h:B2 l= .ok (w,n)):1<=n/\n<=l.length:=by
 unfold B2 at h;cases l with
 |nil=>cases h
 |cons c r=>
  simp only at h
  have d:∀{w':Wd} {m:Nat},C7 w' m= .ok (w,n)->m=n:=fun{w' m} hh=>by
   unfold C7 at hh
   split at hh
   ·cases hh
   injection hh with hh;exact Ar Prod.snd hh
  by_cases h1:D7 c=true
  ·rw[Ap h1] at h
   have:=d h
   have e:=Fa (q:=Cv) (r:=r) (show Cv c=true by unfold Cv;rw[h1];rfl);have f:=Ds Cv (c::r);omega
  rw[Ao h1] at h;by_cases e:Bg c=true
  ·rw[Ap e] at h;unfold Md at h
   split at h
   ·injection h with h
    have:=Ar Prod.snd h
    have f:=Nx (r:=r) e;simp only at this;omega
   cases h
  rw[Ao e] at h;by_cases f:c=34
  ·rw[Ap f] at h;unfold Sb at h
   split at h
   ·rename_i g
    split at h
    ·injection h with h
     have:=Ar Prod.snd h
     simp only[List.tail_cons] at this g
     have i:(1+Bd false r)<(c::r).length:=by
      rw[List.head?_drop] at g;exact(List.getElem?_eq_some_iff.1 g).1
     omega
    cases h
   cases h
  rw[Ao f] at h;have o:=Ds Cv r;by_cases h4:c=63
  ·rw[Ap h4] at h
   split at h
   ·have:=d h
    rw[Aa];omega
   injection h with h
   have:=Ar Prod.snd h
   simp only at this;rw[Aa];omega
  rw[Ao h4] at h;by_cases i:c=35/\E9 (c::r)=true
  ·rw[Ap i] at h
   have:=d h
   rw[Aa];omega
  rw[Ao i] at h;unfold F5 at h
  split at h
  ·rename_i j
   injection h with h
   have:=Ar Prod.snd h
   simp only at this
   have k:((c::r).take 2).length=2:=by
    have:∀x∈Jy,x.length=2:=by decide
    exact this _ j
   rw[List.length_take] at k;omega
  split at h
  ·injection h with h
   have:=Ar Prod.snd h
   simp only at this;rw[Aa];omega
  cases h
open Go Go.Lib
theorem Gu {q:UInt8->Bool}:∀(l:List UInt8),∀c∈l.take (Ba q l),q c=true
 |[],c,h=>by simp at h
 |d::l,c,h=>by
  by_cases hd:q d=true
  ·rw[Fa hd,Nat.add_comm,List.take_succ_cons,List.mem_cons] at h;rcases h with rfl|h
   ·exact hd
   exact Gu l c h
  have:Ba q (d::l)=0:=by
   unfold Ba;rw[List.takeWhile_cons,Ao hd];rfl
  rw[this] at h;simp at h
theorem Ny {q:UInt8->Bool}:∀(l:List UInt8) (m:Nat),Ba q l<=m->Ba q (l.take m)=Ba q l
 |[],m,_=>by simp
 |d::l,m,h=>by
  by_cases hd:q d=true
  ·rw[Fa hd] at h ⊢;cases m with
   |zero=>omega
   |succ m=>
    rw[List.take_succ_cons,Fa hd,Ny l m rF]
  have e:∀r,Ba q (d::r)=0:=fun r=>by
   unfold Ba;rw[List.takeWhile_cons,Ao hd];rfl
  rw[e];cases m with
  |zero=>rfl
  |succ m=>rw[List.take_succ_cons,e]
open Go Go.Lib
def qY (r:List UInt8):Prop:=∀c,r.head? =some c->c=10\/c=32
theorem qY.nam {r:List UInt8}(h:qY r):∀c,r.head? =some c->Cv c=false:=fun c d=>by
 rcases h c d with rfl|rfl<;>rfl
theorem Ci (b:Bool)(c:UInt8)(q:List UInt8):Bd b (c::q)=if((c==34 && !b)||!El c)=true then 0 else 1+Bd (c==92 && !b) q:=by
 conv=>lhs;unfold Bd
theorem Iu (c:UInt8)(q:List UInt8):Sb (c::q)=if((c::q).drop (1+Bd false q)).head? =some 34 then
 match Dy ((c::q).take (Bd false q+2)) with
 | .ok v=> .ok (⟨5,q.take (Bd false q),v⟩,Bd false q+2)
 | .error _=> .error 4
 else .error 4:=rfl
theorem Pj {w w':Wd}{m n:Nat}(h:C7 w' m= .ok (w,n)):m=n/\w'=w/\C7 w' m= .ok (w',m):=by
 unfold C7 at h ⊢
 split at h
 ·cases h
 rename_i c
 injection h with h;simp only[Prod.mk.injEq] at h;exact⟨h.2,h.1,by rw[Ao c]⟩
open Go Go.Lib
theorem Ob:∀(b:Bool) (l:List UInt8) (m:Nat),Bd b l<m->Bd b (l.take m)=Bd b l
 |b,[],m,_=>by simp
 |b,c::q,m,h=>by
  obtain⟨m,rfl⟩:∃k,m=k+1:=⟨m - 1,by omega⟩;rw[List.take_succ_cons,Ci,Ci];rw[Ci] at h;by_cases hc:((c==34 && !b)||!El c)=true
  ·rw[Ap hc,Ap hc]
  rw[Ao hc] at h;rw[Ao hc,Ao hc,Ob _ q m rF]
def Cn (n:Nat)(x:List UInt8):Nat:=match x with
 |46::c::r=>if Bg c then n+(1+Ba Bg (c::r)) else n
 |_=>n
theorem F0 (l:List UInt8):Ce l=Cn (Ba Bg l) (l.drop (Ba Bg l)):=rfl
theorem Zl (n:Nat)(x:List UInt8):n<=Cn n x:=by
 unfold Cn
 split
 ·split<;>omega
 omega
theorem Ux (n m:Nat)(x:List UInt8)(h:Cn n x<=n+m):Cn n (x.take m)=Cn n x:=by
 match x with
 |[]=>simp
 |[a]=>
  have e:Cn n [a]=n:=by unfold Cn;split<;>simp_all
  cases m with
  |zero=>rw[e];rfl
  |succ m=>simp
 |a::c::q=>
  by_cases ha:a=46/\Bg c=true
  ·obtain⟨rfl,f⟩:=ha;have e:∀y,Cn n (46::c::y)=n+(1+Ba Bg (c::y)):=fun y=>by unfold Cn;simp [f]
   rw[e] at h;have j:=Fa (q:=Bg) (r:=q) f;obtain⟨k,rfl⟩:∃k,m=k+2:=⟨m - 2,by omega⟩;have g:=Ny (q:=Bg) (c::q) (k+1) rF;rw[List.take_succ_cons] at g;rw[List.take_succ_cons,List.take_succ_cons,e,e,g]
  have d:∀y,Cn n (a::c::y)=n:=fun y=>by
   unfold Cn
   split
   ·rename_i e
    simp only[List.cons.injEq] at e;obtain⟨d,i,_⟩:=e;subst d i;rw[Ao (fun h=>ha ⟨rfl,h⟩)]
   rfl
  rw[d]
  match m with
  |0=>rfl
  |1=>
   show Cn n [a]=n;unfold Cn
   split<;>simp_all
  |m+2=>rw[List.take_succ_cons,List.take_succ_cons,d]
theorem Wl (l:List UInt8)(m:Nat)(h:Ce l<=m):Ce (l.take m)=Ce l:=by
 have c:=Zl (Ba Bg l) (l.drop (Ba Bg l));rw[←F0] at c;rw[F0,Ny (q:=Bg) l m rF,List.drop_take,Ux _ _ _ (by rw[←F0];omega),←F0]
open Go Go.Lib
theorem Gn {q:UInt8->Bool}{c:UInt8}{r:List UInt8}(h:q c=true):1<=Ba q (c::r):=by
 rw[Fa h];omega
theorem Gm:∀(f g:Nat) (l:List UInt8) (a b:Int),l.length<=f->l.length<=g->Jk f l a b=Jk g l a b
 |0,g,l,a,b,hf,_=>by
  obtain rfl:l=[]:=List.eq_nil_of_length_eq_zero rF;cases g with
  |zero=>rfl
  |succ g=>rfl
 |f+1,g,l,a,b,hf,hg=>by
  cases l with
  |nil=>cases g<;>rfl
  |cons c r=>
   obtain⟨g,rfl⟩:∃k,g=k+1:=⟨g - 1,by rw[Aa] at hg;omega⟩;rw[Aa] at hf hg;unfold Jk;simp only;rw[Gm f g r (a+1) 1 rF rF,Gm f g r a (b+1) rF rF];by_cases h1:c=10
   ·rw[Ap h1,Ap h1]
   rw[Ao h1,Ao h1];by_cases h2:c=59
   ·rw[Ap h2,Ap h2]
    have:=Gn (q:=fun c=>c !=10) (c:=c) (r:=r) sU
    exact Gm f g _ _ _ sQ sQ
   rw[Ao h2,Ao h2];by_cases h3:c=32
   ·rw[Ap h3,Ap h3]
   rw[Ao h3,Ao h3];cases hw:B2 (c::r) with
   |error e=>rfl
   |ok p=>
    obtain⟨w,n⟩:=p;obtain⟨d,_⟩:=Fg hw;simp only;rw[Gm f g ((c::r).drop n) a (b+n) sQ sQ]
open Go Go.Lib
theorem Lv:∀(b:Bool) (l:List UInt8),∀c∈l.take (Bd b l),El c=true
 |b,[],c,h=>by simp at h
 |b,d::q,c,h=>by
  rw[Ci] at h;by_cases hc:((d==34 && !b)||!El d)=true
  ·rw[Ap hc] at h;simp at h
  rw[Ao hc,Nat.add_comm,List.take_succ_cons,List.mem_cons] at h;rcases h with rfl|h
  ·simp only[Bool.or_eq_true,not_or,Bool.not_eq_true,Bool.not_eq_false'] at hc;exact hc.2
  exact Lv _ q c h
theorem Xs (n:Nat)(x:List UInt8):∃k,Cn n x=n+k/\∀c∈x.take k,Bg c=true\/c=46:=by
 unfold Cn
 split
 ·rename_i c r
  split
  ·refine⟨1+Ba Bg (c::r),rfl,fun d hd=>?_⟩;rw[Nat.add_comm,List.take_succ_cons,List.mem_cons] at hd;rcases hd with rfl|hd
   ·exact .inr rfl
   exact .inl (Gu _ d hd)
  exact⟨0,rfl,by simp⟩
 exact⟨0,rfl,by simp⟩
theorem aV (l:List UInt8):∀c∈l.take (Ce l),Bg c=true\/c=46:=by
 intro c d;obtain⟨k,e,f⟩:=Xs (Ba Bg l) (l.drop (Ba Bg l));rw[F0,e,List.take_add,List.mem_append] at d;rcases d with d|d
 ·exact .inl (Gu _ c d)
 exact f c d
theorem Ro {c:UInt8}(h:Cv c=true):c≠10:=by rintro rfl;cases h
theorem jQ {c:UInt8}(h:El c=true):c≠10:=by rintro rfl;cases h
theorem lB {c:UInt8}(h:Bg c=true\/c=46):c≠10:=by
 rintro rfl;rcases h with h|h
 ·cases h
 cases h
def J1 (w:Wd):List UInt8:=
 if w.k=2\/w.k=3 then 63::w.t else if w.k=5 then 34::(w.t++[34]) else if w.k=6 then 35::w.t else w.t
theorem P8 {q:List UInt8}{k:Nat}(h:(q.drop k).head? =some 34):q.take (k+1)=q.take k++[34]:=by
 rw[List.head?_drop] at h;rw[List.take_add_one,h];rfl
theorem Wm {l:List UInt8}{w:Wd}{n:Nat}(h:B2 l= .ok (w,n)):J1 w=l.take n/\∀c∈l.take n,c≠10:=by
 unfold B2 at h;cases l with
 |nil=>cases h
 |cons c r=>
  simp only at h;by_cases h1:D7 c=true
  ·rw[Ap h1] at h;obtain⟨f,g,_⟩:=Pj h;subst f g;exact⟨rfl,fun d hd=>Ro (Gu _ d hd)⟩
  rw[Ao h1] at h;by_cases h2:Bg c=true
  ·rw[Ap h2] at h;unfold Md at h;cases hp:Dy ((c::r).take (Ce (c::r))) with
   |error e=>rw[hp] at h;cases h
   |ok v=>
    rw[hp] at h;injection h with h;simp only[Prod.mk.injEq] at h;obtain⟨f,g⟩:=h;subst f g;exact⟨rfl,fun d hd=>lB (aV _ d hd)⟩
  rw[Ao h2] at h;by_cases h3:c=34
  ·rw[Ap h3,Iu] at h;by_cases hq:((c::r).drop (1+Bd false r)).head? =some 34
   ·rw[Ap hq] at h;cases hp:Dy ((c::r).take (Bd false r+2)) with
    |error e=>rw[hp] at h;cases h
    |ok v=>
     rw[hp] at h;injection h with h;simp only[Prod.mk.injEq] at h;obtain⟨f,g⟩:=h;subst f g h3;rw[Nat.add_comm,List.drop_succ_cons] at hq;have i:=P8 hq;rw[List.take_succ_cons,i];refine⟨rfl,fun d hd=>?_⟩;rw[List.mem_cons,List.mem_append] at hd;rcases hd with rfl|hd|hd
     ·decide
     ·exact jQ (Lv _ _ d hd)
     rw[List.mem_singleton] at hd;subst hd;decide
   rw[Ao hq] at h;cases h
  rw[Ao h3] at h;by_cases h4:c=63
  ·rw[Ap h4] at h;by_cases hm:E9 (c::r)=true
   ·rw[Ap hm] at h;obtain⟨f,g,_⟩:=Pj h;subst f g h4;exact zwd
   rw[Ao hm] at h;injection h with h;simp only[Prod.mk.injEq] at h;obtain⟨f,g⟩:=h;subst f g h4;refine⟨rfl,fun d hd=>?_⟩;simp only[List.take_succ_cons,List.take_zero,List.mem_singleton] at hd;subst hd;decide
  rw[Ao h4] at h;by_cases h5:c=35/\E9 (c::r)=true
  ·rw[Ap h5] at h;obtain⟨f,g,_⟩:=Pj h;subst f g;obtain⟨rfl,_⟩:=h5;exact zwd
  rw[Ao h5] at h;unfold F5 at h;by_cases h6:(c::r).take 2∈Jy
  ·rw[Ap h6] at h;injection h with h;simp only[Prod.mk.injEq] at h;obtain⟨f,g⟩:=h;subst f g;exact⟨rfl,(show ∀x∈Jy,∀d∈x,d≠10 by decide) _ h6⟩
  rw[Ao h6] at h;by_cases h7:(c::r).take 1∈Lu.map fun c=>[c]
  ·rw[Ap h7] at h;injection h with h;simp only[Prod.mk.injEq] at h;obtain⟨f,g⟩:=h;subst f g;exact⟨rfl,(show ∀x∈Lu.map (fun c=>[c]),∀d∈x,d≠10 by decide) _ h7⟩
  rw[Ao h7] at h;cases h
theorem Pq {l:List UInt8}{e:Int}(h:B2 l= .error e):e=4\/e=9:=by
 have d:∀{w':Wd} {m:Nat},C7 w' m= .error e->e=4:=fun{w' m} hh=>by
  unfold C7 at hh
  split at hh
  ·injection hh with hh;exact hh.symm
  cases hh
 unfold B2 at h;cases l with
 |nil=>injection h with h;exact .inl h.symm
 |cons c r=>
  simp only at h
  split at h
  ·exact .inl (d h)
  split at h
  ·unfold Md at h
   split at h
   ·cases h
   injection h with h;rw[←h]
   split
   ·exact .inr rfl
   exact .inl rfl
  split at h
  ·unfold Sb at h
   split at h
   ·split at h
    ·cases h
    injection h with h;exact .inl h.symm
   injection h with h;exact .inl h.symm
  split at h
  ·split at h
   ·exact .inl (d h)
   cases h
  split at h
  ·exact .inl (d h)
  unfold F5 at h
  split at h
  ·cases h
  split at h
  ·cases h
  injection h with h;exact .inl h.symm
open Go Go.Lib
def LX (l:List UInt8)(a b:Int):Except (Int×Int×Int) (List Tkn):=Jk l.length l a b
theorem bL (l:List UInt8):Fq l=LX l 1 1:=rfl
def cQ (t:Tkn):Except (Int×Int×Int) (List Tkn)->Except (Int×Int×Int) (List Tkn)
 | .error e=> .error e
 | .ok ts=> .ok (t::ts)
theorem Np (a b:Int):LX [] a b= .ok []:=rfl
theorem Q9 (r:List UInt8)(a b:Int):LX (10::r) a b=LX r (a+1) 1:=rfl
theorem N4 (r:List UInt8)(a b:Int):LX (32::r) a b=LX r a (b+1):=rfl
def Fc (c:UInt8):Bool:=c !=10
theorem Pt (r:List UInt8)(a b:Int):LX (59::r) a b=LX ((59::r).drop (Ba Fc (59::r))) a (b+Ba Fc (59::r)):=by
 have d:=Gn (q:=Fc) (c:=59) (r:=r) rH;have e:LX (59::r) a b=Jk r.length ((59::r).drop (Ba Fc (59::r))) a (b+Ba Fc (59::r)):=rfl;rw[e];exact Gm _ _ _ _ _ sQ (Ak _)
def Vx (c:UInt8):Prop:=c≠10/\c≠59/\c≠32
theorem Pg {c:UInt8}{r:List UInt8}(d:Vx c){e:Int}(h:B2 (c::r)= .error e)(a b:Int):LX (c::r) a b= .error (a,b,e):=by
 unfold LX;rw[Aa];unfold Jk;simp only;rw[Ao d.1,Ao d.2.1,Ao d.2.2,h]
theorem L0 {c:UInt8}{r:List UInt8}(d:Vx c){w:Wd}{n:Nat}(h:B2 (c::r)= .ok (w,n))(a b:Int):LX (c::r) a b=cQ ⟨w,a,b⟩ (LX ((c::r).drop n) a (b+n)):=by
 obtain⟨f,_⟩:=Fg h;have e:LX ((c::r).drop n) a (b+n)=Jk r.length ((c::r).drop n) a (b+n):=Gm _ _ _ _ _ (Ak _) sQ;rw[e];unfold LX;rw[Aa]
 conv=>lhs;unfold Jk
 simp only;rw[Ao d.1,Ao d.2.1,Ao d.2.2,h];simp only;cases Jk r.length ((c::r).drop n) a (b+n)<;>rfl
theorem L4 {P:List UInt8->Prop}(l:List UInt8)(d:l=[]->P l)(f:∀r,l=10::r->P l)(g:∀r,l=32::r->P l)(h:∀r,l=59::r->P l)
 (i:∀c r e,l=c::r->Vx c->B2 l= .error e->P l) (j:∀c r w n,l=c::r->Vx c->B2 l= .ok (w,n)->P l):P l:=by
 cases l with
 |nil=>exact d rfl
 |cons c r=>
  by_cases e1:c=10
  ·subst e1;exact f r rfl
  by_cases e2:c=32
  ·subst e2;exact g r rfl
  by_cases e3:c=59
  ·subst e3;exact h r rfl
  cases hw:B2 (c::r) with
  |error e=>exact i c r e rfl ⟨e1,e3,e2⟩ hw
  |ok p=>obtain⟨w,n⟩:=p;exact j c r w n rfl ⟨e1,e3,e2⟩ hw
def Tkn.down (d:Int)(t:Tkn):Tkn:=⟨t.w,t.line+d,t.col⟩
def Js (x:Except (Int×Int×Int) (List Tkn))(y:Except (Int×Int×Int) (List Tkn)):Except (Int×Int×Int) (List Tkn):=
 match x with
 | .error e=> .error e
 | .ok ts=>match y with
   | .error e=> .error e
   | .ok us=> .ok (ts++us)
theorem Wo {t:Tkn}{x:Except (Int×Int×Int) (List Tkn)}{ts:List Tkn}(h:cQ t x= .ok ts):∃c,x= .ok c/\ts=t::c:=by
 cases x with
 |error e=>cases h
 |ok c=>injection h with h;exact⟨c,rfl,h.symm⟩
def qQ (a b c d:Int):Prop:=a<c\/a=c/\b<d
def qN (a b c d:Int):Prop:=a<c\/a=c/\b<=d
theorem Kz:∀(k:Nat) (l:List UInt8) (a b:Int),l.length<=k->1<=b->
 (∀x y e,LX l a b= .error (x,y,e)->a<=x/\1<=y/\(e=4\/e=9))/\
 (∀ts,LX l a b= .ok ts->(∀t∈ts,qN a b t.line t.col)/\ts.Pairwise (fun s t=>qQ s.line s.col t.line t.col))
 |k,l,a,b,hk,hb=>by
  refine L4 (P:=fun l=>l.length<=k->(∀x y e,LX l a b= .error (x,y,e)->a<=x/\1<=y/\(e=4\/e=9))/\(∀ts,LX l a b= .ok ts->(∀t∈ts,qN a b t.line t.col)/\ts.Pairwise (fun s t=>qQ s.line s.col t.line t.col))) l ?_ ?_ ?_ ?_ ?_ ?_ hk
  ·rintro rfl _;refine⟨fun x y e h=>?_,fun ts h=>?_⟩
   ·rw[Np] at h;cases h
   rw[Np] at h;injection h with h;subst h;exact⟨by simp,List.Pairwise.nil⟩
  ·rintro r rfl hk;obtain⟨k,rfl⟩:∃j,k=j+1:=⟨k - 1,by rw[Aa] at hk;omega⟩;obtain⟨h1,h2⟩:=Kz k r (a+1) 1 sS rF;rw[Q9];refine⟨fun x y e h=>?_,fun ts h=>?_⟩
   ·obtain⟨h3,h4,h5⟩:=h1 x y e h;exact⟨by omega,h4,h5⟩
   obtain⟨h3,h4⟩:=h2 ts h;refine⟨fun t ht=>?_,h4⟩;rcases h3 t ht with h5|⟨h5,h6⟩
   ·exact .inl rF
   exact .inl rF
  ·rintro r rfl hk;obtain⟨k,rfl⟩:∃j,k=j+1:=⟨k - 1,by rw[Aa] at hk;omega⟩;obtain⟨h1,h2⟩:=Kz k r a (b+1) sS rF;rw[N4];exact zwo
  ·rintro r rfl hk;obtain⟨k,rfl⟩:∃j,k=j+1:=⟨k - 1,by rw[Aa] at hk;omega⟩;have i:=Gn (q:=Fc) (c:=59) (r:=r) rH;rw[Pt];obtain⟨h1,h2⟩:=Kz k ((59::r).drop (Ba Fc (59::r))) a (b+Ba Fc (59::r)) sF rF;exact zwo
  ·rintro c r e rfl f d hk;rw[Pg f d];refine⟨fun x y g h=>?_,fun ts h=>by cases h⟩;injection h with h;simp only[Prod.mk.injEq] at h;obtain⟨rfl,rfl,rfl⟩:=h;exact⟨Int.le_refl _,hb,Pq d⟩
  rintro c r w n rfl f d hk;obtain⟨k,rfl⟩:∃j,k=j+1:=⟨k - 1,by rw[Aa] at hk;omega⟩;obtain⟨m,_⟩:=Fg d;rw[L0 f d];obtain⟨h1,h2⟩:=Kz k ((c::r).drop n) a (b+n) sF rF;cases hx:LX ((c::r).drop n) a (b+n) with
  |error q=>
   obtain⟨o,p,g⟩:=q;refine⟨fun x y e h=>?_,fun ts h=>by cases h⟩;injection h with h;simp only[Prod.mk.injEq] at h;obtain⟨rfl,rfl,rfl⟩:=h;exact h1 _ _ _ hx
  |ok us=>
   refine⟨fun x y e h=>(by cases h),fun ts h=>?_⟩;injection h with h;subst h;obtain⟨h3,h4⟩:=h2 us hx;refine⟨fun t ht=>?_,List.Pairwise.cons (fun t ht=>?_) h4⟩
   ·rw[List.mem_cons] at ht;rcases ht with rfl|ht
    ·exact .inr ⟨rfl,Int.le_refl _⟩
    rcases h3 t ht with h5|⟨h5,h6⟩
    ·exact .inl h5
    exact .inr ⟨h5,by omega⟩
   rcases h3 t ht with h5|⟨h5,h6⟩
   ·exact .inl h5
   exact .inr ⟨h5,by show b<t.col;omega⟩
def bS (w:Wd):Prop:=∃c r n,Vx c/\B2 (c::r)= .ok (w,n)
theorem Sq:∀(k:Nat) (l:List UInt8) (a b:Int) (ts:List Tkn),l.length<=k->LX l a b= .ok ts->∀t∈ts,bS t.w
 |k,l,a,b,ts,hk,h=>by
  refine L4 (P:=fun l=>l.length<=k->LX l a b= .ok ts->∀t∈ts,bS t.w) l ?_ ?_ ?_ ?_ ?_ ?_ hk h
  ·rintro rfl _ h;rw[Np] at h;injection h with h;subst h;simp
  ·rintro q rfl hk h;obtain⟨k,rfl⟩:∃j,k=j+1:=⟨k - 1,by rw[Aa] at hk;omega⟩;exact Sq k q (a+1) 1 ts sS h
  ·rintro q rfl hk h;obtain⟨k,rfl⟩:∃j,k=j+1:=⟨k - 1,by rw[Aa] at hk;omega⟩;exact Sq k q a (b+1) ts sS h
  ·rintro q rfl hk h;obtain⟨k,rfl⟩:∃j,k=j+1:=⟨k - 1,by rw[Aa] at hk;omega⟩;have o:=Gn (q:=Fc) (c:=59) (r:=q) rH;rw[Pt] at h;exact Sq k _ a _ ts sF h
  ·rintro c q e rfl f d hk h;rw[Pg f d] at h;cases h
  rintro c q w n rfl f d hk h;obtain⟨k,rfl⟩:∃j,k=j+1:=⟨k - 1,by rw[Aa] at hk;omega⟩;obtain⟨p,_⟩:=Fg d;rw[L0 f d] at h;obtain⟨i,m,rfl⟩:=Wo h;intro t g;rw[List.mem_cons] at g;rcases g with rfl|g
  ·exact⟨c,q,n,f,d⟩
  exact Sq k _ a _ i sF m t g
def E5 (c:List UInt8):List (List UInt8)->List UInt8
 |[]=>[]
 |[x]=>x
 |x::y::r=>x++(c++E5 c (y::r))
theorem Jf:∀(k:Nat) (l:List UInt8) (a b:Int) (ts:List Tkn),l.length<=k->LX l a b= .ok ts->ts.length+(ts.map fun t=>(J1 t.w).length).sum<=2*l.length/\ts.length<=l.length
 |k,l,a,b,ts,hk,h=>by
  refine L4 (P:=fun l=>l.length<=k->LX l a b= .ok ts->ts.length+(ts.map fun t=>(J1 t.w).length).sum<=2*l.length/\ts.length<=l.length) l ?_ ?_ ?_ ?_ ?_ ?_ hk h
  ·rintro rfl _ h;rw[Np] at h;injection h with h;subst h;simp
  ·rintro q rfl hk h;obtain⟨k,rfl⟩:∃j,k=j+1:=⟨k - 1,by rw[Aa] at hk;omega⟩
   have:=Jf k q (a+1) 1 ts sS h
   rw[Aa];omega
  ·rintro q rfl hk h;obtain⟨k,rfl⟩:∃j,k=j+1:=⟨k - 1,by rw[Aa] at hk;omega⟩
   have:=Jf k q a (b+1) ts sS h
   rw[Aa];omega
  ·rintro q rfl hk h;obtain⟨k,rfl⟩:∃j,k=j+1:=⟨k - 1,by rw[Aa] at hk;omega⟩;have p:=Gn (q:=Fc) (c:=59) (r:=q) rH;rw[Pt] at h
   have:=Jf k _ a _ ts sF h
   rw[List.length_drop] at this;omega
  ·rintro c q e rfl f d hk h;rw[Pg f d] at h;cases h
  rintro c q w n rfl f d hk h;obtain⟨k,rfl⟩:∃j,k=j+1:=⟨k - 1,by rw[Aa] at hk;omega⟩;obtain⟨u,g⟩:=Fg d;obtain⟨i,_⟩:=Wm d;rw[L0 f d] at h;obtain⟨m,o,rfl⟩:=Wo h
  have:=Jf k _ a _ m sF o
  rw[List.length_drop] at this;rw[Aa,List.map_cons,List.sum_cons,i,List.length_take];omega
open Go Go.Lib
inductive S0 (w:Wd):Prop where
 |name (h:w.k=1) (t:Jh w.t=true) (v:w.v=v0)
 |var (h:w.k=2) (t:Jh w.t=true) (v:w.v=v0)
 |self (h:w.k=3) (t:w.t=[]) (v:w.v=v0)
 |num (h:w.k=4) (t:Dy w.t= .ok w.v) (m:∃c r,w.t=c::r/\Bg c=true/\Ce w.t=w.t.length)
 |str (h:w.k=5) (t:Dy (34::w.t++[34])= .ok w.v) (m:∀c∈w.t,El c=true) (s:Bd false (w.t++[34])=w.t.length)
 |sym (h:w.k=6) (t:Jh w.t=true) (v:w.v=(5,0,w.t))
 |sign (h:w.k=7) (t:w.t∈Jy\/w.t∈Lu.map fun c=>[c]) (v:w.v=v0)
theorem My {c:UInt8}{r:List UInt8}(d:D7 c=true)(h:((c::r).take (Ba Cv (c::r))).length<=12):Jh ((c::r).take (Ba Cv (c::r)))=true:=by
 have e:Cv c=true:=by unfold Cv;rw[d];rfl
 rw[Fa e,Nat.add_comm,List.take_succ_cons] at h ⊢
 show(decide ((r.take (Ba Cv r)).length<12) && D7 c && (r.take (Ba Cv r)).all fun b=>D7 b||Bg b)=true
 rw[d,Bool.and_true,Bool.and_eq_true,decide_eq_true_eq];exact⟨by rw[Aa] at h;omega,List.all_eq_true.2 (Gu r)⟩
theorem eA {l:List UInt8}{w:Wd}{n:Nat}(h:B2 l= .ok (w,n)):S0 w:=by
 have f:∀{w':Wd} {m:Nat},C7 w' m= .ok (w,n)->w'=w/\w'.t.length<=12:=fun{w' m} hh=>by
  unfold C7 at hh
  split at hh
  ·cases hh
  rename_i g
  injection hh with hh;exact⟨Ar Prod.fst hh,by omega⟩
 unfold B2 at h;cases l with
 |nil=>cases h
 |cons c r=>
  simp only at h;by_cases h1:D7 c=true
  ·rw[Ap h1] at h;obtain⟨rfl,g⟩:=f h;exact .name rfl (My h1 g) rfl
  rw[Ao h1] at h;by_cases h2:Bg c=true
  ·rw[Ap h2] at h;unfold Md at h;have o:=Nx (r:=r) h2;cases hv:Dy ((c::r).take (Ce (c::r))) with
   |error e=>rw[hv] at h;cases h
   |ok v=>
    rw[hv] at h;injection h with h;injection h with h _;subst h;refine .num rfl hv ⟨c,r.take (Ce (c::r) - 1),?_,h2,?_⟩
    ·show(c::r).take _=_
     obtain⟨m,i⟩:∃m,Ce (c::r)=m+1:=⟨Ce (c::r) - 1,by omega⟩;rw[i];rfl
    show Ce ((c::r).take _)=((c::r).take _).length;rw[Wl _ _ (Ak _),List.length_take,Nat.min_eq_left o.2]
  rw[Ao h2] at h;by_cases h3:c=34
  ·rw[Ap h3,Iu] at h;by_cases hq:((c::r).drop (1+Bd false r)).head? =some 34
   ·rw[Ap hq] at h;cases hv:Dy ((c::r).take (Bd false r+2)) with
    |error e=>rw[hv] at h;cases h
    |ok v=>
     rw[hv] at h;injection h with h;injection h with h _;subst h h3;rw[Nat.add_comm,List.drop_succ_cons] at hq;have k:=P8 hq;rw[List.take_succ_cons,k] at hv;refine .str rfl hv (Lv false r) ?_;show Bd false (r.take (Bd false r)++[34])=(r.take (Bd false r)).length;rw[←k,Ob false r _ (Nat.lt_succ_self _),List.length_take,Nat.min_eq_left (Mw false r)]
   rw[Ao hq] at h;cases h
  rw[Ao h3] at h;by_cases h4:c=63
  ·subst h4;rw[Ap rfl] at h;by_cases i:E9 (63::r)=true
   ·rw[Ap i] at h;obtain⟨rfl,g⟩:=f h;cases r with
    |nil=>cases i
    |cons d r=>exact .var rfl (My i g) rfl
   rw[Ao i] at h;injection h with h;injection h with h _;subst h;exact .self rfl rfl rfl
  rw[Ao h4] at h;by_cases h5:c=35/\E9 (c::r)=true
  ·rw[Ap h5] at h;obtain⟨rfl,g⟩:=f h;cases r with
   |nil=>cases h5.2
   |cons d r=>exact .sym rfl (My h5.2 g) rfl
  rw[Ao h5] at h;unfold F5 at h
  split at h
  ·rename_i j
   injection h with h;injection h with h _;subst h;exact .sign rfl (.inl j) rfl
  split at h
  ·rename_i j
   injection h with h;injection h with h _;subst h;exact .sign rfl (.inr j) rfl
  cases h
theorem Ot {l:List UInt8}{ts:List Tkn}(h:Fq l= .ok ts):∀t∈ts,S0 t.w:=fun t d=>by
 obtain⟨c,r,n,_,e⟩:=Sq _ l 1 1 ts (Ak _) h t d;exact eA e
theorem Wg:Jh [40]=false:=by decide
theorem T3 {l:List UInt8}{ts:List Tkn}(h:Fq l= .ok ts):∀t∈ts,t.w.k=1->t.w.t≠[40]:=fun t c d e=>by
 cases Ot h t c with
 |name _ ht' _=>rw[e,Wg] at ht';cases ht'
 |var h _ _=>omega
 |self h _ _=>omega
 |num h _ _=>omega
 |str h _ _ _=>omega
 |sym h _ _=>omega
 |sign h _ _=>omega
theorem Pc:∀(k:Nat) (l:List UInt8) (a b:Int) (ts:List Tkn),l.length<=k->1<=a->1<=b->LX l a b= .ok ts->∀t∈ts,1<=t.line/\t.line<=a+(l.length:Nat)/\1<=t.col/\t.col<=b+(l.length:Nat)
 |k,l,a,b,ts,hk,ha,hb,h=>by
  refine L4 (P:=fun l=>l.length<=k->LX l a b= .ok ts->∀t∈ts,1<=t.line/\t.line<=a+(l.length:Nat)/\1<=t.col/\t.col<=b+(l.length:Nat)) l ?_ ?_ ?_ ?_ ?_ ?_ hk h
  ·rintro rfl _ h;rw[Np] at h;injection h with h;subst h;intro t d;cases d
  ·rintro r rfl hk h t d;obtain⟨k,rfl⟩:∃j,k=j+1:=⟨k - 1,by rw[Aa] at hk;omega⟩;rw[Q9] at h
   have:=Pc k r (a+1) 1 ts sS rF rH h t d
   rw[Aa];omega
  ·rintro r rfl hk h t d;obtain⟨k,rfl⟩:∃j,k=j+1:=⟨k - 1,by rw[Aa] at hk;omega⟩;rw[N4] at h
   have:=Pc k r a (b+1) ts sS ha rF h t d
   rw[Aa];omega
  ·rintro r rfl hk h t d;obtain⟨k,rfl⟩:∃j,k=j+1:=⟨k - 1,by rw[Aa] at hk;omega⟩;have o:=Gn (q:=Fc) (c:=59) (r:=r) rH;have i:=Ds Fc (59::r);rw[Pt] at h
   have:=Pc k _ a _ ts sF ha rF h t d
   rw[List.length_drop] at this;omega
  ·rintro c r e rfl g f hk h;rw[Pg g f] at h;cases h
  rintro c r w n rfl g f hk h t d;obtain⟨k,rfl⟩:∃j,k=j+1:=⟨k - 1,by rw[Aa] at hk;omega⟩;obtain⟨p,m⟩:=Fg f;rw[L0 g f] at h;cases hx:LX ((c::r).drop n) a (b+n) with
  |error e=>rw[hx] at h;cases h
  |ok us=>
   rw[hx] at h;injection h with h;subst h;rw[List.mem_cons] at d;rcases d with rfl|d
   ·simp only;omega
   have:=Pc k _ a _ us sF ha rF hx t d
   rw[List.length_drop] at this;omega
theorem Kq {l:List UInt8}{ts:List Tkn}(h:Fq l= .ok ts):∀t∈ts,1<=t.line/\t.line<=1+(l.length:Nat)/\1<=t.col/\t.col<=1+(l.length:Nat):=
 Pc _ l 1 1 ts (Ak _) rH rH h
theorem cG:∀{l:List Nat} {x:Nat},x∈l->x<=l.sum
 |y::l,x,h=>by
  rw[List.sum_cons];rcases List.mem_cons.1 h with rfl|h
  ·omega
  have:=cG h
  omega
theorem T8 {l:List UInt8}{ts:List Tkn}(h:Fq l= .ok ts):∀t∈ts,t.w.t.length<=2*l.length:=fun t c=>by
 have d:=(Jf _ l 1 1 ts (Ak _) h).1;have e:(J1 t.w).length<=(ts.map fun t=>(J1 t.w).length).sum:=cG (List.mem_map.2 ⟨t,c,rfl⟩)
 have f:t.w.t.length<=(J1 t.w).length:=by
  unfold J1
  repeat' split
  all_goals (simp;try omega)
 omega
theorem Lk {x:ExR}{g:Ex->List Tkn->ExR}{p:Int×List Tkn}(h:x.next g= .error p):x= .error p\/∃a q,x= .ok (a,q)/\g a q= .error p:=by
 cases x with
 |error e=>exact .inl h
 |ok y=>exact .inr ⟨y.1,y.2,rfl,h⟩
theorem Xo {a:Ex}{q:List Tkn}{p:Int×List Tkn}(h:D4 a q= .error p):p.1=4:=by
 unfold D4 at h
 split at h
 ·cases h
 injection h with h;rw[←h]
theorem Yd {d:Nat}{r:List Tkn}{g:List Tkn->ExR}{p:Int×List Tkn}(h:Cc d r g= .error p):p.1=4\/p.1=12\/(isH [40] r=true/\d≠12/\g r.tail= .error p):=by
 unfold Cc at h
 split at h
 ·rename_i c
  split at h
  ·injection h with h;rw[←h];exact .inr (.inl rfl)
  rename_i hd
  exact .inr (.inr ⟨c,hd,h⟩)
 injection h with h;rw[←h];exact .inl rfl
theorem Wp:∀td d r,td.ok->∀p,exE td d r= .error p->p.1=4\/p.1=12\/p.1=14:=by
 refine U9 (P:=fun td d r=>∀p,exE td d r= .error p->p.1=4\/p.1=12\/p.1=14) ?_ ?_ ?_ ?_ ?_
 ·intro n d r u g i p h;rw[show exE (.lvl n) d r=_ from Kj u] at h;by_cases hp:isH (Kf n) r=true
  ·rw[Ap hp] at h;obtain⟨t,v,rfl⟩:=C6 hp;by_cases hd:d=12
   ·rw[Ap hd] at h;injection h with h;rw[←h];exact .inr (.inl rfl)
   rw[Ao hd] at h;rcases Lk h with e|⟨a,q,_,e⟩
   ·exact g t v rfl hp hd p e
   cases e
  rw[Ao hp] at h;exact i (by simpa using hp) p h
 ·intro d r g i p h;rw[show exE (.lvl 7) d r=_ from B3 d r] at h;cases r with
  |nil=>
   injection h with h;rw[←h];exact .inl rfl
  |cons t r=>
   simp only at h;cases hl:Dk t with
   |some x=>rw[hl] at h;cases h
   |none=>
    cases hc:Eh t with
    |some c=>
     rw[hl,hc] at h;rcases Yd h with e|e|⟨e,f,j⟩
     ·exact .inl e
     ·exact .inr (.inl e)
     obtain⟨t',m,rfl⟩:=C6 e;exact g t t' m c rfl hl hc e f p j
    |none=>
     rw[hl,hc] at h;rcases Yd h with e|e|⟨e,f,j⟩
     ·exact .inl e
     ·exact .inr (.inl e)
     rcases Lk j with o|⟨a,q,_,o⟩
     ·exact i t r rfl hl hc e f p o
     exact .inl (Xo o)
 ·intro n d r j k g i p h;rw[show exE (.lvl n) d r=_ from Lb j k] at h;rcases Lk h with e|⟨a,q,e,f⟩
  ·exact g p e
  exact i a q e p f
 ·intro n b d r g p h;rw[show exE (.row n b) d r=_ from Il n b d r] at h;by_cases hz:B6 r (Bt n)=0
  ·rw[Ap hz] at h;cases h
  rw[Ao hz] at h;obtain⟨t,r',rfl⟩:=Fz hz;obtain⟨j,k⟩:=Rr hz;obtain⟨y,A⟩:=g t r' rfl hz j k;rcases Lk h with e|⟨a,q,e,f⟩
  ·exact y p e
  by_cases h3n:n=3
  ·rw[Ap h3n] at f;cases f
  rw[Ao h3n] at f;exact A a q e p f
 intro c ks d r g i p h;rw[show exE (.args c ks) d r=_ from Ji c ks d r] at h;rcases Lk h with e|⟨a,q,e,f⟩
 ·exact g p e
 by_cases hm:(isH [44] q && decide (ks.length+1=c.most)||isH [41] q && decide (ks.length+1<c.least))=true
 ·rw[Ap hm] at f;injection f with f;rw[←f];exact .inr (.inr rfl)
 rw[Ao hm] at f;by_cases hcm:isH [44] q=true
 ·rw[Ap hcm] at f;obtain⟨t',m,rfl⟩:=C6 hcm;exact i a t' m e hcm p f
 rw[Ao hcm] at f;exact .inl (Xo f)
def Eu (ts:List Tkn):Int×Int:=match ts.getLast? with
 |none=>(1,1)
 |some t=>(t.line,t.col+t.w.t.length+if t.w.k=2\/t.w.k=3\/t.w.k=6 then 1 else if t.w.k=5 then 2 else 0)
def Pd (ts q:List Tkn):Int×Int:=match q with
 |t::_=>(t.line,t.col)
 |[]=>Eu ts
def B9 (l:List UInt8):Except ((Int×Int)×Int) Ex:=match Fq l with
 | .error (a,b,e)=> .error ((a,b),e)
 | .ok ts=>match Bc 0 0 ts with
   | .error (e,q)=> .error (Pd ts q,e)
   | .ok (a,q)=>if 60<a.size then .error (Pd ts ts,7) else if q=[] then .ok a else .error (Pd ts q,4)
end Go.Proofs.YtgfakdobajgnfaaGreatDoor
