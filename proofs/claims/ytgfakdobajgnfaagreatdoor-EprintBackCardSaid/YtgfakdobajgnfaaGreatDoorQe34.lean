import Derived.Test.YtgfakdobajgnfaaGreatDoorQe31
set_option maxRecDepth 100000
set_option maxHeartbeats 16000000
namespace Go.Proofs.YtgfakdobajgnfaaGreatDoor
open Go Go.Lib
def qtE:Bool->List UInt8->Bool
 |q,[]=>q
 |q,c::r=>qtE (q !=(c==34)) r
def G0:Bool->List UInt8->Nat
 |_,[]=>0
 |q,c::r=>(if(c==40 && !q)=true then 1 else 0)+G0 (q !=(c==34)) r
def Lb:Bool->List UInt8->Bool
 |_,[]=>false
 |q,c::r=>(c==59 && !q)||Lb (q !=(c==34)) r
theorem Px:∀(l m:List UInt8) (q:Bool),qtE q (l++m)=qtE (qtE q l) m
 |[],_,_=>rfl
 |c::l,m,q=>by rw[List.cons_append,qtE,qtE,Px l m]
theorem I9:∀(l m:List UInt8) (q:Bool),G0 q (l++m)=G0 q l+G0 (qtE q l) m
 |[],m,q=>by rw[List.nil_append,G0,qtE,Nat.zero_add]
 |c::l,m,q=>by rw[List.cons_append,G0,G0,qtE,I9 l m,Nat.add_assoc]
theorem I2:∀(l m:List UInt8) (q:Bool),Lb q (l++m)=(Lb q l||Lb (qtE q l) m)
 |[],m,q=>by rw[List.nil_append,Lb,qtE,Bool.false_or]
 |c::l,m,q=>by rw[List.cons_append,Lb,Lb,qtE,I2 l m,Bool.or_assoc]
def Oa (l:List UInt8):Prop:=∀c∈l,c≠34/\c≠40/\c≠59
theorem Oa.all:∀{l:List UInt8},Oa l->∀q:Bool,qtE q l=q/\G0 q l=0/\Lb q l=false
 |[],_,_=>⟨rfl,rfl,rfl⟩
 |c::l,h,q=>by
  obtain⟨h1,h2,h3⟩:=h c Ai
  obtain⟨i1,i2,i3⟩:=Oa.all (l:=l) (fun d hd=>h d (Aj _ hd)) q
  have e1:(c==34)=false:=by simpa using h1
  have e2:(c==40)=false:=by simpa using h2
  have e3:(c==59)=false:=by simpa using h3
  rw[qtE,G0,Lb,e1,e2,e3,Bool.bne_false,i1,i2,i3];exact⟨rfl,rfl,rfl⟩
theorem Vs:∀{l:List UInt8},(∀c∈l,c≠34)->qtE true l=true/\G0 true l=0/\Lb true l=false
 |[],_=>⟨rfl,rfl,rfl⟩
 |c::l,h=>by
  obtain⟨i1,i2,i3⟩:=Vs (l:=l) fun d hd=>h d (Aj _ hd)
  have e1:(c==34)=false:=by simpa using h c Ai
  rw[qtE,G0,Lb,e1,Bool.bne_false,i1,i2,i3];simp
def Ie (t:List UInt8)(n:Nat):Prop:=(92:UInt8)∉t->qtE false t=false/\G0 false t=n/\Lb false t=false
theorem Ie.app {t u:List UInt8}{n m:Nat}(h:Ie t n)(k:Ie u m):Ie (t++u) (n+m):=fun hb=>by
 obtain⟨h1,h2,h3⟩:=h fun e=>hb (List.mem_append_left _ e)
 obtain⟨k1,k2,k3⟩:=k fun e=>hb (List.mem_append_right _ e)
 rw[Px,I9,I2,h1,h2,h3,k1,k2,k3];exact⟨rfl,rfl,rfl⟩
theorem Oa.scan {t:List UInt8}(h:Oa t):Ie t 0:=fun _=>h.all false
theorem fY {t:List UInt8}{n:Nat}(h:Ie t n):Ie (40::t) (n+1):=fun hb=>by
 obtain⟨h1,h2,h3⟩:=h fun e=>hb (Aj _ e)
 show qtE false t=false/\1+G0 false t=_/\(false||Lb false t)=false
 rw[h1,h2,h3];exact⟨rfl,Nat.add_comm _ _,rfl⟩
theorem Ia {c:UInt8}{t:List UInt8}{n:Nat}(h:Ie t n)(hc:c≠34/\c≠40/\c≠59):Ie (c::t) n:=by
 have:=Ie.app (t:=[c]) (u:=t) (Oa.scan fun d hd=>by rw[List.mem_singleton.1 hd];exact hc) h
 rwa [Nat.zero_add] at this
theorem Za {t:List UInt8}{n:Nat}(h:Ie t n):Ie (Ms t) (n+1):=by
 have:=fY (Ie.app h (Oa.scan (t:=[41]) (by intro c hc;rw[List.mem_singleton.1 hc];decide)))
 rwa [Nat.add_zero] at this
theorem Rj {t:List UInt8}(h:I8 t=true):Oa t:=fun c hc=>by
 have h1:=List.all_eq_true.1 (Fa h).2.2.1 c hc;simp only[Bool.or_eq_true,Dk,A3,Bool.and_eq_true,decide_eq_true_eq] at h1
 refine⟨?_,?_,?_⟩<;>(rintro rfl;revert h1;decide)
theorem Zt:∀(t:List UInt8),(92:UInt8)∉t->A1 false (t++[34])=t.length->∀c∈t,c≠34
 |[],_,_=>fun c hc=>by cases hc
 |d::t,hb,h=>fun c hc=>by
  have e92:(d==92)=false:=by
   have:d≠92:=fun e=>hb (e▸Ai)
   simpa using this
  rw[List.cons_append,Br,e92,Aa] at h
  by_cases hd:((d==34 && !false)||!Hy d)=true
  ·rw[if_pos hd] at h;omega
  ·rw[if_neg hd] at h
   have ih:=Zt t (fun e=>hb (Aj _ e)) (by
    have h2:1+A1 false (t++[34])=t.length+1:=by simpa using h
    omega)
   rcases List.mem_cons.1 hc with rfl|hc
   ·intro e;subst e;simp at hd
   ·exact ih c hc
theorem We {w:Wd}(hf:Qg w):Ie (Dz w) (if isW [40] w=true then 1 else 0):=by
 have hno:w.k≠1->w.k≠7->(if isW [40] w=true then 1 else 0)=0:=fun h1 h7=>by
  rw[if_neg];unfold isW;rw[An h1,An h7];simp
 cases hf with
 |name h t v=>
  have hne:isW [40] w=false:=by
   unfold isW
   have:w.t≠[40]:=fun e=>by rw[e,Rv] at t;cases t
   rw[An this];rfl
  rw[hne];unfold Dz;rw[if_neg rA,if_neg rA,if_neg rA];exact(Rj t).scan
 |var h t v=>
  rw[hno rA rA];unfold Dz;rw[if_pos (.inl h)];exact Ia (Rj t).scan rB
 |self h t v=>
  rw[hno rA rA];unfold Dz;rw[if_pos (.inr h),t]
  exact Ia (Oa.scan (by intro c hc;cases hc)) rB
 |num h t m=>
  rw[hno rA rA];unfold Dz;rw[if_neg rA,if_neg rA,if_neg rA];obtain⟨c,r,_,_,hl⟩:=m
  refine Oa.scan fun d hd=>?_
  have:=T1 w.t d (by rw[hl,List.take_length];exact hd)
  rcases this with h1|rfl
  ·simp only[A3,Bool.and_eq_true,decide_eq_true_eq] at h1
   refine⟨?_,?_,?_⟩<;>(rintro rfl;revert h1;decide)
  ·decide
 |str h t m s=>
  rw[hno rA rA];unfold Dz;rw[if_neg rA,if_pos h];intro hb
  have hb':(92:UInt8)∉w.t:=fun e=>hb (Aj _ (List.mem_append_left _ e))
  obtain⟨i1,i2,i3⟩:=Vs (Zt w.t hb' s)
  show qtE true (w.t++[34])=false/\0+G0 true (w.t++[34])=0/\(false||Lb true (w.t++[34]))=false
  rw[Px,I9,I2,i1,i2,i3];exact⟨rfl,rfl,rfl⟩
 |sym h t v=>
  rw[hno rA rA];unfold Dz;rw[if_neg rA,if_neg rA,if_pos h];exact Ia (Rj t).scan rB
 |sign h t v=>
  unfold Dz;rw[if_neg rA,if_neg rA,if_neg rA]
  have hm:w.t∈E4++Mc.map fun c=>[c]:=by
   rcases t with t|t
   ·exact List.mem_append_left _ t
   ·exact List.mem_append_right _ t
  have hi:isW [40] w=decide (w.t=[40]):=by
   unfold isW;rw[Am h];simp
  rw[hi];intro _
  exact(by decide:∀t∈E4++Mc.map fun c=>[c],qtE false t=false/\G0 false t=(if decide (t=[40])=true then 1 else 0)/\Lb false t=false) w.t hm
theorem Uv:∀l:List Ex,(∀e∈l,Ie e.text (Cw e.words))->Ie (Gc [44,32] (l.map Ex.text)) (Mr l)
 |[],_=>Oa.scan fun c hc=>by cases hc
 |[e],h=>by
  have:=h e Ai
  show Ie e.text (Cw e.words+0)
  exact this
 |e::f::l,h=>by
  have ih:=Uv (f::l) fun x hx=>h x (Aj _ hx)
  show Ie (e.text++([44,32]++Gc [44,32] ((f::l).map Ex.text))) (Cw e.words+Mr (f::l))
  refine Ie.app (h e Ai) ?_;exact Ia (Ia ih rB) rB
theorem Q3 {op:Int}(h:Fw op\/Fq op\/op=6\/op=17):Oa (Cf op):=by
 have:∀l:List UInt8,l.all (fun c=>c !=34 && c !=40 && c !=59)=true->Oa l:=fun l hl c hc=>by
  have:=List.all_eq_true.1 hl c hc
  simp only[Bool.and_eq_true,bne_iff_ne,ne_eq] at this;exact⟨this.1.1,this.1.2,this.2⟩
 refine this _ ?_
 rcases h with h|h|h|h
 ·exact zx2
 ·rcases h with rfl|rfl|rfl|rfl|rfl|rfl|rfl|rfl|rfl<;>decide
 ·subst h;decide
 ·subst h;decide
theorem Ny:∀(k:Nat) (a:Ex),a.size<=k->a.All F4->Ie a.text (Cw a.words)
 |0,a,hk,_=>absurd a.size_pos rA
 |k+1,.mk h ks,hk,hg=>by
  rw[Ex.size] at hk;rw[Ex.All] at hg
  have ih:∀e∈ks,Ie e.text (Cw e.words):=fun e he=>Ny k e (by have:=Ju he;omega) (I4 hg.2 e he)
  have ihA:∀e∈ks,∀n,Ie (Ev n e) (Cw (Bc n e)):=fun e he n=>by
   unfold Ev Bc
   split
   ·rw[Nw];exact Za (ih e he)
   ·exact ih e he
  cases Gn hg.1 with
  |leaf h1 h3 ok=>
   have:=We ok.form
   rw[(Jj h3 []).1,(Jj h3 []).2.1,←ok.spell,Et]
   show Ie _ (0+_)
   rw[Nat.zero_add];exact this
  |pre n hn ho=>
   rename_i e
   rw[(Jd hn ho e).1,(Jd hn ho e).2.1,Et]
   have h0:isW [40] (if n=2 then(⟨1,[110,111,116],v0⟩:Wd) else E7 [45])=false:=by rcases hn with rfl|rfl<;>decide
   rw[h0]
   have:=Ie.app (Oa.scan (Q3 (op:=J2 n) (by rcases hn with rfl|rfl<;>simp [J2]))) (ihA e Ai n)
   rw[Nat.zero_add] at this;exact this
  |mid hi=>
   rename_i e f
   rw[(Jb hi e f).1,(Jb hi e f).2.1,N4,Yw hi];refine Ie.app (ihA e Ai _) (Ia ?_ rB)
   have:=Ie.app (Oa.scan (Q3 (.inl hi))) (Ia (ihA f (Aj _ Ai) (Az h.op+1)) (c:=32) rB)
   rwa [Nat.zero_add] at this
  |call hc q1 q2=>
   rename_i e es
   rw[(G7 hc _).1,(G7 hc _).2.1,Tk hc,Nw,O6]
   have:=Ie.app (Oa.scan (Q3 (.inr (.inl hc)))) (Za (Uv _ ih))
   rwa [Nat.zero_add] at this
theorem Pk:∀(k:Nat) (l:List UInt8) (a b:Int) (ts:List Tkn),l.length<=k->LX l a b= .ok ts->(92:UInt8)∉l->Lb false l=false->Ef ts<=G0 false l
 |k,l,a,b,ts,hk,h,hb,hr=>by
  refine Ib (P:=fun l=>l.length<=k->LX l a b= .ok ts->(92:UInt8)∉l->Lb false l=false->Ef ts<=G0 false l) l ?_ ?_ ?_ ?_ ?_ ?_ hk h hb hr
  ·rintro rfl _ h _ _;rw[Je] at h;injection h with h;subst h;exact Nat.zero_le _
  ·rintro r rfl hk h hb hr
   obtain⟨k,rfl⟩:∃j,k=j+1:=⟨k - 1,by rw[Aa] at hk;omega⟩
   rw[Jl] at h
   have:=Pk k r (a+1) 1 ts rX h (fun e=>hb (Aj _ e)) hr
   exact Al this (Nat.le_add_left _ _)
  ·rintro r rfl hk h hb hr
   obtain⟨k,rfl⟩:∃j,k=j+1:=⟨k - 1,by rw[Aa] at hk;omega⟩
   rw[Fz] at h
   have:=Pk k r a (b+1) ts rX h (fun e=>hb (Aj _ e)) hr
   exact Al this (Nat.le_add_left _ _)
  ·rintro r rfl _ _ _ hr;cases hr
  ·rintro c r e rfl hc hw _ h _ _;rw[La hc hw] at h;cases h
  ·rintro c r w n rfl hc hw hk h hb hr
   obtain⟨k,rfl⟩:∃j,k=j+1:=⟨k - 1,by rw[Aa] at hk;omega⟩
   rw[Ez hc hw] at h;obtain⟨us,h1,rfl⟩:=Sz h;obtain⟨n1,n2⟩:=Ea hw;have hsp:=(Ni hw).1;have hsc:=We (Up hw);rw[hsp] at hsc
   obtain⟨s1,s2,s3⟩:=hsc fun e=>hb (List.mem_of_mem_take e)
   have hcut:=List.take_append_drop n (c::r)
   have e1:G0 false (c::r)=G0 false ((c::r).take n)+G0 false ((c::r).drop n):=by
    conv=>lhs;rw[←hcut]
    rw[I9,s1]
   have e2:Lb false ((c::r).drop n)=false:=by
    rw[←hcut,I2,s1,s3] at hr;exact hr
   have ih:=Pk k ((c::r).drop n) a (b+n) us (by rw[List.length_drop];rw[Aa] at hk ⊢;omega) h1 (fun e=>hb (List.mem_of_mem_drop e)) e2
   rw[I0,e1,s2]
   show Ef us+(if isW [40] w=true then 1 else 0)<=_
   omega
theorem bF {l:List UInt8}{a:Ex}(h:Bn l= .ok a)(hb:(92:UInt8)∉a.text){A B C:List UInt8}(ht:a.text=A++40::(B++41::C))(qa:qtE false A=false)(qb:qtE false B=false){v:Ex}(hv:Bn (A++(B++C))= .ok v):v.text≠a.text:=fun hva=>by
 obtain⟨s1,s2,s3⟩:=Ny _ a (Ak _) (Ei h) hb;obtain⟨_,ts,h1,h2⟩:=O2 hv
 obtain⟨_,v2,_⟩:=Ny _ v (Ak _) (Ei hv) (by rw[hva];exact hb)
 rw[←v2,hva,ht] at h2
 have hb2:(92:UInt8)∉A++(B++C):=fun e=>hb (by
  rw[ht]
  rcases List.mem_append.1 e with e|e
  ·exact List.mem_append_left _ e
  ·refine List.mem_append_right _ (Aj _ ?_)
   rcases List.mem_append.1 e with e|e
   ·exact List.mem_append_left _ e
   ·exact List.mem_append_right _ (Aj _ e))
 have r1:Lb false (A++(B++C))=false:=by
  rw[ht,I2,qa] at s3;simp only[Lb] at s3
  rw[show((false:Bool) !=((40:UInt8)==34))=false from rfl,I2,qb] at s3
  simp only[Lb] at s3
  rw[show((false:Bool) !=((41:UInt8)==34))=false from rfl] at s3
  rw[I2,I2,qa,qb]
  simpa using s3
 have h3:=Pk _ _ 1 1 ts (Ak _) h1 hb2 r1
 have c1:G0 false (A++40::(B++41::C))=G0 false A+(1+(G0 false B+G0 false C)):=by
  rw[I9,qa]
  show _+(1+G0 false (B++41::C))=_
  rw[I9,qb]
  show _+(1+(_+(0+G0 false C)))=_
  rw[Nat.zero_add]
 have c2:G0 false (A++(B++C))=G0 false A+(G0 false B+G0 false C):=by rw[I9,I9,qa,qb]
 omega
open Go Go.RowKit Go.Lib Go.Sort Go.Shelf
def Yk (s:ByteArray)(w:World)(e:Ending)(w':World):Prop:=
 Below w.heap.size w w'/\(e= .returned (.tuple #[.string ⟨#[]⟩,.bool false])\/∃A B C,dl s=A++40::(B++41::C)/\(92:UInt8)∉dl s/\qtE false A=false/\qtE false B=false/\e= .returned (.tuple #[.string ⟨(A++(B++C)).toArray⟩,.bool true]))
structure Zj (w wr:World)(s:ByteArray)(i:Nat)(L:List Nat)(v:Value):Prop where
 row:wr.ownsRow w.heap.size 3 1 v L.length (Eg L)
 bel:Below w.heap.size w wr
 few:L.length<=i
 ok:∀x∈L,(dl s)[x]? =some 40/\qtE false ((dl s).take x)=false
 no:(92:UInt8)∉(dl s).take i
theorem Yo {s:ByteArray}{i:Nat}(h:i<s.size):(dl s).take (i+1)=(dl s).take i++[s[i]]:=by rw[List.take_add_one,Fm h];rfl
theorem dK {s:ByteArray}{i:Nat}(h:i<s.size):qtE false ((dl s).take (i+1))=(qtE false ((dl s).take i) !=(s[i]==34)):=by rw[Yo h,Px];rfl
theorem Zj.next {w wr:World}{s:ByteArray}{i:Nat}{L:List Nat}{v:Value}(h:Zj w wr s i L v)(hi:i<s.size)(h92:s[i]≠92):Zj w wr s (i+1) L v:=
 ⟨h.row,h.bel,by have:=h.few;omega,h.ok,by
   rw[Yo hi];intro e
   rcases List.mem_append.1 e with e|e
   ·exact h.no e
   ·exact h92 (List.mem_singleton.1 e).symm⟩
structure eM (s:ByteArray)(f i:Nat)(d:Nat):Prop where
 le:f<=i
 first:i=f->d=0
 deep:f<i->1<=d
 few:d<=i
theorem iW {s:ByteArray}{f i:Nat}(hf:(dl s)[f]? =some 40)(qf:qtE false ((dl s).take f)=false)(hfi:f<i)(hi:i<s.size)(h41:s[i]=41)(qi:qtE false ((dl s).take i)=false):
 ∃A B C,dl s=A++40::(B++41::C)/\qtE false A=false/\qtE false B=false/\dl (s.extract 0 f++s.extract (f+1) i++s.extract (i+1) s.size)=A++(B++C):=by
 have hl:=Ax s;have hi?:=Fm hi;rw[h41] at hi?
 have h1:dl s=(dl s).take f++40::(dl s).drop (f+1):=by
  conv=>lhs;rw[←List.take_append_drop f (dl s)]
  rw[List.drop_eq_getElem_cons rA,(List.getElem?_eq_some_iff.1 hf).2]
 have h2:(dl s).drop (f+1)=((dl s).drop (f+1)).take (i - (f+1))++41::(dl s).drop (i+1):=by
  conv=>lhs;rw[←List.take_append_drop (i - (f+1)) ((dl s).drop (f+1))]
  rw[List.drop_drop,show f+1+(i - (f+1))=i by omega,List.drop_eq_getElem_cons (i:=i) (l:=dl s) rA,(List.getElem?_eq_some_iff.1 hi?).2]
 refine⟨(dl s).take f,((dl s).drop (f+1)).take (i - (f+1)),(dl s).drop (i+1),?_,qf,?_,?_⟩
 ·rw[←h2];exact h1
 ·have h3:(dl s).take i=(dl s).take f++40::((dl s).drop (f+1)).take (i - (f+1)):=by
   conv=>lhs;rw[h1]
   rw[List.take_append,List.take_take,Nat.min_eq_right rA,List.length_take,Nat.min_eq_left rA]
   obtain⟨m,hm⟩:∃m,i - f=m+1:=⟨i - f - 1,by omega⟩
   rw[hm,List.take_succ_cons,show i - (f+1)=m by omega]
  rw[h3,Px,qf] at qi;exact qi
 ·rw[Cu,Cu,E6,E6,F1,List.drop_zero,Nat.sub_zero,List.append_assoc]
theorem kJ (s:ByteArray)(kk:Int)(w:World)(hsz:s.size<=1000000)(hq0:(92:UInt8)∉dl s->qtE false (dl s)=false):Calls Tryz.prog 26 #[.string s,.int .i64 kk] w (Yk s w):=by
 have Hq0:=Ao hq0;clear hq0;go_enter Tryz.func26,Tryz.ntmps26;go_wp2_with fail
 go_loopw [6,7,14] (fun v6 v7 v14 wr=>∃(i:Nat) (L:List Nat) (va:Option Addr) (vc:Nat),i<=s.size/\v14= .int .i64 i/\v7= .bool (qtE false ((dl s).take i))/\v6= .slice va L.length vc/\Hid (Zj w wr s i L (.slice va L.length vc))) (fun _ _ v14 _=>s.size - (intOf v14).toNat)
 case atStart=>exact⟨0,[],none,0,Nat.zero_le _,rfl,rfl,rfl,Ao ⟨World.ownsRow_nil _ _ _ _,Below.refl _ w,Ak _,fun x hx=>(by cases hx),by simp⟩⟩
 case round=>
  obtain⟨i,L,va,vc,hi,rfl,rfl,rfl,hq⟩:=hrel
  by_cases hil:i<s.size
  ·have j0:(0:Int)<=(i:Int):=by omega
   have j1:(i:Int)<(s.size:Int):=by omega
   have j2:decide ((i:Int)<(s.size:Int))=true:=Am j1;have hQ1:=dK hil;have hget:=Fm hil
   obtain⟨q,hqq⟩:∃q,qtE false ((dl s).take i)=q:=⟨_,rfl⟩
   rw[hqq] at hQ1 ⊢
   have hne:∀d:UInt8,s[i]≠d->((s[i].toNat:Int)==(d.toNat:Int))=false:=fun d hd=>by
    have:s[i].toNat≠d.toNat:=fun e=>hd (UInt8.toNat_inj.1 e)
    simpa using fun e:(s[i].toNat:Int)=(d.toNat:Int)=>this rA
   have Hq:=Ao hq.out;have HQ1:=Ao hQ1;have Hget:=Ao hget;have Hqq:=Ao hqq;have Hne:=Ao hne;clear hq hQ1 hget hqq hne
   by_cases h34:s[i]=34
   ·have e34:((s[i].toNat:Int)==34)=true:=by rw[h34];rfl
    have e92:((s[i].toNat:Int)==92)=false:=by rw[h34];rfl
    have e40:((s[i].toNat:Int)==40)=false:=by rw[h34];rfl
    have hn:=Hq.out.next hil (by rw[h34];decide)
    have hQ:qtE false ((dl s).take (i+1))=!q:=by rw[HQ1.out,h34];cases q<;>rfl
    have Hn:=Ao hn;have HQ:=Ao hQ;have H34:=Ao h34;clear h34 hn hQ Hne
    cases q with
    |true=>
     exact zww
    |false=>
     exact zww
   ·have e34:((s[i].toNat:Int)==34)=false:=Hne.out 34 h34
    have hQ:qtE false ((dl s).take (i+1))=q:=by
     have:(s[i]==34)=false:=by simpa using h34
     rw[HQ1.out,this,Bool.bne_false]
    have HQ:=Ao hQ;have H34:=Ao h34;clear h34 hQ
    by_cases h92:s[i]=92
    ·have e92:((s[i].toNat:Int)==92)=true:=by rw[h92];rfl
     have HB:=Ao Hq.out.bel;clear h92 Hq Hne HQ1 HQ;exact zwq
    ·have e92:((s[i].toNat:Int)==92)=false:=Hne.out 92 h92;have hn:=Hq.out.next hil h92;have Hn:=Ao hn;have H92:=Ao h92;clear h92 hn
     by_cases h40:s[i]=40/\q=false
     ·obtain⟨h40,rfl⟩:=h40
      have e40:((s[i].toNat:Int)==40)=true:=by rw[h40];rfl
      have H40:=Ao h40;clear h40;have Hrow:=Ao (Hn.out.row.alloc (.cells #[.int .i64 (i:Int)] 3));have HN1:=Ao (Au wr (.cells #[.int .i64 (i:Int)] 3));have HZ:Hid ((wr.alloc (.cells #[.int .i64 (i:Int)] 3)).heap.size=wr.heap.size+1):=Ao rC;have hsr:=Hn.out.bel.size;have hfw:=Hn.out.few;have Hown:=Ao (Cm Hn.out.row);obtain⟨i0,hi0,hz0,hz1,hz2⟩:=Iv;have Hi0:=Ao hi0;have Hy0:=Ao hz0;have Hy1:=Ao hz1;have Hy2:=Ao hz2;clear hi0 hz0 hz1 hz2
      by_cases hi0:i=0
      ·have k0:((i:Int)==0)=true:=by simp [hi0]
       have k0':(i==0)=true:=by simp [hi0]
       clear hi0;exact zz4
      ·obtain⟨j,hj⟩:∃j,i=j+1:=⟨i - 1,by omega⟩
       have k0:((i:Int)==0)=false:=by simp;omega
       have k0':(i==0)=false:=by simp;omega
       have k1:(i:Int) - 1=(j:Int):=by omega
       have k2:(0:Int)<=(j:Int):=by omega
       have k3:(j:Int)<(s.size:Int):=by omega
       have hjl:j<s.size:=by omega
       obtain⟨c,hc⟩:∃c,s[j]=c:=⟨_,rfl⟩
       have hne:∀d:UInt8,c≠d->((c.toNat:Int)==(d.toNat:Int))=false:=fun d hd=>by
        have:c.toNat≠d.toNat:=fun e=>hd (UInt8.toNat_inj.1 e)
        simpa using fun e:(c.toNat:Int)=(d.toNat:Int)=>this rA
       clear hj hi0
       by_cases h1:c=32
       ·have m1:((c.toNat:Int)==32)=true:=by rw[h1];rfl
        clear h1 hne;exact zz4
       ·have m1:((c.toNat:Int)==32)=false:=hne 32 h1
        by_cases h2:c=40
        ·have m2:((c.toNat:Int)==40)=true:=by rw[h2];rfl
         clear h1 h2 hne;exact zz4
        ·have m2:((c.toNat:Int)==40)=false:=hne 40 h2
         by_cases h3:c=45
         ·have m3:((c.toNat:Int)==45)=true:=by rw[h3];rfl
          clear h1 h2 h3 hne;exact zz4
         ·have m3:((c.toNat:Int)==45)=false:=hne 45 h3;clear h1 h2 h3 hne;clear Hrow HN1 HZ hsr Hown;exact zya
     ·have e40:q=true\/((s[i].toNat:Int)==40)=false:=by
       cases q with
       |true=>exact .inl rfl
       |false=>exact .inr (Hne.out 40 fun e=>h40 ⟨e,rfl⟩)
      have E40:=Ao e40;clear e40 h40 Hq Hget Hqq HQ1 Hne
      cases q with
      |true=>
       exact zya
      |false=>
       have e40:((s[i].toNat:Int)==40)=false:=E40.out.resolve_left rB;exact zya
  ·obtain rfl:i=s.size:=by omega
   have j2:decide ((s.size:Int)<(s.size:Int))=false:=by simp
   have hbl:=hq.out.bel
   have hno:(92:UInt8)∉dl s:=by
    have:=hq.out.no
    rwa [List.take_of_length_le (by rw[Ax];exact Ak _)] at this
   have hqe:qtE false ((dl s).take s.size)=false:=by
    rw[List.take_of_length_le (by rw[Ax];exact Ak _)]
    exact Hq0.out hno
   rw[hqe];have HB:=Ao hbl
   by_cases hL:L.length=0
   ·have z0:((L.length:Int)==0)=true:=by simp [hL]
    have z0':(L.length==0)=true:=by simp [hL]
    clear hq hbl hno hqe;exact zwq
   ·have z0:((L.length:Int)==0)=false:=by rw[Af];omega
    have z0':(L.length==0)=false:=by rw[Af];exact hL
    obtain⟨p,hp,hpe⟩:=Yy kk L.length rA
    obtain⟨x,hx⟩:∃x,L[p]=x:=⟨_,rfl⟩
    obtain⟨hx40,hxq⟩:=hq.out.ok x (hx▸List.getElem_mem hp)
    have hxl:x<s.size:=by have:=(List.getElem?_eq_some_iff.1 hx40).1;rw[Ax] at this;exact this
    have hrow:=hq.out.row;have hfew:=hq.out.few
    obtain⟨g,e0,hgc⟩:∃g,va=some ⟨g,0,none⟩/\wr.cell? ⟨g,p,none⟩=some (.int .i64 (x:Int)):=by
     rcases hrow.2 with ⟨_,h0⟩|⟨g,cap,cur,e,_,hg,hc,_⟩
     ·omega
     ·injection e with e1 _ _;refine⟨g,e1,?_⟩;subst e1
      have:=hrow.cells (g:=g) rfl p (.int .i64 (x:Int)) (by simp [Eg,hp,hx])
      rwa [Addr.add_lit,Nat.zero_add] at this
    subst e0
    have y0:(0:Int)<=(p:Int):=by omega
    have y1:(p:Int)<(L.length:Int):=by omega
    have y2:((L.length:Int)==0)=false:=z0;have Hx40:=Ao hx40;have Hxq:=Ao hxq;have Hno:=Ao hno;clear hq hbl hno hqe hx40 hxq hrow hx;go_wp2_with fail
    go_loopw [7,10,11] (fun v7 v10 v11 wx=>∃(i d:Nat),x<=i/\i<=s.size/\v11= .int .i64 i/\v10= .int .i64 d/\v7= .bool (qtE false ((dl s).take i))/\Hid (eM s x i d/\Below w.heap.size w wx)) (fun _ _ v11 _=>s.size - (intOf v11).toNat)
    case atStart=>exact⟨x,0,Ak _,by omega,rfl,rfl,by rw[Hxq.out],Ao ⟨⟨Ak _,fun _=>rfl,fun h=>absurd h (Nat.lt_irrefl _),Nat.zero_le _⟩,HB.out⟩⟩
    case round=>
     obtain⟨i,d,hxi,hi,rfl,rfl,rfl,hq⟩:=hrel;obtain⟨hd,hbx⟩:=hq.out;have HBX:=Ao hbx
     by_cases hil:i<s.size
     ·have j0:(0:Int)<=(i:Int):=by omega
      have j1:(i:Int)<(s.size:Int):=by omega
      have j2:decide ((i:Int)<(s.size:Int))=true:=Am j1;have hQ1:=dK hil;have hget:=Fm hil;have hdl:=hd.few
      have hxx:i=x->s[i]=40/\qtE false ((dl s).take i)=false:=fun e=>by
       subst e
       have:=Hx40.out
       rw[hget] at this;exact⟨Option.some.inj this,Hxq.out⟩
      obtain⟨q,hqq⟩:∃q,qtE false ((dl s).take i)=q:=⟨_,rfl⟩
      rw[hqq] at hQ1 hxx ⊢
      have hne:∀c:UInt8,s[i]≠c->((s[i].toNat:Int)==(c.toNat:Int))=false:=fun c hc=>by
       have:s[i].toNat≠c.toNat:=fun e=>hc (UInt8.toNat_inj.1 e)
       simpa using fun e:(s[i].toNat:Int)=(c.toNat:Int)=>this rA
      have Hd:=Ao hd;have HQ1:=Ao hQ1;have Hxx:=Ao hxx;have Hqq:=Ao hqq;have Hne:=Ao hne;clear hq hd hbx hQ1 hget hxx hqq hne
      by_cases h34:s[i]=34
      ·have e34:((s[i].toNat:Int)==34)=true:=by rw[h34];rfl
       have hix:i≠x:=fun e=>by have:=(Hxx.out e).1;rw[h34] at this;exact absurd this rB
       have hd1:1<=d:=Hd.out.deep rA
       have z1:((d:Int)==0)=false:=by rw[Af];omega
       have z1':(d==0)=false:=by rw[Af];omega
       have HD:Hid (eM s x (i+1) d/\Below w.heap.size w wr):=Ao ⟨⟨by omega,fun e=>by omega,fun _=>hd1,by omega⟩,HBX.out⟩
       have hQ:qtE false ((dl s).take (i+1))=!q:=by rw[HQ1.out,h34];cases q<;>rfl
       have HQ:=Ao hQ;clear h34 hQ Hne hix hd1
       cases q with
       |true=>
        exact zwy
       |false=>
        exact zwy
      ·have e34:((s[i].toNat:Int)==34)=false:=Hne.out 34 h34
       have hQ:qtE false ((dl s).take (i+1))=q:=by
        have:(s[i]==34)=false:=by simpa using h34
        rw[HQ1.out,this,Bool.bne_false]
       have HQ:=Ao hQ;clear h34 hQ
       cases q with
       |true=>
        have hix:i≠x:=fun e=>by have:=(Hxx.out e).2;cases this
        have hd1:1<=d:=Hd.out.deep rA
        have z1:((d:Int)==0)=false:=by rw[Af];omega
        have z1':(d==0)=false:=by rw[Af];omega
        have HD:Hid (eM s x (i+1) d/\Below w.heap.size w wr):=Ao ⟨⟨by omega,fun e=>by omega,fun _=>hd1,by omega⟩,HBX.out⟩
        clear hix hd1 Hne;exact zwv
       |false=>
        by_cases h40:s[i]=40
        ·have e40:((s[i].toNat:Int)==40)=true:=by rw[h40];rfl
         have z1:((d:Int)+1==0)=false:=by rw[Af];omega
         have z1':(d+1==0)=false:=by rw[Af];omega
         have HD:Hid (eM s x (i+1) (d+1)/\Below w.heap.size w wr):=Ao ⟨⟨by omega,fun e=>by omega,fun _=>by omega,by omega⟩,HBX.out⟩
         clear h40 Hne;go_wp2_with fail;go_roundw
         case rel=>exact⟨i+1,d+1,by omega,by omega,by go_num,by go_num,by rw[HQ.out],HD⟩
         case measure=>simp [intOf];omega
        ·have e40:((s[i].toNat:Int)==40)=false:=Hne.out 40 h40
         have hix:i≠x:=fun e=>h40 (Hxx.out e).1
         have hd1:1<=d:=Hd.out.deep rA
         by_cases h41:s[i]=41
         ·have e41:((s[i].toNat:Int)==41)=true:=by rw[h41];rfl
          by_cases hd2:d=1
          ·subst hd2
           obtain⟨A,B,C,r1,r2,r3,r4⟩:=iW Hx40.out Hxq.out (show x<i by omega) hil h41 Hqq.out
           have r5:(⟨(A++(B++C)).toArray⟩:ByteArray)=s.extract 0 x++s.extract (x+1) i++s.extract (i+1) s.size:=by rw[←r4,Kt]
           have hres:Yk s w (.returned (.tuple #[.string (s.extract 0 x++s.extract (x+1) i++s.extract (i+1) s.size),.bool true])) wr:=⟨HBX.out,.inr ⟨A,B,C,r1,Hno.out,r2,r3,by rw[r5]⟩⟩
           have Hres:=Ao hres
           have v0:(x:Int)<=(s.size:Int):=by omega
           have v1:(x:Int)+1<=(i:Int):=by omega
           have v2:(i:Int)<=(s.size:Int):=by omega
           have v3:(i:Int)+1<=(s.size:Int):=by omega
           clear h41 hix hd1 r1 r2 r3 r4 r5 hres Hne Hxx;go_wp2_with fail;go_region;go_wp2_with fail;refine bodyPost_ret (v:= .tuple #[.string (s.extract 0 x++s.extract (x+1) i++s.extract (i+1) s.size),.bool true]) sV rfl ?_
           exact⟨by first|exact Hres.out.1.drew|exact Below.drewN' _ Hres.out.1,Hres.out.2⟩
          ·have z1:((d:Int) - 1==0)=false:=by rw[Af];omega
           have z1':(d - 1==0)=false:=by rw[Af];omega
           have HD:Hid (eM s x (i+1) (d - 1)/\Below w.heap.size w wr):=Ao ⟨⟨by omega,fun e=>by omega,fun _=>by omega,by omega⟩,HBX.out⟩
           clear h41 hix hd2 Hne;go_wp2_with fail;go_roundw
           case rel=>exact⟨i+1,d - 1,by omega,by omega,by go_num,by go_num,by rw[HQ.out],HD⟩
           case measure=>simp [intOf];omega
         ·have e41:((s[i].toNat:Int)==41)=false:=Hne.out 41 h41
          have z1:((d:Int)==0)=false:=by rw[Af];omega
          have z1':(d==0)=false:=by rw[Af];omega
          have HD:Hid (eM s x (i+1) d/\Below w.heap.size w wr):=Ao ⟨⟨by omega,fun e=>by omega,fun _=>hd1,by omega⟩,HBX.out⟩
          clear h41 hix hd1 Hne;exact zwv
     ·obtain rfl:i=s.size:=by omega
      have j2:decide ((s.size:Int)<(s.size:Int))=false:=by simp
      clear hq hd hbx;go_wp2_with fail;refine bodyPost_ret (v:= .tuple #[.string ⟨#[]⟩,.bool false]) sV rfl ?_;exact⟨HBX.out,.inl rfl⟩
open Go Go.RowKit Go.Lib Go.Sort Go.Shelf
theorem gC {l m:List Nz}(h:Dg l m=true)(ts:List (List UInt8))(kids:List Int):Dj l ts kids=Dj m ts kids:=by
 obtain⟨hl,ha⟩:=Ml h
 funext k least
 unfold Dj
 cases kids[k]? with
 |none=>rfl
 |some c=>
  simp only
  split
  ·by_cases hi:c.toNat<l.length
   ·have hi2:c.toNat<m.length:=by omega
    rw[Ag hi,Ag hi2];have ho:l[c.toNat].h.op=m[c.toNat].h.op:=(congrArg Hd.op ((Q7 _ _).1 (ha _ hi hi2)).1:l[c.toNat].h.bare.op=m[c.toNat].h.bare.op)
    cases ts[c.toNat]? with
    |none=>rfl
    |some t=>simp only[ho]
   ·rw[List.getElem?_eq_none (l:=l) rA,List.getElem?_eq_none (l:=m) rA]
  ·rfl
theorem R0 {l m:List Nz}(h:Dg l m=true):∀k,B8 l k=B8 m k
 |0=>rfl
 |k+1=>by
  obtain⟨hl,ha⟩:=Ml h;rw[B8,B8,R0 h k]
  congr 2
  by_cases hi:k<l.length
  ·have hi2:k<m.length:=by omega
   rw[Ag hi,Ag hi2];obtain⟨hb,hk⟩:=(Q7 _ _).1 (ha _ hi hi2);have h1:l[k].h.op=m[k].h.op:=(congrArg Hd.op hb:l[k].h.bare.op=m[k].h.bare.op);have h2:l[k].h.v=m[k].h.v:=(congrArg Hd.v hb:l[k].h.bare.v=m[k].h.bare.v);have h3:l[k].h.name=m[k].h.name:=(congrArg Hd.name hb:l[k].h.bare.name=m[k].h.bare.name);simp only[D7,h1,h2,h3,hk,gC h]
  ·rw[List.getElem?_eq_none (l:=l) rA,List.getElem?_eq_none (l:=m) rA]
theorem gG {l m:List Nz}(h:Dg l m=true):O5 l=O5 m:=by
 unfold O5;rw[(Ml h).1,R0 h]
theorem Zr {l m:List UInt8}{a b:Ex}(ha:Bn l= .ok a)(hb:Bn m= .ok b)(h:Dg ((a.flat 0).map Nd.z) ((b.flat 0).map Nd.z)=true):b.text=a.text:=by
 obtain⟨_,_,_,h1⟩:=Dx ha;obtain⟨_,_,_,h2⟩:=Dx hb;rw[←Ph (Ei ha) h1,←Ph (Ei hb) h2,gG h]
theorem oK (s:ByteArray)(kk:Int)(w:World)(hR:Rd w)(hs:s.size<=600){a:Ex}(h:Bn (dl s)= .ok a):Calls Tryz.prog 6 #[.string s,.int .i64 kk] w fun e w'=>e= .returned (.bool true)/\Below w.heap.size w w':=by
 obtain⟨S,hS⟩:∃S:ByteArray,(⟨a.text.toArray⟩:ByteArray)=S:=⟨_,rfl⟩
 have hdS:dl S=a.text:=by rw[←hS,C7]
 obtain⟨a',hr',hb'⟩:=Wf h;rw[←hdS] at hr';have ht':a'.text=a.text:=Qp hb'
 have hsz:S.size<=25200:=by
  rw[←Ax,hdS]
  have:=Kg _ a (Ak _) (Ei h)
  obtain⟨_,_,_,h60⟩:=Dx h;omega
 have hq0:(92:UInt8)∉dl S->qtE false (dl S)=false:=fun hb=>by
  rw[hdS] at hb ⊢;exact(Ny _ a (Ak _) (Ei h) hb).1
 have C2:∀W v,Below w.heap.size w W->TrZ W v ((a.flat 0).map Nd.z)->Calls Tryz.prog 25 #[v] W fun e w'=>e= .returned (.tuple #[.string S,.int .i64 0])/\Below W.heap.size W w':=fun W v hb ht=>by
  have:=Gl h ht (hR.below hb)
  rw[hS] at this;exact this
 have C4:∀W v,Below w.heap.size w W->TrZ W v ((a'.flat 0).map Nd.z)->Calls Tryz.prog 25 #[v] W fun e w'=>e= .returned (.tuple #[.string S,.int .i64 0])/\Below W.heap.size W w':=fun W v hb ht=>by
  have:=Gl hr' ht (hR.below hb)
  rw[ht',hS] at this;exact this
 have hsm:Dg ((a.flat 0).map Nd.z) ((a'.flat 0).map Nd.z)=true:=Nn hb'.symm;have L1:=Ao (Ji w rA hR h)
 obtain⟨l,hl⟩:∃l,(a.flat 0).map Nd.z=l:=⟨_,rfl⟩
 obtain⟨m,hm⟩:∃m,(a'.flat 0).map Nd.z=m:=⟨_,rfl⟩
 have C3:∀W,Below w.heap.size w W->Calls Tryz.prog 20 #[.string S] W (Lw W m 0 0 0):=fun W hb=>by
  have:=Ji W rA (hR.below hb) hr'
  rw[←hm];exact this
 have L1:Hid (Calls Tryz.prog 20 #[.string s] w (Lw w l 0 0 0)):=Ao (by rw[←hl];exact L1.out)
 rw[hl] at C2 hsm;rw[hm] at C4 hsm
 have hno:∀A B C,dl S=A++40::(B++41::C)->(92:UInt8)∉dl S->qtE false A=false->qtE false B=false->∀v,Bn (A++(B++C))= .ok v->Dg l ((v.flat 0).map Nd.z)=false:=fun A B C h1 h2 h3 h4 v hv=>by
  rw[hdS] at h1 h2
  cases hz:Dg l ((v.flat 0).map Nd.z) with
  |false=>rfl
  |true=>
   rw[←hl] at hz;exact absurd (Zr h hv hz) (bF h h2 h1 h3 h4 hv)
 have D2:=Ao C2;have D3:=Ao C3;have D4:=Ao C4;have Hsm:=Ao hsm;have Hno:=Ao hno;have HR:=Ao hR;have Hq0:=Ao hq0;have Hsz:=Ao hsz
 have i1:decide ((600:Int)<(s.size:Int))=false:=by simp;omega
 clear hS hdS hr' hb' ht' hsz hq0 C2 C3 C4 hl hm hsm hno hR hs h;go_enter Tryz.func6,Tryz.ntmps6;go_wp2_with fail;refine L1.out.mono ?_;rintro e V1 ⟨a1,k1,c1,rfl,hz1,hb1⟩
 obtain⟨W1,hW1⟩:∃W,V1.alloc (.cells #[.int .i64 0,.int .i64 0] 33)=W:=⟨_,rfl⟩
 have hb1':Below V1.heap.size V1 W1:=by rw[←hW1];exact(Below.refl _ V1).alloc (Ak _) _
 have HZ1:=Ao (hz1.below hb1');have HB1:=Ao (hb1.trans (hb1'.mono hb1.size));have L2:=Ao (D2.out W1 _ HB1.out HZ1.out);clear hz1 hb1 hb1' L1;subst hW1;go_wp2_with fail;refine L2.out.mono ?_;rintro e V2 ⟨rfl,hb2⟩;have HZ2:=Ao (HZ1.out.below hb2);have HB2:=Ao (HB1.out.trans (hb2.mono HB1.out.size));have L3:=Ao (D3.out V2 HB2.out);clear hb2 L2 HZ1 HB1;go_wp2_with fail;refine L3.out.mono ?_;rintro e V3 ⟨a3,k3,c3,rfl,hz3,hb3⟩
 obtain⟨W3,hW3⟩:∃W,V3.alloc (.cells #[.int .i64 0,.int .i64 0] 33)=W:=⟨_,rfl⟩
 have hb3':Below V3.heap.size V3 W3:=by rw[←hW3];exact(Below.refl _ V3).alloc (Ak _) _
 have HZ3:=Ao (hz3.below hb3');have HY3:=Ao ((HZ2.out.below hb3).below hb3');have HB3:=Ao (HB2.out.trans ((hb3.trans (hb3'.mono hb3.size)).mono HB2.out.size));have L4:=Ao (D4.out W3 _ HB3.out HZ3.out);clear hz3 hb3 hb3' L3 HZ2 HB2;subst hW3;go_wp2_with fail;refine L4.out.mono ?_;rintro e V4 ⟨rfl,hb4⟩;have hS4:=S0 V4 (HY3.out.below hb4) (HZ3.out.below hb4);rw[Hsm.out] at hS4;have S4:=Ao hS4;have HY4:=Ao (HY3.out.below hb4);have HB4:=Ao (HB3.out.trans (hb4.mono HB3.out.size));clear hb4 L4 HZ3 HB3 hS4 HY3;go_wp2_with fail;refine S4.out.mono ?_;rintro e V5 ⟨rfl,hb5⟩;have HY5:=Ao (HY4.out.below hb5);have HB5:=Ao (HB4.out.trans (hb5.mono HB4.out.size))
 have LL:=Ao (kJ S kk V5 (by have:=Hsz.out;omega) Hq0.out)
 clear hb5 S4 HY4 HB4;go_wp2_with fail;refine LL.out.mono ?_;rintro e V6 ⟨hb6,hor⟩;have HB6:=Ao (HB5.out.trans (hb6.mono HB5.out.size));have HY6:=Ao (HY5.out.below hb6);clear hb6 LL HY5 HB5
 rcases hor with rfl|⟨A,B,C,h1,h2,h3,h4,rfl⟩
 ·have Hkn:=Ao (Ep V6 (HR.out.below HB6.out));clear HY6;go_wp2_with fail;refine Hkn.out.mono ?_;rintro e V9 ⟨rfl,hb9⟩;have HB9:=Ao (HB6.out.trans (hb9.mono HB6.out.size));exact zzj
 ·obtain⟨U,hU⟩:∃U:ByteArray,(⟨(A++(B++C)).toArray⟩:ByteArray)=U:=⟨_,rfl⟩
  have hdU:dl U=A++(B++C):=by rw[←hU,C7]
  rw[hU]
  have hUs:U.size<=65536:=by
   have g1:=congrArg List.length h1;have g2:=Hsz.out;rw[Ax] at g1;rw[←Ax,hdU];simp only[Ab,Aa] at g1 ⊢;omega
  have hno:=Hno.out A B C h1 h2 h3 h4;rw[←hdU] at hno
  cases hr:Bn (dl U) with
  |error p=>
   obtain⟨⟨px,py⟩,pe⟩:=p;have hpe:=Ii hr;have L6:=Ao (Ji V6 hUs (HR.out.below HB6.out) hr)
   have j1:(pe !=0)=true:=by simpa using hpe
   have j2:(pe==0)=false:=by simpa using hpe
   simp only[zOf,pOf] at L6;clear hr hno hU hdU h1 h2 h3 h4 hpe hUs;go_wp2_with fail;refine L6.out.mono ?_;rintro e V7 ⟨a7,k7,c7,rfl,hz7,hb7⟩;have hb8:=hb7.alloc hb7.size (.cells #[.int .i64 px,.int .i64 py] 33);have HB7:=Ao (HB6.out.trans (hb8.mono HB6.out.size));have Hkn:=Ao (Ep _ (HR.out.below HB7.out));clear hz7 hb7 hb8 L6;go_wp2_with fail;refine Hkn.out.mono ?_;rintro e V9 ⟨rfl,hb9⟩;have HB9:=Ao (HB7.out.trans (hb9.mono HB7.out.size));exact zzj
  |ok v=>
   have hz:=hno v hr;have L6:=Ao (Ji V6 hUs (HR.out.below HB6.out) hr);simp only[zOf,pOf] at L6
   obtain⟨n,hn⟩:∃n,(v.flat 0).map Nd.z=n:=⟨_,rfl⟩
   rw[hn] at hz L6;have Hz:=Ao hz;clear hr hno hU hdU h1 h2 h3 h4 hz hUs hn;go_wp2_with fail;refine L6.out.mono ?_;rintro e V7 ⟨a7,k7,c7,rfl,hz7,hb7⟩
   obtain⟨W7,hW7⟩:∃W,V7.alloc (.cells #[.int .i64 0,.int .i64 0] 33)=W:=⟨_,rfl⟩
   have hb7':Below V7.heap.size V7 W7:=by rw[←hW7];exact(Below.refl _ V7).alloc (Ak _) _
   have HB7:=Ao (HB6.out.trans ((hb7.trans (hb7'.mono hb7.size)).mono HB6.out.size));have hS7:=S0 W7 ((HY6.out.below hb7).below hb7') (hz7.below hb7');rw[Hz.out] at hS7;have S7:=Ao hS7;clear hz7 hb7 hb7' L6 hS7;subst hW7;go_wp2_with fail;refine S7.out.mono ?_;rintro e V8 ⟨rfl,hb8⟩;have HB8:=Ao (HB7.out.trans (hb8.mono HB7.out.size));have Hkn:=Ao (Ep _ (HR.out.below HB8.out));clear hb8 S7;go_wp2_with fail;refine Hkn.out.mono ?_;rintro e V9 ⟨rfl,hb9⟩;have HB9:=Ao (HB8.out.trans (hb9.mono HB8.out.size));exact zzj
theorem aL (s:ByteArray)(kk:Int)(w:World)(hR:Rd w):Calls Tryz.prog 6 #[.string s,.int .i64 kk] w fun e w'=>e= .returned (.bool true)/\Below w.heap.size w w':=by
 by_cases hs:s.size<=600
 ·cases h:Bn (dl s) with
  |ok a=>exact oK s kk w hR hs h
  |error p=>
   obtain⟨⟨px,py⟩,pe⟩:=p;have hpe:=Ii h;have L6:=Ao (Ji w rA hR h)
   have j1:(pe !=0)=true:=by simpa using hpe
   have j2:(pe==0)=false:=by simpa using hpe
   have i1:decide ((600:Int)<(s.size:Int))=false:=by simp;omega
   have HR:=Ao hR;simp only[zOf,pOf] at L6;clear h hpe hs hR;go_enter Tryz.func6,Tryz.ntmps6;go_wp2_with fail;refine L6.out.mono ?_;rintro e V7 ⟨a7,k7,c7,rfl,hz7,hb7⟩;have hb8:=hb7.alloc hb7.size (.cells #[.int .i64 px,.int .i64 py] 33);have HB7:=Ao hb8;have Hkn:=Ao (Ep _ (HR.out.below HB7.out));clear hz7 hb7 hb8 L6;go_wp2_with fail;refine Hkn.out.mono ?_;rintro e V9 ⟨rfl,hb9⟩;have HB9:=Ao (HB7.out.trans (hb9.mono HB7.out.size));exact zzj
 ·have Hkn:=Ao (Ep w hR)
  have i1:decide ((600:Int)<(s.size:Int))=true:=by simp;omega
  clear hR hs;go_enter Tryz.func6,Tryz.ntmps6;go_wp2_with fail;refine Hkn.out.mono ?_;rintro e V9 ⟨rfl,hb9⟩;have HB9:=Ao hb9;exact zzj
end Go.Proofs.YtgfakdobajgnfaaGreatDoor
