import Derived.BigQuiet
import Derived.Great.BuildSlice
import Derived.Deep.WholeRow
import Derived.Test.YtgfakdobajgnfaaGreatDoorQk12
set_option maxRecDepth 100000
set_option maxHeartbeats 16000000
namespace Go.Proofs.YtgfakdobajgnfaaGreatDoor
open Go Go.RowKit Go.Lib
theorem Zp (k c:Int)(b:Nat)(w:World)(f:w.cell? ⟨b,0,none⟩=some (.int .u8 c)):Calls Tryz.prog 176 #[.int .u8 k,.pointer (some ⟨b,0,none⟩)] w fun e w'=>e= .returned (.bool (k !=c && k !=0))/\Below w.heap.size w w':=by
 obtain⟨x,d⟩:∃x,(k !=c)=x:=⟨_,rfl⟩;rw[d];cases x
 all_goals
  go_enter Tryz.func176,Tryz.ntmps176;exact zy8
theorem Qj (c:Int):∀l:List Int,(!(l.any fun k=>k !=c && k !=0))=Fo c l
 |[]=>rfl
 |x::l=>by
  have h:=Qj c l;unfold Fo at h ⊢;rw[List.any_cons,List.all_cons,←h,Bool.not_or,Bool.not_and,bne,bne,Bool.not_not,Bool.not_not]
theorem Pv {v:Value}{l:List Int}(c:Int)(w:World)(h:Ii w v l):Calls Tryz.prog 103 #[.int .u8 c,v] w fun e w'=>e= .returned (.bool (Fo c l))/\Below w.heap.size w w':=by
 have d:=(Aq w.heap.size w).alloc (Ak _) (.cells #[.int .u8 c] 5)
 have f:(w.alloc (.cells #[.int .u8 c] 5)).cell? ⟨w.heap.size,0,none⟩=some (.int .u8 c):=by
  have:=Az w (.cells #[.int .u8 c] 5)
  simp only[World.cell?,this];rfl
 have j:=Ax (S4 176 #[.pointer (some ⟨w.heap.size,0,none⟩)] (fun k=>k !=c && k !=0) (enters_of Tryz.func176 rG rfl) l (w.alloc (.cells #[.int .u8 c] 5)) (h.below d)
  fun t V _ n=>Zp t c w.heap.size V (A4 n f))
 have o:=Ax d;have g:=Qj c l;obtain⟨_,a,u,rfl,_⟩:=h;obtain⟨q,m⟩:∃q,(l.any fun k=>k !=c && k !=0)=q:=⟨_,rfl⟩;rw[m] at j g;have p:=Ax g;clear d f m g;go_enter Tryz.func103,Tryz.ntmps103;go_wp2_with fail;refine j.out.mono ?_;rintro r V ⟨rfl,d⟩;have i:=Ax (o.out.trans (d.mono rI));clear d;go_wp2_with fail;go_ret;exact⟨by rw[←p.out];rfl,i.out⟩
theorem kL (a b:Int)(c:0<=a)(d:0<=b):(Ed 0 [a,b] !=255)=(decide (a<=2) && decide (b<=2)):=by
 unfold Ed;by_cases h1:2<a
 ·rw[Ap h1,An rF];rfl
 rw[Ao h1,Am rF,Ed];by_cases h2:2<b
 ·rw[Ap h2,An rF];rfl
 rw[Ao h2,Am rF,Ed];exact bne_iff_ne.2 rF
theorem Wj (a b:Int)(n:0<=a)(d:0<=b)(w:World):Calls Tryz.prog 104 #[.int .u8 a,.int .u8 b] w fun e w'=>e= .returned (.bool (Ig a b))/\Below w.heap.size w w':=by
 have h:=kL a b n d;unfold Ig;rw[←h];have j:=(Aq w.heap.size w).alloc (Ak _) (.cells #[.int .u8 a,.int .u8 b] 5)
 have k:Ii (w.alloc (.cells #[.int .u8 a,.int .u8 b] 5)) (.slice (some ⟨w.heap.size,0,none⟩) 2 2) [a,b]:=by
  have o:=Az w (.cells #[.int .u8 a,.int .u8 b] 5);obtain⟨p,q,_⟩:=Rk o;refine⟨by simp,_,_,rfl,fun i r=>⟨w.heap.size,0,rfl,?_⟩⟩
  match i,r with
  |0,_=>exact p
  |1,_=>exact q
 have c:=Ax (K9 _ k);have f:=Ax j;obtain⟨x,u⟩:∃x,(a==0)=x:=⟨_,rfl⟩;obtain⟨y,v⟩:∃y,(b==0)=y:=⟨_,rfl⟩;obtain⟨z,A⟩:∃z,(a==b)=z:=⟨_,rfl⟩;obtain⟨m,g⟩:∃m,Ed 0 [a,b]=m:=⟨_,rfl⟩;rw[u,v,A,g];rw[g] at c;clear h j k g;cases x;rotate_left
 ·clear c;go_enter Tryz.func104,Tryz.ntmps104;exact zy8
 cases y;rotate_left
 ·clear c;go_enter Tryz.func104,Tryz.ntmps104;exact zy8
 cases z;rotate_left
 ·clear c;go_enter Tryz.func104,Tryz.ntmps104;exact zy8
 go_enter Tryz.func104,Tryz.ntmps104;go_wp2_with fail;refine c.out.mono ?_;rintro e V ⟨rfl,d⟩;have C:=Ax (f.out.trans (d.mono f.out.size));clear d c f;go_wp2_with fail;go_ret;exact⟨rfl,C.out⟩
open Go Go.RowKit Go.Lib
def Gq (k:Int):Int×Int:=if 5<k then(0,8) else(k,0)
def Ou (h:Hd)(vars:List (List UInt8×Int))(self:Int):Int×Int:=
 if h.op=1 then(h.v.1,0) else if h.op=2 then(match Ez h.name vars with|some k=>Gq k|none=>(0,11)) else if self=0 then(0,11) else Gq self
theorem Um (n:List UInt8):∀l:List (List UInt8×Int),(∃i,∃h:i<l.length,Me l (fun x=>x.1==n)=(i:Int)/\Ez n l=some l[i].2)\/(Me l (fun x=>x.1==n)= -1/\Ez n l=none)
 |[]=> .inr ⟨rfl,rfl⟩
 |x::l=>by
  by_cases hx:(x.1==n)=true
  ·refine .inl ⟨0,by simp,?_,by rw[Ez,Ap hx];rfl⟩;exact Qu (k:=0) rI (fun j _ h=>absurd h (Nat.not_lt_zero _)) hx
  have d:(x.1==n)=false:=by simpa using hx
  have f:(x::l).findIdx? (fun x=>x.1==n)=(l.findIdx? (fun x=>x.1==n)).map (· +1):=by rw[List.findIdx?_cons,d];rfl
  have g:Ez n (x::l)=Ez n l:=by rw[Ez,Ao hx]
  unfold Me;rw[f,g];rcases Um n l with ⟨i,h,c,e⟩|⟨c,e⟩
  ·unfold Me at c;cases hc:l.findIdx? (fun x=>x.1==n) with
   |none=>rw[hc] at c;simp only at c;omega
   |some j=>
    rw[hc] at c;simp only at c;refine .inl ⟨i+1,by simpa using h,?_,e⟩
    show((j+1:Nat):Int)=_
    omega
  unfold Me at c;cases hc:l.findIdx? (fun x=>x.1==n) with
  |none=>exact .inr ⟨rfl,e⟩
  |some j=>rw[hc] at c;simp only at c;omega
theorem dM (x:List UInt8×Int)(n:List UInt8)(b:Nat)(w:World)(c:w.cell? ⟨b,4,none⟩=some (.string ⟨n.toArray⟩)):Calls Tryz.prog 100 #[.agg #[.string ⟨x.1.toArray⟩,.int .u8 x.2],.pointer (some ⟨b,0,none⟩)] w fun e w'=>e= .returned (.bool (x.1==n))/\Below w.heap.size w w':=by
 obtain⟨f,g⟩:=x;have d:=Bn c;go_enter Tryz.func100,Tryz.ntmps100;exact zw2
theorem kJ (op vk vn:Int)(vs o:List UInt8)(O:Option Addr)(R T:Nat)(y A:Int){G:Option Addr}{I:Nat}{vars:List (List UInt8×Int)}(self:Int)(w:World)(L:So w (.slice G vars.length I) vars):
 Calls Tryz.prog 67 #[.agg #[.int .u8 op,.int .u8 vk,.int .i64 vn,.string ⟨vs.toArray⟩,.string ⟨o.toArray⟩,.slice O R T,.int .i64 y,.int .i64 A],.agg #[.slice G vars.length I,.int .u8 self]] w fun e w'=>
  e= .returned (.tuple #[.int .u8 (Ou ⟨op,(vk,vn,vs),o,y,A⟩ vars self).1,.int .i64 (Ou ⟨op,(vk,vn,vs),o,y,A⟩ vars self).2])/\Below w.heap.size w w':=by
 have a8:=L.1;obtain⟨j,d⟩:∃j,w.alloc (.cells #[.int .u8 op,.int .u8 vk,.int .i64 vn,.string ⟨vs.toArray⟩,.string ⟨o.toArray⟩,.slice O R T,.int .i64 y,.int .i64 A] 43)=j:=⟨_,rfl⟩;have m:=Az w (.cells #[.int .u8 op,.int .u8 vk,.int .i64 vn,.string ⟨vs.toArray⟩,.string ⟨o.toArray⟩,.slice O R T,.int .i64 y,.int .i64 A] 43);have r:Below w.heap.size w j:=by rw[←d];exact(Aq _ w).alloc (Ak _) _
 have C:j.heap.size=w.heap.size+1:=by rw[←d];simp
 rw[d] at m;obtain⟨M,n⟩:∃M,j.alloc (.cells #[.slice G vars.length I,.int .u8 self] 59)=M:=⟨_,rfl⟩;have f:=Az j (.cells #[.slice G vars.length I,.int .u8 self] 59);have u:Below j.heap.size j M:=by rw[←n];exact(Aq _ j).alloc (Ak _) _
 rw[n] at f;rw[C] at f;have p:=(u.block _ (Ay m)).trans m;obtain⟨n0,n1,n2,n3,n4,n5,n6,n7,_⟩:=A6 p;obtain⟨Y,s1,_⟩:=Rk f;have c:=r.trans (u.mono r.size);have HB:=Ax c;have HW1:=Ax d;have HW2:=Ax n
 have q:=Ax (aZ 100 #[.pointer (some ⟨w.heap.size,0,none⟩)] (fun x=>x.1==o) (enters_of Tryz.func100 rG rfl) vars M (L.below c)
  fun t V _ hV=>dM t o w.heap.size V (A4 hV n4))
 have D:=Ax (Um o vars);have g:=Ax (L.below c).2;have b7:=Ay f;clear d m r C n f u p c L;unfold Ou;simp only;by_cases h1:op=1
 ·subst h1;rw[Ap rfl];clear q D g;exact zyi
 have Z:(op==1)=false:=Af.2 h1;rw[Ao h1];by_cases h2:op=2
 ·subst h2;rw[Ap rfl];rcases D.out with ⟨i,hi,E,F⟩|⟨E,F⟩
  ·rw[E] at q;rw[F];simp only;obtain⟨a',c',ev,h⟩:=g.out;injection ev with ev1 _ ev2;subst ev1 ev2;obtain⟨bv,ov,rfl,_,N⟩:=h i hi;obtain⟨k,hk⟩:∃k,vars[i].2=k:=⟨_,rfl⟩;rw[hk] at N ⊢;have j0:(0:Int)<=(i:Int):=by omega
   have j1:(i:Int)<(vars.length:Int):=by omega
   have j2:decide ((i:Int)<0)=false:=An rF;have U:=Ax Y;have W:=Ax N;clear D g E F h hk N Z h1;unfold Gq;by_cases h5:5<k
   all_goals
    first
     |(have X:decide (5<k)=true:=Am h5;rw[Ap h5];clear h5)
     |(have X:decide (5<k)=false:=An h5;rw[Ao h5];clear h5)
    go_enter Tryz.func67,Tryz.ntmps67;go_upto_region 1 with fail
    rw[HW1.out,HW2.out];clear HW1 HW2;go_wp2_with fail;refine q.out.mono ?_;rintro e V ⟨rfl,c⟩;have Y:=A4 c U.out;have N:=A4 c W.out;have v:=Ax (HB.out.trans (c.mono HB.out.size));clear c q HB;go_wp2_with fail;go_ret2;exact⟨rfl,v.out⟩
  rw[E] at q;rw[F];simp only;clear D g E F Z h1;go_enter Tryz.func67,Tryz.ntmps67;go_upto_region 1 with fail
  rw[HW1.out,HW2.out];clear HW1 HW2;go_wp2_with fail;refine q.out.mono ?_;rintro e V ⟨rfl,c⟩;have v:=Ax (HB.out.trans (c.mono HB.out.size));clear c q HB;go_wp2_with fail;go_ret2;exact⟨rfl,v.out⟩
 have g2:(op==2)=false:=Af.2 h2;rw[Ao h2];clear q D g h1 h2;by_cases h0:self=0
 ·subst h0;rw[Ap rfl];exact zyi
 have g0:(self==0)=false:=Af.2 h0;rw[Ao h0];unfold Gq;clear h0;by_cases h5:5<self
 ·have X:decide (5<self)=true:=Am h5;rw[Ap h5];clear h5;exact zyi
 have X:decide (5<self)=false:=An h5;rw[Ao h5];clear h5;exact zyi
open Go Go.RowKit Go.Lib
def gV (a b:Int):Bool:=(a==0 && decide (b<=3))||(b==0 && decide (a<=3))||(decide (a<=2) && decide (b<=2))||(a==3 && b==3)
theorem qC {a b:Int}(e:0<=a)(c:a<=5)(f:0<=b)(d:b<=5):(Ig a b && (Ed 0 [a,b] !=255||Fo 3 [a,b]))=gV a b:=by
 rcases (show a=0\/a=1\/a=2\/a=3\/a=4\/a=5 by omega) with rfl|rfl|rfl|rfl|rfl|rfl
 all_goals
  rcases (show b=0\/b=1\/b=2\/b=3\/b=4\/b=5 by omega) with rfl|rfl|rfl|rfl|rfl|rfl
  all_goals decide
theorem qR {b c:Int}(d:0<=b)(e:0<=c)(h:(b==c||b==0||c==0)=true):max b c=if b=0 then c else b:=by
 simp only[Bool.or_eq_true,beq_iff_eq] at h
 split
 ·omega
 omega
def Ey (op:Int)(ks:List Int):Int:=match Fd op with
 |some c=>if Fo c.1 ks then c.2 else 255
 |none=>
  if op=7\/op=8 then(if Ig (ks.getD 0 0) (ks.getD 1 0) then 4 else 255)
  else if 9<=op/\op<=12 then(if Ig (ks.getD 0 0) (ks.getD 1 0) && (Ed 0 ks !=255||Fo 3 ks) then 4 else 255)
  else if op=26 then(if Fo 4 [ks.getD 0 0] && (ks.getD 1 0==ks.getD 2 0||ks.getD 1 0==0||ks.getD 2 0==0) then max (ks.getD 1 0) (ks.getD 2 0) else 255)
  else Ed 0 ks
open Go Go.RowKit Go.Lib
theorem aE (op:Int){v:Value}{ks:List Int}(c k:Int)(A:Fd op=some (c,k))(w:World)(h:Ii w v ks):Calls Tryz.prog 68 #[.int .u8 op,v] w fun e w'=>e= .returned (.int .u8 (if Fo c ks then k else 255))/\Below w.heap.size w w':=by
 have n:=Ax (Ja op w);rw[A] at n;have O:=Ax h;have C:=fun V (hV:Below w.heap.size w V)=>Ax (Pv c V (h.below hV))
 obtain⟨q,D⟩:∃q,Fo c ks=q:=⟨_,rfl⟩;rw[D] at C ⊢;obtain⟨r,E⟩:∃r,(if q then k else 255)=r:=⟨_,rfl⟩;have F:=fun V=>Ax (Ki q k V)
 rw[E] at F ⊢;clear E;obtain⟨_,a,R,rfl,_⟩:=h;clear A D;simp only[Option.getD_some,Option.isSome_some,ofV] at n;go_enter Tryz.func68,Tryz.ntmps68;go_wp2_with fail;refine n.out.mono ?_;rintro e V ⟨rfl,G⟩;have I:=Ax G;clear G n;obtain⟨o,d⟩:∃o,V.alloc (.cells #[.int .u8 c,.int .u8 k] 149)=o:=⟨_,rfl⟩;have p:=Az V (.cells #[.int .u8 c,.int .u8 k] 149);have g:Below V.heap.size V o:=by rw[←d];exact(Aq _ V).alloc (Ak _) _
 rw[d] at p;obtain⟨T,L,_⟩:=Rk p;have i:=Ax d;have u:=Ax (I.out.trans (g.mono I.out.size));have M:=Ay p;clear d p g;go_upto_region 3 with fail
 rw[i.out];clear i;have N:=Ax (show o.drew.cell? ⟨V.heap.size,1,none⟩=some (.int .u8 k) from L);have x:=Ax u.out.drew
 go_region_with (first
  |(go_at_call 103
    refine(C _ x.out).out.mono ?_;rintro e U ⟨rfl,f⟩;have L:=A4 f N.out;have j:=Ax (x.out.trans (f.mono x.out.size))
    clear f)
  |(go_at_call 102
    refine(F _).out.mono ?_;rintro e W ⟨rfl,m⟩;have y:=Ax (j.out.trans (m.mono j.out.size))
    clear m))
 all_goals
  go_wp2_with fail;go_ret;exact⟨rfl,y.out⟩
theorem fO (op:Int)(F:op=7\/op=8){v:Value}{ks:List Int}(h2:2<=ks.length)(u:∀x∈ks,0<=x)(w:World)(h:Ii w v ks):Calls Tryz.prog 68 #[.int .u8 op,v] w fun e w'=>e= .returned (.int .u8 (if Ig (ks.getD 0 0) (ks.getD 1 0) then 4 else 255))/\Below w.heap.size w w':=by
 have G:Fd op=none:=by rcases F with rfl|rfl<;>rfl
 have o:=Ax (Ja op w);rw[G] at o;obtain⟨X,a,cc,rfl,c⟩:=h;obtain⟨b,off,rfl,g⟩:=c 0 rF;obtain⟨_,_,A,p⟩:=c 1 rF;injection A with A;injection A with e2 e3;subst e2 e3;have I:0<=ks[0]:=u _ (List.getElem_mem rF);have L:0<=ks[1]:=u _ (List.getElem_mem rF);rw[List.getD_eq_getElem?_getD,List.getD_eq_getElem?_getD,Ag (show 0<ks.length by omega),Ag (show 1<ks.length by omega),Option.getD_some,Option.getD_some];obtain⟨x,M⟩:∃x,ks[0]=x:=⟨_,rfl⟩;obtain⟨y,N⟩:∃y,ks[1]=y:=⟨_,rfl⟩;rw[M] at g I ⊢;rw[N] at p L ⊢;have O:=fun V=>Ax (Wj x y I L V)
 obtain⟨q,R⟩:∃q,Ig x y=q:=⟨_,rfl⟩;rw[R] at O ⊢;obtain⟨r,T⟩:∃r,(if q then(4:Int) else 255)=r:=⟨_,rfl⟩;have U:=fun V=>Ax (Ki q 4 V)
 rw[T] at U ⊢;rw[Nat.add_zero] at g;have Y:=Ax g;have Z:=Ax p;have i0:(0:Int)<(ks.length:Int):=by omega
 have i1:(1:Int)<(ks.length:Int):=by omega
 clear c u M N R T G g p;simp only[Option.getD_none,Option.isSome_none,ofV] at o;rcases F with rfl|rfl
 all_goals
  go_enter Tryz.func68,Tryz.ntmps68;go_wp2_with fail;refine o.out.mono ?_;rintro e V ⟨rfl,C⟩;obtain⟨D,f⟩:∃D,V.alloc (.cells #[.int .u8 0,.int .u8 0] 149)=D:=⟨_,rfl⟩;have i:Below V.heap.size V D:=by rw[←f];exact(Aq _ V).alloc (Ak _) _
  have d:=C.trans (i.mono C.size);have g:=A4 d Y.out;have p:=A4 d Z.out;have j:=Ax f;have a8:=Ax d;have W:=Ax d.drew;clear f i C d o;go_upto_region 7 with fail
  rw[j.out];clear j
  go_region_with (first
   |(go_at_call 104
     refine(O _).out.mono ?_;rintro e V2 ⟨rfl,k⟩;have m:=Ax (W.out.trans (k.mono W.out.size))
     clear k)
   |(go_at_call 102
     refine(U _).out.mono ?_;rintro e V3 ⟨rfl,n⟩;have E:=Ax (m.out.trans (n.mono m.out.size))
     clear n))
  all_goals
   go_wp2_with fail;go_ret;exact⟨rfl,E.out⟩
open Go Go.RowKit Go.Lib Go.Sort Go.Shelf
def Cr (op:Int):Nat×Nat:=if(4<=op/\op<=5)\/(7<=op/\op<=16)\/op=21\/op=24\/op=25 then(2,2) else if op=6\/op=17\/op=18\/op=22\/op=23 then(1,1)
 else if op=19\/op=20 then(1,8) else if op=26 then(3,3) else(0,0)
structure U8 (h:Hd)(k:Nat):Prop where
 few:(Cr h.op).1<=k
 many:k<=(Cr h.op).2
 op1:1<=h.op
 op2:h.op<=26
 line:1<=h.line
 col:1<=h.col
 v:h.op≠1->h.v=v0
 name:h.op=2->Jh h.name=true
 anon:h.op≠2->h.name=[]
theorem Iv {h:Hd}{k:Nat}(o:Int)(d:h.op=o)(c:(Cr o).1<=k/\k<=(Cr o).2/\1<=o/\o<=26)(e:1<=h.line)(f:1<=h.col)(g:o≠1->h.v=v0)(i:o=2->Jh h.name=true)(j:o≠2->h.name=[]):U8 h k:=by
 subst d;exact⟨c.1,c.2.1,c.2.2.1,c.2.2.2,e,f,g,i,j⟩
theorem Og {r:List Tkn}:∀{l:List (List UInt8×Int)},B6 r l≠0->B6 r l∈l.map Prod.snd
 |[],h=>absurd rfl h
 |(s,o)::l,h=>by
  unfold B6 at h ⊢;by_cases e:isH s r=true
  ·rw[Ap e];exact Ai
  rw[Ao e] at h ⊢;exact Aj _ (Og h)
theorem Mz (n:Nat):∀o∈(Bt n).map Prod.snd,(4<=o/\o<=5)\/(7<=o/\o<=16):=by
 unfold Bt
 repeat' split
 all_goals first|decide|(intro o c;cases c)
theorem Rx {l:List UInt8}{ts:List Tkn}(h:Fq l= .ok ts){a:Ex}{q:List Tkn}(A:Bc 0 0 ts= .ok (a,q)):a.All U8:=by
 refine Vq (P:=U8) (W:=fun t=>S0 t.w/\1<=t.line/\1<=t.col) ?_ ?_ ?_ ?_ (.lvl 0) 0 ts tU trivial (fun t j=>⟨Ot h t j,(Kq h t j).1,(Kq h t j).2.2.1⟩) a q A
 ·rintro t hd ⟨p,g,i⟩ d;unfold Dk at d;by_cases u:t.w.k=4\/t.w.k=5\/t.w.k=6
  ·rw[Ap u] at d;injection d with d;subst d;exact Iv 1 rfl rH g i (fun e=>absurd rfl e) (fun e=>absurd e rH) fun _=>rfl
  rw[Ao u] at d;by_cases x:t.w.k=2
  ·rw[Ap x] at d;injection d with d;subst d;refine Iv 2 rfl rH g i (fun _=>rfl) (fun _=>?_) fun e=>absurd rfl e
   show Jh t.w.t=true;cases p with
   |var _ j _=>exact j
   |name h _ _=>omega
   |self h _ _=>omega
   |num h _ _=>omega
   |str h _ _ _=>omega
   |sym h _ _=>omega
   |sign h _ _=>omega
  rw[Ao x] at d;by_cases h3:t.w.k=3
  ·rw[Ap h3] at d;injection d with d;subst d;exact Iv 3 rfl rH g i (fun _=>rfl) (fun e=>absurd e rH) fun _=>rfl
  rw[Ao h3] at d;by_cases h4:t.w.k=1
  ·rw[Ap h4] at d;cases f:Di t.w.t with
   |some c=>rw[f] at d;cases d
   |none=>
    rw[f] at d;cases hll:K7 t.w.t with
    |none=>rw[hll] at d;cases d
    |some v=>
     rw[hll] at d;injection d with d;subst d;exact Iv 1 rfl rH g i (fun e=>absurd rfl e) (fun e=>absurd e rH) fun _=>rfl
  rw[Ao h4] at d;cases d
 ·rintro n t C ⟨p,g,i⟩;rcases C with rfl|rfl
  ·exact Iv 6 rfl rH g i (fun _=>rfl) (fun e=>absurd e rH) fun _=>rfl
  exact Iv 17 rfl rH g i (fun _=>rfl) (fun e=>absurd e rH) fun _=>rfl
 ·rintro n t r ⟨p,g,i⟩ D;have E:=Mz n _ (Og D);obtain⟨o,y⟩:∃o,B6 (t::r) (Bt n)=o:=⟨_,rfl⟩;rw[y] at E ⊢
  have m:Cr o=(2,2):=by
   unfold Cr;rw[Ap rF]
  refine⟨?_,?_,?_,?_,g,i,fun _=>rfl,fun e=>?_,fun _=>rfl⟩
  ·show(Cr o).1<=2
   rw[m];decide
  ·show 2<=(Cr o).2;rw[m];decide
  ·show 1<=o;omega
  ·show o<=26;omega
  have:o=2:=e
  omega
 rintro t c k ⟨p,g,i⟩ d u x;obtain⟨_,f,F,G,_⟩:=Oj d
 have m:Cr c.op=(c.least,c.most)/\18<=c.op/\c.op<=26:=by
  unfold Di at f
  repeat' split at f
  all_goals first|(injection f with f;injection f with e1 e2;injection e2 with e2 e3;rw[←e1,←e2,←e3];decide)|cases f
 refine⟨?_,?_,?_,?_,?_,?_,fun _=>rfl,fun e=>?_,fun _=>rfl⟩
 ·show(Cr c.op).1<=k
  rw[m.1];exact u
 ·show k<=(Cr c.op).2;rw[m.1];exact x
 ·show 1<=c.op;omega
 ·show c.op<=26;omega
 ·show 1<=c.line;omega
 ·show 1<=c.col;omega
 have:c.op=2:=e
 omega
open Go Go.RowKit Go.Lib Go.Sort Go.Shelf
def Gr (w:World)(b:Nat)(l:List Nat):Prop:=w.heap[b]? =some (.cells (Ea l).toArray 3 (0,0))
theorem Gr.cell {w:World}{b:Nat}{l:List Nat}(h:Gr w b l){i:Nat}{x:Nat}(c:l[i]? =some x):w.cell? ⟨b,i,none⟩=some (.int .i64 (x:Int)):=by
 unfold Gr at h;simp only[World.cell?,h];simp [Ea,c]
theorem Gr.frozen {w:World}{b:Nat}{l:List Nat}(h:Gr w b l)(i:Nat):w.frozen? ⟨b,i,none⟩=false:=by
 unfold Gr at h;simp only[World.frozen?,h];simp
theorem Gr.set {w:World}{b:Nat}{l:List Nat}(h:Gr w b l)(i x:Nat):Gr (w.setCell ⟨b,i,none⟩ (.int .i64 (x:Int))) b (l.set i x):=by
 unfold Gr at h ⊢;rw[A2 h];congr 2;apply Array.ext';simp [Ea,List.map_set]
theorem Gr.below {w w':World}{b:Nat}{l:List Nat}(h:Gr w b l)(c:Below w.heap.size w w'):Gr w' b l:=(c.block b (Ay h)).trans h
theorem Tj {l:List UInt8}{p:(Int×Int)×Int}(h:B9 l= .error p):p.2≠0:=by
 unfold B9 at h;cases hl:Fq l with
 |error e=>
  obtain⟨a,b,q⟩:=e;rw[hl] at h;injection h with h
  have:=((Kz _ l 1 1 (Ak _) rH).1 a b q hl).2.2
  rw[←h];show q≠0;omega
 |ok ts=>
  rw[hl] at h;simp only at h;cases hx:Bc 0 0 ts with
  |error e=>
   obtain⟨c,q⟩:=e;rw[hx] at h;injection h with h
   have:=Wp (.lvl 0) 0 ts tU _ (show exE (.lvl 0) 0 ts=_ from hx)
   rw[←h];show c≠0;simp only at this;omega
  |ok x=>
   obtain⟨a,q⟩:=x;rw[hx] at h;simp only at h
   split at h
   ·injection h with h;rw[←h]
    show(7:Int)≠0
    decide
   split at h
   ·cases h
   injection h with h;rw[←h]
   show(4:Int)≠0
   decide
theorem Lj {l:List UInt8}{a:Ex}(h:B9 l= .ok a):∃ts,Fq l= .ok ts/\Bc 0 0 ts= .ok (a,[])/\a.size<=60:=by
 unfold B9 at h;cases hl:Fq l with
 |error e=>rw[hl] at h;cases h
 |ok ts=>
  rw[hl] at h;simp only at h;cases hx:Bc 0 0 ts with
  |error e=>rw[hx] at h;cases h
  |ok x=>
   obtain⟨b,q⟩:=x;rw[hx] at h;simp only at h
   split at h
   ·cases h
   rename_i c
   split at h
   ·rename_i d
    injection h with h;subst h;subst d;exact⟨ts,rfl,hx,by omega⟩
   cases h
theorem kD {l:List UInt8}{a:Ex}(h:B9 l= .ok a):a.All U8:=by
 obtain⟨ts,c,d,_⟩:=Lj h;exact Rx c d
theorem Sl (op:Int):(Cr op).2<=8:=by
 unfold Cr
 repeat' split
 all_goals decide
theorem Us {l:List UInt8}{a:Ex}(h:B9 l= .ok a):qZ (a.flat 0):=fun n c=>by
 have d:=Sp a 0 (kD h) n c;have e:=d.many;have f:=Sl n.h.op;omega
open Go Go.RowKit Go.Lib Go.Sort Go.Shelf
theorem Below.drewN' {B:Nat}{a:World}:∀(n:Nat) {w:World},Below B a w->Below B a (w.drewN n)
 |0,_,h=>h
 |n+1,_,h=>(Below.drewN' n h).drew
open Go Go.RowKit Go.Lib Go.Sort Go.Shelf
def qO (s:List UInt8):Int:=if s=[111,114]\/s=[97,110,100] then 1 else 7
open Go Go.Lib
def Sep (r:List UInt8):Prop:=∀c,r.head? =some c->c=32\/c=40\/c=41\/c=44
theorem Sep.nam {r:List UInt8}(h:Sep r):∀c,r.head? =some c->Cv c=false:=fun c d=>by
 rcases h c d with rfl|rfl|rfl|rfl<;>rfl
theorem Sep.point {r:List UInt8}(h:Sep r):r.head?≠some 46:=fun e=>by
 rcases h _ e with h|h|h|h<;>cases h
theorem gH (c vs:List Tkn)(x:Except (Int×Int×Int) (List Tkn)):Js (.ok c) (Js (.ok vs) x)=Js (.ok (c++vs)) x:=by
 cases x with
 |error e=>rfl
 |ok ts=>simp [Js]
open Go Go.Lib
def Ks (op:Int):List UInt8×Nat:=
 if op=4 then([111,114],0) else if op=5 then([97,110,100],1) else if op=6 then([110,111,116,32],2)
 else if op=7 then([61],3) else if op=8 then([60,62],3) else if op=9 then([60],3) else if op=10 then([60,61],3) else if op=11 then([62],3) else if op=12 then([62,61],3)
 else if op=13 then([43],4) else if op=14 then([45],4) else if op=15 then([42],5) else if op=16 then([47],5) else if op=17 then([45],6)
 else if op=18 then([97,98,115],8) else if op=19 then([109,105,110],8) else if op=20 then([109,97,120],8) else if op=21 then([109,111,100],8) else if op=22 then([108,101,110,103,116,104],8)
 else if op=23 then([117,112,112,101,114],8) else if op=24 then([99,111,110,116,97,105,110,115],8) else if op=25 then([115,116,97,114,116,115],8) else if op=26 then([105,102],8) else([],8)
def Cw (op:Int):List UInt8:=(Ks op).1
def A9 (op:Int):Nat:=(Ks op).2
def F1 (op:Int):Prop:=op=4\/op=5\/op=7\/op=8\/op=9\/op=10\/op=11\/op=12\/op=13\/op=14\/op=15\/op=16
theorem Wz {op:Int}(h:F1 op):A9 op<=5/\A9 op≠2:=by
 rcases h with rfl|rfl|rfl|rfl|rfl|rfl|rfl|rfl|rfl|rfl|rfl|rfl<;>decide
theorem Rb {op:Int}(h:F1 op):Cr op=(2,2):=by
 rcases h with rfl|rfl|rfl|rfl|rfl|rfl|rfl|rfl|rfl|rfl|rfl|rfl<;>decide
def Cp (op:Int):Prop:=op=18\/op=19\/op=20\/op=21\/op=22\/op=23\/op=24\/op=25\/op=26
theorem Gv {op:Int}(h:Cp op):A9 op=8:=by
 rcases h with rfl|rfl|rfl|rfl|rfl|rfl|rfl|rfl|rfl<;>rfl
theorem fA {op:Int}(h:Cp op)(l c:Int):Eh ⟨⟨1,Cw op,v0⟩,l,c⟩=some ⟨op,(Cr op).1,(Cr op).2,l,c⟩/\Dk ⟨⟨1,Cw op,v0⟩,l,c⟩=none/\S0 ⟨1,Cw op,v0⟩/\1<=(Cr op).1/\(Cr op).2<=8:=by
 rcases h with rfl|rfl|rfl|rfl|rfl|rfl|rfl|rfl|rfl<;>exact⟨rfl,rfl,.name rfl rH rfl,by decide,by decide⟩
theorem Xe {t:Tkn}{c:Cl}(h:Eh t=some c):Cp c.op/\c.least=(Cr c.op).1/\c.most=(Cr c.op).2:=by
 obtain⟨_,d,_⟩:=Oj h;obtain⟨op,e,f,l,k⟩:=c;simp only at d ⊢;unfold Di at d
 repeat' split at d
 all_goals first
  |(cases d;done)
  |(injection d with d
    simp only[Prod.mk.injEq] at d;obtain⟨rfl,rfl,rfl⟩:=d
    exact⟨by unfold Cp;decide,rfl,rfl⟩)
theorem Yy {op:Int}(c:1<=op)(d:op<=3):A9 op=8:=by
 obtain rfl|rfl|rfl:op=1\/op=2\/op=3:=by omega
 all_goals rfl
def Mi (h:Hd):List UInt8:=if h.op=1 then C3 h.v.1 h.v.2.1 h.v.2.2 else if h.op=2 then 63::h.name else[63]
def Ov (h:Hd):Wd:=
 if h.op=2 then⟨2,h.name,v0⟩ else if h.op=3 then⟨3,[],v0⟩ else if h.v.1=1\/h.v.1=2 then⟨4,Nc h.v.1 h.v.2.1 h.v.2.2,h.v⟩
 else if h.v.1=3 then⟨5,Kc h.v.2.2,h.v⟩ else if h.v.1=5 then⟨6,h.v.2.2,h.v⟩ else⟨1,Nc h.v.1 h.v.2.1 h.v.2.2,v0⟩
theorem eV {t:Tkn}{h:Hd}(D:S0 t.w)(d:Dk t=some h):Ov h=t.w/\J1 t.w=Mi h/\(Mi h).length<=402/\t.w.k≠7/\1<=h.op/\h.op<=3:=by
 obtain⟨⟨k,t,v⟩,l,c⟩:=t;unfold Dk at d;simp only at d;cases D with
 |name hk ht hv=>
  simp only at hk ht hv;subst hk hv;rw[Ao rH,Ao rH,Ao rH,Ap rfl] at d
  have y:∀v,K7 t=some v->h=⟨1,v,[],l,c⟩->Ov h=⟨1,t,v0⟩/\J1 ⟨1,t,v0⟩=Mi h/\(Mi h).length<=402/\(1:Int)≠7/\1<=h.op/\h.op<=3:=fun v f E=>by
   subst E;unfold K7 at f;by_cases j:t=[116,114,117,101]
   ·rw[Ap j] at f;injection f with f;subst f j;exact⟨rfl,rfl,(by decide:(C3 4 1 []).length<=402),by decide,(by decide:(1:Int)<=1),(by decide:(1:Int)<=3)⟩
   rw[Ao j] at f;by_cases g:t=[102,97,108,115,101]
   ·rw[Ap g] at f;injection f with f;subst f g;exact⟨rfl,rfl,(by decide:(C3 4 0 []).length<=402),by decide,(by decide:(1:Int)<=1),(by decide:(1:Int)<=3)⟩
   rw[Ao g] at f;by_cases m:t=[110,117,108,108]
   ·rw[Ap m] at f;injection f with f;subst f m;exact⟨rfl,rfl,(by decide:(C3 0 0 []).length<=402),by decide,(by decide:(1:Int)<=1),(by decide:(1:Int)<=3)⟩
   rw[Ao m] at f;cases f
  cases hc:Di t with
  |some x=>rw[hc] at d;cases d
  |none=>
   rw[hc] at d;cases f:K7 t with
   |none=>rw[f] at d;cases d
   |some v=>
    rw[f] at d;injection d with d;exact y v f d.symm
 |var hk ht hv=>
  simp only at hk ht hv;subst hk hv;rw[Ao rH,Ap rfl] at d;injection d with d;subst d;refine⟨rfl,rfl,?_,by simp,by simp,by simp⟩
  have:=(E8 ht).2.1
  show(63::t).length<=402
  simp only[Aa];omega
 |self hk ht hv=>
  simp only at hk ht hv;subst hk ht hv;rw[Ao rH,Ao rH,Ap rfl] at d;injection d with d;subst d;exact⟨rfl,rfl,(by decide:[(63:UInt8)].length<=402),(by decide:(3:Int)≠7),(by decide:(1:Int)<=3),(by decide:(3:Int)<=3)⟩
 |num hk ht hm=>
  simp only at hk ht hm;subst hk;rw[Ap rH] at d;injection d with d;subst d;obtain⟨vk,vn,vs⟩:=v;obtain⟨j,g,m,A⟩:=U1 ht;obtain⟨G,q,e,hd,I⟩:=hm;have i:=T5 j (n:=vn);rw[g,R3 e (.inr hd)] at i;have o:vk=1\/vk=2:=by split at i<;>omega
  have p:Mi ⟨1,(vk,vn,vs),[],l,c⟩=t:=by
   show C3 vk vn vs=t;unfold C3;rw[Ap j,g]
  refine⟨?_,p.symm▸rfl,by rw[p];exact A,by simp,by simp,by simp⟩
  show(if vk=1\/vk=2 then(⟨4,Nc vk vn vs,(vk,vn,vs)⟩:Wd) else _)=_
  rw[Ap o,g]
 |str hk ht hm hs=>
  simp only at hk ht hm hs;subst hk;rw[Ap rH] at d;injection d with d;subst d;obtain⟨vk,vn,vs⟩:=v;obtain⟨j,g,m,A⟩:=U1 ht;have i:=T5 j (n:=vn);rw[g] at i;have C:vk=3:=by rw[←i];rfl
  subst C;have u:34::(Kc vs++[34])=34::t++[34]:=g
  have F:Kc vs=t:=by
   rw[List.cons_append] at u;injection u with _ u;exact List.append_cancel_right u
  have r:Mi ⟨1,(3,vn,vs),[],l,c⟩=34::(t++[34]):=by
   show C3 3 vn vs=_;unfold C3;rw[Ap j,g];rfl
  refine⟨?_,r.symm▸rfl,?_,by simp,by simp,by simp⟩
  ·show(⟨5,Kc vs,(3,vn,vs)⟩:Wd)=_
   rw[F]
  rw[r];simpa using A
 |sym hk ht hv=>
  simp only at hk ht hv;subst hk hv;rw[Ap rH] at d;injection d with d;subst d
  have r:Mi ⟨1,(5,0,t),[],l,c⟩=35::t:=by
   show C3 5 0 t=_;unfold C3;rw[Ap (by show(decide ((0:Int)=0) && Jh t)=true;rw[ht];rfl)];rfl
  refine⟨rfl,r.symm▸rfl,?_,by simp,by simp,by simp⟩;rw[r]
  have:=(E8 ht).2.1
  simp only[Aa];omega
 |sign hk _ _=>
  simp only at hk;subst hk;rw[Ao rH,Ao rH,Ao rH,Ao rH] at d;cases d
structure Mr (h:Hd):Prop where
 form:S0 (Ov h)
 ne7:(Ov h).k≠7
 again:∀l c,(Dk ⟨Ov h,l,c⟩).map Hd.bare=some h.bare
 spell:J1 (Ov h)=Mi h
 short:(Mi h).length<=402
theorem nW {t:Tkn}{h:Hd}(e:S0 t.w)(f:Dk t=some h):Mr h:=by
 obtain⟨d,g,i,j,_,_⟩:=eV e f;refine⟨d▸e,d▸j,fun l c=>?_,d▸g,i⟩;rw[d,Yx (t:=t) (t':=⟨t.w,l,c⟩) rfl,f];rfl
structure Mj (h:Hd)(k:Nat):Prop where
 few:(Cr h.op).1<=k
 many:k<=(Cr h.op).2
 op1:1<=h.op
 op2:h.op<=26
 leaf:h.op<=3->Mr h
 inner:3<h.op->h.v=v0/\h.name=[]
theorem Py {l:List UInt8}{a:Ex}(h:B9 l= .ok a):a.All Mj:=by
 obtain⟨ts,g,i,_⟩:=Lj h;have f:=Rx g i
 have m:a.All (fun h k=>h.op<=3->Mr h):=by
  refine Vq (P:=fun h _=>h.op<=3->Mr h) (W:=fun t=>S0 t.w) ?_ ?_ ?_ ?_ (.lvl 0) 0 ts tU trivial (fun t o=>Ot g t o) a [] i
  ·exact fun t hd p r _=>nW p r
  ·intro n t f _ e
   have:=(show 3<Li n by rcases f with rfl|rfl<;>decide)
   have j:Li n<=3:=e;omega
  ·intro n t q _ u e
   have:=Mz n _ (Og u)
   simp only at e;omega
  intro t c k _ x _ _ e;have j:=(Xe x).1;unfold Cp at j;simp only at e;omega
 refine(f.and m).mono fun h k d=>⟨d.1.few,d.1.many,d.1.op1,d.1.op2,d.2,fun e=>⟨d.1.v rF,d.1.anon rF⟩⟩
open Go Go.Lib
def K6 (t:List UInt8):List UInt8:=40::(t++[41])
def Zv (l:List (Int×List UInt8))(k least:Nat):List UInt8:=match l[k]? with
 |none=>[]
 |some p=>if A9 p.1<least then K6 p.2 else p.2
def Yt (h:Hd)(l:List (Int×List UInt8)):List UInt8:=
 if h.op<=3 then Mi h else if A9 h.op=8 then Cw h.op++K6 (E5 [44,32] (l.map Prod.snd))
 else if A9 h.op=2\/A9 h.op=6 then Cw h.op++Zv l 0 (A9 h.op)
 else if A9 h.op=3 then Zv l 0 4++32::(Cw h.op++32::Zv l 1 4)
 else Zv l 0 (A9 h.op)++32::(Cw h.op++32::Zv l 1 (A9 h.op+1))
mutual
def Ex.text:Ex->List UInt8| .mk h ks=>Yt h (Nl ks)
def Nl:List Ex->List (Int×List UInt8)|[]=>[]|e::es=>(e.hd.op,e.text)::Nl es
end
theorem Sg:∀l:List Ex,Nl l=l.map fun e=>(e.hd.op,e.text)
 |[]=>rfl
 |e::l=>by rw[Nl,Sg l,List.map_cons]
def Mu (n:Nat)(e:Ex):List UInt8:=if A9 e.hd.op<n then K6 e.text else e.text
def Rz (s:List UInt8):Wd:=⟨7,s,v0⟩
def nR (c:List Wd):List Wd:=Rz [40]::(c++[Rz [41]])
def Yo (l:List (Int×List Wd))(k least:Nat):List Wd:=match l[k]? with
 |none=>[]
 |some p=>if A9 p.1<least then nR p.2 else p.2
def jY:List (List Wd)->List Wd
 |[]=>[]
 |[x]=>x
 |x::y::r=>x++Rz [44]::jY (y::r)
def pY (op:Int):Wd:=⟨qO (Cw op),Cw op,v0⟩
def cA (h:Hd)(l:List (Int×List Wd)):List Wd:=
 if h.op<=3 then[Ov h] else if A9 h.op=8 then⟨1,Cw h.op,v0⟩::nR (jY (l.map Prod.snd))
 else if A9 h.op=2 then⟨1,[110,111,116],v0⟩::Yo l 0 2 else if A9 h.op=6 then Rz [45]::Yo l 0 6
 else if A9 h.op=3 then Yo l 0 4++pY h.op::Yo l 1 4
 else Yo l 0 (A9 h.op)++pY h.op::Yo l 1 (A9 h.op+1)
mutual
def Ex.words:Ex->List Wd| .mk h ks=>cA h (Pk ks)
def Pk:List Ex->List (Int×List Wd)|[]=>[]|e::es=>(e.hd.op,e.words)::Pk es
end
theorem Rc:∀l:List Ex,Pk l=l.map fun e=>(e.hd.op,e.words)
 |[]=>rfl
 |e::l=>by rw[Pk,Rc l,List.map_cons]
def Od (n:Nat)(e:Ex):List Wd:=if A9 e.hd.op<n then nR e.words else e.words
def Zc (l:List (Int×Nat))(k least:Nat):Nat:=match l[k]? with
 |none=>0
 |some p=>if A9 p.1<least then p.2+1 else p.2
def gQ:List Nat->Nat
 |[]=>0
 |n::l=>max n (gQ l)
def cU (h:Hd)(l:List (Int×Nat)):Nat:=
 if h.op<=3 then 0 else if A9 h.op=8 then 1+gQ (l.map Prod.snd)
 else if A9 h.op=2\/A9 h.op=6 then 1+Zc l 0 (A9 h.op)
 else if A9 h.op=3 then max (Zc l 0 4) (Zc l 1 4)
 else max (Zc l 0 (A9 h.op)) (Zc l 1 (A9 h.op+1))
mutual
def Ex.need:Ex->Nat| .mk h ks=>cU h (P1 ks)
def P1:List Ex->List (Int×Nat)|[]=>[]|e::es=>(e.hd.op,e.need)::P1 es
end
theorem Sm:∀l:List Ex,P1 l=l.map fun e=>(e.hd.op,e.need)
 |[]=>rfl
 |e::l=>by rw[P1,Sm l,List.map_cons]
def N1 (n:Nat)(e:Ex):Nat:=if A9 e.hd.op<n then e.need+1 else e.need
def Ss (n:Nat):Nat:=if n=3 then 4 else n
inductive Xr:Hd->List Ex->Prop where
 |leaf {h} (h1:1<=h.op) (h3:h.op<=3) (ok:Mr h):Xr h []
 |pre {h} {e} (n:Nat) (hn:n=2\/n=6) (ho:h.op=Li n):Xr h [e]
 |mid {h} {e f} (hi:F1 h.op):Xr h [e,f]
 |call {h} {e es} (hc:Cp h.op) (h1:(Cr h.op).1<=(e::es).length) (h2:(e::es).length<=(Cr h.op).2):Xr h (e::es)
theorem R6 {h:Hd}{ks:List Ex}(g:Mj h ks.length):Xr h ks:=by
 have d:=g.few;have i:=g.many;have j:=g.op1;have k:=g.op2;have c:h.op<=3\/(h.op=6\/h.op=17)\/F1 h.op\/Cp h.op:=by unfold F1 Cp;omega
 rcases c with c|c|c|c
 ·have:Cr h.op=(0,0):=by
   obtain e|e|e:h.op=1\/h.op=2\/h.op=3:=by omega
   all_goals rw[e];rfl
  rw[this] at i
  have:ks=[]:=List.eq_nil_of_length_eq_zero (Nat.le_zero.1 i)
  subst this;exact .leaf j c (g.leaf c)
 ·have:Cr h.op=(1,1):=by
   rcases c with e|e<;>rw[e]<;>rfl
  rw[this] at d i
  match ks,d,i with
  |[e],_,_=>
   rcases c with q|q
   ·exact .pre 2 (.inl rfl) q
   exact .pre 6 (.inr rfl) q
  |[],d,_=>exact absurd d rI
  |_::_::_,_,i=>exact absurd i rI
 ·rw[Rb c] at d i
  match ks,d,i with
  |[e,f],_,_=>exact .mid c
  |[],d,_=>exact absurd d rI
  |[_],d,_=>exact absurd d rI
  |_::_::_::_,_,i=>exact absurd i rI
 cases ks with
 |nil=>
  have:=(fA c 0 0).2.2.2.1
  simp only[List.length_nil] at d;omega
 |cons e es=>exact .call c d i
theorem dT {n:Nat}(c:n=2\/n=6):A9 (Li n)=n/\3<Li n:=by
 rcases c with rfl|rfl<;>decide
theorem gY {op:Int}(h:F1 op):¬op<=3:=by unfold F1 at h;omega
theorem Vy {op:Int}(h:Cp op):¬op<=3:=by unfold Cp at h;omega
theorem aW (e:Ex)(c:List Ex)(n:Nat):Zv (Nl (e::c)) 0 n=Mu n e:=rfl
theorem jC (e f:Ex)(c:List Ex)(n:Nat):Zv (Nl (e::f::c)) 1 n=Mu n f:=rfl
theorem Vf (e:Ex)(c:List Ex)(n:Nat):Yo (Pk (e::c)) 0 n=Od n e:=rfl
theorem iL (e f:Ex)(c:List Ex)(n:Nat):Yo (Pk (e::f::c)) 1 n=Od n f:=rfl
theorem Zq (e:Ex)(c:List Ex)(n:Nat):Zc (P1 (e::c)) 0 n=N1 n e:=rfl
theorem jW (e f:Ex)(c:List Ex)(n:Nat):Zc (P1 (e::f::c)) 1 n=N1 n f:=rfl
theorem kS {h:Hd}{n:Nat}(c:n=2\/n=6)(d:h.op=Li n)(e:Ex):(Ex.mk h [e]).text=Cw (Li n)++Mu n e/\(Ex.mk h [e]).words=(if n=2 then⟨1,[110,111,116],v0⟩ else Rz [45])::Od n e/\(Ex.mk h [e]).need=1+N1 n e:=by
 obtain⟨f,j⟩:=dT c;have g:¬Li n<=3:=by omega
 have i:¬n=8:=by omega
 refine⟨?_,?_,?_⟩
 ·rw[Ex.text];unfold Yt;rw[d,Ao g,f,Ao i,Ap c,aW]
 ·rw[Ex.words];unfold cA;rw[d,Ao g,f,Ao i];rcases c with rfl|rfl
  ·rw[Ap rfl,Vf,Ap rfl]
  rw[Ao rH,Ap rfl,Vf,Ao rH]
 rw[Ex.need];unfold cU;rw[d,Ao g,f,Ao i,Ap c,Zq]
theorem mA {h:Hd}(d:F1 h.op)(e f:Ex):(Ex.mk h [e,f]).text=Mu (Ss (A9 h.op)) e++32::(Cw h.op++32::Mu (A9 h.op+1) f)/\(Ex.mk h [e,f]).words=Od (Ss (A9 h.op)) e++pY h.op::Od (A9 h.op+1) f/\
 (Ex.mk h [e,f]).need=max (N1 (Ss (A9 h.op)) e) (N1 (A9 h.op+1) f):=by
 obtain⟨k,i⟩:=Wz d;have g:¬A9 h.op=8:=by omega
 have c:¬(A9 h.op=2\/A9 h.op=6):=by omega
 have j:¬A9 h.op=6:=by omega
 refine⟨?_,?_,?_⟩
 ·rw[Ex.text];unfold Yt Ss;rw[Ao (gY d),Ao g,Ao c,aW,jC,aW,jC];by_cases h3:A9 h.op=3
  ·rw[Ap h3,Ap h3,h3]
  rw[Ao h3,Ao h3]
 ·rw[Ex.words];unfold cA Ss;rw[Ao (gY d),Ao g,Ao i,Ao j,Vf,iL,Vf,iL];by_cases h3:A9 h.op=3
  ·rw[Ap h3,Ap h3,h3]
  rw[Ao h3,Ao h3]
 rw[Ex.need];unfold cU Ss;rw[Ao (gY d),Ao g,Ao c,Zq,jW,Zq,jW];by_cases h3:A9 h.op=3
 ·rw[Ap h3,Ap h3,h3]
 rw[Ao h3,Ao h3]
theorem cB {h:Hd}(c:Cp h.op)(ks:List Ex):(Ex.mk h ks).text=Cw h.op++K6 (E5 [44,32] (ks.map Ex.text))/\(Ex.mk h ks).words=⟨1,Cw h.op,v0⟩::nR (jY (ks.map Ex.words))/\(Ex.mk h ks).need=1+gQ (ks.map Ex.need):=by
 refine⟨?_,?_,?_⟩
 ·rw[Ex.text];unfold Yt;rw[Ao (Vy c),Ap (Gv c),Sg,List.map_map];rfl
 ·rw[Ex.words];unfold cA;rw[Ao (Vy c),Ap (Gv c),Rc,List.map_map];rfl
 rw[Ex.need];unfold cU;rw[Ao (Vy c),Ap (Gv c),Sm,List.map_map];rfl
theorem oM {l:List Nat}{n:Nat}(h:n∈l):n<=gQ l:=by
 induction l with
 |nil=>cases h
 |cons m l ih=>
  unfold gQ;rcases List.mem_cons.1 h with rfl|h
  ·omega
  have:=ih h;omega
open Go Go.Lib
theorem map_cons {ts:List Tkn}{w:Wd}{r:List Wd}(h:ts.map Tkn.w=w::r):∃t q,ts=t::q/\t.w=w/\q.map Tkn.w=r:=by
 cases ts with
 |nil=>cases h
 |cons t q=>
  simp only[List.map_cons,List.cons.injEq] at h;exact⟨t,q,rfl,h.1,h.2⟩
theorem Op {P:Hd->Nat->Prop}:∀{l:List Ex},Jw P l->∀e∈l,e.All P
 |[],_,e,h=>by cases h
 |x::l,hl,e,h=>by
  rcases List.mem_cons.1 h with rfl|h
  ·exact hl.1
  exact Op hl.2 e h
theorem Tf:∀{l:List Ex} {e:Ex},e∈l->e.size<=Bs l
 |[],e,h=>by cases h
 |x::l,e,h=>by
  rw[Bs];rcases List.mem_cons.1 h with rfl|h
  ·omega
  have:=Tf h;omega
open Go Go.Lib
theorem P0 (n:Nat)(a:Ex):N1 n a=a.need+if A9 a.hd.op<n then 1 else 0:=by
 unfold N1
 split<;>rfl
instance (op:Int):Decidable (F1 op):=by unfold F1;infer_instance
def O6 (t:List UInt8)(d:List Wd)(r:List UInt8):Prop:=∀x y,∃c e f,c.map Tkn.w=d/\LX (t++r) x y=Js (.ok c) (LX r e f)
theorem O6.app {t u r:List UInt8}{d vs:List Wd}(h:O6 t d (u++r))(k:O6 u vs r):O6 (t++u) (d++vs) r:=fun x y=>by
 obtain⟨e,f,g,i,j⟩:=h x y;obtain⟨c,m,n,o,p⟩:=k f g;exact⟨e++c,m,n,by rw[List.map_append,i,o],by rw[List.append_assoc,j,p,gH]⟩
theorem O6.cons {c:UInt8}{u r:List UInt8}{d vs:List Wd}(h:O6 [c] d (u++r))(k:O6 u vs r):O6 (c::u) (d++vs) r:=O6.app (t:=[c]) h k
open Go Go.RowKit Go.Lib Go.Sort Go.Shelf
theorem kC {P:Program}{fn:Func}{c:Array Value}{W:World}{v:Value}{t:TypeId}{p:Addr}(d:fn.results= #[.cell 0 t])(e:c.getD 0 undef= .pointer (some p))(f:(loadVar t p).run P W= .ok v W):(results fn c).run P W= .ok v W:=by
 have g:(c[0]?.getD undef)= .pointer (some p):=by simpa using e
 unfold results;rw[d];simp [g,f,asAddr]
def Q7:Array Value:= #[.string ⟨#[]⟩,.int .i64 8,.string ⟨#[]⟩,.int .i64 8,.string ⟨#[]⟩,.int .i64 8,.string ⟨#[]⟩,.int .i64 8,.string ⟨#[111,114]⟩,.int .i64 0,.string ⟨#[97,110,100]⟩,.int .i64 1,.string ⟨#[110,111,116,32]⟩,.int .i64 2,.string ⟨#[61]⟩,.int .i64 3,.string ⟨#[60,62]⟩,.int .i64 3,.string ⟨#[60]⟩,.int .i64 3,.string ⟨#[60,61]⟩,.int .i64 3,.string ⟨#[62]⟩,.int .i64 3,.string ⟨#[62,61]⟩,.int .i64 3,.string ⟨#[43]⟩,.int .i64 4,.string ⟨#[45]⟩,.int .i64 4,.string ⟨#[42]⟩,.int .i64 5,.string ⟨#[47]⟩,.int .i64 5,.string ⟨#[45]⟩,.int .i64 6,.string ⟨#[97,98,115]⟩,.int .i64 8,.string ⟨#[109,105,110]⟩,.int .i64 8,.string ⟨#[109,97,120]⟩,.int .i64 8,.string ⟨#[109,111,100]⟩,.int .i64 8,.string ⟨#[108,101,110,103,116,104]⟩,.int .i64 8,.string ⟨#[117,112,112,101,114]⟩,.int .i64 8,.string ⟨#[99,111,110,116,97,105,110,115]⟩,.int .i64 8,.string ⟨#[115,116,97,114,116,115]⟩,.int .i64 8,.string ⟨#[105,102]⟩,.int .i64 8]
def O9:Value:= .agg Q7
theorem Zd (w:World):Calls Tryz.prog 93 #[] w fun e w'=>e= .returned O9/\Below w.heap.size w w':=by
 go_enter Tryz.func93,Tryz.ntmps93;go_upto_region 1 with (fail)
 refine wp_region_lit ?_;refine Great.wpList_readTo rfl (some 1) rfl (.agg #[.string ⟨#[]⟩,.int .i64 8]) rG ?_;refine Great.wpList_readTo rfl (some 2) rfl (.agg #[.string ⟨#[]⟩,.int .i64 8]) rG ?_;refine Great.wpList_readTo rfl (some 3) rfl (.agg #[.string ⟨#[]⟩,.int .i64 8]) rG ?_;refine Great.wpList_readTo rfl (some 4) rfl (.agg #[.string ⟨#[]⟩,.int .i64 8]) rG ?_;refine Great.wpList_readTo rfl (some 5) rfl (.agg #[.string ⟨#[111,114]⟩,.int .i64 0]) rG ?_;refine Great.wpList_readTo rfl (some 6) rfl (.agg #[.string ⟨#[97,110,100]⟩,.int .i64 1]) rG ?_;refine Great.wpList_readTo rfl (some 7) rfl (.agg #[.string ⟨#[110,111,116,32]⟩,.int .i64 2]) rG ?_;refine Great.wpList_readTo rfl (some 8) rfl (.agg #[.string ⟨#[61]⟩,.int .i64 3]) rG ?_;refine Great.wpList_readTo rfl (some 9) rfl (.agg #[.string ⟨#[60,62]⟩,.int .i64 3]) rG ?_;refine Great.wpList_readTo rfl (some 10) rfl (.agg #[.string ⟨#[60]⟩,.int .i64 3]) rG ?_;refine Great.wpList_readTo rfl (some 11) rfl (.agg #[.string ⟨#[60,61]⟩,.int .i64 3]) rG ?_;refine Great.wpList_readTo rfl (some 12) rfl (.agg #[.string ⟨#[62]⟩,.int .i64 3]) rG ?_;refine Great.wpList_readTo rfl (some 13) rfl (.agg #[.string ⟨#[62,61]⟩,.int .i64 3]) rG ?_;refine Great.wpList_readTo rfl (some 14) rfl (.agg #[.string ⟨#[43]⟩,.int .i64 4]) rG ?_;refine Great.wpList_readTo rfl (some 15) rfl (.agg #[.string ⟨#[45]⟩,.int .i64 4]) rG ?_;refine Great.wpList_readTo rfl (some 16) rfl (.agg #[.string ⟨#[42]⟩,.int .i64 5]) rG ?_;refine Great.wpList_readTo rfl (some 17) rfl (.agg #[.string ⟨#[47]⟩,.int .i64 5]) rG ?_;refine Great.wpList_readTo rfl (some 18) rfl (.agg #[.string ⟨#[45]⟩,.int .i64 6]) rG ?_;refine Great.wpList_readTo rfl (some 19) rfl (.agg #[.string ⟨#[97,98,115]⟩,.int .i64 8]) rG ?_;refine Great.wpList_readTo rfl (some 20) rfl (.agg #[.string ⟨#[109,105,110]⟩,.int .i64 8]) rG ?_;refine Great.wpList_readTo rfl (some 21) rfl (.agg #[.string ⟨#[109,97,120]⟩,.int .i64 8]) rG ?_;refine Great.wpList_readTo rfl (some 22) rfl (.agg #[.string ⟨#[109,111,100]⟩,.int .i64 8]) rG ?_;refine Great.wpList_readTo rfl (some 23) rfl (.agg #[.string ⟨#[108,101,110,103,116,104]⟩,.int .i64 8]) rG ?_;refine Great.wpList_readTo rfl (some 24) rfl (.agg #[.string ⟨#[117,112,112,101,114]⟩,.int .i64 8]) rG ?_;refine Great.wpList_readTo rfl (some 25) rfl (.agg #[.string ⟨#[99,111,110,116,97,105,110,115]⟩,.int .i64 8]) rG ?_;refine Great.wpList_readTo rfl (some 26) rfl (.agg #[.string ⟨#[115,116,97,114,116,115]⟩,.int .i64 8]) rG ?_;refine Great.wpList_readTo rfl (some 27) rfl (.agg #[.string ⟨#[105,102]⟩,.int .i64 8]) rG ?_;refine Great.wpList_readTo rfl (some 28) rfl (.agg Q7) rG ?_;refine wpList_store_rowTo rfl 141 (.tmp 0) (.tmp 28) rfl rfl w.heap.size Q7 rG rG 141 #[.string ⟨#[]⟩,.int .i64 0,.string ⟨#[]⟩,.int .i64 0,.string ⟨#[]⟩,.int .i64 0,.string ⟨#[]⟩,.int .i64 0,.string ⟨#[]⟩,.int .i64 0,.string ⟨#[]⟩,.int .i64 0,.string ⟨#[]⟩,.int .i64 0,.string ⟨#[]⟩,.int .i64 0,.string ⟨#[]⟩,.int .i64 0,.string ⟨#[]⟩,.int .i64 0,.string ⟨#[]⟩,.int .i64 0,.string ⟨#[]⟩,.int .i64 0,.string ⟨#[]⟩,.int .i64 0,.string ⟨#[]⟩,.int .i64 0,.string ⟨#[]⟩,.int .i64 0,.string ⟨#[]⟩,.int .i64 0,.string ⟨#[]⟩,.int .i64 0,.string ⟨#[]⟩,.int .i64 0,.string ⟨#[]⟩,.int .i64 0,.string ⟨#[]⟩,.int .i64 0,.string ⟨#[]⟩,.int .i64 0,.string ⟨#[]⟩,.int .i64 0,.string ⟨#[]⟩,.int .i64 0,.string ⟨#[]⟩,.int .i64 0,.string ⟨#[]⟩,.int .i64 0,.string ⟨#[]⟩,.int .i64 0,.string ⟨#[]⟩,.int .i64 0] (Az w _) rG rG rG ?_;rw[World.setRow_alloc_new];refine wpList_nil ?_
 rename_i K c
 refine c _ _ ?_;refine wp_ret ?_;show bodyPost Tryz.prog Tryz.f93 (fun e w'=>e= .returned O9/\Below w.heap.size w w') Exit.ret _ _;refine Au (fn:=Tryz.f93) (R:=fun e w'=>e= .returned O9/\Below w.heap.size w w') (v:=O9) ?_ rG ⟨rfl,?_⟩
 ·exact kC rfl rG (run_loadVar_row _ _ _ _ Q7 (0,0) _ (Az w _) Tryz.underlying141 rfl rG)
 exact(Aq _ w).alloc (Ak _) _
def Fj (op:Int):Value:= .agg #[.string ⟨(Cw op).toArray⟩,.int .i64 (A9 op:Int)]
theorem P5 (op:Int)(c:0<=op)(d:op<=26)(w:World):(Instr.index 141 O9 (.int .u8 op)).run Tryz.prog w= .ok (Fj op) w:=by
 obtain rfl|rfl|rfl|rfl|rfl|rfl|rfl|rfl|rfl|rfl|rfl|rfl|rfl|rfl|rfl|rfl|rfl|rfl|rfl|rfl|rfl|rfl|rfl|rfl|rfl|rfl|rfl:op=0\/op=1\/op=2\/op=3\/op=4\/op=5\/op=6\/op=7\/op=8\/op=9\/op=10\/op=11\/op=12\/op=13\/op=14\/op=15\/op=16\/op=17\/op=18\/op=19\/op=20\/op=21\/op=22\/op=23\/op=24\/op=25\/op=26:=by omega
 all_goals kernel_rfl
theorem Kk (op:Int)(q:0<=op)(w:World):Calls Tryz.prog 62 #[.int .u8 op] w fun e w'=>e= .returned (Fj op)/\Below w.heap.size w w':=by
 have o:=Ax (Zd (w.alloc (.cells #[.string ⟨#[]⟩,.int .i64 0] 102)));have c:=Ax ((Aq _ w).alloc (Ak _) (.cells #[.string ⟨#[]⟩,.int .i64 0] 102));have d:=Ax (Az w (.cells #[.string ⟨#[]⟩,.int .i64 0] 102));by_cases h26:op<=26
 ·have g:=fun V=>P5 op q h26 V
  have r:decide ((26:Int)<op)=false:=An rF;clear h26;unfold Fj at g ⊢;go_enter Tryz.func62,Tryz.ntmps62;go_wp2_with fail;refine o.out.mono ?_;rintro e V ⟨rfl,h⟩;have f:Below w.heap.size w V:=c.out.trans (h.mono c.out.size);have j:=(h.block _ (Ay d.out)).trans d.out;obtain⟨u,x,i⟩:=Bf j;have k:=i 0;have m:=i 1;have n:=Ax f;clear h f j i c d;go_wp2_with fail;refine Au (v:= .agg #[.string ⟨(Cw op).toArray⟩,.int .i64 (A9 op:Int)]) (by simp [results,Tryz.results62,go_sem, *]) rfl ⟨rfl,?_⟩;exact(n.out.setCell (Ak _) _).setCell (Ak _) _
 have g:=fun V=>P5 0 rH rH V
 have r:decide ((26:Int)<op)=true:=Am rF
 have p:Fj op=Fj 0:=by
  have:Ks op=Ks 0:=by
   unfold Ks
   repeat rw[Ao rF]
  unfold Fj Cw A9;rw[this]
 rw[p];clear h26 p;unfold Fj at g ⊢;go_enter Tryz.func62,Tryz.ntmps62;go_wp2_with fail;refine o.out.mono ?_;rintro e V ⟨rfl,h⟩;have f:Below w.heap.size w V:=c.out.trans (h.mono c.out.size);have j:=(h.block _ (Ay d.out)).trans d.out;obtain⟨u,x,i⟩:=Bf j;have k:=i 0;have m:=i 1;have n:=Ax f;clear h f j i c d;go_wp2_with fail;refine Au (v:= .agg #[.string ⟨(Cw 0).toArray⟩,.int .i64 (A9 0:Int)]) (by simp [results,Tryz.results62,go_sem, *]) rfl ⟨rfl,?_⟩;exact(n.out.setCell (Ak _) _).setCell (Ak _) _
def Uz (op:Int):List UInt8:=if A9 op=0\/A9 op=1\/A9 op=3\/A9 op=4\/A9 op=5 then Cw op else[]
open Go Go.RowKit Go.Lib Go.Sort Go.Shelf
theorem Hh.form {w:World}{B:Nat}{X:List Nat}{v:Value}{d:List Nd}(h:Hh w B X v d)(n:0<d.length):∃g c,v= .slice (some ⟨g,0,none⟩) d.length c/\d.length<=c/\B<=g:=by
 obtain⟨f,i,_⟩:=h;rcases i.2 with ⟨_,o⟩|⟨g,e,j,rfl,k,_,m,_⟩
 ·omega
 exact⟨g,e,rfl,m,k⟩
theorem Hh.slice {w:World}{B:Nat}{X:List Nat}{v:Value}{d:List Nd}(h:Hh w B X v d):∃a c,v= .slice a d.length c:=by
 obtain⟨e,f,_⟩:=h;exact D8 f
theorem Hh.nil (w:World)(B:Nat):Hh w B [] (.slice none 0 0) []:=⟨[],World.ownsRow_nil w B 43 8,trivial⟩
theorem G5 {B:Nat}{a b c:World}{v:Value}(h:Below B a b)(d:b.grownBy c v.ownBlock)(e:∀g,v.ownBlock=some g->B<=g)(f:B<=b.heap.size):Below B a c:=
 Bq h (Bb.of_grown d v.ownBlock.toList fun k j=>by simp [j]) (fun i hi=>e i tM) f
theorem TrZ.get {w:World}{b off n c i:Nat}{l:List Nz}{x:Nz}(h:TrZ w (.slice (some ⟨b,off,none⟩) n c) l)(g:l[i]? =some x):∃kv,Mt w b (off+i*8) x.h kv/\Et w kv x.kids:=by
 obtain⟨p,a,q,e,j⟩:=h;injection e with e1 _ _;obtain⟨k,rfl⟩:=List.getElem?_eq_some_iff.1 g;obtain⟨r,f,kv,d,m,o⟩:=j i k;rw[←e1] at d;injection d with d;injection d with e3 e4;subst e3 e4;exact⟨kv,m,o⟩
theorem fZ (l:List Nat)(x:Nat):Ea (l++[x])=Ea l++[.int .i64 (x:Int)]:=by simp [Ea]
end Go.Proofs.YtgfakdobajgnfaaGreatDoor
