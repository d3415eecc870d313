import Derived.BigQuiet
import Derived.Test.YtgfakdobajgnfaaGreatDoorQk0
set_option maxRecDepth 100000
set_option maxHeartbeats 16000000
namespace Go.Proofs.YtgfakdobajgnfaaGreatDoor
def nv:List Nat->Nat
 |[]=>0
 |d::l=>d+10000*nv l
def okD (l:List Nat):Prop:=∀d∈l,d<10000
def dg (n:Nat):List Nat:=if h:n=0 then[] else n % 10000::dg (n/10000)
termination_by n
decreasing_by omega
theorem D1:dg 0=[]:=by rw[dg,dif_pos rfl]
theorem J0 {n:Nat}(h:n≠0):dg n=n % 10000::dg (n/10000):=by rw[dg,dif_neg h]
theorem Fb:∀n,nv (dg n)=n:=fun n=>by
 induction n using Nat.strongRecOn with
 |_ n ih=>
  by_cases h:n=0
  ·subst h;rw[D1];rfl
  rw[J0 h,nv,ih (n/10000) rF];omega
theorem Gb:∀n,okD (dg n):=fun n=>by
 induction n using Nat.strongRecOn with
 |_ n ih=>
  by_cases h:n=0
  ·subst h;rw[D1];intro d hd;cases hd
  rw[J0 h];intro d hd;rcases List.mem_cons.1 hd with rfl|hd
  ·omega
  exact ih (n/10000) rF d hd
theorem Z4 (l m:List Nat):nv (l++m)=nv l+10000^l.length*nv m:=by
 induction l with
 |nil=>simp [nv]
 |cons d l ih=>
  rw[List.cons_append,nv,nv,ih,Aa,Nat.pow_succ,Nat.mul_add];rw[show 10000^l.length*10000*nv m=10000*(10000^l.length*nv m) by rw[Nat.mul_comm (10000^l.length) 10000,Nat.mul_assoc]];omega
theorem Gg (l:List Nat)(d:Nat):nv (l++[d])=nv l+10000^l.length*d:=by
 rw[Z4];simp [nv]
theorem F4 (l:List Nat)(k:Nat)(h:k<l.length):nv (l.take (k+1))=nv (l.take k)+10000^k*l[k]:=by
 rw[List.take_succ_eq_append_getElem h,Gg,List.length_take,Nat.min_eq_left rF]
theorem Yn:∀(l:List Nat),okD l->nv l<10000^l.length
 |[],_=>by simp [nv]
 |d::l,h=>by
  have e:=Yn l fun x c=>h x (Aj _ c)
  have f:=h d Ai;rw[nv,Aa,Nat.pow_succ];omega
theorem U2 {l:List Nat}(h:okD l)(k:Nat):okD (l.take k):=fun d hd=>h d (List.mem_of_mem_take hd)
theorem Ff {l:List Nat}{d:Nat}(h:okD l)(hd:d<10000):okD (l++[d]):=fun x c=>by
 rcases List.mem_append.1 c with c|c
 ·exact h x c
 rw[List.mem_singleton.1 c];exact hd
theorem iK:∀(l:List Nat),okD l->(∀h:l≠[],l.getLast h≠0)->dg (nv l)=l
 |[],_,_=>D1
 |d::l,ho,hl=>by
  have hd:=ho d Ai;have c:okD l:=fun x j=>ho x (Aj _ j)
  have f:∀h:l≠[],l.getLast h≠0:=fun h=>by
   have:=hl rI
   rwa [List.getLast_cons h] at this
  have g:nv (d::l)≠0:=by
   rw[nv];intro n;cases l with
   |nil=>have:=hl rI;simp at this;omega
   |cons e m=>
    have k:nv (e::m)=0:=by omega
    have i:=iK (e::m) c f;rw[k,D1] at i;cases i
  rw[J0 g,nv,show(d+10000*nv l) % 10000=d by omega,show(d+10000*nv l)/10000=nv l by omega,iK l c f]
def Br (n:Nat):Nat:=(dg n).length
theorem Im {n k:Nat}(h:n<10000^k):Br n<=k:=by
 unfold Br
 induction k generalizing n with
 |zero=>
  have:n=0:=by simpa using h
  subst this;rw[D1];simp
 |succ k ih=>
  by_cases h0:n=0
  ·subst h0;rw[D1];simp
  rw[J0 h0,Aa]
  have:n/10000<10000^k:=by rw[Nat.pow_succ] at h;omega
  have:=ih this
  omega
theorem Oc (n:Nat):n<10000^Br n:=by
 have:=Yn (dg n) (Gb n)
 rwa [Fb] at this
theorem Fh {n m:Nat}(h:n<=m):Br n<=Br m:=Im (Nat.lt_of_le_of_lt h (Oc m))
theorem Si {l:List Nat}(h:okD l):Br (nv l)<=l.length:=Im (Yn l h)
theorem Lh (n m:Nat):Br (n*m)<=Br n+Br m:=by
 refine Im ?_;have c:=Oc n;have d:=Oc m;rw[Nat.pow_add];by_cases h0:m=0
 ·subst h0;rw[Nat.mul_zero];exact Nat.mul_pos (Nat.pow_pos rH) (Nat.pow_pos rH)
 calc n*m<10000^Br n*m:=Nat.mul_lt_mul_of_pos_right c rF
  _<=10000^Br n*10000^Br m:=Nat.mul_le_mul_left _ rF
theorem D0 {n:Nat}(h:n<10000):Br n<=1:=Im sD
theorem Ti {n m:Nat}(h:Br n<Br m):n<m:=by
 refine Nat.lt_of_not_le fun c=>?_
 have:=Fh c
 omega
theorem Rj (l:List Nat)(k:Nat):nv l=nv (l.take k)+10000^(l.take k).length*nv (l.drop k):=by
 have:=Z4 (l.take k) (l.drop k)
 rwa [List.take_append_drop] at this
theorem Dj {l:List Nat}{k:Nat}(h:k<l.length):nv (l.drop k)=l[k]+10000*nv (l.drop (k+1)):=by
 rw[List.drop_eq_getElem_cons h,nv]
theorem kO {l m:List Nat}(i:okD l)(o:l.length=m.length){k:Nat}(j:k<l.length)(c:k<m.length)(hd:l.drop (k+1)=m.drop (k+1))(h:l[k]<m[k]):nv l<nv m:=by
 have d:=Rj l k;have e:=Rj m k;rw[List.length_take,Nat.min_eq_left rF] at d e;rw[Dj j] at d;rw[Dj c,←hd] at e;have f:=Yn (l.take k) (U2 i k);rw[List.length_take,Nat.min_eq_left rF] at f;obtain⟨x,n⟩:∃x,nv (l.drop (k+1))=x:=⟨_,rfl⟩;obtain⟨p,g⟩:∃p,10000^k=p:=⟨_,rfl⟩;rw[n,g] at d e;rw[g] at f
 have q:p*(l[k]+10000*x)+p<=p*(m[k]+10000*x):=by
  rw[←Nat.mul_succ];exact Nat.mul_le_mul_left _ rF
 omega
open Go Go.RowKit Go.Lib
def Ck (w:World)(v:Value)(l:List Nat):Prop:=l.length<=1000000/\∃a c,v= .slice a l.length c/\l.length<=c/\∀i (h:i<l.length),∃b off,a=some ⟨b,off,none⟩/\w.cell? ⟨b,off+i,none⟩=some (.int .i64 (l[i]:Int))
theorem Ck.below {w w':World}{v:Value}{l:List Nat}(h:Ck w v l)(d:Below w.heap.size w w'):Ck w' v l:=by
 obtain⟨f,a,c,g,j,k⟩:=h;refine⟨f,a,c,g,j,fun i m=>?_⟩;obtain⟨b,off,e,n⟩:=k i m;exact⟨b,off,e,A4 d n⟩
theorem Ck.slice {w:World}{v:Value}{l:List Nat}(h:Ck w v l):∃a c,v= .slice a l.length c/\l.length<=c:=by
 obtain⟨_,a,c,d,e,_⟩:=h;exact⟨a,c,d,e⟩
theorem Ck.at {w:World}{a:Option Addr}{n c:Nat}{l:List Nat}(h:Ck w (.slice a n c) l){i:Nat}(e:i<l.length):∃b off,a=some ⟨b,off,none⟩/\w.cell? ⟨b,off+i,none⟩=some (.int .i64 (l[i]:Int)):=by
 obtain⟨_,g,j,d,_,f⟩:=h;injection d with d;subst d;exact f i e
theorem Ck.nil (w:World):Ck w (.slice none 0 0) []:=⟨by simp,none,0,rfl,Ak _,fun i c=>absurd c rI⟩
theorem Ck.take {w:World}{a:Option Addr}{n c:Nat}{l:List Nat}(h:Ck w (.slice a n c) l){k:Nat}(m:k<=l.length):Ck w (.slice a k c) (l.take k):=by
 obtain⟨o,p,q,d,r,f⟩:=h;injection d with e1 e2 e3;subst e1 e3;have g:(l.take k).length=k:=by rw[List.length_take];omega
 refine⟨by omega,a,c,by rw[g],by omega,fun i u=>?_⟩;obtain⟨b,off,e,j⟩:=f i rF;refine⟨b,off,e,?_⟩;rw[j];simp
def De (l:List Nat):List Value:=l.map fun(k:Nat)=>Value.int .i64 (k:Int)
theorem Dg (l:List Nat)(x:Nat):De (l++[x])=De l++[.int .i64 (x:Int)]:=by simp [De]
theorem Ck.of_row {w:World}{B n:Nat}{v:Value}{l:List Nat}(d:l.length<=1000000)(f:n=l.length)(h:w.ownsRow B 3 1 v n (De l)):Ck w v l:=by
 subst f;rcases h.2 with ⟨e,j⟩|⟨g,c,k,rfl,_,p,m,_⟩
 ·have:l=[]:=List.eq_nil_of_length_eq_zero j
  subst this;rw[e];exact Ck.nil w
 refine⟨d,some ⟨g,0,none⟩,c,rfl,m,fun i o=>⟨g,0,rfl,?_⟩⟩
 have:=h.cells (g:=g) rfl i (.int .i64 (l[i]:Int)) (by simp [De,o])
 rw[Addr.add_lit,Nat.zero_add] at this;rw[Nat.zero_add];exact this
theorem Cq {B:Nat}{a b c:World}{v:Value}(h:Below B a b)(d:b.grownBy c v.ownBlock)(e:∀g,v.ownBlock=some g->B<=g)(f:B<=b.heap.size):Below B a c:=
 Bq h (Bb.of_grown d v.ownBlock.toList fun k j=>by simp [j]) (fun i hi=>e i tM) f
theorem qU:(Tryz.prog.info? 3).map (fun i=>(i.zero,i.size,i.bytes))=some (some (.int .i64 0),1,8):=by kernel_rfl
theorem Cj:∃i,Tryz.prog.info? 3=some i/\i.zero=some (.int .i64 0)/\i.size=1/\i.bytes=8:=by
 have h:=qU;cases hi:Tryz.prog.info? 3 with
 |none=>simp [hi] at h
 |some i=>
  exact zxn
def Bm (w:World)(v:Value)(z:Int):Prop:=∃s,v= .agg #[.bool (decide (z<0)),s]/\Ck w s (dg z.natAbs)
theorem Bm.below {w w':World}{v:Value}{z:Int}(h:Bm w v z)(c:Below w.heap.size w w'):Bm w' v z:=by
 obtain⟨s,d,e⟩:=h;exact⟨s,d,e.below c⟩
def sgn (c:Bool)(n:Nat):Int:=if c then -(n:Int) else n
theorem bN (b:Bool)(n:Nat):(sgn b n).natAbs=n:=by unfold sgn;split<;>simp
theorem cC (b:Bool)(n:Nat):decide (sgn b n<0)=(b && decide (0<n)):=by
 unfold sgn;cases b<;>simp<;>omega
theorem dN {l:List Nat}{k:Nat}(c:k<l.length)(d:l[k]≠0):∀h:l.take (k+1)≠[],(l.take (k+1)).getLast h≠0:=fun h=>by
 have:∀m,m=l.take k++[l[k]]->∀h:m≠[],m.getLast h≠0:=by
  rintro m rfl h;rw[List.getLast_concat];exact d
 exact this _ (List.take_succ_eq_append_getElem c) h
theorem A1 {w:World}{b:Nat}{x y:Value}{t:TypeId}(h:w.heap[b]? =some (.cells #[x,y] t (0,0))):w.cell? ⟨b,0,none⟩=some x/\w.cell? ⟨b,1,none⟩=some y/\∀i,w.frozen? ⟨b,i,none⟩=false:=
 ⟨by simp only[World.cell?,h];rfl,by simp only[World.cell?,h];rfl,fun i=>by simp only[World.frozen?,h];simp⟩
def I2 (a:Option Addr)(c:Nat)(z:Int)(e:Ending)(w':World):Prop:=∃(k:Nat) (b:Bool),e= .returned (.agg #[.bool b,.slice a k c])/\Bm w' (.agg #[.bool b,.slice a k c]) z
theorem I2.mk {a:Option Addr}{k c:Nat}{b:Bool}{z:Int}{w':World}(h:Bm w' (.agg #[.bool b,.slice a k c]) z):I2 a c z (.returned (.agg #[.bool b,.slice a k c])) w':=⟨k,b,rfl,h⟩
theorem Ms {w:World}{a:Option Addr}{n c:Nat}{l:List Nat}(f:Bool)(u:Ck w (.slice a n c) l)(F:okD l):
 Calls Tryz.prog 125 #[.bool f,.slice a n c] w fun e w'=>I2 a c (sgn f (nv l)) e w'/\Below w.heap.size w w':=by
 have L:=u.1;obtain⟨X,Y,M,Z⟩:=u.slice;injection M with e1 e2 e3;subst e1;subst e2;subst e3;obtain⟨D,x⟩:∃D,w.alloc (.cells #[.bool false,.slice none 0 0] 79)=D:=⟨_,rfl⟩;have j:=Az w (.cells #[.bool false,.slice none 0 0] 79);have o:Below w.heap.size w D:=by rw[←x];exact(Aq _ w).alloc (Ak _) _
 rw[x] at j;have y:=u.below o;have N:=Ax y;have G:=Ax u;have O:=Ax F;have HB:=Ax o;have R:=Ax j;have I:Hid (nv (l.take l.length)=nv l):=Ax (by rw[List.take_length]);clear u F o j y;go_enter Tryz.func125,Tryz.ntmps125;go_wp2_with fail
 go_loop [1] (fun v1=>∃k:Nat,k<=l.length/\v1= .slice a k c/\Hid (nv (l.take k)=nv l)) (fun v1=>match v1 with| .slice _ k _=>k|_=>0)
 case atStart=>exact⟨l.length,Ak _,rfl,I⟩
 obtain⟨k,hk,rfl,r⟩:=hrel;obtain⟨x0,x1,A⟩:=A1 R.out;have T:=A 0;have U:=A 1;by_cases h0:k=0
 ·subst h0;have E:nv l=0:=by have:=r.out;rw[List.take_zero] at this;exact this.symm
  have HN:Hid (Bm w (.agg #[.bool false,.slice a 0 c]) (sgn f (nv l))):=Ax ⟨.slice a 0 c,by rw[cC,E];simp,by
   rw[bN,E,D1]
   have:=G.out.take (k:=0) (Nat.zero_le _)
   rw[List.take_zero] at this
   exact this⟩
  clear r E A I;cases f with
  |true=>
   exact zw8
  |false=>
   exact zw8
 obtain⟨m,rfl⟩:∃m,k=m+1:=⟨k - 1,by omega⟩;have p:m<l.length:=by omega
 obtain⟨b,off,rfl,q⟩:=N.out.at p;have j1:decide ((0:Int)<((m+1:Nat):Int))=true:=Am rF;have j2:decide ((0:Int)<(m:Int)+1)=true:=Am rF;have j3:((m+1:Nat):Int) - 1=(m:Int):=by omega
 obtain⟨d,hd⟩:∃d,l[m]=d:=⟨_,rfl⟩;rw[hd] at q;have j4:(0:Int)<=(m:Int):=by omega
 have j5:m+1<=c:=by omega
 by_cases hd0:d=0
 ·subst hd0;have V:Hid (nv (l.take m)=nv l):=Ax (by rw[←r.out,F4 l m p,hd];simp);have W:(m:Int)<((m+1:Nat):Int):=by omega
  have j7:m<=c:=by omega
  clear r hd A;go_wp2_with fail
  go_round
  case rel=>exact⟨m,by omega,rfl,V⟩
  case measure=>simp
 have C:=dN p (by rw[hd];exact hd0);have g:dg (nv l)=l.take (m+1):=by rw[←r.out];exact iK _ (U2 O.out _) C
 have i:0<nv l:=by
  refine Nat.pos_of_ne_zero fun h=>?_
  rw[h,D1] at g
  have:=Ar List.length g
  rw[List.length_take] at this;simp at this;omega
 have HN:Hid (Bm w (.agg #[.bool f,.slice (some ⟨b,off,none⟩) (m+1) c]) (sgn f (nv l))):=Ax ⟨.slice (some ⟨b,off,none⟩) (m+1) c,by rw[cC];simp [i],by
  rw[bN,g]
  exact G.out.take rF⟩
 have W:((d:Int)==0)=false:=by simp;omega
 clear r hd A C g i hd0;cases f with
 |true=>
  go_wp2_with fail;refine Au (v:= .agg #[.bool true,.slice (some ⟨b,off,none⟩) (m+1) c]) sW rfl ⟨I2.mk ?_,(HB.out.setCell (Ak _) _).setCell (Ak _) _⟩;exact HN.out.below ((HB.out.setCell (Ak _) _).setCell (Ak _) _)
 |false=>
  go_wp2_with fail;refine Au (v:= .agg #[.bool false,.slice (some ⟨b,off,none⟩) (m+1) c]) sW rfl ⟨I2.mk ?_,(HB.out.setCell (Ak _) _).setCell (Ak _) _⟩;exact HN.out.below ((HB.out.setCell (Ak _) _).setCell (Ak _) _)
theorem kM {w:World}{f:Value}{l:List Nat}(d:Bool)(g:Ck w f l)(i:okD l):
 Calls Tryz.prog 125 #[.bool d,f] w fun e w'=>(∃v,e= .returned v/\Bm w' v (sgn d (nv l)))/\Below w.heap.size w w':=by
 obtain⟨a,c,rfl,_⟩:=g.slice;refine(Ms d g i).mono ?_;rintro e w' ⟨⟨k,b,rfl,h⟩,j⟩;exact⟨⟨_,rfl,h⟩,j⟩
open Go Go.RowKit Go.Lib
structure eN (w wr:World)(la lb:List Nat)(i more:Nat)(v:Value)(o:List Nat):Prop where
 row:wr.ownsRow w.heap.size 3 1 v i (De o)
 len:o.length=i
 ok:okD o
 val:nv o+10000^i*(more+nv (la.drop i)+nv (lb.drop i))=nv la+nv lb
 bel:Below w.heap.size w wr
theorem Qw {O p t s A B:Nat}(h:t+10000*A+10000*B=s):O+p*(t % 10000)+p*10000*(t/10000+A+B)=O+p*s:=by
 rw[←h,Nat.add_assoc,Nat.mul_assoc,←Nat.mul_add];congr 2;omega
theorem lX {w:World}{sa sb:Value}{f lb:List Nat}(ha:Ck w sa f)(hb:Ck w sb lb)(i6:okD f)(i7:okD lb)(r8:f.length<=100000)(r9:lb.length<=100000):
 Calls Tryz.prog 190 #[sa,sb] w fun e w'=>(∃v o,e= .returned v/\Ck w' v o/\okD o/\nv o=nv f+nv lb/\o.length<=max f.length lb.length+1)/\Below w.heap.size w w':=by
 obtain⟨aa,ca,rfl,_⟩:=ha.slice;obtain⟨ab,cb,rfl,_⟩:=hb.slice;have HA:=Ax ha;have j8:=Ax hb;have j9:=Ax i6;have k8:=Ax i7;have l7:Hid (eN w w f lb 0 0 (.slice none 0 0) []):=Ax ⟨World.ownsRow_nil _ _ _ _,rfl,fun _ h=>by(cases h),by simp [nv],Aq _ _⟩;clear ha hb i6 i7;go_enter Tryz.func190,Tryz.ntmps190;go_wp2_with fail
 go_loopw [5,6,7] (fun v5 v6 v7 wr=>∃(i more:Nat) (o:List Nat) (oa:Option Addr) (oc:Nat),more<=1/\(i<=max f.length lb.length\/i=max f.length lb.length+1/\more=0)/\v7= .int .i64 i/\v5= .slice oa i oc/\v6= .int .i64 more/\Hid (eN w wr f lb i more (.slice oa i oc) o)) (fun _ _ v7 _=>max f.length lb.length+2 - (intOf v7).toNat)
 case atStart=>exact⟨0,0,[],none,0,by omega,.inl rF,rfl,rfl,rfl,l7⟩
 obtain⟨i,more,o,oa,oc,hm,hi,rfl,rfl,rfl,hq⟩:=hrel;have k:=hq.out;by_cases hia:i<f.length
 ·by_cases hib:i<lb.length
  ·skip
   obtain⟨ba,fa,rfl,ha⟩:=HA.out.at hia;have ha:=A4 k.bel ha;have f8:=j9.out _ (List.getElem_mem hia);have L:=Dj hia;obtain⟨x,hx⟩:∃x,f[i]=x:=⟨_,rfl⟩;rw[hx] at ha L f8;have p1:decide ((i:Int)<(f.length:Int))=true:=Am rF;have n9:(i:Int)<(f.length:Int):=by omega
   have q1:(0:Int)<=(x:Int):=by omega
   have q2:(x:Int)<=9999:=by omega
   obtain⟨bb,fb,rfl,hb⟩:=j8.out.at hib;have hb:=A4 k.bel hb;have f9:=k8.out _ (List.getElem_mem hib);have M:=Dj hib;obtain⟨y,hy⟩:∃y,lb[i]=y:=⟨_,rfl⟩;rw[hy] at hb M f9;have p2:decide ((i:Int)<(lb.length:Int))=true:=Am rF;have p8:(i:Int)<(lb.length:Int):=by omega
   have q3:(0:Int)<=(y:Int):=by omega
   have q4:(y:Int)<=9999:=by omega
   have q0:(0:Int)<=(i:Int):=by omega
   have q5:(0:Int)<=(more:Int):=by omega
   have q6:(more:Int)<=1:=by omega
   have hz:(((more:Int)+(x:Int)+(y:Int)) % 10000:Int)=(((more+x+y) % 10000:Nat):Int):=by omega
   have hd:(((more:Int)+(x:Int)+(y:Int))/10000:Int)=(((more+x+y)/10000:Nat):Int):=by omega
   have N:(more+x+y)/10000<=1:=by omega
   have n:i+1<=max f.length lb.length\/i+1=max f.length lb.length+1/\(more+x+y)/10000=0:=by omega
   have q:=Ax (Qw (O:=nv o) (p:=10000^i) (show(more+x+y)+10000*nv (f.drop (i+1))+10000*nv (lb.drop (i+1))=more+nv (f.drop i)+nv (lb.drop i) by omega));have g:=Ax (k.row.alloc (.cells #[.int .i64 (((more:Int)+(x:Int)+(y:Int)) % 10000)] 3));have r:=Ax (Az wr (.cells #[.int .i64 (((more:Int)+(x:Int)+(y:Int)) % 10000)] 3));have HZ:Hid ((wr.alloc (.cells #[.int .i64 (((more:Int)+(x:Int)+(y:Int)) % 10000)] 3)).heap.size=wr.heap.size+1):=Ax rI;have R:=k.bel.size;have j:=Ax (Co k.row);have m:=Ax k;have T:=Ax hz;have U:=Ax hd;obtain⟨i0,u,A,C,D⟩:=Cj;have V:=Ax u;have W:=Ax A;have X:=Ax C;have Y:=Ax D;have Z:=Ax n;clear hq k hz hd u A C D L M n hx hy;go_wp2_with ((refine wpList_append_lies _ rfl (.tmp 44) (.tmp 47) _ rfl w.heap.size 3 i0 (.int .i64 0) 1 8 Tryz.underlying41 V.out W.out X.out Y.out rfl rH (.slice oa i oc) i (De o) rfl g.out ⟨wr.heap.size,0,none⟩ 1 1 [.int .i64 (((more:Int)+(x:Int)+(y:Int)) % 10000)] rfl rfl (World.news_of_block (cs:= #[.int .i64 (((more:Int)+(x:Int)+(y:Int)) % 10000)]) r.out) rS rH rP rF rW (wr.heap.size+1) HZ.out ?_;intro g6 E w6 c d F G));have I:=Cq (v:= .slice oa i oc) (m.out.bel.alloc m.out.bel.size (.cells #[.int .i64 (((more:Int)+(x:Int)+(y:Int)) % 10000)] 3)) d j.out rW;rw[T.out,←Dg] at c
   have a8:Hid (eN w w6 f lb (i+1) ((more+x+y)/10000) (.slice (some ⟨g6,0,none⟩) (i+1) E) (o++[(more+x+y) % 10000])):=Ax ⟨c,by rw[Ab,m.out.len];rfl,Ff m.out.ok (Nat.mod_lt _ rH),by
    rw[Gg,m.out.len,Nat.pow_succ,q.out]
    exact m.out.val,I⟩
   clear c d F G I g r HZ R j m q;go_wp2_with fail;go_roundw
   case rel=>exact⟨i+1,(more+x+y)/10000,o++[(more+x+y) % 10000],some ⟨g6,0,none⟩,E,N,Z.out,by go_num,rfl,by rw[U.out],a8⟩
   case measure=>simp [intOf];omega
  skip
  obtain⟨ba,fa,rfl,ha⟩:=HA.out.at hia;have ha:=A4 k.bel ha;have f8:=j9.out _ (List.getElem_mem hia);have L:=Dj hia;obtain⟨x,hx⟩:∃x,f[i]=x:=⟨_,rfl⟩;rw[hx] at ha L f8;have p1:decide ((i:Int)<(f.length:Int))=true:=Am rF;have n9:(i:Int)<(f.length:Int):=by omega
  have q1:(0:Int)<=(x:Int):=by omega
  have q2:(x:Int)<=9999:=by omega
  have M:nv (lb.drop i)=0:=by rw[List.drop_eq_nil_of_le rF];rfl
  have b7:nv (lb.drop (i+1))=0:=by rw[List.drop_eq_nil_of_le rF];rfl
  have p2:decide ((i:Int)<(lb.length:Int))=false:=An rF;have q0:(0:Int)<=(i:Int):=by omega
  have q5:(0:Int)<=(more:Int):=by omega
  have q6:(more:Int)<=1:=by omega
  have hz:(((more:Int)+(x:Int)) % 10000:Int)=(((more+x) % 10000:Nat):Int):=by omega
  have hd:(((more:Int)+(x:Int))/10000:Int)=(((more+x)/10000:Nat):Int):=by omega
  have N:(more+x)/10000<=1:=by omega
  have n:i+1<=max f.length lb.length\/i+1=max f.length lb.length+1/\(more+x)/10000=0:=by omega
  have q:=Ax (Qw (O:=nv o) (p:=10000^i) (show(more+x)+10000*nv (f.drop (i+1))+10000*nv (lb.drop (i+1))=more+nv (f.drop i)+nv (lb.drop i) by omega));have g:=Ax (k.row.alloc (.cells #[.int .i64 (((more:Int)+(x:Int)) % 10000)] 3));have r:=Ax (Az wr (.cells #[.int .i64 (((more:Int)+(x:Int)) % 10000)] 3));have HZ:Hid ((wr.alloc (.cells #[.int .i64 (((more:Int)+(x:Int)) % 10000)] 3)).heap.size=wr.heap.size+1):=Ax rI;have R:=k.bel.size;have j:=Ax (Co k.row);have m:=Ax k;have T:=Ax hz;have U:=Ax hd;obtain⟨i0,u,A,C,D⟩:=Cj;have V:=Ax u;have W:=Ax A;have X:=Ax C;have Y:=Ax D;have Z:=Ax n;clear hq k hz hd u A C D L M n hx b7;go_wp2_with ((refine wpList_append_lies _ rfl (.tmp 44) (.tmp 47) _ rfl w.heap.size 3 i0 (.int .i64 0) 1 8 Tryz.underlying41 V.out W.out X.out Y.out rfl rH (.slice oa i oc) i (De o) rfl g.out ⟨wr.heap.size,0,none⟩ 1 1 [.int .i64 (((more:Int)+(x:Int)) % 10000)] rfl rfl (World.news_of_block (cs:= #[.int .i64 (((more:Int)+(x:Int)) % 10000)]) r.out) rS rH rP rF rW (wr.heap.size+1) HZ.out ?_;intro g6 E w6 c d F G));have I:=Cq (v:= .slice oa i oc) (m.out.bel.alloc m.out.bel.size (.cells #[.int .i64 (((more:Int)+(x:Int)) % 10000)] 3)) d j.out rW;rw[T.out,←Dg] at c
  have a8:Hid (eN w w6 f lb (i+1) ((more+x)/10000) (.slice (some ⟨g6,0,none⟩) (i+1) E) (o++[(more+x) % 10000])):=Ax ⟨c,by rw[Ab,m.out.len];rfl,Ff m.out.ok (Nat.mod_lt _ rH),by
   rw[Gg,m.out.len,Nat.pow_succ,q.out]
   exact m.out.val,I⟩
  clear c d F G I g r HZ R j m q;go_wp2_with fail;go_roundw
  case rel=>exact⟨i+1,(more+x)/10000,o++[(more+x) % 10000],some ⟨g6,0,none⟩,E,N,Z.out,by go_num,rfl,by rw[U.out],a8⟩
  case measure=>simp [intOf];omega
 by_cases hib:i<lb.length
 ·skip
  have L:nv (f.drop i)=0:=by rw[List.drop_eq_nil_of_le rF];rfl
  have b8:nv (f.drop (i+1))=0:=by rw[List.drop_eq_nil_of_le rF];rfl
  have p1:decide ((i:Int)<(f.length:Int))=false:=An rF;obtain⟨bb,fb,rfl,hb⟩:=j8.out.at hib;have hb:=A4 k.bel hb;have f9:=k8.out _ (List.getElem_mem hib);have M:=Dj hib;obtain⟨y,hy⟩:∃y,lb[i]=y:=⟨_,rfl⟩;rw[hy] at hb M f9;have p2:decide ((i:Int)<(lb.length:Int))=true:=Am rF;have p8:(i:Int)<(lb.length:Int):=by omega
  have q3:(0:Int)<=(y:Int):=by omega
  have q4:(y:Int)<=9999:=by omega
  have q0:(0:Int)<=(i:Int):=by omega
  have q5:(0:Int)<=(more:Int):=by omega
  have q6:(more:Int)<=1:=by omega
  have hz:(((more:Int)+(y:Int)) % 10000:Int)=(((more+y) % 10000:Nat):Int):=by omega
  have hd:(((more:Int)+(y:Int))/10000:Int)=(((more+y)/10000:Nat):Int):=by omega
  have N:(more+y)/10000<=1:=by omega
  have n:i+1<=max f.length lb.length\/i+1=max f.length lb.length+1/\(more+y)/10000=0:=by omega
  have q:=Ax (Qw (O:=nv o) (p:=10000^i) (show(more+y)+10000*nv (f.drop (i+1))+10000*nv (lb.drop (i+1))=more+nv (f.drop i)+nv (lb.drop i) by omega));have g:=Ax (k.row.alloc (.cells #[.int .i64 (((more:Int)+(y:Int)) % 10000)] 3));have r:=Ax (Az wr (.cells #[.int .i64 (((more:Int)+(y:Int)) % 10000)] 3));have HZ:Hid ((wr.alloc (.cells #[.int .i64 (((more:Int)+(y:Int)) % 10000)] 3)).heap.size=wr.heap.size+1):=Ax rI;have R:=k.bel.size;have j:=Ax (Co k.row);have m:=Ax k;have T:=Ax hz;have U:=Ax hd;obtain⟨i0,u,A,C,D⟩:=Cj;have V:=Ax u;have W:=Ax A;have X:=Ax C;have Y:=Ax D;have Z:=Ax n;clear hq k hz hd u A C D L M n b8 hy;go_wp2_with ((refine wpList_append_lies _ rfl (.tmp 44) (.tmp 47) _ rfl w.heap.size 3 i0 (.int .i64 0) 1 8 Tryz.underlying41 V.out W.out X.out Y.out rfl rH (.slice oa i oc) i (De o) rfl g.out ⟨wr.heap.size,0,none⟩ 1 1 [.int .i64 (((more:Int)+(y:Int)) % 10000)] rfl rfl (World.news_of_block (cs:= #[.int .i64 (((more:Int)+(y:Int)) % 10000)]) r.out) rS rH rP rF rW (wr.heap.size+1) HZ.out ?_;intro g6 E w6 c d F G));have I:=Cq (v:= .slice oa i oc) (m.out.bel.alloc m.out.bel.size (.cells #[.int .i64 (((more:Int)+(y:Int)) % 10000)] 3)) d j.out rW;rw[T.out,←Dg] at c
  have a8:Hid (eN w w6 f lb (i+1) ((more+y)/10000) (.slice (some ⟨g6,0,none⟩) (i+1) E) (o++[(more+y) % 10000])):=Ax ⟨c,by rw[Ab,m.out.len];rfl,Ff m.out.ok (Nat.mod_lt _ rH),by
   rw[Gg,m.out.len,Nat.pow_succ,q.out]
   exact m.out.val,I⟩
  clear c d F G I g r HZ R j m q;go_wp2_with fail;go_roundw
  case rel=>exact⟨i+1,(more+y)/10000,o++[(more+y) % 10000],some ⟨g6,0,none⟩,E,N,Z.out,by go_num,rfl,by rw[U.out],a8⟩
  case measure=>simp [intOf];omega
 by_cases hm0:more=0
 ·subst hm0;have p1:decide ((i:Int)<(f.length:Int))=false:=An rF;have p2:decide ((i:Int)<(lb.length:Int))=false:=An rF;have r7:i<=200000:=by omega
  have d8:Ck wr (.slice oa i oc) o:=Ck.of_row (by rw[k.len];omega) k.len.symm k.row
  have f7:nv o=nv f+nv lb:=by
   have:=k.val
   rw[List.drop_eq_nil_of_le rF,List.drop_eq_nil_of_le rF] at this;simpa[nv] using this
  have HR:Hid (∃v o',Ending.returned (.slice oa i oc)= .returned v/\Ck wr v o'/\okD o'/\nv o'=nv f+nv lb/\o'.length<=max f.length lb.length+1):=Ax ⟨_,o,rfl,d8,k.ok,f7,by rw[k.len];omega⟩;have HB:=Ax k.bel;clear hq k d8 f7 hi r7 hm;exact zzd
 obtain rfl:more=1:=by omega
 have L:nv (f.drop i)=0:=by rw[List.drop_eq_nil_of_le rF];rfl
 have b8:nv (f.drop (i+1))=0:=by rw[List.drop_eq_nil_of_le rF];rfl
 have p1:decide ((i:Int)<(f.length:Int))=false:=An rF;have M:nv (lb.drop i)=0:=by rw[List.drop_eq_nil_of_le rF];rfl
 have b7:nv (lb.drop (i+1))=0:=by rw[List.drop_eq_nil_of_le rF];rfl
 have p2:decide ((i:Int)<(lb.length:Int))=false:=An rF;have q0:(0:Int)<=(i:Int):=by omega
 have hz:(1:Int)=(((1) % 10000:Nat):Int):=by omega
 have hd:(0:Int)=(((1)/10000:Nat):Int):=by omega
 have N:(1)/10000<=1:=by omega
 have n:i+1<=max f.length lb.length\/i+1=max f.length lb.length+1/\(1)/10000=0:=by right;omega
 have q:=Ax (Qw (O:=nv o) (p:=10000^i) (show(1)+10000*nv (f.drop (i+1))+10000*nv (lb.drop (i+1))=1+nv (f.drop i)+nv (lb.drop i) by omega));have g:=Ax (k.row.alloc (.cells #[.int .i64 (1)] 3));have r:=Ax (Az wr (.cells #[.int .i64 (1)] 3));have HZ:Hid ((wr.alloc (.cells #[.int .i64 (1)] 3)).heap.size=wr.heap.size+1):=Ax rI;have R:=k.bel.size;have j:=Ax (Co k.row);have m:=Ax k;have T:=Ax hz;have U:=Ax hd;obtain⟨i0,u,A,C,D⟩:=Cj;have V:=Ax u;have W:=Ax A;have X:=Ax C;have Y:=Ax D;have Z:=Ax n;clear hq k hz hd u A C D L M n b8 b7;go_wp2_with ((refine wpList_append_lies _ rfl (.tmp 44) (.tmp 47) _ rfl w.heap.size 3 i0 (.int .i64 0) 1 8 Tryz.underlying41 V.out W.out X.out Y.out rfl rH (.slice oa i oc) i (De o) rfl g.out ⟨wr.heap.size,0,none⟩ 1 1 [.int .i64 (1)] rfl rfl (World.news_of_block (cs:= #[.int .i64 (1)]) r.out) rS rH rP rF rW (wr.heap.size+1) HZ.out ?_;intro g6 E w6 c d F G));have I:=Cq (v:= .slice oa i oc) (m.out.bel.alloc m.out.bel.size (.cells #[.int .i64 (1)] 3)) d j.out rW;rw[T.out,←Dg] at c
 have a8:Hid (eN w w6 f lb (i+1) ((1)/10000) (.slice (some ⟨g6,0,none⟩) (i+1) E) (o++[(1) % 10000])):=Ax ⟨c,by rw[Ab,m.out.len];rfl,Ff m.out.ok (Nat.mod_lt _ rH),by
  rw[Gg,m.out.len,Nat.pow_succ,q.out]
  exact m.out.val,I⟩
 clear c d F G I g r HZ R j m q;go_wp2_with fail;go_roundw
 case rel=>exact⟨i+1,(1)/10000,o++[(1) % 10000],some ⟨g6,0,none⟩,E,N,Z.out,by go_num,rfl,by rw[U.out],a8⟩
 case measure=>simp [intOf];omega
open Go Go.RowKit Go.Lib
structure gN (w wr:World)(la lb:List Nat)(i owed:Nat)(v:Value)(o:List Nat):Prop where
 row:wr.ownsRow w.heap.size 3 1 v i (De o)
 len:o.length=i
 ok:okD o
 val:nv o+nv (lb.take i)=nv (la.take i)+owed*10000^i
 bel:Below w.heap.size w wr
theorem Ly {O p A B x y d o o':Nat}(h:O+B=A+o*p)(hd:o+d+y=x+10000*o'):O+p*d+(B+p*y)=A+p*x+o'*(p*10000):=by
 have c:p*(o+d+y)=p*(x+10000*o'):=by rw[hd]
 rw[Nat.mul_add,Nat.mul_add,Nat.mul_add] at c;have e:p*(10000*o')=o'*(p*10000):=by rw[←Nat.mul_assoc,Nat.mul_comm]
 have f:p*o=o*p:=Nat.mul_comm _ _;omega
theorem Xg {w:World}{sa sb:Value}{n lb:List Nat}(ha:Ck w sa n)(hb:Ck w sb lb)(f9:okD n)(i6:okD lb)(r8:n.length<=100000)(r9:lb.length<=n.length)(i7:nv lb<=nv n):
 Calls Tryz.prog 231 #[sa,sb] w fun e w'=>(∃v o,e= .returned v/\Ck w' v o/\okD o/\nv o=nv n - nv lb/\o.length<=n.length)/\Below w.heap.size w w':=by
 obtain⟨aa,ca,rfl,_⟩:=ha.slice;obtain⟨ab,cb,rfl,_⟩:=hb.slice;have HA:=Ax ha;have j8:=Ax hb;have k8:=Ax f9;have j9:=Ax i6;have l7:=Ax i7;have n9:Hid (gN w w n lb 0 0 (.slice none 0 0) []):=Ax ⟨World.ownsRow_nil _ _ _ _,rfl,fun _ h=>by(cases h),by simp [nv],Aq _ _⟩;clear ha hb f9 i6 i7;go_enter Tryz.func231,Tryz.ntmps231;go_wp2_with fail
 go_loopw [5,6,7] (fun v5 v6 v7 wr=>∃(i c:Nat) (o:List Nat) (oa:Option Addr) (oc:Nat),c<=1/\i<=n.length/\v7= .int .i64 i/\v5= .slice oa i oc/\v6= .int .i64 c/\Hid (gN w wr n lb i c (.slice oa i oc) o)) (fun _ _ v7 _=>n.length - (intOf v7).toNat)
 case atStart=>exact⟨0,0,[],none,0,by omega,by omega,rfl,rfl,rfl,n9⟩
 obtain⟨i,c,o,oa,oc,hm,hi,rfl,rfl,rfl,hq⟩:=hrel;have k:=hq.out;by_cases hia:i<n.length
 ·obtain⟨ba,fa,rfl,ha⟩:=HA.out.at hia;have ha:=A4 k.bel ha;have p8:=k8.out _ (List.getElem_mem hia);have R:=F4 n i hia;obtain⟨x,hx⟩:∃x,n[i]=x:=⟨_,rfl⟩;rw[hx] at ha R p8;have p1:decide ((i:Int)<(n.length:Int))=true:=Am rF;have s7:(i:Int)<(n.length:Int):=by omega
  have q1:(0:Int)<=(x:Int):=by omega
  have q2:(x:Int)<=9999:=by omega
  by_cases hib:i<lb.length
  ·by_cases hn:x<c+lb[i]
   ·skip
    obtain⟨bb,fb,rfl,hb⟩:=j8.out.at hib;have hb:=A4 k.bel hb;have f8:=j9.out _ (List.getElem_mem hib);have q:=F4 lb i hib;obtain⟨y,hy⟩:∃y,lb[i]=y:=⟨_,rfl⟩;rw[hy] at hb q f8;have p2:decide ((i:Int)<(lb.length:Int))=true:=Am rF;have r7:(i:Int)<(lb.length:Int):=by omega
    have q3:(0:Int)<=(y:Int):=by omega
    have q4:(y:Int)<=9999:=by omega
    have q0:(0:Int)<=(i:Int):=by omega
    have q5:(0:Int)<=(c:Int):=by omega
    have q6:(c:Int)<=1:=by omega
    have p3:decide ((x:Int) - (c:Int) - (y:Int)<0)=true:=by simp;omega
    have hz:(((x:Int) - (c:Int) - (y:Int)+10000):Int)=((x+10000 - c - y:Nat):Int):=by omega
    have T:x+10000 - c - y<10000:=by omega
    have u:=Ax (Ly (O:=nv o) (p:=10000^i) (A:=nv (n.take i)) (B:=nv (lb.take i)) (x:=x) (y:=y) (d:=x+10000 - c - y) (o:=c) (o':=1) k.val rF);have U:=Ax q;have V:=Ax R;have j:=Ax (k.row.alloc (.cells #[.int .i64 (((x:Int) - (c:Int) - (y:Int)+10000))] 3));have C:=Ax (Az wr (.cells #[.int .i64 (((x:Int) - (c:Int) - (y:Int)+10000))] 3));have HZ:Hid ((wr.alloc (.cells #[.int .i64 (((x:Int) - (c:Int) - (y:Int)+10000))] 3)).heap.size=wr.heap.size+1):=Ax rI;have W:=k.bel.size;have m:=Ax (Co k.row);have r:=Ax k;have X:=Ax hz;obtain⟨i0,D,E,F,G⟩:=Cj;have Y:=Ax D;have Z:=Ax E;have a8:=Ax F;have b7:=Ax G;clear hq k hz D E F G q R hx hy;go_wp2_with ((refine wpList_append_lies _ rfl (.tmp 35) (.tmp 37) _ rfl w.heap.size 3 i0 (.int .i64 0) 1 8 Tryz.underlying41 Y.out Z.out a8.out b7.out rfl rH (.slice oa i oc) i (De o) rfl j.out ⟨wr.heap.size,0,none⟩ 1 1 [.int .i64 (((x:Int) - (c:Int) - (y:Int)+10000))] rfl rfl (World.news_of_block (cs:= #[.int .i64 (((x:Int) - (c:Int) - (y:Int)+10000))]) C.out) rS rH rP rF rW (wr.heap.size+1) HZ.out ?_;intro g6 I w6 f g L M));have N:=Cq (v:= .slice oa i oc) (r.out.bel.alloc r.out.bel.size (.cells #[.int .i64 (((x:Int) - (c:Int) - (y:Int)+10000))] 3)) g m.out rW;rw[X.out,←Dg] at f
    have b8:Hid (gN w w6 n lb (i+1) 1 (.slice (some ⟨g6,0,none⟩) (i+1) I) (o++[x+10000 - c - y])):=Ax ⟨f,by rw[Ab,r.out.len];rfl,Ff r.out.ok T,by
     rw[Gg,r.out.len,U.out,V.out,Nat.pow_succ]
     exact u.out,N⟩
    clear f g L M N j C HZ W m r u;go_wp2_with fail;go_roundw
    case rel=>exact⟨i+1,1,o++[x+10000 - c - y],some ⟨g6,0,none⟩,I,by omega,by omega,by go_num,rfl,rfl,b8⟩
    case measure=>simp [intOf];omega
   skip
   obtain⟨bb,fb,rfl,hb⟩:=j8.out.at hib;have hb:=A4 k.bel hb;have f8:=j9.out _ (List.getElem_mem hib);have q:=F4 lb i hib;obtain⟨y,hy⟩:∃y,lb[i]=y:=⟨_,rfl⟩;rw[hy] at hb q f8;have p2:decide ((i:Int)<(lb.length:Int))=true:=Am rF;have r7:(i:Int)<(lb.length:Int):=by omega
   have q3:(0:Int)<=(y:Int):=by omega
   have q4:(y:Int)<=9999:=by omega
   have q0:(0:Int)<=(i:Int):=by omega
   have q5:(0:Int)<=(c:Int):=by omega
   have q6:(c:Int)<=1:=by omega
   have p3:decide ((x:Int) - (c:Int) - (y:Int)<0)=false:=by simp;omega
   have hz:((x:Int) - (c:Int) - (y:Int):Int)=((x - c - y:Nat):Int):=by omega
   have T:x - c - y<10000:=by omega
   have u:=Ax (Ly (O:=nv o) (p:=10000^i) (A:=nv (n.take i)) (B:=nv (lb.take i)) (x:=x) (y:=y) (d:=x - c - y) (o:=c) (o':=0) k.val rF);have U:=Ax q;have V:=Ax R;have j:=Ax (k.row.alloc (.cells #[.int .i64 ((x:Int) - (c:Int) - (y:Int))] 3));have C:=Ax (Az wr (.cells #[.int .i64 ((x:Int) - (c:Int) - (y:Int))] 3));have HZ:Hid ((wr.alloc (.cells #[.int .i64 ((x:Int) - (c:Int) - (y:Int))] 3)).heap.size=wr.heap.size+1):=Ax rI;have W:=k.bel.size;have m:=Ax (Co k.row);have r:=Ax k;have X:=Ax hz;obtain⟨i0,D,E,F,G⟩:=Cj;have Y:=Ax D;have Z:=Ax E;have a8:=Ax F;have b7:=Ax G;clear hq k hz D E F G q R hx hy;go_wp2_with ((refine wpList_append_lies _ rfl (.tmp 35) (.tmp 37) _ rfl w.heap.size 3 i0 (.int .i64 0) 1 8 Tryz.underlying41 Y.out Z.out a8.out b7.out rfl rH (.slice oa i oc) i (De o) rfl j.out ⟨wr.heap.size,0,none⟩ 1 1 [.int .i64 ((x:Int) - (c:Int) - (y:Int))] rfl rfl (World.news_of_block (cs:= #[.int .i64 ((x:Int) - (c:Int) - (y:Int))]) C.out) rS rH rP rF rW (wr.heap.size+1) HZ.out ?_;intro g6 I w6 f g L M));have N:=Cq (v:= .slice oa i oc) (r.out.bel.alloc r.out.bel.size (.cells #[.int .i64 ((x:Int) - (c:Int) - (y:Int))] 3)) g m.out rW;rw[X.out,←Dg] at f
   have b8:Hid (gN w w6 n lb (i+1) 0 (.slice (some ⟨g6,0,none⟩) (i+1) I) (o++[x - c - y])):=Ax ⟨f,by rw[Ab,r.out.len];rfl,Ff r.out.ok T,by
    rw[Gg,r.out.len,U.out,V.out,Nat.pow_succ]
    exact u.out,N⟩
   clear f g L M N j C HZ W m r u;go_wp2_with fail;go_roundw
   case rel=>exact⟨i+1,0,o++[x - c - y],some ⟨g6,0,none⟩,I,by omega,by omega,by go_num,rfl,rfl,b8⟩
   case measure=>simp [intOf];omega
  by_cases hn:x<c
  ·skip
   have q:nv (lb.take (i+1))=nv (lb.take i)+10000^i*0:=by rw[List.take_of_length_le rF,List.take_of_length_le rF];simp
   have p2:decide ((i:Int)<(lb.length:Int))=false:=An rF;have q0:(0:Int)<=(i:Int):=by omega
   have q5:(0:Int)<=(c:Int):=by omega
   have q6:(c:Int)<=1:=by omega
   have p3:decide ((x:Int) - (c:Int)<0)=true:=by simp;omega
   have hz:(((x:Int) - (c:Int)+10000):Int)=((x+10000 - c:Nat):Int):=by omega
   have T:x+10000 - c<10000:=by omega
   have u:=Ax (Ly (O:=nv o) (p:=10000^i) (A:=nv (n.take i)) (B:=nv (lb.take i)) (x:=x) (y:=0) (d:=x+10000 - c) (o:=c) (o':=1) k.val rF);have U:=Ax q;have V:=Ax R;have j:=Ax (k.row.alloc (.cells #[.int .i64 (((x:Int) - (c:Int)+10000))] 3));have C:=Ax (Az wr (.cells #[.int .i64 (((x:Int) - (c:Int)+10000))] 3));have HZ:Hid ((wr.alloc (.cells #[.int .i64 (((x:Int) - (c:Int)+10000))] 3)).heap.size=wr.heap.size+1):=Ax rI;have W:=k.bel.size;have m:=Ax (Co k.row);have r:=Ax k;have X:=Ax hz;obtain⟨i0,D,E,F,G⟩:=Cj;have Y:=Ax D;have Z:=Ax E;have a8:=Ax F;have b7:=Ax G;clear hq k hz D E F G q R hx;go_wp2_with ((refine wpList_append_lies _ rfl (.tmp 35) (.tmp 37) _ rfl w.heap.size 3 i0 (.int .i64 0) 1 8 Tryz.underlying41 Y.out Z.out a8.out b7.out rfl rH (.slice oa i oc) i (De o) rfl j.out ⟨wr.heap.size,0,none⟩ 1 1 [.int .i64 (((x:Int) - (c:Int)+10000))] rfl rfl (World.news_of_block (cs:= #[.int .i64 (((x:Int) - (c:Int)+10000))]) C.out) rS rH rP rF rW (wr.heap.size+1) HZ.out ?_;intro g6 I w6 f g L M));have N:=Cq (v:= .slice oa i oc) (r.out.bel.alloc r.out.bel.size (.cells #[.int .i64 (((x:Int) - (c:Int)+10000))] 3)) g m.out rW;rw[X.out,←Dg] at f
   have b8:Hid (gN w w6 n lb (i+1) 1 (.slice (some ⟨g6,0,none⟩) (i+1) I) (o++[x+10000 - c])):=Ax ⟨f,by rw[Ab,r.out.len];rfl,Ff r.out.ok T,by
    rw[Gg,r.out.len,U.out,V.out,Nat.pow_succ]
    exact u.out,N⟩
   clear f g L M N j C HZ W m r u;go_wp2_with fail;go_roundw
   case rel=>exact⟨i+1,1,o++[x+10000 - c],some ⟨g6,0,none⟩,I,by omega,by omega,by go_num,rfl,rfl,b8⟩
   case measure=>simp [intOf];omega
  skip
  have q:nv (lb.take (i+1))=nv (lb.take i)+10000^i*0:=by rw[List.take_of_length_le rF,List.take_of_length_le rF];simp
  have p2:decide ((i:Int)<(lb.length:Int))=false:=An rF;have q0:(0:Int)<=(i:Int):=by omega
  have q5:(0:Int)<=(c:Int):=by omega
  have q6:(c:Int)<=1:=by omega
  have p3:decide ((x:Int) - (c:Int)<0)=false:=by simp;omega
  have hz:((x:Int) - (c:Int):Int)=((x - c:Nat):Int):=by omega
  have T:x - c<10000:=by omega
  have u:=Ax (Ly (O:=nv o) (p:=10000^i) (A:=nv (n.take i)) (B:=nv (lb.take i)) (x:=x) (y:=0) (d:=x - c) (o:=c) (o':=0) k.val rF);have U:=Ax q;have V:=Ax R;have j:=Ax (k.row.alloc (.cells #[.int .i64 ((x:Int) - (c:Int))] 3));have C:=Ax (Az wr (.cells #[.int .i64 ((x:Int) - (c:Int))] 3));have HZ:Hid ((wr.alloc (.cells #[.int .i64 ((x:Int) - (c:Int))] 3)).heap.size=wr.heap.size+1):=Ax rI;have W:=k.bel.size;have m:=Ax (Co k.row);have r:=Ax k;have X:=Ax hz;obtain⟨i0,D,E,F,G⟩:=Cj;have Y:=Ax D;have Z:=Ax E;have a8:=Ax F;have b7:=Ax G;clear hq k hz D E F G q R hx;go_wp2_with ((refine wpList_append_lies _ rfl (.tmp 35) (.tmp 37) _ rfl w.heap.size 3 i0 (.int .i64 0) 1 8 Tryz.underlying41 Y.out Z.out a8.out b7.out rfl rH (.slice oa i oc) i (De o) rfl j.out ⟨wr.heap.size,0,none⟩ 1 1 [.int .i64 ((x:Int) - (c:Int))] rfl rfl (World.news_of_block (cs:= #[.int .i64 ((x:Int) - (c:Int))]) C.out) rS rH rP rF rW (wr.heap.size+1) HZ.out ?_;intro g6 I w6 f g L M));have N:=Cq (v:= .slice oa i oc) (r.out.bel.alloc r.out.bel.size (.cells #[.int .i64 ((x:Int) - (c:Int))] 3)) g m.out rW;rw[X.out,←Dg] at f
  have b8:Hid (gN w w6 n lb (i+1) 0 (.slice (some ⟨g6,0,none⟩) (i+1) I) (o++[x - c])):=Ax ⟨f,by rw[Ab,r.out.len];rfl,Ff r.out.ok T,by
   rw[Gg,r.out.len,U.out,V.out,Nat.pow_succ]
   exact u.out,N⟩
  clear f g L M N j C HZ W m r u;go_wp2_with fail;go_roundw
  case rel=>exact⟨i+1,0,o++[x - c],some ⟨g6,0,none⟩,I,by omega,by omega,by go_num,rfl,rfl,b8⟩
  case measure=>simp [intOf];omega
 obtain rfl:i=n.length:=by omega
 have p1:decide ((n.length:Int)<(n.length:Int))=false:=by simp
 have d8:Ck wr (.slice oa n.length oc) o:=Ck.of_row (by rw[k.len];omega) k.len.symm k.row
 have f7:nv o=nv n - nv lb:=by
  have h1:=k.val;rw[List.take_length,List.take_of_length_le rF] at h1;have h2:=Yn o k.ok;rw[k.len] at h2;have h3:=l7.out
  have:c=0:=by
   obtain e|e:c=0\/c=1:=by omega
   ·exact e
   rw[e] at h1;omega
  rw[this] at h1;omega
 have HR:Hid (∃v o',Ending.returned (.slice oa n.length oc)= .returned v/\Ck wr v o'/\okD o'/\nv o'=nv n - nv lb/\o'.length<=n.length):=Ax ⟨_,o,rfl,d8,k.ok,f7,by rw[k.len];omega⟩;have HB:=Ax k.bel;clear hq k d8 f7 hi hm hia;exact zzd
def aS (n m:Nat)(r:Int):Prop:=(r<0↔n<m)/\(0<r↔m<n)/\ -100000<=r/\r<=100000
theorem qB {w:World}{sa sb:Value}{n m:Nat}(T:Ck w sa (dg n))(U:Ck w sb (dg m))(a8:Br n<=100000)(b7:Br m<=100000):
 Calls Tryz.prog 230 #[sa,sb] w fun e w'=>(∃r,e= .returned (.int .i64 r)/\aS n m r)/\Below w.heap.size w w':=by
 obtain⟨aa,ca,rfl,_⟩:=T.slice;obtain⟨ab,cb,rfl,_⟩:=U.slice;have u:(dg n).length=Br n:=rfl;have v:(dg m).length=Br m:=rfl;by_cases hl:Br n=Br m
 ·obtain⟨c,C⟩:∃l,dg n=l:=⟨_,rfl⟩;obtain⟨lb,D⟩:∃l,dg m=l:=⟨_,rfl⟩;have F:=Gb n;have G:=Gb m;have I:=Fb n;have L:=Fb m;rw[C] at T u F I ⊢;rw[D] at U v G L ⊢;have A:c.length=lb.length:=by omega
  have h5:c.length<=100000:=by omega
  have HA:=Ax T;have b8:=Ax U;have V:=Ax F;have W:=Ax G;have M:=Ax A;have X:=Ax I;have Y:=Ax L;rw[←A];have HQ:Hid (c.drop c.length=lb.drop c.length):=Ax (by rw[List.drop_length,A,List.drop_length]);clear T U F G I L C D u v hl A a8 b7;have i6:((c.length:Int) !=(c.length:Int))=false:=by simp
  go_enter Tryz.func230,Tryz.ntmps230;go_wp2_with fail
  go_loopw [5] (fun v5 wr=>∃k:Nat,k<=c.length/\v5= .int .i64 ((k:Int) - 1)/\Hid (c.drop k=lb.drop k)/\Hid (Below w.heap.size w wr)) (fun v5 _=>(intOf v5+1).toNat)
  case atStart=>exact⟨c.length,Ak _,rfl,HQ,Aq _ _⟩
  obtain⟨k,hk,rfl,N,E⟩:=hrel;by_cases hk0:k=0
  ·subst hk0;have p1:decide ((0:Int)<=((0:Nat):Int) - 1)=false:=by simp
   have p2:decide ((0:Int)<= -1)=false:=by simp
   have Z:Hid (aS n m 0):=Ax (by
    have h1:=N.out;rw[List.drop_zero,List.drop_zero] at h1
    have:n=m:=by rw[←X.out,←Y.out,h1]
    unfold aS
    omega)
   have HB:=Ax E.out;clear N E HQ;go_wp2_with fail;go_ret;exact⟨⟨0,rfl,Z.out⟩,HB.out⟩
  obtain⟨j,rfl⟩:∃j,k=j+1:=⟨k - 1,by omega⟩;have d:j<c.length:=by omega
  have f:j<lb.length:=by have:=M.out;omega
  obtain⟨ba,fa,rfl,O⟩:=HA.out.at d;obtain⟨bb,fb,rfl,R⟩:=b8.out.at f;have O:=A4 E.out O;have R:=A4 E.out R;have d8:=V.out _ (List.getElem_mem d);have f7:=W.out _ (List.getElem_mem f);have g:=kO V.out M.out d f N.out;have i:=kO W.out M.out.symm f d N.out.symm;have o:c[j]=lb[j]->c.drop j=lb.drop j:=fun e=>by rw[List.drop_eq_getElem_cons d,List.drop_eq_getElem_cons f,e,N.out]
  obtain⟨x,hx⟩:∃x,c[j]=x:=⟨_,rfl⟩;obtain⟨y,hy⟩:∃y,lb[j]=y:=⟨_,rfl⟩;rw[hx] at O d8 g i o;rw[hy] at R f7 g i o;have j0:((j+1:Nat):Int) - 1=(j:Int):=by omega
  rw[j0];have j1:(0:Int)<=(j:Int):=by omega
  have j2:(j:Int)<(c.length:Int):=by omega
  have p1:decide ((0:Int)<=(j:Int))=true:=Am j1;have q1:(0:Int)<=(x:Int):=by omega
  have q2:(x:Int)<=9999:=by omega
  have q3:(0:Int)<=(y:Int):=by omega
  have q4:(y:Int)<=9999:=by omega
  have HD:=fun nq=>Ax (show Below w.heap.size w (wr.drewN nq) from A8 E.out nq)
  have f8:=fun p q=>Ax (show Below w.heap.size w ((wr.drewN p).drewN q) from A8 (A8 E.out p) q)
  by_cases hxy:x=y
  ·subst hxy;have f9:=Ax (o rfl);have p3:((x:Int) !=(x:Int))=false:=by simp
   clear N E HQ hx hy g i o j0 hk hk0;go_wp2_with fail;go_quiet (fail);go_wp2_with fail;refine⟨⟨j,by omega,rfl,f9,HD _⟩,?_⟩;simp [intOf]
  have p3:((x:Int) !=(y:Int))=true:=by simp;omega
  have Z:Hid (aS n m ((x:Int) - (y:Int))):=Ax (by
   have h1:=X.out;have h2:=Y.out;unfold aS;rcases Nat.lt_or_ge x y with h|h
   ·have:=g h
    omega
   have:=i rF
   omega)
  clear N E HQ hx hy g i o j0 hk hk0;go_wp2_with fail;go_quiet (fail);go_wp2_with fail;go_quiet (fail);go_wp2_with fail;go_ret;exact⟨⟨_,rfl,Z.out⟩,(f8 _ _).out⟩
 have h1:((Br n:Int) !=(Br m:Int))=true:=by simp;omega
 have Z:Hid (aS n m ((Br n:Int) - (Br m:Int))):=Ax (by
  unfold aS;rcases Nat.lt_or_ge (Br n) (Br m) with h|h
  ·have:=Ti h
   omega
  have:=Ti (show Br m<Br n by omega)
  omega)
 rw[u,v];clear T U u v hl;go_enter Tryz.func230,Tryz.ntmps230;go_wp2_with fail;go_ret;exact⟨⟨_,rfl,Z.out⟩,Aq _ _⟩
end Go.Proofs.YtgfakdobajgnfaaGreatDoor
