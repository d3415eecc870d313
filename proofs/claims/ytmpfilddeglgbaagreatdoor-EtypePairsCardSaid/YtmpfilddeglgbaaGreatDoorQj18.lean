import Derived.BigQuiet
import Derived.Test.YtmpfilddeglgbaaGreatDoorQj0
set_option maxRecDepth 100000
set_option maxHeartbeats 16000000
namespace Go.Proofs.YtmpfilddeglgbaaGreatDoor
def nv:List Nat->Nat
 |[]=>0
 |d::l=>d+10000*nv l
def okD (l:List Nat):Prop:=∀d∈l,d<10000
def dg (n:Nat):List Nat:=if h:n=0 then[] else n % 10000::dg (n/10000)
termination_by n
decreasing_by omega
theorem Ed:dg 0=[]:=by rw[dg,dif_pos rfl]
theorem Kx {n:Nat}(h:n≠0):dg n=n % 10000::dg (n/10000):=by rw[dg,dif_neg h]
theorem Fp:∀n,nv (dg n)=n:=fun n=>by
 induction n using Nat.strongRecOn with
 |_ n ih=>
  by_cases h:n=0
  ·subst h;rw[Ed];rfl
  rw[Kx h,nv,ih (n/10000) tE];omega
theorem G0:∀n,okD (dg n):=fun n=>by
 induction n using Nat.strongRecOn with
 |_ n ih=>
  by_cases h:n=0
  ·subst h;rw[Ed];intro d hd;cases hd
  rw[Kx h];intro d hd;rcases List.mem_cons.1 hd with rfl|hd
  ·omega
  exact ih (n/10000) tE d hd
theorem bJ (l m:List Nat):nv (l++m)=nv l+10000^l.length*nv m:=by
 induction l with
 |nil=>simp [nv]
 |cons d l ih=>
  rw[List.cons_append,nv,nv,ih,Aa,Nat.pow_succ,Nat.mul_add];rw[show 10000^l.length*10000*nv m=10000*(10000^l.length*nv m) by rw[Nat.mul_comm (10000^l.length) 10000,Nat.mul_assoc]];omega
theorem Gr (l:List Nat)(d:Nat):nv (l++[d])=nv l+10000^l.length*d:=by
 rw[bJ];simp [nv]
theorem G2 (l:List Nat)(k:Nat)(h:k<l.length):nv (l.take (k+1))=nv (l.take k)+10000^k*l[k]:=by
 rw[List.take_succ_eq_append_getElem h,Gr,List.length_take,Nat.min_eq_left tE]
theorem Zg:∀(l:List Nat),okD l->nv l<10000^l.length
 |[],_=>by simp [nv]
 |d::l,h=>by
  have h1:=Zg l fun x hx=>h x (Aj _ hx)
  have h2:=h d Ai;rw[nv,Aa,Nat.pow_succ];omega
theorem Xq {l:List Nat}(h:okD l)(k:Nat):okD (l.take k):=fun d hd=>h d (List.mem_of_mem_take hd)
theorem Fy {l:List Nat}{d:Nat}(h:okD l)(hd:d<10000):okD (l++[d]):=fun x hx=>by
 rcases List.mem_append.1 hx with hx|hx
 ·exact h x hx
 rw[List.mem_singleton.1 hx];exact hd
theorem lK:∀(l:List Nat),okD l->(∀h:l≠[],l.getLast h≠0)->dg (nv l)=l
 |[],_,_=>Ed
 |d::l,ho,hl=>by
  have hd:=ho d Ai;have ho':okD l:=fun x hx=>ho x (Aj _ hx)
  have hl':∀h:l≠[],l.getLast h≠0:=fun h=>by
   have:=hl tH
   rwa [List.getLast_cons h] at this
  have hne:nv (d::l)≠0:=by
   rw[nv];intro h0;cases l with
   |nil=>have:=hl tH;simp at this;omega
   |cons e m=>
    have h1:nv (e::m)=0:=by omega
    have h2:=lK (e::m) ho' hl';rw[h1,Ed] at h2;cases h2
  rw[Kx hne,nv,show(d+10000*nv l) % 10000=d by omega,show(d+10000*nv l)/10000=nv l by omega,lK l ho' hl']
def Bw (n:Nat):Nat:=(dg n).length
theorem I5 {n k:Nat}(h:n<10000^k):Bw n<=k:=by
 unfold Bw
 induction k generalizing n with
 |zero=>
  have:n=0:=by simpa using h
  subst this;rw[Ed];simp
 |succ k ih=>
  by_cases h0:n=0
  ·subst h0;rw[Ed];simp
  rw[Kx h0,Aa]
  have:n/10000<10000^k:=by rw[Nat.pow_succ] at h;omega
  have:=ih this
  omega
theorem Pg (n:Nat):n<10000^Bw n:=by
 have:=Zg (dg n) (G0 n)
 rwa [Fp] at this
theorem Fw {n m:Nat}(h:n<=m):Bw n<=Bw m:=I5 (Nat.lt_of_le_of_lt h (Pg m))
theorem Sv {l:List Nat}(h:okD l):Bw (nv l)<=l.length:=I5 (Zg l h)
theorem Nb (n m:Nat):Bw (n*m)<=Bw n+Bw m:=by
 refine I5 ?_;have h1:=Pg n;have h2:=Pg m;rw[Nat.pow_add];by_cases h0:m=0
 ·subst h0;rw[Nat.mul_zero];exact Nat.mul_pos (Nat.pow_pos tG) (Nat.pow_pos tG)
 calc n*m<10000^Bw n*m:=Nat.mul_lt_mul_of_pos_right h1 tE
  _<=10000^Bw n*10000^Bw m:=Nat.mul_le_mul_left _ tE
theorem D7 {n:Nat}(h:n<10000):Bw n<=1:=I5 uB
theorem Vi {n m:Nat}(h:Bw n<Bw m):n<m:=by
 refine Nat.lt_of_not_le fun hh=>?_
 have:=Fw hh
 omega
theorem Ue (l:List Nat)(k:Nat):nv l=nv (l.take k)+10000^(l.take k).length*nv (l.drop k):=by
 have:=bJ (l.take k) (l.drop k)
 rwa [List.take_append_drop] at this
theorem Dk {l:List Nat}{k:Nat}(h:k<l.length):nv (l.drop k)=l[k]+10000*nv (l.drop (k+1)):=by
 rw[List.drop_eq_getElem_cons h,nv]
theorem nZ {l m:List Nat}(hl:okD l)(hn:l.length=m.length){k:Nat}(hk:k<l.length)(hk2:k<m.length)(hd:l.drop (k+1)=m.drop (k+1))(h:l[k]<m[k]):nv l<nv m:=by
 have h1:=Ue l k;have h2:=Ue m k;rw[List.length_take,Nat.min_eq_left tE] at h1 h2;rw[Dk hk] at h1;rw[Dk hk2,←hd] at h2;have h3:=Zg (l.take k) (Xq hl k);rw[List.length_take,Nat.min_eq_left tE] at h3;obtain⟨x,hx⟩:∃x,nv (l.drop (k+1))=x:=⟨_,rfl⟩;obtain⟨p,hp⟩:∃p,10000^k=p:=⟨_,rfl⟩;rw[hx,hp] at h1 h2;rw[hp] at h3
 have h4:p*(l[k]+10000*x)+p<=p*(m[k]+10000*x):=by
  rw[←Nat.mul_succ];exact Nat.mul_le_mul_left _ tE
 omega
open Go Go.RowKit Go.Lib
def Cp (w:World)(v:Value)(l:List Nat):Prop:=l.length<=1000000/\∃a c,v= .slice a l.length c/\l.length<=c/\∀i (h:i<l.length),∃b off,a=some ⟨b,off,none⟩/\w.cell? ⟨b,off+i,none⟩=some (.int .i64 (l[i]:Int))
theorem Cp.below {w w':World}{v:Value}{l:List Nat}(h:Cp w v l)(hb:Below w.heap.size w w'):Cp w' v l:=by
 obtain⟨h1,a,c,h2,h3,h4⟩:=h;refine⟨h1,a,c,h2,h3,fun i hi=>?_⟩;obtain⟨b,off,e,hc⟩:=h4 i hi;exact⟨b,off,e,Ba hb hc⟩
theorem Cp.slice {w:World}{v:Value}{l:List Nat}(h:Cp w v l):∃a c,v= .slice a l.length c/\l.length<=c:=by
 obtain⟨_,a,c,h2,h3,_⟩:=h;exact⟨a,c,h2,h3⟩
theorem Cp.at {w:World}{a:Option Addr}{n c:Nat}{l:List Nat}(h:Cp w (.slice a n c) l){i:Nat}(hi:i<l.length):∃b off,a=some ⟨b,off,none⟩/\w.cell? ⟨b,off+i,none⟩=some (.int .i64 (l[i]:Int)):=by
 obtain⟨_,a',c',h2,_,h4⟩:=h;injection h2 with h2;subst h2;exact h4 i hi
theorem Cp.nil (w:World):Cp w (.slice none 0 0) []:=⟨by simp,none,0,rfl,Ak _,fun i hi=>absurd hi tH⟩
theorem Cp.take {w:World}{a:Option Addr}{n c:Nat}{l:List Nat}(h:Cp w (.slice a n c) l){k:Nat}(hk:k<=l.length):Cp w (.slice a k c) (l.take k):=by
 obtain⟨h1,a',c',h2,h3,h4⟩:=h;injection h2 with e1 e2 e3;subst e1 e3;have hl:(l.take k).length=k:=by rw[List.length_take];omega
 refine⟨by omega,a,c,by rw[hl],by omega,fun i hi=>?_⟩;obtain⟨b,off,e,hc⟩:=h4 i tE;refine⟨b,off,e,?_⟩;rw[hc];simp
def Dd (l:List Nat):List Value:=l.map fun(k:Nat)=>Value.int .i64 (k:Int)
theorem Df (l:List Nat)(x:Nat):Dd (l++[x])=Dd l++[.int .i64 (x:Int)]:=by simp [Dd]
theorem Cp.of_row {w:World}{B n:Nat}{v:Value}{l:List Nat}(hl:l.length<=1000000)(hn:n=l.length)(h:w.ownsRow B 3 1 v n (Dd l)):Cp w v l:=by
 subst hn;rcases h.2 with ⟨e,h0⟩|⟨g,cap,cur,rfl,_,hg,hc,_⟩
 ·have:l=[]:=List.eq_nil_of_length_eq_zero h0
  subst this;rw[e];exact Cp.nil w
 refine⟨hl,some ⟨g,0,none⟩,cap,rfl,hc,fun i hi=>⟨g,0,rfl,?_⟩⟩
 have:=h.cells (g:=g) rfl i (.int .i64 (l[i]:Int)) (by simp [Dd,hi])
 rw[Addr.add_lit,Nat.zero_add] at this;rw[Nat.zero_add];exact this
theorem Cr {B:Nat}{a b c:World}{v:Value}(h:Below B a b)(hg:b.grownBy c v.ownBlock)(hv:∀g,v.ownBlock=some g->B<=g)(hB:B<=b.heap.size):Below B a c:=
 Bv h (Bc.of_grown hg v.ownBlock.toList fun k hk=>by simp [hk]) (fun i hi=>hv i vX) hB
theorem sV:(Tryz.prog.info? 3).map (fun i=>(i.zero,i.size,i.bytes))=some (some (.int .i64 0),1,8):=by kernel_rfl
theorem Cq:∃i,Tryz.prog.info? 3=some i/\i.zero=some (.int .i64 0)/\i.size=1/\i.bytes=8:=by
 have h:=sV;cases hi:Tryz.prog.info? 3 with
 |none=>simp [hi] at h
 |some i=>
  exact zx4
def Bn (w:World)(v:Value)(z:Int):Prop:=∃s,v= .agg #[.bool (decide (z<0)),s]/\Cp w s (dg z.natAbs)
theorem Bn.below {w w':World}{v:Value}{z:Int}(h:Bn w v z)(hb:Below w.heap.size w w'):Bn w' v z:=by
 obtain⟨s,h1,h2⟩:=h;exact⟨s,h1,h2.below hb⟩
def sgn (neg:Bool)(n:Nat):Int:=if neg then -(n:Int) else n
theorem eP (b:Bool)(n:Nat):(sgn b n).natAbs=n:=by unfold sgn;split<;>simp
theorem dP (b:Bool)(n:Nat):decide (sgn b n<0)=(b && decide (0<n)):=by
 unfold sgn;cases b<;>simp<;>omega
theorem fJ {l:List Nat}{k:Nat}(hk:k<l.length)(h0:l[k]≠0):∀h:l.take (k+1)≠[],(l.take (k+1)).getLast h≠0:=fun h=>by
 have:∀m,m=l.take k++[l[k]]->∀h:m≠[],m.getLast h≠0:=by
  rintro m rfl h;rw[List.getLast_concat];exact h0
 exact this _ (List.take_succ_eq_append_getElem hk) h
theorem A0 {w:World}{b:Nat}{x y:Value}{t:TypeId}(h:w.heap[b]? =some (.cells #[x,y] t (0,0))):w.cell? ⟨b,0,none⟩=some x/\w.cell? ⟨b,1,none⟩=some y/\∀i,w.frozen? ⟨b,i,none⟩=false:=
 ⟨by simp only[World.cell?,h];rfl,by simp only[World.cell?,h];rfl,fun i=>by simp only[World.frozen?,h];simp⟩
def Jw (a:Option Addr)(c:Nat)(z:Int)(e:Ending)(w':World):Prop:=∃(k:Nat) (b:Bool),e= .returned (.agg #[.bool b,.slice a k c])/\Bn w' (.agg #[.bool b,.slice a k c]) z
theorem Jw.mk {a:Option Addr}{k c:Nat}{b:Bool}{z:Int}{w':World}(h:Bn w' (.agg #[.bool b,.slice a k c]) z):Jw a c z (.returned (.agg #[.bool b,.slice a k c])) w':=⟨k,b,rfl,h⟩
theorem O6 {w:World}{a:Option Addr}{n c:Nat}{l:List Nat}(neg:Bool)(hs:Cp w (.slice a n c) l)(ho:okD l):
 Calls Tryz.prog 201 #[.bool neg,.slice a n c] w fun e w'=>Jw a c (sgn neg (nv l)) e w'/\Below w.heap.size w w':=by
 have hlm:=hs.1;obtain⟨a',c',he,hc⟩:=hs.slice;injection he with e1 e2 e3;subst e1;subst e2;subst e3;obtain⟨W1,hW1⟩:∃W1,w.alloc (.cells #[.bool false,.slice none 0 0] 208)=W1:=⟨_,rfl⟩;have hp1:=A1 w (.cells #[.bool false,.slice none 0 0] 208);have hb1:Below w.heap.size w W1:=by rw[←hW1];exact(Aq _ w).alloc (Ak _) _
 rw[hW1] at hp1;have hs1:=hs.below hb1;have HS:=Ax hs1;have HW:=Ax hs;have HO:=Ax ho;have HB:=Ax hb1;have HP:=Ax hp1;have HR:Hid (nv (l.take l.length)=nv l):=Ax (by rw[List.take_length]);clear hs ho hb1 hp1 hs1;go_enter Tryz.func201,Tryz.ntmps201;go_wp2_with fail
 go_loop [1] (fun v1=>∃k:Nat,k<=l.length/\v1= .slice a k c/\Hid (nv (l.take k)=nv l)) (fun v1=>match v1 with| .slice _ k _=>k|_=>0)
 case atStart=>exact⟨l.length,Ak _,rfl,HR⟩
 obtain⟨k,hk,rfl,hq⟩:=hrel;obtain⟨x0,x1,xf⟩:=A0 HP.out;have xf0:=xf 0;have xf1:=xf 1;by_cases h0:k=0
 ·subst h0;have hz:nv l=0:=by have:=hq.out;rw[List.take_zero] at this;exact this.symm
  have HN:Hid (Bn w (.agg #[.bool false,.slice a 0 c]) (sgn neg (nv l))):=Ax ⟨.slice a 0 c,by rw[dP,hz];simp,by
   rw[eP,hz,Ed]
   have:=HW.out.take (k:=0) (Nat.zero_le _)
   rw[List.take_zero] at this
   exact this⟩
  clear hq hz xf HR;cases neg with
  |true=>
   exact zxo
  |false=>
   exact zxo
 obtain⟨m,rfl⟩:∃m,k=m+1:=⟨k - 1,by omega⟩;have hml:m<l.length:=by omega
 obtain⟨b,off,rfl,hcell⟩:=HS.out.at hml;have j1:decide ((0:Int)<((m+1:Nat):Int))=true:=Am tE;have j2:decide ((0:Int)<(m:Int)+1)=true:=Am tE;have j3:((m+1:Nat):Int) - 1=(m:Int):=by omega
 obtain⟨d,hd⟩:∃d,l[m]=d:=⟨_,rfl⟩;rw[hd] at hcell;have j4:(0:Int)<=(m:Int):=by omega
 have j5:m+1<=c:=by omega
 by_cases hd0:d=0
 ·subst hd0;have HQ:Hid (nv (l.take m)=nv l):=Ax (by rw[←hq.out,G2 l m hml,hd];simp);have j6:(m:Int)<((m+1:Nat):Int):=by omega
  have j7:m<=c:=by omega
  clear hq hd xf;go_wp2_with fail
  go_round
  case rel=>exact⟨m,by omega,rfl,HQ⟩
  case measure=>simp
 have hnz:=fJ hml (by rw[hd];exact hd0);have hdg:dg (nv l)=l.take (m+1):=by rw[←hq.out];exact lK _ (Xq HO.out _) hnz
 have hpos:0<nv l:=by
  refine Nat.pos_of_ne_zero fun h=>?_
  rw[h,Ed] at hdg
  have:=Ar List.length hdg
  rw[List.length_take] at this;simp at this;omega
 have HN:Hid (Bn w (.agg #[.bool neg,.slice (some ⟨b,off,none⟩) (m+1) c]) (sgn neg (nv l))):=Ax ⟨.slice (some ⟨b,off,none⟩) (m+1) c,by rw[dP];simp [hpos],by
  rw[eP,hdg]
  exact HW.out.take tE⟩
 have j6:((d:Int)==0)=false:=by simp;omega
 clear hq hd xf hnz hdg hpos hd0;cases neg with
 |true=>
  go_wp2_with fail;refine Au (v:= .agg #[.bool true,.slice (some ⟨b,off,none⟩) (m+1) c]) uU rfl ⟨Jw.mk ?_,(HB.out.setCell (Ak _) _).setCell (Ak _) _⟩;exact HN.out.below ((HB.out.setCell (Ak _) _).setCell (Ak _) _)
 |false=>
  go_wp2_with fail;refine Au (v:= .agg #[.bool false,.slice (some ⟨b,off,none⟩) (m+1) c]) uU rfl ⟨Jw.mk ?_,(HB.out.setCell (Ak _) _).setCell (Ak _) _⟩;exact HN.out.below ((HB.out.setCell (Ak _) _).setCell (Ak _) _)
theorem lB {w:World}{sl:Value}{l:List Nat}(neg:Bool)(hs:Cp w sl l)(ho:okD l):
 Calls Tryz.prog 201 #[.bool neg,sl] w fun e w'=>(∃v,e= .returned v/\Bn w' v (sgn neg (nv l)))/\Below w.heap.size w w':=by
 obtain⟨a,c,rfl,_⟩:=hs.slice;refine(O6 neg hs ho).mono ?_;rintro e w' ⟨⟨k,b,rfl,h⟩,hb⟩;exact⟨⟨_,rfl,h⟩,hb⟩
open Go Go.RowKit Go.Lib
structure jF (w wr:World)(la lb:List Nat)(i more:Nat)(v:Value)(o:List Nat):Prop where
 row:wr.ownsRow w.heap.size 3 1 v i (Dd o)
 len:o.length=i
 ok:okD o
 val:nv o+10000^i*(more+nv (la.drop i)+nv (lb.drop i))=nv la+nv lb
 bel:Below w.heap.size w wr
theorem Si {O p t s A B:Nat}(h:t+10000*A+10000*B=s):O+p*(t % 10000)+p*10000*(t/10000+A+B)=O+p*s:=by
 rw[←h,Nat.add_assoc,Nat.mul_assoc,←Nat.mul_add];congr 2;omega
theorem kC {w:World}{sa sb:Value}{la lb:List Nat}(ha:Cp w sa la)(hb:Cp w sb lb)(hoa:okD la)(hob:okD lb)(hla:la.length<=100000)(hlb:lb.length<=100000):
 Calls Tryz.prog 207 #[sa,sb] w fun e w'=>(∃v o,e= .returned v/\Cp w' v o/\okD o/\nv o=nv la+nv lb/\o.length<=max la.length lb.length+1)/\Below w.heap.size w w':=by
 obtain⟨aa,ca,rfl,_⟩:=ha.slice;obtain⟨ab,cb,rfl,_⟩:=hb.slice;have HA:=Ax ha;have HBb:=Ax hb;have HOA:=Ax hoa;have HOB:=Ax hob;have HU0:Hid (jF w w la lb 0 0 (.slice none 0 0) []):=Ax ⟨World.ownsRow_nil _ _ _ _,rfl,fun _ h=>by(cases h),by simp [nv],Aq _ _⟩;clear ha hb hoa hob;go_enter Tryz.func207,Tryz.ntmps207;go_wp2_with fail
 go_loopw [5,6,7] (fun v5 v6 v7 wr=>∃(i more:Nat) (o:List Nat) (oa:Option Addr) (oc:Nat),more<=1/\(i<=max la.length lb.length\/i=max la.length lb.length+1/\more=0)/\v7= .int .i64 i/\v5= .slice oa i oc/\v6= .int .i64 more/\Hid (jF w wr la lb i more (.slice oa i oc) o)) (fun _ _ v7 _=>max la.length lb.length+2 - (intOf v7).toNat)
 case atStart=>exact⟨0,0,[],none,0,by omega,.inl tE,rfl,rfl,rfl,HU0⟩
 obtain⟨i,more,o,oa,oc,hm,hi,rfl,rfl,rfl,hq⟩:=hrel;have hU:=hq.out;by_cases hia:i<la.length
 ·by_cases hib:i<lb.length
  ·skip
   obtain⟨ba,fa,rfl,ha⟩:=HA.out.at hia;have ha:=Ba hU.bel ha;have hxl:=HOA.out _ (List.getElem_mem hia);have hda:=Dk hia;obtain⟨x,hx⟩:∃x,la[i]=x:=⟨_,rfl⟩;rw[hx] at ha hda hxl;have p1:decide ((i:Int)<(la.length:Int))=true:=Am tE;have p1':(i:Int)<(la.length:Int):=by omega
   have q1:(0:Int)<=(x:Int):=by omega
   have q2:(x:Int)<=9999:=by omega
   obtain⟨bb,fb,rfl,hb⟩:=HBb.out.at hib;have hb:=Ba hU.bel hb;have hyl:=HOB.out _ (List.getElem_mem hib);have hdb:=Dk hib;obtain⟨y,hy⟩:∃y,lb[i]=y:=⟨_,rfl⟩;rw[hy] at hb hdb hyl;have p2:decide ((i:Int)<(lb.length:Int))=true:=Am tE;have p2':(i:Int)<(lb.length:Int):=by omega
   have q3:(0:Int)<=(y:Int):=by omega
   have q4:(y:Int)<=9999:=by omega
   have q0:(0:Int)<=(i:Int):=by omega
   have q5:(0:Int)<=(more:Int):=by omega
   have q6:(more:Int)<=1:=by omega
   have hz:(((more:Int)+(x:Int)+(y:Int)) % 10000:Int)=(((more+x+y) % 10000:Nat):Int):=by omega
   have hd:(((more:Int)+(x:Int)+(y:Int))/10000:Int)=(((more+x+y)/10000:Nat):Int):=by omega
   have hm1:(more+x+y)/10000<=1:=by omega
   have hbd:i+1<=max la.length lb.length\/i+1=max la.length lb.length+1/\(more+x+y)/10000=0:=by omega
   have HVL:=Ax (Si (O:=nv o) (p:=10000^i) (show(more+x+y)+10000*nv (la.drop (i+1))+10000*nv (lb.drop (i+1))=more+nv (la.drop i)+nv (lb.drop i) by omega));have Hrow1:=Ax (hU.row.alloc (.cells #[.int .i64 (((more:Int)+(x:Int)+(y:Int)) % 10000)] 3));have HN1:=Ax (A1 wr (.cells #[.int .i64 (((more:Int)+(x:Int)+(y:Int)) % 10000)] 3));have HZ:Hid ((wr.alloc (.cells #[.int .i64 (((more:Int)+(x:Int)+(y:Int)) % 10000)] 3)).heap.size=wr.heap.size+1):=Ax tH;have hsr:=hU.bel.size;have Hown:=Ax (C9 hU.row);have HU:=Ax hU;have Hzz:=Ax hz;have Hdd:=Ax hd;obtain⟨i0,hi0,hz0,hz1,hz2⟩:=Cq;have Hi0:=Ax hi0;have Hy0:=Ax hz0;have Hy1:=Ax hz1;have Hy2:=Ax hz2;have Hbd:=Ax hbd;clear hq hU hz hd hi0 hz0 hz1 hz2 hda hdb hbd hx hy;go_wp2_with ((refine wpList_append_lies _ rfl (.tmp 44) (.tmp 47) _ rfl w.heap.size 3 i0 (.int .i64 0) 1 8 Tryz.underlying36 Hi0.out Hy0.out Hy1.out Hy2.out rfl tG (.slice oa i oc) i (Dd o) rfl Hrow1.out ⟨wr.heap.size,0,none⟩ 1 1 [.int .i64 (((more:Int)+(x:Int)+(y:Int)) % 10000)] rfl rfl (World.news_of_block (cs:= #[.int .i64 (((more:Int)+(x:Int)+(y:Int)) % 10000)]) HN1.out) tS tG tQ tE tV (wr.heap.size+1) HZ.out ?_;intro g6 cap w6 hown6 hgrow6 hat6 hlt6));have hB6:=Cr (v:= .slice oa i oc) (HU.out.bel.alloc HU.out.bel.size (.cells #[.int .i64 (((more:Int)+(x:Int)+(y:Int)) % 10000)] 3)) hgrow6 Hown.out tV;rw[Hzz.out,←Df] at hown6
   have HR6:Hid (jF w w6 la lb (i+1) ((more+x+y)/10000) (.slice (some ⟨g6,0,none⟩) (i+1) cap) (o++[(more+x+y) % 10000])):=Ax ⟨hown6,by rw[Ab,HU.out.len];rfl,Fy HU.out.ok (Nat.mod_lt _ tG),by
    rw[Gr,HU.out.len,Nat.pow_succ,HVL.out]
    exact HU.out.val,hB6⟩
   clear hown6 hgrow6 hat6 hlt6 hB6 Hrow1 HN1 HZ hsr Hown HU HVL;go_wp2_with fail;go_roundw
   case rel=>exact⟨i+1,(more+x+y)/10000,o++[(more+x+y) % 10000],some ⟨g6,0,none⟩,cap,hm1,Hbd.out,by go_num,rfl,by rw[Hdd.out],HR6⟩
   case measure=>simp [intOf];omega
  skip
  obtain⟨ba,fa,rfl,ha⟩:=HA.out.at hia;have ha:=Ba hU.bel ha;have hxl:=HOA.out _ (List.getElem_mem hia);have hda:=Dk hia;obtain⟨x,hx⟩:∃x,la[i]=x:=⟨_,rfl⟩;rw[hx] at ha hda hxl;have p1:decide ((i:Int)<(la.length:Int))=true:=Am tE;have p1':(i:Int)<(la.length:Int):=by omega
  have q1:(0:Int)<=(x:Int):=by omega
  have q2:(x:Int)<=9999:=by omega
  have hdb:nv (lb.drop i)=0:=by rw[List.drop_eq_nil_of_le tE];rfl
  have hdb':nv (lb.drop (i+1))=0:=by rw[List.drop_eq_nil_of_le tE];rfl
  have p2:decide ((i:Int)<(lb.length:Int))=false:=An tE;have q0:(0:Int)<=(i:Int):=by omega
  have q5:(0:Int)<=(more:Int):=by omega
  have q6:(more:Int)<=1:=by omega
  have hz:(((more:Int)+(x:Int)) % 10000:Int)=(((more+x) % 10000:Nat):Int):=by omega
  have hd:(((more:Int)+(x:Int))/10000:Int)=(((more+x)/10000:Nat):Int):=by omega
  have hm1:(more+x)/10000<=1:=by omega
  have hbd:i+1<=max la.length lb.length\/i+1=max la.length lb.length+1/\(more+x)/10000=0:=by omega
  have HVL:=Ax (Si (O:=nv o) (p:=10000^i) (show(more+x)+10000*nv (la.drop (i+1))+10000*nv (lb.drop (i+1))=more+nv (la.drop i)+nv (lb.drop i) by omega));have Hrow1:=Ax (hU.row.alloc (.cells #[.int .i64 (((more:Int)+(x:Int)) % 10000)] 3));have HN1:=Ax (A1 wr (.cells #[.int .i64 (((more:Int)+(x:Int)) % 10000)] 3));have HZ:Hid ((wr.alloc (.cells #[.int .i64 (((more:Int)+(x:Int)) % 10000)] 3)).heap.size=wr.heap.size+1):=Ax tH;have hsr:=hU.bel.size;have Hown:=Ax (C9 hU.row);have HU:=Ax hU;have Hzz:=Ax hz;have Hdd:=Ax hd;obtain⟨i0,hi0,hz0,hz1,hz2⟩:=Cq;have Hi0:=Ax hi0;have Hy0:=Ax hz0;have Hy1:=Ax hz1;have Hy2:=Ax hz2;have Hbd:=Ax hbd;clear hq hU hz hd hi0 hz0 hz1 hz2 hda hdb hbd hx hdb';go_wp2_with ((refine wpList_append_lies _ rfl (.tmp 44) (.tmp 47) _ rfl w.heap.size 3 i0 (.int .i64 0) 1 8 Tryz.underlying36 Hi0.out Hy0.out Hy1.out Hy2.out rfl tG (.slice oa i oc) i (Dd o) rfl Hrow1.out ⟨wr.heap.size,0,none⟩ 1 1 [.int .i64 (((more:Int)+(x:Int)) % 10000)] rfl rfl (World.news_of_block (cs:= #[.int .i64 (((more:Int)+(x:Int)) % 10000)]) HN1.out) tS tG tQ tE tV (wr.heap.size+1) HZ.out ?_;intro g6 cap w6 hown6 hgrow6 hat6 hlt6));have hB6:=Cr (v:= .slice oa i oc) (HU.out.bel.alloc HU.out.bel.size (.cells #[.int .i64 (((more:Int)+(x:Int)) % 10000)] 3)) hgrow6 Hown.out tV;rw[Hzz.out,←Df] at hown6
  have HR6:Hid (jF w w6 la lb (i+1) ((more+x)/10000) (.slice (some ⟨g6,0,none⟩) (i+1) cap) (o++[(more+x) % 10000])):=Ax ⟨hown6,by rw[Ab,HU.out.len];rfl,Fy HU.out.ok (Nat.mod_lt _ tG),by
   rw[Gr,HU.out.len,Nat.pow_succ,HVL.out]
   exact HU.out.val,hB6⟩
  clear hown6 hgrow6 hat6 hlt6 hB6 Hrow1 HN1 HZ hsr Hown HU HVL;go_wp2_with fail;go_roundw
  case rel=>exact⟨i+1,(more+x)/10000,o++[(more+x) % 10000],some ⟨g6,0,none⟩,cap,hm1,Hbd.out,by go_num,rfl,by rw[Hdd.out],HR6⟩
  case measure=>simp [intOf];omega
 by_cases hib:i<lb.length
 ·skip
  have hda:nv (la.drop i)=0:=by rw[List.drop_eq_nil_of_le tE];rfl
  have hda':nv (la.drop (i+1))=0:=by rw[List.drop_eq_nil_of_le tE];rfl
  have p1:decide ((i:Int)<(la.length:Int))=false:=An tE;obtain⟨bb,fb,rfl,hb⟩:=HBb.out.at hib;have hb:=Ba hU.bel hb;have hyl:=HOB.out _ (List.getElem_mem hib);have hdb:=Dk hib;obtain⟨y,hy⟩:∃y,lb[i]=y:=⟨_,rfl⟩;rw[hy] at hb hdb hyl;have p2:decide ((i:Int)<(lb.length:Int))=true:=Am tE;have p2':(i:Int)<(lb.length:Int):=by omega
  have q3:(0:Int)<=(y:Int):=by omega
  have q4:(y:Int)<=9999:=by omega
  have q0:(0:Int)<=(i:Int):=by omega
  have q5:(0:Int)<=(more:Int):=by omega
  have q6:(more:Int)<=1:=by omega
  have hz:(((more:Int)+(y:Int)) % 10000:Int)=(((more+y) % 10000:Nat):Int):=by omega
  have hd:(((more:Int)+(y:Int))/10000:Int)=(((more+y)/10000:Nat):Int):=by omega
  have hm1:(more+y)/10000<=1:=by omega
  have hbd:i+1<=max la.length lb.length\/i+1=max la.length lb.length+1/\(more+y)/10000=0:=by omega
  have HVL:=Ax (Si (O:=nv o) (p:=10000^i) (show(more+y)+10000*nv (la.drop (i+1))+10000*nv (lb.drop (i+1))=more+nv (la.drop i)+nv (lb.drop i) by omega));have Hrow1:=Ax (hU.row.alloc (.cells #[.int .i64 (((more:Int)+(y:Int)) % 10000)] 3));have HN1:=Ax (A1 wr (.cells #[.int .i64 (((more:Int)+(y:Int)) % 10000)] 3));have HZ:Hid ((wr.alloc (.cells #[.int .i64 (((more:Int)+(y:Int)) % 10000)] 3)).heap.size=wr.heap.size+1):=Ax tH;have hsr:=hU.bel.size;have Hown:=Ax (C9 hU.row);have HU:=Ax hU;have Hzz:=Ax hz;have Hdd:=Ax hd;obtain⟨i0,hi0,hz0,hz1,hz2⟩:=Cq;have Hi0:=Ax hi0;have Hy0:=Ax hz0;have Hy1:=Ax hz1;have Hy2:=Ax hz2;have Hbd:=Ax hbd;clear hq hU hz hd hi0 hz0 hz1 hz2 hda hdb hbd hda' hy;go_wp2_with ((refine wpList_append_lies _ rfl (.tmp 44) (.tmp 47) _ rfl w.heap.size 3 i0 (.int .i64 0) 1 8 Tryz.underlying36 Hi0.out Hy0.out Hy1.out Hy2.out rfl tG (.slice oa i oc) i (Dd o) rfl Hrow1.out ⟨wr.heap.size,0,none⟩ 1 1 [.int .i64 (((more:Int)+(y:Int)) % 10000)] rfl rfl (World.news_of_block (cs:= #[.int .i64 (((more:Int)+(y:Int)) % 10000)]) HN1.out) tS tG tQ tE tV (wr.heap.size+1) HZ.out ?_;intro g6 cap w6 hown6 hgrow6 hat6 hlt6));have hB6:=Cr (v:= .slice oa i oc) (HU.out.bel.alloc HU.out.bel.size (.cells #[.int .i64 (((more:Int)+(y:Int)) % 10000)] 3)) hgrow6 Hown.out tV;rw[Hzz.out,←Df] at hown6
  have HR6:Hid (jF w w6 la lb (i+1) ((more+y)/10000) (.slice (some ⟨g6,0,none⟩) (i+1) cap) (o++[(more+y) % 10000])):=Ax ⟨hown6,by rw[Ab,HU.out.len];rfl,Fy HU.out.ok (Nat.mod_lt _ tG),by
   rw[Gr,HU.out.len,Nat.pow_succ,HVL.out]
   exact HU.out.val,hB6⟩
  clear hown6 hgrow6 hat6 hlt6 hB6 Hrow1 HN1 HZ hsr Hown HU HVL;go_wp2_with fail;go_roundw
  case rel=>exact⟨i+1,(more+y)/10000,o++[(more+y) % 10000],some ⟨g6,0,none⟩,cap,hm1,Hbd.out,by go_num,rfl,by rw[Hdd.out],HR6⟩
  case measure=>simp [intOf];omega
 by_cases hm0:more=0
 ·subst hm0;have p1:decide ((i:Int)<(la.length:Int))=false:=An tE;have p2:decide ((i:Int)<(lb.length:Int))=false:=An tE;have hil:i<=200000:=by omega
  have hres:Cp wr (.slice oa i oc) o:=Cp.of_row (by rw[hU.len];omega) hU.len.symm hU.row
  have hval:nv o=nv la+nv lb:=by
   have:=hU.val
   rw[List.drop_eq_nil_of_le tE,List.drop_eq_nil_of_le tE] at this;simpa[nv] using this
  have HR:Hid (∃v o',Ending.returned (.slice oa i oc)= .returned v/\Cp wr v o'/\okD o'/\nv o'=nv la+nv lb/\o'.length<=max la.length lb.length+1):=Ax ⟨_,o,rfl,hres,hU.ok,hval,by rw[hU.len];omega⟩;have HB:=Ax hU.bel;clear hq hU hres hval hi hil hm;exact zzf
 obtain rfl:more=1:=by omega
 have hda:nv (la.drop i)=0:=by rw[List.drop_eq_nil_of_le tE];rfl
 have hda':nv (la.drop (i+1))=0:=by rw[List.drop_eq_nil_of_le tE];rfl
 have p1:decide ((i:Int)<(la.length:Int))=false:=An tE;have hdb:nv (lb.drop i)=0:=by rw[List.drop_eq_nil_of_le tE];rfl
 have hdb':nv (lb.drop (i+1))=0:=by rw[List.drop_eq_nil_of_le tE];rfl
 have p2:decide ((i:Int)<(lb.length:Int))=false:=An tE;have q0:(0:Int)<=(i:Int):=by omega
 have hz:(1:Int)=(((1) % 10000:Nat):Int):=by omega
 have hd:(0:Int)=(((1)/10000:Nat):Int):=by omega
 have hm1:(1)/10000<=1:=by omega
 have hbd:i+1<=max la.length lb.length\/i+1=max la.length lb.length+1/\(1)/10000=0:=by right;omega
 have HVL:=Ax (Si (O:=nv o) (p:=10000^i) (show(1)+10000*nv (la.drop (i+1))+10000*nv (lb.drop (i+1))=1+nv (la.drop i)+nv (lb.drop i) by omega));have Hrow1:=Ax (hU.row.alloc (.cells #[.int .i64 (1)] 3));have HN1:=Ax (A1 wr (.cells #[.int .i64 (1)] 3));have HZ:Hid ((wr.alloc (.cells #[.int .i64 (1)] 3)).heap.size=wr.heap.size+1):=Ax tH;have hsr:=hU.bel.size;have Hown:=Ax (C9 hU.row);have HU:=Ax hU;have Hzz:=Ax hz;have Hdd:=Ax hd;obtain⟨i0,hi0,hz0,hz1,hz2⟩:=Cq;have Hi0:=Ax hi0;have Hy0:=Ax hz0;have Hy1:=Ax hz1;have Hy2:=Ax hz2;have Hbd:=Ax hbd;clear hq hU hz hd hi0 hz0 hz1 hz2 hda hdb hbd hda' hdb';go_wp2_with ((refine wpList_append_lies _ rfl (.tmp 44) (.tmp 47) _ rfl w.heap.size 3 i0 (.int .i64 0) 1 8 Tryz.underlying36 Hi0.out Hy0.out Hy1.out Hy2.out rfl tG (.slice oa i oc) i (Dd o) rfl Hrow1.out ⟨wr.heap.size,0,none⟩ 1 1 [.int .i64 (1)] rfl rfl (World.news_of_block (cs:= #[.int .i64 (1)]) HN1.out) tS tG tQ tE tV (wr.heap.size+1) HZ.out ?_;intro g6 cap w6 hown6 hgrow6 hat6 hlt6));have hB6:=Cr (v:= .slice oa i oc) (HU.out.bel.alloc HU.out.bel.size (.cells #[.int .i64 (1)] 3)) hgrow6 Hown.out tV;rw[Hzz.out,←Df] at hown6
 have HR6:Hid (jF w w6 la lb (i+1) ((1)/10000) (.slice (some ⟨g6,0,none⟩) (i+1) cap) (o++[(1) % 10000])):=Ax ⟨hown6,by rw[Ab,HU.out.len];rfl,Fy HU.out.ok (Nat.mod_lt _ tG),by
  rw[Gr,HU.out.len,Nat.pow_succ,HVL.out]
  exact HU.out.val,hB6⟩
 clear hown6 hgrow6 hat6 hlt6 hB6 Hrow1 HN1 HZ hsr Hown HU HVL;go_wp2_with fail;go_roundw
 case rel=>exact⟨i+1,(1)/10000,o++[(1) % 10000],some ⟨g6,0,none⟩,cap,hm1,Hbd.out,by go_num,rfl,by rw[Hdd.out],HR6⟩
 case measure=>simp [intOf];omega
open Go Go.RowKit Go.Lib
structure gX (w wr:World)(la lb:List Nat)(i owed:Nat)(v:Value)(o:List Nat):Prop where
 row:wr.ownsRow w.heap.size 3 1 v i (Dd o)
 len:o.length=i
 ok:okD o
 val:nv o+nv (lb.take i)=nv (la.take i)+owed*10000^i
 bel:Below w.heap.size w wr
theorem Nn {O p A B x y d o o':Nat}(h:O+B=A+o*p)(hd:o+d+y=x+10000*o'):O+p*d+(B+p*y)=A+p*x+o'*(p*10000):=by
 have h1:p*(o+d+y)=p*(x+10000*o'):=by rw[hd]
 rw[Nat.mul_add,Nat.mul_add,Nat.mul_add] at h1;have h2:p*(10000*o')=o'*(p*10000):=by rw[←Nat.mul_assoc,Nat.mul_comm]
 have h3:p*o=o*p:=Nat.mul_comm _ _;omega
theorem Z2 {w:World}{sa sb:Value}{la lb:List Nat}(ha:Cp w sa la)(hb:Cp w sb lb)(hoa:okD la)(hob:okD lb)(hla:la.length<=100000)(hlb:lb.length<=la.length)(hle:nv lb<=nv la):
 Calls Tryz.prog 209 #[sa,sb] w fun e w'=>(∃v o,e= .returned v/\Cp w' v o/\okD o/\nv o=nv la - nv lb/\o.length<=la.length)/\Below w.heap.size w w':=by
 obtain⟨aa,ca,rfl,_⟩:=ha.slice;obtain⟨ab,cb,rfl,_⟩:=hb.slice;have HA:=Ax ha;have HBb:=Ax hb;have HOA:=Ax hoa;have HOB:=Ax hob;have HLE:=Ax hle;have HU0:Hid (gX w w la lb 0 0 (.slice none 0 0) []):=Ax ⟨World.ownsRow_nil _ _ _ _,rfl,fun _ h=>by(cases h),by simp [nv],Aq _ _⟩;clear ha hb hoa hob hle;go_enter Tryz.func209,Tryz.ntmps209;go_wp2_with fail
 go_loopw [5,6,7] (fun v5 v6 v7 wr=>∃(i owed:Nat) (o:List Nat) (oa:Option Addr) (oc:Nat),owed<=1/\i<=la.length/\v7= .int .i64 i/\v5= .slice oa i oc/\v6= .int .i64 owed/\Hid (gX w wr la lb i owed (.slice oa i oc) o)) (fun _ _ v7 _=>la.length - (intOf v7).toNat)
 case atStart=>exact⟨0,0,[],none,0,by omega,by omega,rfl,rfl,rfl,HU0⟩
 obtain⟨i,owed,o,oa,oc,hm,hi,rfl,rfl,rfl,hq⟩:=hrel;have hU:=hq.out;by_cases hia:i<la.length
 ·obtain⟨ba,fa,rfl,ha⟩:=HA.out.at hia;have ha:=Ba hU.bel ha;have hxl:=HOA.out _ (List.getElem_mem hia);have hta:=G2 la i hia;obtain⟨x,hx⟩:∃x,la[i]=x:=⟨_,rfl⟩;rw[hx] at ha hta hxl;have p1:decide ((i:Int)<(la.length:Int))=true:=Am tE;have p1':(i:Int)<(la.length:Int):=by omega
  have q1:(0:Int)<=(x:Int):=by omega
  have q2:(x:Int)<=9999:=by omega
  by_cases hib:i<lb.length
  ·by_cases hn:x<owed+lb[i]
   ·skip
    obtain⟨bb,fb,rfl,hb⟩:=HBb.out.at hib;have hb:=Ba hU.bel hb;have hyl:=HOB.out _ (List.getElem_mem hib);have htb:=G2 lb i hib;obtain⟨y,hy⟩:∃y,lb[i]=y:=⟨_,rfl⟩;rw[hy] at hb htb hyl;have p2:decide ((i:Int)<(lb.length:Int))=true:=Am tE;have p2':(i:Int)<(lb.length:Int):=by omega
    have q3:(0:Int)<=(y:Int):=by omega
    have q4:(y:Int)<=9999:=by omega
    have q0:(0:Int)<=(i:Int):=by omega
    have q5:(0:Int)<=(owed:Int):=by omega
    have q6:(owed:Int)<=1:=by omega
    have p3:decide ((x:Int) - (owed:Int) - (y:Int)<0)=true:=by simp;omega
    have hz:(((x:Int) - (owed:Int) - (y:Int)+10000):Int)=((x+10000 - owed - y:Nat):Int):=by omega
    have hd9:x+10000 - owed - y<10000:=by omega
    have HVL:=Ax (Nn (O:=nv o) (p:=10000^i) (A:=nv (la.take i)) (B:=nv (lb.take i)) (x:=x) (y:=y) (d:=x+10000 - owed - y) (o:=owed) (o':=1) hU.val tE);have Htb:=Ax htb;have Hta:=Ax hta;have Hrow1:=Ax (hU.row.alloc (.cells #[.int .i64 (((x:Int) - (owed:Int) - (y:Int)+10000))] 3));have HN1:=Ax (A1 wr (.cells #[.int .i64 (((x:Int) - (owed:Int) - (y:Int)+10000))] 3));have HZ:Hid ((wr.alloc (.cells #[.int .i64 (((x:Int) - (owed:Int) - (y:Int)+10000))] 3)).heap.size=wr.heap.size+1):=Ax tH;have hsr:=hU.bel.size;have Hown:=Ax (C9 hU.row);have HU:=Ax hU;have Hzz:=Ax hz;obtain⟨i0,hi0,hz0,hz1,hz2⟩:=Cq;have Hi0:=Ax hi0;have Hy0:=Ax hz0;have Hy1:=Ax hz1;have Hy2:=Ax hz2;clear hq hU hz hi0 hz0 hz1 hz2 htb hta hx hy;go_wp2_with ((refine wpList_append_lies _ rfl (.tmp 35) (.tmp 37) _ rfl w.heap.size 3 i0 (.int .i64 0) 1 8 Tryz.underlying36 Hi0.out Hy0.out Hy1.out Hy2.out rfl tG (.slice oa i oc) i (Dd o) rfl Hrow1.out ⟨wr.heap.size,0,none⟩ 1 1 [.int .i64 (((x:Int) - (owed:Int) - (y:Int)+10000))] rfl rfl (World.news_of_block (cs:= #[.int .i64 (((x:Int) - (owed:Int) - (y:Int)+10000))]) HN1.out) tS tG tQ tE tV (wr.heap.size+1) HZ.out ?_;intro g6 cap w6 hown6 hgrow6 hat6 hlt6));have hB6:=Cr (v:= .slice oa i oc) (HU.out.bel.alloc HU.out.bel.size (.cells #[.int .i64 (((x:Int) - (owed:Int) - (y:Int)+10000))] 3)) hgrow6 Hown.out tV;rw[Hzz.out,←Df] at hown6
    have HR6:Hid (gX w w6 la lb (i+1) 1 (.slice (some ⟨g6,0,none⟩) (i+1) cap) (o++[x+10000 - owed - y])):=Ax ⟨hown6,by rw[Ab,HU.out.len];rfl,Fy HU.out.ok hd9,by
     rw[Gr,HU.out.len,Htb.out,Hta.out,Nat.pow_succ]
     exact HVL.out,hB6⟩
    clear hown6 hgrow6 hat6 hlt6 hB6 Hrow1 HN1 HZ hsr Hown HU HVL;go_wp2_with fail;go_roundw
    case rel=>exact⟨i+1,1,o++[x+10000 - owed - y],some ⟨g6,0,none⟩,cap,by omega,by omega,by go_num,rfl,rfl,HR6⟩
    case measure=>simp [intOf];omega
   skip
   obtain⟨bb,fb,rfl,hb⟩:=HBb.out.at hib;have hb:=Ba hU.bel hb;have hyl:=HOB.out _ (List.getElem_mem hib);have htb:=G2 lb i hib;obtain⟨y,hy⟩:∃y,lb[i]=y:=⟨_,rfl⟩;rw[hy] at hb htb hyl;have p2:decide ((i:Int)<(lb.length:Int))=true:=Am tE;have p2':(i:Int)<(lb.length:Int):=by omega
   have q3:(0:Int)<=(y:Int):=by omega
   have q4:(y:Int)<=9999:=by omega
   have q0:(0:Int)<=(i:Int):=by omega
   have q5:(0:Int)<=(owed:Int):=by omega
   have q6:(owed:Int)<=1:=by omega
   have p3:decide ((x:Int) - (owed:Int) - (y:Int)<0)=false:=by simp;omega
   have hz:((x:Int) - (owed:Int) - (y:Int):Int)=((x - owed - y:Nat):Int):=by omega
   have hd9:x - owed - y<10000:=by omega
   have HVL:=Ax (Nn (O:=nv o) (p:=10000^i) (A:=nv (la.take i)) (B:=nv (lb.take i)) (x:=x) (y:=y) (d:=x - owed - y) (o:=owed) (o':=0) hU.val tE);have Htb:=Ax htb;have Hta:=Ax hta;have Hrow1:=Ax (hU.row.alloc (.cells #[.int .i64 ((x:Int) - (owed:Int) - (y:Int))] 3));have HN1:=Ax (A1 wr (.cells #[.int .i64 ((x:Int) - (owed:Int) - (y:Int))] 3));have HZ:Hid ((wr.alloc (.cells #[.int .i64 ((x:Int) - (owed:Int) - (y:Int))] 3)).heap.size=wr.heap.size+1):=Ax tH;have hsr:=hU.bel.size;have Hown:=Ax (C9 hU.row);have HU:=Ax hU;have Hzz:=Ax hz;obtain⟨i0,hi0,hz0,hz1,hz2⟩:=Cq;have Hi0:=Ax hi0;have Hy0:=Ax hz0;have Hy1:=Ax hz1;have Hy2:=Ax hz2;clear hq hU hz hi0 hz0 hz1 hz2 htb hta hx hy;go_wp2_with ((refine wpList_append_lies _ rfl (.tmp 35) (.tmp 37) _ rfl w.heap.size 3 i0 (.int .i64 0) 1 8 Tryz.underlying36 Hi0.out Hy0.out Hy1.out Hy2.out rfl tG (.slice oa i oc) i (Dd o) rfl Hrow1.out ⟨wr.heap.size,0,none⟩ 1 1 [.int .i64 ((x:Int) - (owed:Int) - (y:Int))] rfl rfl (World.news_of_block (cs:= #[.int .i64 ((x:Int) - (owed:Int) - (y:Int))]) HN1.out) tS tG tQ tE tV (wr.heap.size+1) HZ.out ?_;intro g6 cap w6 hown6 hgrow6 hat6 hlt6));have hB6:=Cr (v:= .slice oa i oc) (HU.out.bel.alloc HU.out.bel.size (.cells #[.int .i64 ((x:Int) - (owed:Int) - (y:Int))] 3)) hgrow6 Hown.out tV;rw[Hzz.out,←Df] at hown6
   have HR6:Hid (gX w w6 la lb (i+1) 0 (.slice (some ⟨g6,0,none⟩) (i+1) cap) (o++[x - owed - y])):=Ax ⟨hown6,by rw[Ab,HU.out.len];rfl,Fy HU.out.ok hd9,by
    rw[Gr,HU.out.len,Htb.out,Hta.out,Nat.pow_succ]
    exact HVL.out,hB6⟩
   clear hown6 hgrow6 hat6 hlt6 hB6 Hrow1 HN1 HZ hsr Hown HU HVL;go_wp2_with fail;go_roundw
   case rel=>exact⟨i+1,0,o++[x - owed - y],some ⟨g6,0,none⟩,cap,by omega,by omega,by go_num,rfl,rfl,HR6⟩
   case measure=>simp [intOf];omega
  by_cases hn:x<owed
  ·skip
   have htb:nv (lb.take (i+1))=nv (lb.take i)+10000^i*0:=by rw[List.take_of_length_le tE,List.take_of_length_le tE];simp
   have p2:decide ((i:Int)<(lb.length:Int))=false:=An tE;have q0:(0:Int)<=(i:Int):=by omega
   have q5:(0:Int)<=(owed:Int):=by omega
   have q6:(owed:Int)<=1:=by omega
   have p3:decide ((x:Int) - (owed:Int)<0)=true:=by simp;omega
   have hz:(((x:Int) - (owed:Int)+10000):Int)=((x+10000 - owed:Nat):Int):=by omega
   have hd9:x+10000 - owed<10000:=by omega
   have HVL:=Ax (Nn (O:=nv o) (p:=10000^i) (A:=nv (la.take i)) (B:=nv (lb.take i)) (x:=x) (y:=0) (d:=x+10000 - owed) (o:=owed) (o':=1) hU.val tE);have Htb:=Ax htb;have Hta:=Ax hta;have Hrow1:=Ax (hU.row.alloc (.cells #[.int .i64 (((x:Int) - (owed:Int)+10000))] 3));have HN1:=Ax (A1 wr (.cells #[.int .i64 (((x:Int) - (owed:Int)+10000))] 3));have HZ:Hid ((wr.alloc (.cells #[.int .i64 (((x:Int) - (owed:Int)+10000))] 3)).heap.size=wr.heap.size+1):=Ax tH;have hsr:=hU.bel.size;have Hown:=Ax (C9 hU.row);have HU:=Ax hU;have Hzz:=Ax hz;obtain⟨i0,hi0,hz0,hz1,hz2⟩:=Cq;have Hi0:=Ax hi0;have Hy0:=Ax hz0;have Hy1:=Ax hz1;have Hy2:=Ax hz2;clear hq hU hz hi0 hz0 hz1 hz2 htb hta hx;go_wp2_with ((refine wpList_append_lies _ rfl (.tmp 35) (.tmp 37) _ rfl w.heap.size 3 i0 (.int .i64 0) 1 8 Tryz.underlying36 Hi0.out Hy0.out Hy1.out Hy2.out rfl tG (.slice oa i oc) i (Dd o) rfl Hrow1.out ⟨wr.heap.size,0,none⟩ 1 1 [.int .i64 (((x:Int) - (owed:Int)+10000))] rfl rfl (World.news_of_block (cs:= #[.int .i64 (((x:Int) - (owed:Int)+10000))]) HN1.out) tS tG tQ tE tV (wr.heap.size+1) HZ.out ?_;intro g6 cap w6 hown6 hgrow6 hat6 hlt6));have hB6:=Cr (v:= .slice oa i oc) (HU.out.bel.alloc HU.out.bel.size (.cells #[.int .i64 (((x:Int) - (owed:Int)+10000))] 3)) hgrow6 Hown.out tV;rw[Hzz.out,←Df] at hown6
   have HR6:Hid (gX w w6 la lb (i+1) 1 (.slice (some ⟨g6,0,none⟩) (i+1) cap) (o++[x+10000 - owed])):=Ax ⟨hown6,by rw[Ab,HU.out.len];rfl,Fy HU.out.ok hd9,by
    rw[Gr,HU.out.len,Htb.out,Hta.out,Nat.pow_succ]
    exact HVL.out,hB6⟩
   clear hown6 hgrow6 hat6 hlt6 hB6 Hrow1 HN1 HZ hsr Hown HU HVL;go_wp2_with fail;go_roundw
   case rel=>exact⟨i+1,1,o++[x+10000 - owed],some ⟨g6,0,none⟩,cap,by omega,by omega,by go_num,rfl,rfl,HR6⟩
   case measure=>simp [intOf];omega
  skip
  have htb:nv (lb.take (i+1))=nv (lb.take i)+10000^i*0:=by rw[List.take_of_length_le tE,List.take_of_length_le tE];simp
  have p2:decide ((i:Int)<(lb.length:Int))=false:=An tE;have q0:(0:Int)<=(i:Int):=by omega
  have q5:(0:Int)<=(owed:Int):=by omega
  have q6:(owed:Int)<=1:=by omega
  have p3:decide ((x:Int) - (owed:Int)<0)=false:=by simp;omega
  have hz:((x:Int) - (owed:Int):Int)=((x - owed:Nat):Int):=by omega
  have hd9:x - owed<10000:=by omega
  have HVL:=Ax (Nn (O:=nv o) (p:=10000^i) (A:=nv (la.take i)) (B:=nv (lb.take i)) (x:=x) (y:=0) (d:=x - owed) (o:=owed) (o':=0) hU.val tE);have Htb:=Ax htb;have Hta:=Ax hta;have Hrow1:=Ax (hU.row.alloc (.cells #[.int .i64 ((x:Int) - (owed:Int))] 3));have HN1:=Ax (A1 wr (.cells #[.int .i64 ((x:Int) - (owed:Int))] 3));have HZ:Hid ((wr.alloc (.cells #[.int .i64 ((x:Int) - (owed:Int))] 3)).heap.size=wr.heap.size+1):=Ax tH;have hsr:=hU.bel.size;have Hown:=Ax (C9 hU.row);have HU:=Ax hU;have Hzz:=Ax hz;obtain⟨i0,hi0,hz0,hz1,hz2⟩:=Cq;have Hi0:=Ax hi0;have Hy0:=Ax hz0;have Hy1:=Ax hz1;have Hy2:=Ax hz2;clear hq hU hz hi0 hz0 hz1 hz2 htb hta hx;go_wp2_with ((refine wpList_append_lies _ rfl (.tmp 35) (.tmp 37) _ rfl w.heap.size 3 i0 (.int .i64 0) 1 8 Tryz.underlying36 Hi0.out Hy0.out Hy1.out Hy2.out rfl tG (.slice oa i oc) i (Dd o) rfl Hrow1.out ⟨wr.heap.size,0,none⟩ 1 1 [.int .i64 ((x:Int) - (owed:Int))] rfl rfl (World.news_of_block (cs:= #[.int .i64 ((x:Int) - (owed:Int))]) HN1.out) tS tG tQ tE tV (wr.heap.size+1) HZ.out ?_;intro g6 cap w6 hown6 hgrow6 hat6 hlt6));have hB6:=Cr (v:= .slice oa i oc) (HU.out.bel.alloc HU.out.bel.size (.cells #[.int .i64 ((x:Int) - (owed:Int))] 3)) hgrow6 Hown.out tV;rw[Hzz.out,←Df] at hown6
  have HR6:Hid (gX w w6 la lb (i+1) 0 (.slice (some ⟨g6,0,none⟩) (i+1) cap) (o++[x - owed])):=Ax ⟨hown6,by rw[Ab,HU.out.len];rfl,Fy HU.out.ok hd9,by
   rw[Gr,HU.out.len,Htb.out,Hta.out,Nat.pow_succ]
   exact HVL.out,hB6⟩
  clear hown6 hgrow6 hat6 hlt6 hB6 Hrow1 HN1 HZ hsr Hown HU HVL;go_wp2_with fail;go_roundw
  case rel=>exact⟨i+1,0,o++[x - owed],some ⟨g6,0,none⟩,cap,by omega,by omega,by go_num,rfl,rfl,HR6⟩
  case measure=>simp [intOf];omega
 obtain rfl:i=la.length:=by omega
 have p1:decide ((la.length:Int)<(la.length:Int))=false:=by simp
 have hres:Cp wr (.slice oa la.length oc) o:=Cp.of_row (by rw[hU.len];omega) hU.len.symm hU.row
 have hval:nv o=nv la - nv lb:=by
  have h1:=hU.val;rw[List.take_length,List.take_of_length_le tE] at h1;have h2:=Zg o hU.ok;rw[hU.len] at h2;have h3:=HLE.out
  have:owed=0:=by
   obtain e|e:owed=0\/owed=1:=by omega
   ·exact e
   rw[e] at h1;omega
  rw[this] at h1;omega
 have HR:Hid (∃v o',Ending.returned (.slice oa la.length oc)= .returned v/\Cp wr v o'/\okD o'/\nv o'=nv la - nv lb/\o'.length<=la.length):=Ax ⟨_,o,rfl,hres,hU.ok,hval,by rw[hU.len];omega⟩;have HB:=Ax hU.bel;clear hq hU hres hval hi hm hia;exact zzf
def dH (n m:Nat)(r:Int):Prop:=(r<0↔n<m)/\(0<r↔m<n)/\ -100000<=r/\r<=100000
theorem sB {w:World}{sa sb:Value}{n m:Nat}(ha:Cp w sa (dg n))(hb:Cp w sb (dg m))(hla:Bw n<=100000)(hlb:Bw m<=100000):
 Calls Tryz.prog 208 #[sa,sb] w fun e w'=>(∃r,e= .returned (.int .i64 r)/\dH n m r)/\Below w.heap.size w w':=by
 obtain⟨aa,ca,rfl,_⟩:=ha.slice;obtain⟨ab,cb,rfl,_⟩:=hb.slice;have hna:(dg n).length=Bw n:=rfl;have hmb:(dg m).length=Bw m:=rfl;by_cases hl:Bw n=Bw m
 ·obtain⟨la,hla'⟩:∃l,dg n=l:=⟨_,rfl⟩;obtain⟨lb,hlb'⟩:∃l,dg m=l:=⟨_,rfl⟩;have hoa:=G0 n;have hob:=G0 m;have hvn:=Fp n;have hvm:=Fp m;rw[hla'] at ha hna hoa hvn ⊢;rw[hlb'] at hb hmb hob hvm ⊢;have hll:la.length=lb.length:=by omega
  have h5:la.length<=100000:=by omega
  have HA:=Ax ha;have HBb:=Ax hb;have HOA:=Ax hoa;have HOB:=Ax hob;have HLL:=Ax hll;have HVN:=Ax hvn;have HVM:=Ax hvm;rw[←hll];have HQ:Hid (la.drop la.length=lb.drop la.length):=Ax (by rw[List.drop_length,hll,List.drop_length]);clear ha hb hoa hob hvn hvm hla' hlb' hna hmb hl hll hla hlb;have hne:((la.length:Int) !=(la.length:Int))=false:=by simp
  go_enter Tryz.func208,Tryz.ntmps208;go_wp2_with fail
  go_loopw [5] (fun v5 wr=>∃k:Nat,k<=la.length/\v5= .int .i64 ((k:Int) - 1)/\Hid (la.drop k=lb.drop k)/\Hid (Below w.heap.size w wr)) (fun v5 _=>(intOf v5+1).toNat)
  case atStart=>exact⟨la.length,Ak _,rfl,HQ,Aq _ _⟩
  obtain⟨k,hk,rfl,hq,hB⟩:=hrel;by_cases hk0:k=0
  ·subst hk0;have p1:decide ((0:Int)<=((0:Nat):Int) - 1)=false:=by simp
   have p2:decide ((0:Int)<= -1)=false:=by simp
   have HR:Hid (dH n m 0):=Ax (by
    have h1:=hq.out;rw[List.drop_zero,List.drop_zero] at h1
    have:n=m:=by rw[←HVN.out,←HVM.out,h1]
    unfold dH
    omega)
   have HB:=Ax hB.out;clear hq hB HQ;go_wp2_with fail;go_ret;exact⟨⟨0,rfl,HR.out⟩,HB.out⟩
  obtain⟨j,rfl⟩:∃j,k=j+1:=⟨k - 1,by omega⟩;have hja:j<la.length:=by omega
  have hjb:j<lb.length:=by have:=HLL.out;omega
  obtain⟨ba,fa,rfl,hca⟩:=HA.out.at hja;obtain⟨bb,fb,rfl,hcb⟩:=HBb.out.at hjb;have hca:=Ba hB.out hca;have hcb:=Ba hB.out hcb;have hxl:=HOA.out _ (List.getElem_mem hja);have hyl:=HOB.out _ (List.getElem_mem hjb);have hlt:=nZ HOA.out HLL.out hja hjb hq.out;have hgt:=nZ HOB.out HLL.out.symm hjb hja hq.out.symm;have heq:la[j]=lb[j]->la.drop j=lb.drop j:=fun e=>by rw[List.drop_eq_getElem_cons hja,List.drop_eq_getElem_cons hjb,e,hq.out]
  obtain⟨x,hx⟩:∃x,la[j]=x:=⟨_,rfl⟩;obtain⟨y,hy⟩:∃y,lb[j]=y:=⟨_,rfl⟩;rw[hx] at hca hxl hlt hgt heq;rw[hy] at hcb hyl hlt hgt heq;have j0:((j+1:Nat):Int) - 1=(j:Int):=by omega
  rw[j0];have j1:(0:Int)<=(j:Int):=by omega
  have j2:(j:Int)<(la.length:Int):=by omega
  have p1:decide ((0:Int)<=(j:Int))=true:=Am j1;have q1:(0:Int)<=(x:Int):=by omega
  have q2:(x:Int)<=9999:=by omega
  have q3:(0:Int)<=(y:Int):=by omega
  have q4:(y:Int)<=9999:=by omega
  have HD:=fun nq=>Ax (show Below w.heap.size w (wr.drewN nq) from Bg hB.out nq)
  have HD2:=fun p q=>Ax (show Below w.heap.size w ((wr.drewN p).drewN q) from Bg (Bg hB.out p) q)
  by_cases hxy:x=y
  ·subst hxy;have HQ2:=Ax (heq rfl);have p3:((x:Int) !=(x:Int))=false:=by simp
   clear hq hB HQ hx hy hlt hgt heq j0 hk hk0;go_wp2_with fail;go_quiet (fail);go_wp2_with fail;refine⟨⟨j,by omega,rfl,HQ2,HD _⟩,?_⟩;simp [intOf]
  have p3:((x:Int) !=(y:Int))=true:=by simp;omega
  have HR:Hid (dH n m ((x:Int) - (y:Int))):=Ax (by
   have h1:=HVN.out;have h2:=HVM.out;unfold dH;rcases Nat.lt_or_ge x y with h|h
   ·have:=hlt h
    omega
   have:=hgt tE
   omega)
  clear hq hB HQ hx hy hlt hgt heq j0 hk hk0;go_wp2_with fail;go_quiet (fail);go_wp2_with fail;go_quiet (fail);go_wp2_with fail;go_ret;exact⟨⟨_,rfl,HR.out⟩,(HD2 _ _).out⟩
 have h1:((Bw n:Int) !=(Bw m:Int))=true:=by simp;omega
 have HR:Hid (dH n m ((Bw n:Int) - (Bw m:Int))):=Ax (by
  unfold dH;rcases Nat.lt_or_ge (Bw n) (Bw m) with h|h
  ·have:=Vi h
   omega
  have:=Vi (show Bw m<Bw n by omega)
  omega)
 rw[hna,hmb];clear ha hb hna hmb hl;go_enter Tryz.func208,Tryz.ntmps208;go_wp2_with fail;go_ret;exact⟨⟨_,rfl,HR.out⟩,Aq _ _⟩
end Go.Proofs.YtmpfilddeglgbaaGreatDoor
