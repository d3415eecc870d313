import Derived.Test.YtgfakdobajgnfaaGreatDoorQk11
set_option maxRecDepth 100000
set_option maxHeartbeats 16000000
namespace Go.Proofs.YtgfakdobajgnfaaGreatDoor
open Go Go.RowKit Go.Lib Go.Sort Go.Shelf
theorem qA {s:ByteArray}(w:World)(c:s.size<=65536)(d:Rd w){ts:List Tkn}(h:Fq (dl s)= .ok ts):
 Calls Tryz.prog 52 #[.string s] w fun e w'=>∃v,e= .returned (.tuple #[v,.agg #[.int .i64 0,.int .i64 0],.int .i64 0])/\w'.ownsRow w.heap.size 94 7 v ts.length (Eb ts)/\Below w.heap.size w w':=by
 refine(bR s w c d).mono ?_;exact zwn
theorem pJ {s:ByteArray}(w:World)(d:s.size<=65536)(f:Rd w){a b q:Int}(h:Fq (dl s)= .error (a,b,q)):
 Calls Tryz.prog 52 #[.string s] w fun e w'=>e= .returned (.tuple #[.slice none 0 0,.agg #[.int .i64 a,.int .i64 b],.int .i64 q])/\Below w.heap.size w w':=by
 refine(bR s w d f).mono ?_;rintro e w' ⟨g,c⟩;rw[h] at c;exact⟨c,g⟩
open Go Go.RowKit Go.Lib Go.Sort Go.Shelf
theorem Zx {w:World}{v:Value}{ts:List Tkn}(R:Ih w v ts)(hc:∀t∈ts,0<=t.col/\t.col<=1000000/\t.w.t.length<=1000000)(r:ts.length<=1000000):
 Calls Tryz.prog 54 #[v] w fun e w'=>e= .returned (.agg #[.int .i64 (Eu ts).1,.int .i64 (Eu ts).2])/\Below w.heap.size w w':=by
 by_cases h0:ts=[]
 ·subst h0;obtain⟨va,vc,rfl⟩:=R.form;simp only[List.length_nil];clear hc r R;go_enter Tryz.func54,Tryz.ntmps54;go_wp2_with fail;refine Au (v:= .agg #[.int .i64 1,.int .i64 1]) sJ rfl ?_;refine⟨rfl,?_⟩;exact(Aq _ w).alloc (Ak _) _
 obtain⟨m,hm⟩:∃m,ts.length=m+1:=⟨ts.length - 1,by have:=List.length_pos_iff.2 h0;omega⟩;have u:m<ts.length:=by omega
 obtain⟨g,c,rfl,hg,T,U,V,W,X,Y,Z⟩:=R.at u
 have f:ts.getLast? =some ts[m]:=by
  rw[List.getLast?_eq_getElem?,hm,Nat.add_sub_cancel,Ag u]
 have x:=hc ts[m] (List.getElem_mem u)
 have E:Eu ts=(ts[m].line,ts[m].col+ts[m].w.t.length+if ts[m].w.k=2\/ts[m].w.k=3\/ts[m].w.k=6 then 1 else if ts[m].w.k=5 then 2 else 0):=by
  unfold Eu;rw[f]
 rw[E];obtain⟨t,he⟩:∃t,ts[m]=t:=⟨_,rfl⟩;rw[he] at T U V W X Y Z x ⊢;obtain⟨⟨i,tt,F,G,I⟩,tl,tc⟩:=t;simp only at T U V W X Y Z x ⊢;rw[hm];obtain⟨a8,b7,b8⟩:=x;have d8:m+1<=1000000:=by omega
 obtain⟨j,y⟩:∃j,w.alloc (.cells #[.int .i64 0,.int .i64 0] 33)=j:=⟨_,rfl⟩;have d:Below w.heap.size w j:=by rw[←y];exact(Aq _ w).alloc (Ak _) _
 have L:j.heap.size=w.heap.size+1:=by rw[←y];simp
 have n:=Az w (.cells #[.int .i64 0,.int .i64 0] 33);rw[y] at n;have f7:=A4 d T;have f8:=A4 d U;have f9:=A4 d V;have i6:=A4 d W;have i7:=A4 d X;have j8:=A4 d Y;have j9:=A4 d Z;obtain⟨o,A⟩:∃o,j.alloc (.cells #[.int .u8 i,.string ⟨tt.toArray⟩,.int .u8 F,.int .i64 G,.string ⟨I.toArray⟩,.int .i64 tl,.int .i64 tc] 94)=o:=⟨_,rfl⟩;have p:Below j.heap.size j o:=by rw[←A];exact(Aq _ j).alloc (Ak _) _
 have M:o.heap.size=w.heap.size+2:=by rw[←A];simp [L]
 have h:=Az j (.cells #[.int .u8 i,.string ⟨tt.toArray⟩,.int .u8 F,.int .i64 G,.string ⟨I.toArray⟩,.int .i64 tl,.int .i64 tc] 94);rw[A,L] at h;obtain⟨s0,s1,s2,s3,s4,s5,s6⟩:=Gf h;obtain⟨W3,C⟩:∃W3,o.alloc (.cells #[.int .i64 tl,.int .i64 tc] 33)=W3:=⟨_,rfl⟩;have q:Below o.heap.size o W3:=by rw[←C];exact(Aq _ o).alloc (Ak _) _
 have k8:W3.heap.size=w.heap.size+3:=by rw[←C];simp [M]
 have D:=Az o (.cells #[.int .i64 tl,.int .i64 tc] 33);rw[C,M] at D;have N:=(q.block _ (Ay h)).trans h;have O:=(q.block _ rF).trans ((p.block _ (Ay n)).trans n);obtain⟨r0,r1,r2,r3,r4,r5,r6⟩:=Gf N;obtain⟨x0,x1,xf⟩:=Bf D;obtain⟨y0,y1,yf⟩:=Bf O;have l7:=xf 0;have n9:=xf 1;have p8:=yf 0;have r7:=yf 1;have HB3:=Ax (d.trans ((p.trans (q.mono p.size)).mono d.size));clear d p q n h D O N xf yf T U V W X Y Z E f hc he R r h0;by_cases hk:i=2\/i=3\/i=6
 ·rcases hk with rfl|rfl|rfl
  ·exact zyo
  ·exact zyo
  exact zyo
 by_cases h5:i=5
 ·subst h5;go_enter Tryz.func54,Tryz.ntmps54;go_wp2_with fail;refine Au (v:= .agg #[.int .i64 tl,.int .i64 (tc+(tt.length:Int)+2)]) sJ rfl ?_;refine⟨by simp [*],?_⟩;exact(((HB3.out.setCell rI _).setCell rI _).setCell rI _).setCell rI _
 have j2:(i==2)=false:=by simp at hk ⊢;omega
 have j3:(i==3)=false:=by simp at hk ⊢;omega
 have j6:(i==6)=false:=by simp at hk ⊢;omega
 have j5:(i==5)=false:=by simpa using h5
 rw[Ao hk,Ao h5,Int.add_zero];clear hk h5;go_enter Tryz.func54,Tryz.ntmps54;go_wp2_with fail;refine Au (v:= .agg #[.int .i64 tl,.int .i64 (tc+(tt.length:Int))]) sJ rfl ?_;refine⟨by simp [*],?_⟩;exact((HB3.out.setCell rI _).setCell rI _).setCell rI _
def Qe (w:World)(x:Except ((Int×Int)×Int) Ex)(e:Ending)(w':World):Prop:=
 Below w.heap.size w w'/\match x with
  | .error p=>e= .returned (.tuple #[.slice none 0 0,.agg #[.int .i64 p.1.1,.int .i64 p.1.2],.int .i64 p.2])
  | .ok a=>∃v,e= .returned (.tuple #[v,.agg #[.int .i64 0,.int .i64 0],.int .i64 0])/\Hh w' w.heap.size [] v (a.flat 0)
theorem oE {s:ByteArray}(w:World)(L:s.size<=65536)(E:Rd w){a b q:Int}(h:Fq (dl s)= .error (a,b,q)):Calls Tryz.prog 20 #[.string s] w (Qe w (B9 (dl s))):=by
 have F:B9 (dl s)= .error ((a,b),q):=by unfold B9;rw[h]
 have x:q=4\/q=9:=((Kz _ (dl s) 1 1 (Ak _) rH).1 a b q h).2.2;have M:(q !=0)=true:=by rcases x with rfl|rfl<;>rfl
 have N:(q==0)=false:=by rcases x with rfl|rfl<;>rfl
 obtain⟨u,n⟩:∃u,w.alloc (.cells #[.int .i64 0,.int .i64 0] 33)=u:=⟨_,rfl⟩;have f:Below w.heap.size w u:=by rw[←n];exact(Aq _ w).alloc (Ak _) _
 have g:=Az w (.cells #[.int .i64 0,.int .i64 0] 33);rw[n] at g;have G:=Ax (pJ (s:=s) u L (E.below f) h);have o:=Ax f;have i:=Ax g;rw[F];clear F h E f g x;go_enter Tryz.func20,Tryz.ntmps20;go_wp2_with fail;refine G.out.mono ?_;rintro e j ⟨rfl,c⟩;have d:=(c.block _ (Ay i.out)).trans i.out;obtain⟨y,p⟩:∃y,j.alloc (.cells #[.int .i64 a,.int .i64 b] 33)=y:=⟨_,rfl⟩;have k:Below j.heap.size j y:=by rw[←p];exact(Aq _ j).alloc (Ak _) _
 have m:=Az j (.cells #[.int .i64 a,.int .i64 b] 33);rw[p] at m;have r:=(k.block _ (Ay d)).trans d;obtain⟨T,U,_⟩:=Bf m;obtain⟨V,W,A⟩:=Bf r;have O:=A 0;have R:=A 1;have C:=Ax (o.out.trans ((c.trans (k.mono c.size)).mono o.out.size));have D:¬w.heap.size=j.heap.size:=by have:=Ay d;omega
 have I:¬j.heap.size=w.heap.size:=fun h=>D h.symm
 clear c k d m r A G i;go_wp2_with fail;go_region;go_wp2_with fail;refine Au (v:= .tuple #[.slice none 0 0,.agg #[.int .i64 a,.int .i64 b],.int .i64 q]) sP rfl ?_;exact⟨((C.out.setCell rI _).setCell rI _).drew,rfl⟩
inductive Mid (ts:List Tkn)(w:World)(V:World)(v:Value)(n:Nat)(e0:Int):Except ((Int×Int)×Int) Ex->Prop where
 |tree (a:Ex) (he:e0=0) (hn:n=ts.length) (ht:Hh V w.heap.size [] v (a.flat 0)):Mid ts w V v n e0 (.ok a)
 |more (t:Tkn) (he:e0=0) (hn:ts[n]? =some t):Mid ts w V v n e0 (.error ((t.line,t.col),4))
 |bad (t:Tkn) (he:e0≠0) (hn:ts[n]? =some t):Mid ts w V v n e0 (.error ((t.line,t.col),e0))
 |end' (he:e0≠0) (hn:n=ts.length):Mid ts w V v n e0 (.error (Eu ts,e0))
theorem Suf.head {t:Tkn}{q ts:List Tkn}(h:Suf (t::q) ts):ts[ts.length - (t::q).length]? =some t:=by
 have c:=h.at_drop;have d:=Ar (fun l=>l[0]?) c;simpa using d.symm
theorem jF {w V i:World}{ts:List Tkn}{l:List UInt8}(C:Fq l= .ok ts){e:Ending}(h:Qh V ts 0 (Bc 0 0 ts) e i)(o:w.heap.size<=V.heap.size):
 ∃(v:Value) (n:Nat) (r:Int),e= .returned (.tuple #[v,.int .i64 (n:Int),.int .i64 r])/\n<=ts.length/\(∃a k c,v= .slice a k c)/\Mid ts w i v n r (B9 l)/\Below V.heap.size V i:=by
 have d:B9 l=match Bc 0 0 ts with
  | .error (e,q)=> .error (Pd ts q,e)
  | .ok (a,q)=>if 60<a.size then .error (Pd ts ts,7) else if q=[] then .ok a else .error (Pd ts q,4):=by
  simp only[B9,C]
  all_goals (cases Bc 0 0 ts<;>rfl)
 obtain⟨j,h⟩:=h;cases hq:Bc 0 0 ts with
 |error p=>
  obtain⟨u,q⟩:=p;rw[hq] at h d;have g:=mL (td:= .lvl 0) tU (show exE (.lvl 0) 0 ts=_ from hq)
  have y:u≠0:=by
   have:=Wp (.lvl 0) 0 ts tU _ (show exE (.lvl 0) 0 ts=_ from hq)
   simp only at this;omega
  refine⟨_,_,u,h,by omega,⟨_,_,_,rfl⟩,?_,j⟩;rw[d];simp only;cases q with
  |nil=>exact .end' y rI
  |cons t q=>exact .bad t y g.head
 |ok p=>
  obtain⟨a,q⟩:=p;rw[hq] at h d;simp only at h d;have g:=Dt (n:=0) rF hq;by_cases h60:60<a.size
  ·rw[Ap h60] at h d;refine⟨_,0,7,h,by omega,⟨_,_,_,rfl⟩,?_,j⟩;rw[d];cases ts with
   |nil=>simp at g
   |cons t ts=>exact .bad t rH rfl
  rw[Ao h60] at h d;obtain⟨v,D,A⟩:=h
  have E:∃a k c,v= .slice a k c:=by
   obtain⟨f,m,_⟩:=A;obtain⟨x,c,rfl⟩:=D8 m;exact⟨_,_,_,rfl⟩
  refine⟨v,_,0,D,by omega,E,?_,j⟩;rw[d];cases q with
  |nil=>
   rw[Ap rfl];refine .tree a rfl rI ?_;obtain⟨f,m,F⟩:=A;exact⟨f,Tn m o,C8.base o F⟩
  |cons t q=>
   rw[Ao rI];exact .more t rfl g.1.head
theorem nN {s:ByteArray}(w:World)(hs:s.size<=65536)(hR:Rd w){ts:List Tkn}(h:Fq (dl s)= .ok ts):Calls Tryz.prog 20 #[.string s] w (Qe w (B9 (dl s))):=by
 have R:=(Jf _ (dl s) 1 1 ts (Ak _) h).2;have T:=Kq h;have U:=T8 h;rw[A5] at R;have o:ts.length<=1000000:=by omega
 have d:∀t∈ts,0<=t.col/\t.col<=1000000/\t.w.t.length<=1000000:=fun t V=>by
  have h1:=T t V;have h2:=U t V;rw[A5] at h1 h2;omega
 obtain⟨W1,W⟩:∃W1,w.alloc (.cells #[.int .i64 0,.int .i64 0] 33)=W1:=⟨_,rfl⟩;have u:Below w.heap.size w W1:=by rw[←W];exact(Aq _ w).alloc (Ak _) _
 have y:=Az w (.cells #[.int .i64 0,.int .i64 0] 33);rw[W] at y;have L1:=Ax (qA (s:=s) W1 hs (hR.below u) h);have X:=Ax u;have A:=Ax y;have HL:=Ax h;have C:=Ax d;have Y:=Ax (T3 h);clear h hR u y d T U hs;go_enter Tryz.func20,Tryz.ntmps20;go_wp2_with fail;refine L1.out.mono ?_;rintro e V2 ⟨tv,rfl,p,i⟩;have D:=Ih.of_row p;obtain⟨ta,tc,rfl⟩:=D.form;have E:=(i.block _ (Ay A.out)).trans A.out;obtain⟨Z,a8⟩:∃Z,V2.alloc (.cells #[.int .i64 0,.int .i64 0] 33)=Z:=⟨_,rfl⟩;have j:Below V2.heap.size V2 Z:=by rw[←a8];exact(Aq _ V2).alloc (Ak _) _
 have b7:=(j.block _ (Ay E)).trans E;have b8:=X.out.trans ((i.trans (j.mono i.size)).mono X.out.size);have F:=D.below j;have d8:Calls Tryz.prog 53 #[.slice ta ts.length tc,.int .i64 0] Z (Qh Z ts 0 (Bc 0 0 ts)):=aM F Y.out o 0 (Nat.zero_le _);have f7:=Ax d8;have G:=Ax b8;have I:=Ax b7;have f8:=Ax F;clear i E j b7 b8 F d8 D p L1 A;subst a8;go_wp2_with fail;refine f7.out.mono ?_;rintro e V4 hp;obtain⟨v,n,e0,rfl,hn,⟨va,vk,vc,rfl⟩,q,m⟩:=jF (w:=w) HL.out hp G.out.size;have f9:=G.out.trans (m.mono G.out.size);have i6:=(m.block _ (Ay I.out)).trans I.out;have i7:=f8.out.below m;have HB4:=Ax f9;have HP5:=Ax i6;have L:=Ax i7;obtain⟨x,hx⟩:∃x,B9 (dl s)=x:=⟨_,rfl⟩;rw[hx] at q;have HX:=Ax hx;clear hp m f9 i6 i7 f7 I f8 HL hx;obtain⟨y0,y1,M⟩:=Bf HP5.out;have l7:=M 0;have n9:=M 1;clear M;cases q with
 |tree a he hn' V=>
  subst he;subst hn';have HT:=Ax V;clear V;go_wp2_with fail;refine Au (v:= .tuple #[.slice va vk vc,.agg #[.int .i64 0,.int .i64 0],.int .i64 0]) sP rfl ?_;exact zyg
 |more t he hn'=>
  obtain⟨N,f⟩:=List.getElem?_eq_some_iff.1 hn';obtain⟨g,c,et,hg,t0,t1,t2,t3,t4,t5,t6⟩:=L.out.at N;injection et with e1 _ e3;subst e1;subst e3;rw[f] at t5 t6;have i0:(0:Int)<=(n:Int):=by omega
  have i1:(n:Int)<(ts.length:Int):=by omega
  have i2:decide ((n:Int)<(ts.length:Int))=true:=by simp;omega
  have p8:g<V4.drew.heap.size:=hg;subst he;clear t0 t1 t2 t3 t4 f hn' hg;go_wp2_with fail;go_region;go_wp2_with fail;refine Au (v:= .tuple #[.slice none 0 0,.agg #[.int .i64 t.line,.int .i64 t.col],.int .i64 4]) sP rfl ?_;exact zxd
 |bad t he hn'=>
  obtain⟨N,f⟩:=List.getElem?_eq_some_iff.1 hn';obtain⟨g,c,et,hg,t0,t1,t2,t3,t4,t5,t6⟩:=L.out.at N;injection et with e1 _ e3;subst e1;subst e3;rw[f] at t5 t6;have i0:(0:Int)<=(n:Int):=by omega
  have i1:(n:Int)<(ts.length:Int):=by omega
  have i2:decide ((n:Int)<(ts.length:Int))=true:=by simp;omega
  have p8:g<V4.drew.heap.size:=hg;have j1:(e0==0)=false:=by simpa using he
  have HE:=Ax he;clear he;clear t0 t1 t2 t3 t4 f hn' hg;go_wp2_with fail;go_region;go_wp2_with fail;refine Au (v:= .tuple #[.slice none 0 0,.agg #[.int .i64 t.line,.int .i64 t.col],.int .i64 e0]) sP rfl ?_;exact zxd
 |end' he hn'=>
  subst hn';have j8:=Zx L.out C.out o;have j1:(e0==0)=false:=by simpa using he
  have j9:=Ax j8;clear he j8;go_wp2_with fail;refine j9.out.mono ?_;rintro e V5 ⟨rfl,O⟩;have k8:=(O.block _ (Ay HP5.out)).trans HP5.out;obtain⟨y0,y1,M⟩:=Bf k8;have l7:=M 0;have n9:=M 1;have r7:=Ax (HB4.out.trans (O.mono HB4.out.size));clear k8 O M j9;go_wp2_with fail;refine Au (v:= .tuple #[.slice none 0 0,.agg #[.int .i64 (Eu ts).1,.int .i64 (Eu ts).2],.int .i64 e0]) sP rfl ?_;rw[HX.out];exact⟨(r7.out.setCell rI _).setCell rI _,rfl⟩
theorem Ub (s:ByteArray)(w:World)(c:s.size<=65536)(d:Rd w):Calls Tryz.prog 20 #[.string s] w (Qe w (B9 (dl s))):=by
 cases h:Fq (dl s) with
 |error p=>exact oE w c d (a:=p.1) (b:=p.2.1) (q:=p.2.2) h
 |ok ts=>exact nN w c d h
open Go Go.RowKit Go.Lib Go.Sort Go.Shelf
structure Nz where
 h:Hd
 kids:List Int
def Nd.z (n:Nd):Nz:=⟨n.h,n.kids.map fun(k:Nat)=>(k:Int)⟩
def Et (w:World)(x:Value)(l:List Int):Prop:=l.length<=1000000/\∃a c,x= .slice a l.length c/\∀i (h:i<l.length),∃b off,a=some ⟨b,off,none⟩/\w.cell? ⟨b,off+i,none⟩=some (.int .i64 l[i])
theorem Et.below {w w':World}{x:Value}{l:List Int}(h:Et w x l)(hb:Below w.heap.size w w'):Et w' x l:=by
 exact zxp
theorem Et.of_row {w:World}{B:Nat}{v:Value}{l:List Nat}(j:l.length<=1000000)(h:w.ownsRow B 3 1 v l.length (Ea l)):Et w v (l.map fun(k:Nat)=>(k:Int)):=by
 rcases h.2 with ⟨e,m⟩|⟨g,c,n,rfl,_,o,p,_⟩
 ·have:l=[]:=List.eq_nil_of_length_eq_zero m
  subst this;exact⟨by simp,none,0,e,fun i d=>by simp at d⟩
 refine⟨by simpa using j,some ⟨g,0,none⟩,c,by simp,fun i d=>⟨g,0,rfl,?_⟩⟩;have f:i<l.length:=by simpa using d
 have:=h.cells (g:=g) rfl i (.int .i64 (l[i]:Int)) (by simp [Ea,f])
 rw[Addr.add_lit,Nat.zero_add] at this;rw[Nat.zero_add];simpa using this
def Mt (w:World)(b off:Nat)(h:Hd)(kv:Value):Prop:=
 w.cell? ⟨b,off,none⟩=some (.int .u8 h.op)/\w.cell? ⟨b,off+1,none⟩=some (.int .u8 h.v.1)/\w.cell? ⟨b,off+2,none⟩=some (.int .i64 h.v.2.1)/\w.cell? ⟨b,off+3,none⟩=some (.string ⟨h.v.2.2.toArray⟩)/\
 w.cell? ⟨b,off+4,none⟩=some (.string ⟨h.name.toArray⟩)/\w.cell? ⟨b,off+5,none⟩=some kv/\w.cell? ⟨b,off+6,none⟩=some (.int .i64 h.line)/\w.cell? ⟨b,off+7,none⟩=some (.int .i64 h.col)
theorem Mt.below {w w':World}{b off:Nat}{h:Hd}{kv:Value}(q:Mt w b off h kv)(c:Below w.heap.size w w'):Mt w' b off h kv:=
 ⟨A4 c q.1,A4 c q.2.1,A4 c q.2.2.1,A4 c q.2.2.2.1,A4 c q.2.2.2.2.1,A4 c q.2.2.2.2.2.1,A4 c q.2.2.2.2.2.2.1,A4 c q.2.2.2.2.2.2.2⟩
def TrZ (w:World)(v:Value)(l:List Nz):Prop:=l.length<=1000000/\∃a c,v= .slice a l.length c/\∀i (h:i<l.length),∃b off kv,a=some ⟨b,off,none⟩/\Mt w b (off+i*8) l[i].h kv/\Et w kv l[i].kids
theorem TrZ.below {w w':World}{v:Value}{l:List Nz}(h:TrZ w v l)(d:Below w.heap.size w w'):TrZ w' v l:=by
 obtain⟨f,a,c,g,j⟩:=h;refine⟨f,a,c,g,fun i k=>?_⟩;obtain⟨b,off,kv,e,m,n⟩:=j i k;exact⟨b,off,kv,e,m.below d,n.below d⟩
theorem Td {w:World}{B:Nat}{X:List Nat}:∀{vs:List Value} {ns:List Nd},C8 w B X vs ns->∀(i:Nat) (h:i<ns.length),∃kv,vs[i]? =some kv/\w.ownsRow B 3 1 kv ns[i].kids.length (Ea ns[i].kids)/\
 (En vs ns)[i*8]? =some (.int .u8 ns[i].h.op)/\(En vs ns)[i*8+1]? =some (.int .u8 ns[i].h.v.1)/\(En vs ns)[i*8+2]? =some (.int .i64 ns[i].h.v.2.1)/\(En vs ns)[i*8+3]? =some (.string ⟨ns[i].h.v.2.2.toArray⟩)/\
 (En vs ns)[i*8+4]? =some (.string ⟨ns[i].h.name.toArray⟩)/\(En vs ns)[i*8+5]? =some kv/\(En vs ns)[i*8+6]? =some (.int .i64 ns[i].h.line)/\(En vs ns)[i*8+7]? =some (.int .i64 ns[i].h.col)
 |[],[],_,i,h=>by simp at h
 |v::vs,n::ns,hk,0,_=>⟨v,rfl,hk.1.1,rfl,rfl,rfl,rfl,rfl,rfl,rfl,rfl⟩
 |v::vs,n::ns,hk,i+1,h=>by
  have:=Td hk.2 i sD
  rw[show(i+1)*8=i*8+1+1+1+1+1+1+1+1 by omega];exact this
 |[],_::_,h,_,_=>h.elim
 |_::_,[],h,_,_=>h.elim
def qZ (ns:List Nd):Prop:=∀n∈ns,n.kids.length<=1000000
theorem Hh.z {w:World}{B:Nat}{X:List Nat}{v:Value}{ns:List Nd}(h:Hh w B X v ns)(p:ns.length<=1000000)(q:qZ ns):TrZ w v (ns.map Nd.z):=by
 obtain⟨f,n,r⟩:=h;rcases n.2 with ⟨e,x⟩|⟨g,k,y,rfl,_,O,R,_⟩
 ·have:ns=[]:=List.eq_nil_of_length_eq_zero x
  subst this;exact⟨by simp,none,0,e,fun i m=>by simp at m⟩
 refine⟨by simpa using p,some ⟨g,0,none⟩,k,by simp,fun i m=>?_⟩;have d:i<ns.length:=by simpa using m
 obtain⟨kv,_,A,C,D,E,F,G,I,L,M⟩:=Td r i d
 have c:∀j u,(En f ns)[j]? =some u->w.cell? ⟨g,0+j,none⟩=some u:=fun j u N=>by
  have:=n.cells (g:=g) rfl j u N
  rwa [Addr.add_lit] at this
 have o:(ns.map Nd.z)[i]=Nd.z ns[i]:=by simp
 refine⟨g,0,kv,rfl,?_,?_⟩
 ·rw[o];exact⟨c _ _ C,c _ _ D,c _ _ E,c _ _ F,c _ _ G,c _ _ I,c _ _ L,c _ _ M⟩
 rw[o];exact Et.of_row (q _ (List.getElem_mem d)) A
theorem lW {x y:Value}{l m:List Int}(w:World)(p:Et w x l)(r:Et w y m):Calls Tryz.prog 60 #[x,y] w fun e w'=>e= .returned (.bool (decide (l=m)))/\Below w.heap.size w w':=by
 obtain⟨u,a,c,rfl,d⟩:=p;obtain⟨v,A,o,rfl,f⟩:=r;by_cases hn:l.length=m.length
 ·by_cases h0:l.length=0
  ·obtain rfl:l=[]:=List.eq_nil_of_length_eq_zero h0;obtain rfl:m=[]:=List.eq_nil_of_length_eq_zero rF;refine(Tryz.slices_Equal_int_empty a A c 0 o w rF).mono ?_;rintro e w' ⟨rfl,rfl⟩;exact⟨by simp,Aq _ _⟩
  obtain⟨b,off,g,_⟩:=d 0 rF;obtain⟨C,i,k,_⟩:=f 0 rF;subst g;subst k;refine(Tryz.slices_Equal_int b off l.length c C i m.length o l m w (Ak _) (Ak _) rF rF (fun j h=>?_) (fun j h=>?_)).mono ?_
  ·obtain⟨D,E,e,n⟩:=d j h;injection e with e;injection e with g k;subst g;subst k;rw[n,List.getD_eq_getElem?_getD,Ag h];rfl
  ·obtain⟨D,E,e,n⟩:=f j h;injection e with e;injection e with g k;subst g;subst k;rw[n,List.getD_eq_getElem?_getD,Ag h];rfl
  rintro e w' ⟨rfl,q,rfl⟩;refine⟨?_,A8 (Aq _ _) q⟩;rw[List.take_length,List.take_length];congr 2;rw[Bool.eq_iff_iff];simp
 have hd:decide (l=m)=false:=An fun h=>hn (Ar List.length h)
 rw[hd];have F:(((l.length:Nat):Int) !=((m.length:Nat):Int))=true:=by simp;omega
 clear d f hd hn;go_enter Tryz.func60,Tryz.ntmps60;exact zy8
def Dx (x y:Nz):Bool:=decide (x.h.op=y.h.op) && (decide (x.h.v=y.h.v) && (decide (x.h.name=y.h.name) && decide (x.kids=y.kids)))
theorem Tv (x y:Nz):Dx x y=true↔x.h.bare=y.h.bare/\x.kids=y.kids:=by
 obtain⟨⟨c,d,e,f,g⟩,i⟩:=x;obtain⟨⟨j,k,m,n,o⟩,p⟩:=y;simp [Dx,Hd.bare,and_assoc]
def Dl:List Nz->List Nz->Bool
 |[],[]=>true
 |x::l,y::m=>Dx x y && Dl l m
 |_,_=>false
def Nz.bare (n:Nz):Nz:=⟨n.h.bare,n.kids⟩
theorem Nf:∀(l m:List Nz),Dl l m=true↔l.map Nz.bare=m.map Nz.bare
 |[],[]=>by simp [Dl]
 |[],_::_=>by simp [Dl]
 |_::_,[]=>by simp [Dl]
 |x::l,y::m=>by
  simp only[Dl,Bool.and_eq_true,Tv,Nf l m,List.map_cons,List.cons.injEq,Nz.bare,Nz.mk.injEq]
theorem U0 (u x:Hd)(A C:Value)(D E:List Int)(w:World)(F:Et w A D)(G:Et w C E):
 Calls Tryz.prog 59 #[.agg #[.int .u8 u.op,.int .u8 u.v.1,.int .i64 u.v.2.1,.string ⟨u.v.2.2.toArray⟩,.string ⟨u.name.toArray⟩,A,.int .i64 u.line,.int .i64 u.col],.agg #[.int .u8 x.op,.int .u8 x.v.1,.int .i64 x.v.2.1,.string ⟨x.v.2.2.toArray⟩,.string ⟨x.name.toArray⟩,C,.int .i64 x.line,.int .i64 x.col]] w
  fun e w'=>e= .returned (.bool (Dx ⟨u,D⟩ ⟨x,E⟩))/\Below w.heap.size w w':=by
 obtain⟨c,⟨d,g,h⟩,i,m,n⟩:=u;obtain⟨I,⟨y,r,o⟩,j,p,q⟩:=x;by_cases e0:c=I
 ·subst e0;by_cases e1:d=y
  ·subst e1;by_cases e2:g=r
   ·subst e2;by_cases e3:h=o
    ·subst e3;by_cases e4:i=j
     ·subst e4;have M:Below w.heap.size w ((w.alloc (.cells #[.int .u8 c,.int .u8 d,.int .i64 g,.string ⟨h.toArray⟩,.string ⟨i.toArray⟩,A,.int .i64 m,.int .i64 n] 43)).alloc (.cells #[.int .u8 c,.int .u8 d,.int .i64 g,.string ⟨h.toArray⟩,.string ⟨i.toArray⟩,C,.int .i64 p,.int .i64 q] 43)):=((Aq _ w).alloc (Ak _) _).alloc rI _;have R:=lW _ (F.below M) (G.below M);have T:=Ax R;have N:=Ax M;clear F G R M;go_enter Tryz.func59,Tryz.ntmps59;go_wp2_with fail;refine T.out.mono ?_;rintro e V ⟨rfl,L⟩;have O:=Ax (N.out.trans (L.mono N.out.size));clear L T N;go_wp2_with fail;go_ret;exact⟨by simp [Dx],O.out⟩
     have f:(i==j)=false:=by simpa using e4
     have k:Dx ⟨⟨c,(d,g,h),i,m,n⟩,D⟩ ⟨⟨c,(d,g,h),j,p,q⟩,E⟩=false:=by simp [Dx,e4]
     rw[k];clear k F G e4;exact zyl
    have f:(h==o)=false:=by simpa using e3
    have k:Dx ⟨⟨c,(d,g,h),i,m,n⟩,D⟩ ⟨⟨c,(d,g,o),j,p,q⟩,E⟩=false:=by simp [Dx,e3]
    rw[k];clear k F G e3;exact zyl
   have f:(g==r)=false:=by simpa using e2
   have k:Dx ⟨⟨c,(d,g,h),i,m,n⟩,D⟩ ⟨⟨c,(d,r,o),j,p,q⟩,E⟩=false:=by simp [Dx,e2]
   rw[k];clear k F G e2;exact zyl
  have f:(d==y)=false:=by simpa using e1
  have k:Dx ⟨⟨c,(d,g,h),i,m,n⟩,D⟩ ⟨⟨c,(y,r,o),j,p,q⟩,E⟩=false:=by simp [Dx,e1]
  rw[k];clear k F G e1;exact zyl
 have f:(c==I)=false:=by simpa using e0
 have k:Dx ⟨⟨c,(d,g,h),i,m,n⟩,D⟩ ⟨⟨I,(y,r,o),j,p,q⟩,E⟩=false:=by simp [Dx,e0]
 rw[k];clear k F G e0;exact zyl
theorem iR {v1 v2:Value}{l m:List Nz}(w:World)(hx:TrZ w v1 l)(hy:TrZ w v2 m):Calls Tryz.prog 23 #[v1,v2] w fun e w'=>e= .returned (.bool (Dl l m))/\Below w.heap.size w w':=by
 have R:Calls Tryz.prog 58 #[v1,v2,.func (.func 59) #[] #[]] w fun e w'=>e= .returned (.bool (Dl l m))/\Below w.heap.size w w':=by
  have j9:=hx.1;have k8:=hy.1;have HX:=Ax hx;have HY:=Ax hy;obtain⟨_,a,c,rfl,_⟩:=hx;obtain⟨_,a',c',rfl,_⟩:=hy;by_cases hn:l.length=m.length
  ·rw[←hn];have HN:=Ax hn;have l7:l.length<=m.length:=by omega
   clear hn;go_enter Tryz.func58,Tryz.ntmps58;go_wp2_with fail
   go_loopw [17] (fun vi wr=>∃j:Nat,j<=l.length/\vi= .int .i64 j/\Hid (Dl (l.drop j) (m.drop j)=Dl l m)/\Hid (Below w.heap.size w wr)) (fun vi _=>l.length - (intOf vi).toNat)
   case atStart=>exact⟨0,Nat.zero_le _,rfl,rfl,Aq _ _⟩
   obtain⟨j,hj,rfl,hq,n⟩:=hrel;by_cases hjl:j<l.length
   ·have T:j<m.length:=by omega
    have d8:=HX.out.below n.out;have f7:=HY.out.below n.out;obtain⟨_,ax,cx,ex,U⟩:=d8;obtain⟨_,ay,cy,ey,W⟩:=f7;injection ex with ex1 _ ex2;injection ey with ey1 _ ey2;subst ex1 ex2 ey1 ey2;obtain⟨bx,ox,kx,rfl,o,g⟩:=U j hjl;obtain⟨f8,oy,ky,rfl,p,i⟩:=W j T
    have d:(Dx l[j] m[j] && Dl (l.drop (j+1)) (m.drop (j+1)))=Dl l m:=by
     rw[←hq.out,List.drop_eq_getElem_cons hjl,List.drop_eq_getElem_cons T];rfl
    obtain⟨⟨f9,X⟩,e1⟩:∃z,l[j]=z:=⟨_,rfl⟩;obtain⟨⟨i6,Y⟩,e2⟩:∃z,m[j]=z:=⟨_,rfl⟩;rw[e1] at o g d;rw[e2] at p i d;simp only at o g p i;obtain⟨q,⟨r,u,v⟩,x,y,A⟩:=f9;obtain⟨C,⟨D,E,F⟩,G,I,L⟩:=i6;obtain⟨N,O,rfl⟩:∃N O,kx= .slice N X.length O:=⟨_,_,g.2.choose_spec.choose_spec.1⟩;obtain⟨Z,a8,rfl⟩:∃N O,ky= .slice N Y.length O:=⟨_,_,i.2.choose_spec.choose_spec.1⟩;obtain⟨x0,x1,x2,x3,x4,x5,x6,x7⟩:=o;obtain⟨y0,y1,y2,y3,y4,y5,y6,y7⟩:=p;simp only at x0 x1 x2 x3 x4 x5 x6 x7 y0 y1 y2 y3 y4 y5 y6 y7;have f:Below wr.heap.size wr ((wr.alloc (.cells #[.int .u8 q,.int .u8 r,.int .i64 u,.string ⟨v.toArray⟩,.string ⟨x.toArray⟩,.slice N X.length O,.int .i64 y,.int .i64 A] 43)).alloc (.cells #[.int .u8 C,.int .u8 D,.int .i64 E,.string ⟨F.toArray⟩,.string ⟨G.toArray⟩,.slice Z Y.length a8,.int .i64 I,.int .i64 L] 43)):=((Aq _ wr).alloc (Ak _) _).alloc rI _;have hc:=U0 ⟨q,(r,u,v),x,y,A⟩ ⟨C,(D,E,F),G,I,L⟩ (.slice N X.length O) (.slice Z Y.length a8) X Y _ (g.below f) (i.below f);simp only at hc;have HC:=Ax hc;have k:=Ax d;have M:=Ax (n.out.trans (f.mono n.out.size));have i7:bx<wr.heap.size:=Bn x0;have j8:f8<wr.heap.size:=Bn y0;have i1:(0:Int)<=(j:Int):=by omega
    have i2:(j:Int)<(l.length:Int):=by omega
    have i3:(j:Int)<(m.length:Int):=by omega
    clear n f hc d hq g i U W e1 e2;go_wp2_with fail;refine HC.out.mono ?_;rintro e V ⟨rfl,b7⟩;have b8:=Ax (M.out.trans (b7.mono M.out.size));have d:=k.out;clear b7 HC M k x0 x1 x2 x3 x4 x5 x6 x7 y0 y1 y2 y3 y4 y5 y6 y7 i7 j8;cases hz:Dx ⟨⟨q,(r,u,v),x,y,A⟩,X⟩ ⟨⟨C,(D,E,F),G,I,L⟩,Y⟩ with
    |true=>
     rw[hz,Bool.true_and] at d;have k:=Ax d;clear d hz;go_wp2_with fail;go_roundw
     case rel=>exact⟨j+1,by omega,by go_num,k,b8⟩
     case measure=>simp [intOf];omega
    |false=>
     rw[hz,Bool.false_and] at d;have k:=Ax d;clear d hz;go_wp2_with fail;go_ret;exact⟨by rw[←k.out];rfl,b8.out⟩
   obtain rfl:j=l.length:=by omega
   have d:=hq.out;rw[List.drop_length,HN.out,List.drop_length] at d;have k:=Ax d;have M:=Ax n.out;clear hq n d;go_wp2_with fail;go_ret;exact⟨by rw[←k.out];rfl,M.out⟩
  have d:Dl l m=false:=by
   cases h:Dl l m with
   |false=>rfl
   |true=>exact absurd (by simpa using Ar List.length ((Nf l m).1 h)) hn
  rw[d];have h1:(((l.length:Nat):Int) !=((m.length:Nat):Int))=true:=by simp;omega
  clear hn d HX HY;go_enter Tryz.func58,Tryz.ntmps58;exact zy8
 have HE:=Ax R;obtain⟨_,a,c,rfl,_⟩:=hx;obtain⟨_,a',c',rfl,_⟩:=hy;clear R;go_enter Tryz.func23,Tryz.ntmps23;go_wp2_with fail;refine HE.out.mono ?_;rintro e V ⟨rfl,f⟩;have M:=Ax f;clear f HE;go_wp2_with fail;go_ret;exact⟨rfl,M.out⟩
open Go Go.RowKit Go.Lib Go.Sort Go.Shelf
theorem qS {s:ByteArray}{a:Ex}(w:World)(c:s.size<=65536)(d:Rd w)(h:B9 (dl s)= .ok a):Calls Tryz.prog 20 #[.string s] w fun e w'=>∃v,e= .returned (.tuple #[v,.agg #[.int .i64 0,.int .i64 0],.int .i64 0])/\Hh w' w.heap.size [] v (a.flat 0)/\Below w.heap.size w w':=by
 refine(Ub s w c d).mono ?_;exact zwn
theorem qG {s:ByteArray}{x y q:Int}(w:World)(d:s.size<=65536)(f:Rd w)(h:B9 (dl s)= .error ((x,y),q)):Calls Tryz.prog 20 #[.string s] w fun e w'=>e= .returned (.tuple #[.slice none 0 0,.agg #[.int .i64 x,.int .i64 y],.int .i64 q])/\Below w.heap.size w w':=by
 refine(Ub s w d f).mono ?_;rintro e w' ⟨g,c⟩;rw[h] at c;exact⟨c,g⟩
open Go Go.RowKit Go.Lib
def Ii (w:World)(v:Value)(l:List Int):Prop:=l.length<=1000000/\∃a c,v= .slice a l.length c/\∀i (h:i<l.length),∃b off,a=some ⟨b,off,none⟩/\w.cell? ⟨b,off+i,none⟩=some (.int .u8 l[i])
theorem Ii.below {w w':World}{x:Value}{l:List Int}(h:Ii w x l)(hb:Below w.heap.size w w'):Ii w' x l:=by
 exact zxp
def Ed (k:Int):List Int->Int
 |[]=>k
 |x::l=>if 2<x then 255 else Ed (max k x) l
def Fo (c:Int)(l:List Int):Bool:=l.all fun k=>k==c||k==0
def Ig (a b:Int):Bool:=a==0||b==0||a==b||(decide (a<=2) && decide (b<=2))
theorem K9 {v:Value}{l:List Int}(w:World)(h:Ii w v l):Calls Tryz.prog 105 #[v] w fun e w'=>e= .returned (.int .u8 (Ed 0 l))/\Below w.heap.size w w':=by
 have o:=h.1;obtain⟨_,a,c,rfl,j⟩:=h;have p:=Ax j;clear j;go_enter Tryz.func105,Tryz.ntmps105;go_wp2_with fail
 go_loopw [3,8] (fun v3 v8 wr=>∃(i:Nat) (k:Int),i<=l.length/\v8= .int .i64 i/\v3= .int .u8 k/\Hid (Below w.heap.size w wr/\Ed 0 l=Ed k (l.drop i))) (fun _ v8 _=>l.length - (intOf v8).toNat)
 case atStart=>exact⟨0,0,Nat.zero_le _,rfl,rfl,Aq _ w,rfl⟩
 obtain⟨i,k,y,rfl,rfl,f⟩:=hrel;by_cases hil:i<l.length
 ·obtain⟨b,off,rfl,d⟩:=p.out i hil;have d:=A4 f.out.1 d;have hd:=List.drop_eq_getElem_cons hil;obtain⟨x,m⟩:∃x,l[i]=x:=⟨_,rfl⟩;rw[m] at d hd;have A:(0:Int)<=(i:Int):=by omega
  have q:(i:Int)<(l.length:Int):=by omega
  have r:decide ((i:Int)<(l.length:Int))=true:=Am q;have g:=Ax f.out;have n:=Ax hd;clear f hd m;by_cases h2:2<x
  ·have u:decide (2<x)=true:=Am h2;have HZ:=Ax (show Ed 0 l=255 by rw[g.out.2,n.out,Ed,Ap h2]);clear h2;go_wp2_with fail;go_ret;exact⟨by rw[HZ.out];rfl,g.out.1⟩
  have u:decide (2<x)=false:=An h2;have HZ:=Ax (show Ed 0 l=Ed (max k x) (l.drop (i+1)) by rw[g.out.2,n.out,Ed,Ao h2]);clear h2;go_wp2_with fail;go_roundw
  case rel=>exact⟨i+1,_,by omega,by go_num,rfl,g.out.1,HZ.out⟩
  case measure=>simp [intOf];omega
 obtain rfl:i=l.length:=by omega
 have r:decide ((l.length:Int)<(l.length:Int))=false:=by simp
 have HZ:=Ax (show Ed 0 l=k by rw[f.out.2,List.drop_length,Ed]);have HB:=Ax f.out.1;clear f;exact zww
open Go Go.RowKit Go.Lib
theorem fQ (k c:Int)(w:World):Calls Tryz.prog 110 #[.int .u8 k,.int .u8 c] w fun e w'=>e= .returned (.bool (k==c||k==0))/\Below w.heap.size w w':=by
 obtain⟨a,d⟩:∃a,(k==c)=a:=⟨_,rfl⟩;rw[d];cases a
 all_goals
  go_enter Tryz.func110,Tryz.ntmps110;exact zy8
theorem Sx (k:Int)(w:World):Calls Tryz.prog 109 #[.int .u8 k] w fun e w'=>e= .returned (.bool (decide (k<=2)))/\Below w.heap.size w w':=by
 go_enter Tryz.func109,Tryz.ntmps109;exact zy8
theorem lL {v:Value}{l:List Int}(c:Int)(w:World)(h:Ii w v l):Calls Tryz.prog 107 #[v,.int .u8 c] w fun e w'=>e= .returned (.bool (Fo c l))/\Below w.heap.size w w':=by
 have y:=h.1;obtain⟨_,a,E,rfl,o⟩:=h;have A:=Ax o;clear o;go_enter Tryz.func107,Tryz.ntmps107;go_wp2_with fail
 go_loopw [5] (fun v5 wr=>∃(i:Nat),i<=l.length/\v5= .int .i64 i/\Hid (Below w.heap.size w wr/\Fo c l=Fo c (l.drop i))) (fun v5 _=>l.length - (intOf v5).toNat)
 case atStart=>exact⟨0,Nat.zero_le _,rfl,Aq _ w,rfl⟩
 obtain⟨j,rfl⟩:∃j:World,j=wr:=⟨_,rfl⟩;obtain⟨i,F,rfl,f⟩:=hrel;by_cases hil:i<l.length
 ·obtain⟨b,off,rfl,d⟩:=A.out i hil;have d:=A4 f.out.1 d;have hd:=List.drop_eq_getElem_cons hil;obtain⟨x,p⟩:∃x,l[i]=x:=⟨_,rfl⟩;rw[p] at d hd;have G:(0:Int)<=(i:Int):=by omega
  have C:(i:Int)<(l.length:Int):=by omega
  have D:decide ((i:Int)<(l.length:Int))=true:=Am C;have k:=fQ x c j;have m:Fo c l=((x==c||x==0) && Fo c (l.drop (i+1))):=by rw[f.out.2,hd];rfl
  obtain⟨g,q⟩:∃g,(x==c||x==0)=g:=⟨_,rfl⟩;rw[q] at k m;have n:=Ax f.out.1;have HZ:=Ax m;have r:=Ax k;clear f hd p m k q;go_wp2_with fail;refine r.out.mono ?_;rintro e V ⟨rfl,u⟩;have HB:=Ax (n.out.trans (u.mono n.out.size));clear u r n d;cases g
  ·exact zww
  exact zv5
 obtain rfl:i=l.length:=by omega
 have D:decide ((l.length:Int)<(l.length:Int))=false:=by simp
 have HZ:=Ax (show Fo c l=true by rw[f.out.2,List.drop_length];rfl);have HB:=Ax f.out.1;clear f;exact zww
def dF (l:List Int):Value:=if l.all (fun k=>decide (k<=2)) then .tuple #[.int .u8 (Ed 0 l),.bool true] else .tuple #[.int .u8 0,.bool false]
open Go Go.RowKit Go.Lib
theorem lG {l:List Int}{i:Nat}(h:i<l.length)(c:2<l[i]):(l.all fun k=>decide (k<=2))=false:=by
 rw[List.all_eq_false];exact⟨l[i],List.getElem_mem h,by simpa using c⟩
theorem kB {v:Value}{l:List Int}(w:World)(h:Ii w v l)(C:∀x∈l,0<=x):Calls Tryz.prog 111 #[v] w fun e w'=>e= .returned (dF l)/\Below w.heap.size w w':=by
 have F:=h.1;obtain⟨_,a,U,rfl,D⟩:=h;have G:=Ax D;have W:=Ax C;clear D C;go_enter Tryz.func111,Tryz.ntmps111;go_wp2_with fail
 go_loopw [4,5] (fun v4 v5 wr=>∃(i:Nat) (k:Int),i<=l.length/\v5= .int .i64 i/\v4= .int .u8 k/\Hid (Below w.heap.size w wr/\Ed 0 l=Ed k (l.drop i)/\∀j (h:j<l.length),j<i->l[j]<=2)) (fun _ v5 _=>l.length - (intOf v5).toNat)
 case atStart=>exact⟨0,0,Nat.zero_le _,rfl,rfl,Aq _ w,rfl,fun j _ h=>absurd h (Nat.not_lt_zero _)⟩
 obtain⟨E,rfl⟩:∃E:World,E=wr:=⟨_,rfl⟩;obtain⟨i,k,X,rfl,rfl,g⟩:=hrel;by_cases hil:i<l.length
 ·obtain⟨b,off,rfl,c⟩:=G.out i hil;have c:=A4 g.out.1 c;have hd:=List.drop_eq_getElem_cons hil;have d:=fun h=>lG hil h
  have f:l[i]<=2->∀j (h:j<l.length),j<i+1->l[j]<=2:=fun I j A L=>by
   by_cases e:j=i
   ·subst e;exact I
   exact g.out.2.2 j A rF
  obtain⟨x,q⟩:∃x,l[i]=x:=⟨_,rfl⟩;rw[q] at c hd d f;have Y:(0:Int)<=(i:Int):=by omega
  have M:(i:Int)<(l.length:Int):=by omega
  have N:decide ((i:Int)<(l.length:Int))=true:=Am M;have o:=fun V=>Ax (Sx x V)
  have n:=Ax g.out;have O:=Ax hd;have Z:=Ax f;have R:=Ax c;by_cases h2:2<x
  ·have HZ:=Ax (show dF l= .tuple #[.int .u8 0,.bool false] by unfold dF;rw[d h2];rfl);have r:decide (x<=2)=false:=An rF;rw[r] at o;clear g hd q d f h2 r;go_wp2_with fail;refine(o _).out.mono ?_;rintro e V ⟨rfl,p⟩;have HB:=Ax (n.out.1.trans (p.mono n.out.1.size));clear p o n c;exact zy6
  have HZ:=Ax (show Ed 0 l=Ed (max k x) (l.drop (i+1)) by rw[n.out.2.1,O.out,Ed,Ao h2]);have r:decide (x<=2)=true:=Am rF;rw[r] at o;have u:=Ax (f rF);clear g hd q d f h2 r;go_wp2_with fail;refine(o _).out.mono ?_;rintro e V ⟨rfl,p⟩;have HB:=Ax (n.out.1.trans (p.mono n.out.1.size));have c:=A4 p R.out;clear p o n;by_cases hkx:k<x
  ·have T:decide (k<x)=true:=Am hkx;have y:max k x=x:=by omega
   rw[y] at HZ;clear y hkx;go_wp2_with fail;go_roundw
   case rel=>exact⟨i+1,x,by omega,by go_num,rfl,HB.out,HZ.out,u.out⟩
   case measure=>simp [intOf];omega
  have T:decide (k<x)=false:=An hkx;have y:max k x=k:=by omega
  rw[y] at HZ;clear y hkx;go_wp2_with fail;go_roundw
  case rel=>exact⟨i+1,k,by omega,by go_num,rfl,HB.out,HZ.out,u.out⟩
  case measure=>simp [intOf];omega
 obtain rfl:i=l.length:=by omega
 have N:decide ((l.length:Int)<(l.length:Int))=false:=by simp
 have m:(l.all fun k=>decide (k<=2))=true:=by
  rw[List.all_eq_true];intro x q;obtain⟨j,A,rfl⟩:=List.getElem_of_mem q;exact Am (g.out.2.2 j A A)
 have HZ:=Ax (show dF l= .tuple #[.int .u8 k,.bool true] by
  unfold dF
  rw[m,Ap rfl,g.out.2.1,List.drop_length,Ed])
 have HB:=Ax g.out.1;clear g m;exact zy6
def So (w:World)(v:Value)(l:List (List UInt8×Int)):Prop:=l.length<=1000000/\∃a c,v= .slice a l.length c/\∀i (h:i<l.length),∃b off,a=some ⟨b,off,none⟩/\w.cell? ⟨b,off+i*2,none⟩=some (.string ⟨l[i].1.toArray⟩)/\w.cell? ⟨b,off+i*2+1,none⟩=some (.int .u8 l[i].2)
theorem So.below {w w':World}{x:Value}{l:List (List UInt8×Int)}(h:So w x l)(d:Below w.heap.size w w'):So w' x l:=by
 obtain⟨f,a,c,g,j⟩:=h;refine⟨f,a,c,g,fun i k=>?_⟩;obtain⟨b,off,e,m,hd⟩:=j i k;exact⟨b,off,e,A4 d m,A4 d hd⟩
def Ez (n:List UInt8):List (List UInt8×Int)->Option Int
 |[]=>none
 |x::l=>if(x.1==n)=true then some x.2 else Ez n l
def lF:Option Int->Value
 |some k=> .tuple #[.int .u8 k,.bool true]
 |none=> .tuple #[.int .u8 0,.bool false]
theorem fD {v:Value}{l:List (List UInt8×Int)}(n:List UInt8)(w:World)(h:So w v l):Calls Tryz.prog 106 #[v,.string ⟨n.toArray⟩] w fun e w'=>e= .returned (lF (Ez n l))/\Below w.heap.size w w':=by
 have p:=h.1;obtain⟨_,a,A,rfl,k⟩:=h;have q:=Ax k;clear k;go_enter Tryz.func106,Tryz.ntmps106;go_wp2_with fail
 go_loopw [6] (fun v6 wr=>∃(i:Nat),i<=l.length/\v6= .int .i64 i/\Hid (Below w.heap.size w wr/\Ez n l=Ez n (l.drop i))) (fun v6 _=>l.length - (intOf v6).toNat)
 case atStart=>exact⟨0,Nat.zero_le _,rfl,Aq _ w,rfl⟩
 obtain⟨m,rfl⟩:∃m:World,m=wr:=⟨_,rfl⟩;obtain⟨i,C,rfl,c⟩:=hrel;by_cases hil:i<l.length
 ·obtain⟨b,off,rfl,d,f⟩:=q.out i hil;have d:=A4 c.out.1 d;have f:=A4 c.out.1 f;have hd:=List.drop_eq_getElem_cons hil;obtain⟨⟨o,r⟩,j⟩:∃x,l[i]=x:=⟨_,rfl⟩;rw[j] at d f hd;simp only at d f;have D:(0:Int)<=(i:Int):=by omega
  have u:(i:Int)<(l.length:Int):=by omega
  have y:decide ((i:Int)<(l.length:Int))=true:=Am u;have HB:=Ax c.out.1;by_cases g:(o==n)=true
  ·have HZ:=Ax (show Ez n l=some r by rw[c.out.2,hd,Ez,Ap g]);clear c hd j;exact zy6
  have HZ:=Ax (show Ez n l=Ez n (l.drop (i+1)) by rw[c.out.2,hd,Ez,Ao g]);have g:(o==n)=false:=by simpa using g
  clear c hd j;exact zv5
 obtain rfl:i=l.length:=by omega
 have y:decide ((l.length:Int)<(l.length:Int))=false:=by simp
 have HZ:=Ax (show Ez n l=none by rw[c.out.2,List.drop_length,Ez]);have HB:=Ax c.out.1;clear c;exact zy6
open Go Go.RowKit Go.Lib Go.MapKept
theorem Rk {w:World}{b:Nat}{x y:Value}{t:TypeId}(h:w.heap[b]? =some (.cells #[x,y] t (0,0))):w.cell? ⟨b,0,none⟩=some x/\w.cell? ⟨b,1,none⟩=some y/\∀i,w.frozen? ⟨b,i,none⟩=false:=
 ⟨by simp only[World.cell?,h];rfl,by simp only[World.cell?,h];rfl,fun i=>by simp only[World.frozen?,h];simp⟩
def Fd (op:Int):Option (Int×Int):=if op=4\/op=5\/op=6 then some (4,4) else if op=21 then some (1,1) else if op=22 then some (3,1) else if op=23 then some (3,3) else if op=24\/op=25 then some (3,4) else none
def ofV (c:Int×Int):Value:= .agg #[.int .u8 c.1,.int .u8 c.2]
def aA:List (Int×Value):=[(4,.agg #[.int .u8 4,.int .u8 4]),(5,.agg #[.int .u8 4,.int .u8 4]),(6,.agg #[.int .u8 4,.int .u8 4]),(21,.agg #[.int .u8 1,.int .u8 1]),(22,.agg #[.int .u8 3,.int .u8 1]),(23,.agg #[.int .u8 3,.int .u8 3]),(24,.agg #[.int .u8 3,.int .u8 4]),(25,.agg #[.int .u8 3,.int .u8 4])]
theorem X8 (op:Int):Xl aA op=(Fd op).map ofV:=by
 unfold aA Fd Xl;simp only[List.find?];by_cases h4:op=4
 ·subst h4;rfl
 by_cases h5:op=5
 ·subst h5;rfl
 by_cases h6:op=6
 ·subst h6;rfl
 by_cases h21:op=21
 ·subst h21;rfl
 by_cases h22:op=22
 ·subst h22;rfl
 by_cases h23:op=23
 ·subst h23;rfl
 by_cases h24:op=24
 ·subst h24;rfl
 by_cases h25:op=25
 ·subst h25;rfl
 have i:((4:Int)==op)=false:=Af.2 (fun e=>h4 e.symm);have j:((5:Int)==op)=false:=Af.2 (fun e=>h5 e.symm);have k:((6:Int)==op)=false:=Af.2 (fun e=>h6 e.symm);have c:((21:Int)==op)=false:=Af.2 (fun e=>h21 e.symm);have d:((22:Int)==op)=false:=Af.2 (fun e=>h22 e.symm);have f:((23:Int)==op)=false:=Af.2 (fun e=>h23 e.symm);have g:((24:Int)==op)=false:=Af.2 (fun e=>h24 e.symm);have h:((25:Int)==op)=false:=Af.2 (fun e=>h25 e.symm);rw[i,j,k,c,d,f,g,h];simp [h4,h5,h6,h21,h22,h23,h24,h25]
theorem pX (w:World):(zeroValue 149).run Tryz.prog w= .ok (.agg #[.int .u8 0,.int .u8 0]) w:=by kernel_rfl
theorem Ja (op:Int)(w:World):Calls Tryz.prog 101 #[.int .u8 op] w fun e w'=>e= .returned (.tuple #[ofV ((Fd op).getD (0,0)),.bool (Fd op).isSome])/\Below w.heap.size w w':=by
 obtain⟨d,f⟩:∃d,w.alloc (.cells #[.int .u8 0,.int .u8 0] 149)=d:=⟨_,rfl⟩;have j:Below w.heap.size w d:=by rw[←f];exact(Aq w.heap.size w).alloc (Ak _) _
 have h:=Az w (.cells #[.int .u8 0,.int .u8 0] 149);have x:d.heap.size=w.heap.size+1:=by rw[←f];simp
 rw[f] at h;have y:=Je.new (K:= .u8) d;have r:Below d.heap.size d (d.alloc (.map #[] 0)):=(Aq _ _).alloc (Ak _) _;have k:(d.alloc (.map #[] 0)).heap.size=d.heap.size+1:=by simp
 obtain⟨A,m⟩:∃A,d.alloc (.map #[] 0)=A:=⟨_,rfl⟩;rw[m,x] at y;rw[m] at r k;obtain⟨M1,e1,E,F,z1⟩:=Cf (P:=Tryz.prog) (t:=201) Tryz.underlying201 Tryz.underlying5 y 4 (.agg #[.int .u8 4,.int .u8 4]);obtain⟨M2,e2,G,I,z2⟩:=Cf (P:=Tryz.prog) (t:=201) Tryz.underlying201 Tryz.underlying5 E 5 (.agg #[.int .u8 4,.int .u8 4]);obtain⟨M3,e3,L,M,z3⟩:=Cf (P:=Tryz.prog) (t:=201) Tryz.underlying201 Tryz.underlying5 G 6 (.agg #[.int .u8 4,.int .u8 4]);obtain⟨M4,e4,N,O,z4⟩:=Cf (P:=Tryz.prog) (t:=201) Tryz.underlying201 Tryz.underlying5 L 21 (.agg #[.int .u8 1,.int .u8 1]);obtain⟨M5,e5,R,T,z5⟩:=Cf (P:=Tryz.prog) (t:=201) Tryz.underlying201 Tryz.underlying5 N 22 (.agg #[.int .u8 3,.int .u8 1]);obtain⟨M6,e6,U,V,z6⟩:=Cf (P:=Tryz.prog) (t:=201) Tryz.underlying201 Tryz.underlying5 R 23 (.agg #[.int .u8 3,.int .u8 3]);obtain⟨M7,e7,W,X,z7⟩:=Cf (P:=Tryz.prog) (t:=201) Tryz.underlying201 Tryz.underlying5 U 24 (.agg #[.int .u8 3,.int .u8 4]);obtain⟨u,e8,Y,Z,z8⟩:=Cf (P:=Tryz.prog) (t:=201) Tryz.underlying201 Tryz.underlying5 W 25 (.agg #[.int .u8 3,.int .u8 4]);have c:=Rn (P:=Tryz.prog) (t:=201) Tryz.underlying201 Tryz.underlying5 Y (pX u) op;rw[show put (put (put (put (put (put (put (put (([]:List (Int×Value))) 4 (.agg #[.int .u8 4,.int .u8 4])) 5 (.agg #[.int .u8 4,.int .u8 4])) 6 (.agg #[.int .u8 4,.int .u8 4])) 21 (.agg #[.int .u8 1,.int .u8 1])) 22 (.agg #[.int .u8 3,.int .u8 1])) 23 (.agg #[.int .u8 3,.int .u8 3])) 24 (.agg #[.int .u8 3,.int .u8 4])) 25 (.agg #[.int .u8 3,.int .u8 4])=aA from rfl,X8] at c;have C:Bb [w.heap.size+1] A u:=(((((((F.trans I).trans M).trans O).trans T).trans V).trans X).trans Z);have n:Below w.heap.size w u:=Bq (j.trans (r.mono rF)) C rI rF;have i:u.heap[w.heap.size]? =some (.cells #[.int .u8 0,.int .u8 0] 149 (0,0)):=(C.block _ rF rI).trans ((r.block _ rF).trans h);have o:=Ax f;have p:=Ax n;have q:=Ax i;have g:=Ax c;have a8:=Ay i;have b7:= @run_makeMap Tryz.prog;clear f j h r k y E F z1 G I z2 L M z3 N O z4 R T z5 U V z6 W X z7 Y Z z8 C n i c;go_enter Tryz.func101,Tryz.ntmps101;go_upto_region 1 with fail
 rw[o.out];clear o;cases hl:Fd op with
 |none=>
  have c:=g.out;rw[hl] at c;simp only[Option.map_none,Gd] at c;obtain⟨f0,f1,f2⟩:=Rk q.out;have D:=Ax hl;clear hl g;go_wp2_with fail;refine Au (v:= .tuple #[.agg #[.int .u8 0,.int .u8 0],.bool false]) (by simp [results,Tryz.results101,go_sem, *]) rfl ?_;refine⟨by rw[D.out];rfl,?_⟩;exact((p.out.setCell (Ak _) _).setCell (Ak _) _).alloc rM _
 |some v=>
  have c:=g.out;rw[hl] at c;simp only[Option.map_some,Gd] at c;obtain⟨va,vb⟩:=v;simp only[ofV] at c;obtain⟨f0,f1,f2⟩:=Rk q.out;have D:=Ax hl;clear hl g;go_wp2_with fail;refine Au (v:= .tuple #[.agg #[.int .u8 va,.int .u8 vb],.bool true]) (by simp [results,Tryz.results101,go_sem, *]) rfl ?_;refine⟨by rw[D.out];rfl,?_⟩;exact((p.out.setCell (Ak _) _).setCell (Ak _) _).alloc rM _
theorem Ki (b:Bool)(k:Int)(w:World):Calls Tryz.prog 102 #[.bool b,.int .u8 k] w fun e w'=>e= .returned (.int .u8 (if b then k else 255))/\Below w.heap.size w w':=by
 cases b
 all_goals
  go_enter Tryz.func102,Tryz.ntmps102;exact zy8
open Go Go.RowKit Go.Lib
def Me {α:Type}(l:List α)(p:α->Bool):Int:=match l.findIdx? p with|some i=>i|none=> -1
theorem Qu {α:Type}{l:List α}{p:α->Bool}{k:Nat}(c:k<l.length)(d:∀j (h:j<l.length),j<k->p l[j]=false)(e:p l[k]=true):Me l p=k:=by
 unfold Me;rw[(List.findIdx?_eq_some_iff_getElem (p:=p) (i:=k)).2 ⟨c,e,fun j f=>by simpa using d j rF f⟩]
theorem Pf {α:Type}{l:List α}{p:α->Bool}(c:∀j (h:j<l.length),p l[j]=false):Me l p= -1:=by
 unfold Me;rw[List.findIdx?_eq_none_iff.2 (fun e d=>by obtain⟨j,f,rfl⟩:=List.getElem_of_mem d;exact c j f)]
theorem Xc {α:Type}(l:List α)(p:α->Bool):decide (0<=Me l p)=l.any p:=by
 unfold Me;cases h:l.findIdx? p with
 |none=>
  rw[List.findIdx?_eq_none_iff] at h
  have:l.any p=false:=List.any_eq_false.2 fun x c=>by simpa using h x c
  rw[this];rfl
 |some i=>
  obtain⟨d,e,_⟩:=List.findIdx?_eq_some_iff_getElem.1 h
  have:l.any p=true:=List.any_eq_true.2 ⟨l[i],List.getElem_mem d,e⟩
  rw[this];exact Am (by show(0:Int)<=(i:Int);omega)
def qP (l:List Int)(w:World)(fn:Nat)(c:Array Value)(p:Int->Bool):Prop:=
 ∀(t:Int) (V:World),t∈l->Below w.heap.size w V->Calls Tryz.prog fn (#[.int .u8 t]++c) V fun r d=>r= .returned (.bool (p t))/\Below V.heap.size V d
theorem Y6 (fn:Nat)(d:Array Value)(p:Int->Bool)(x:∀args w,(callFunc fn args).run Tryz.prog w= .ok (.enter fn args) w){v:Value}(l:List Int)(w:World)(h:Ii w v l)(f:qP l w fn d p):
 Calls Tryz.prog 220 #[v,.func (.func fn) #[] d] w fun r w'=>r= .returned (.int .i64 (Me l p))/\Below w.heap.size w w':=by
 have n:=h.1;obtain⟨_,a,c,rfl,e⟩:=h;have o:=Ax e;have HA:=Ax f;clear e f;go_enter Tryz.func220,Tryz.ntmps220
 go_wp2
 go_loopw [8] (fun u wr=>∃k:Nat,k<=l.length/\u= .int .i64 k/\Hid (∀j (h:j<l.length),j<k->p l[j]=false)/\Hid (Below w.heap.size w wr)) (fun i _=>l.length - (intOf i).toNat)
 case atStart=>exact⟨0,Nat.zero_le _,rfl,fun j h hj=>absurd hj rF,Aq _ _⟩
 obtain⟨wo,rfl⟩:∃wo:World,wo=wr:=⟨_,rfl⟩;obtain⟨k,y,rfl,hq,hb⟩:=hrel;by_cases hlk:k<l.length
 ·obtain⟨g,off,rfl,m⟩:=o.out k hlk;have m:=A4 hb.out m;exact zy3
 obtain rfl:k=l.length:=by omega
 go_wp2
 go_ret;exact⟨by rw[Pf (fun j h=>hq.out j h h)];rfl,hb.out⟩
theorem S4 (fn:Nat)(d:Array Value)(p:Int->Bool)(m:∀args w,(callFunc fn args).run Tryz.prog w= .ok (.enter fn args) w){v:Value}(l:List Int)(w:World)(h:Ii w v l)(e:qP l w fn d p):
 Calls Tryz.prog 175 #[v,.func (.func fn) #[] d] w fun r w'=>r= .returned (.bool (l.any p))/\Below w.heap.size w w':=by
 have f:=Ax (Y6 fn d p m l w h e);have g:=Ax (Xc l p);obtain⟨_,a,c,rfl,_⟩:=h;clear e;obtain⟨i,j⟩:∃i,Me l p=i:=⟨_,rfl⟩;rw[j] at f g;clear j;go_enter Tryz.func175,Tryz.ntmps175;go_wp2_with fail;refine f.out.mono ?_;rintro r V ⟨rfl,k⟩;have n:=Ax k;clear k
 go_wp2
 go_ret;exact⟨by rw[←g.out];rfl,n.out⟩
def rC (l:List (List UInt8×Int))(w:World)(fn:Nat)(c:Array Value)(p:(List UInt8×Int)->Bool):Prop:=
 ∀(t:(List UInt8×Int)) (V:World),t∈l->Below w.heap.size w V->Calls Tryz.prog fn (#[.agg #[.string ⟨t.1.toArray⟩,.int .u8 t.2]]++c) V fun r d=>r= .returned (.bool (p t))/\Below V.heap.size V d
theorem aZ (fn:Nat)(d:Array Value)(p:(List UInt8×Int)->Bool)(y:∀args w,(callFunc fn args).run Tryz.prog w= .ok (.enter fn args) w){v:Value}(l:List (List UInt8×Int))(w:World)(h:So w v l)(f:rC l w fn d p):
 Calls Tryz.prog 99 #[v,.func (.func fn) #[] d] w fun r w'=>r= .returned (.int .i64 (Me l p))/\Below w.heap.size w w':=by
 have o:=h.1;obtain⟨_,a,c,rfl,e⟩:=h;have u:=Ax e;have HA:=Ax f;clear e f;go_enter Tryz.func99,Tryz.ntmps99
 go_wp2
 go_loopw [8] (fun x wr=>∃k:Nat,k<=l.length/\x= .int .i64 k/\Hid (∀j (h:j<l.length),j<k->p l[j]=false)/\Hid (Below w.heap.size w wr)) (fun i _=>l.length - (intOf i).toNat)
 case atStart=>exact⟨0,Nat.zero_le _,rfl,fun j h hj=>absurd hj rF,Aq _ _⟩
 obtain⟨wo,rfl⟩:∃wo:World,wo=wr:=⟨_,rfl⟩;obtain⟨k,A,rfl,hq,hb⟩:=hrel;by_cases hlk:k<l.length
 ·obtain⟨g,off,rfl,m,n⟩:=u.out k hlk;have m:=A4 hb.out m;have n:=A4 hb.out n;exact zy3
 obtain rfl:k=l.length:=by omega
 go_wp2
 go_ret;exact⟨by rw[Pf (fun j h=>hq.out j h h)];rfl,hb.out⟩
end Go.Proofs.YtgfakdobajgnfaaGreatDoor
