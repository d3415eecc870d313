import Derived.BigQuiet
import Derived.Test.YtgfakdobajgnfaaGreatDoorQn10
set_option maxRecDepth 100000
set_option maxHeartbeats 16000000
namespace Go.Proofs.YtgfakdobajgnfaaGreatDoor
open Go Go.RowKit Go.Lib Go.Sort Go.Shelf
theorem mL {s:ByteArray}(w:World)(hs:s.size<=65536)(hR:Rd w){ts:List Tkn}(h:Fb (dl s)= .ok ts):
 Calls Tryz.prog 52 #[.string s] w fun e w'=>∃v,e= .returned (.tuple #[v,.agg #[.int .i64 0,.int .i64 0],.int .i64 0])/\w'.ownsRow w.heap.size 94 7 v ts.length (Dw ts)/\Below w.heap.size w w':=by
 refine(Z0 s w hs hR).mono ?_;exact zw9
theorem mR {s:ByteArray}(w:World)(hs:s.size<=65536)(hR:Rd w){a b q:Int}(h:Fb (dl s)= .error (a,b,q)):
 Calls Tryz.prog 52 #[.string s] w fun e w'=>e= .returned (.tuple #[.slice none 0 0,.agg #[.int .i64 a,.int .i64 b],.int .i64 q])/\Below w.heap.size w w':=by
 refine(Z0 s w hs hR).mono ?_;rintro e w' ⟨hb,he⟩;rw[h] at he;exact⟨he,hb⟩
open Go Go.RowKit Go.Lib Go.Sort Go.Shelf
theorem Yi {w:World}{v:Value}{ts:List Tkn}(ht:G4 w v ts)(hc:∀t∈ts,0<=t.col/\t.col<=1000000/\t.w.t.length<=1000000)(hbig:ts.length<=1000000):
 Calls Tryz.prog 54 #[v] w fun e w'=>e= .returned (.agg #[.int .i64 (El ts).1,.int .i64 (El ts).2])/\Below w.heap.size w w':=by
 by_cases h0:ts=[]
 ·subst h0;obtain⟨va,vc,rfl⟩:=ht.form;simp only[List.length_nil];clear hc hbig ht;go_enter Tryz.func54,Tryz.ntmps54;go_wp2_with fail;refine Au (v:= .agg #[.int .i64 1,.int .i64 1]) oV rfl ?_;refine⟨rfl,?_⟩;exact(Aq _ w).alloc (Ak _) _
 obtain⟨m,hm⟩:∃m,ts.length=m+1:=⟨ts.length - 1,by have:=List.length_pos_iff.2 h0;omega⟩;have hml:m<ts.length:=by omega
 obtain⟨g,c,rfl,hg,t0,t1,t2,t3,t4,t5,t6⟩:=ht.at hml
 have hlast:ts.getLast? =some ts[m]:=by
  rw[List.getLast?_eq_getElem?,hm,Nat.add_sub_cancel,Ag hml]
 have hcc:=hc ts[m] (List.getElem_mem hml)
 have hbe:El ts=(ts[m].line,ts[m].col+ts[m].w.t.length+if ts[m].w.k=2\/ts[m].w.k=3\/ts[m].w.k=6 then 1 else if ts[m].w.k=5 then 2 else 0):=by
  unfold El;rw[hlast]
 rw[hbe];obtain⟨t,he⟩:∃t,ts[m]=t:=⟨_,rfl⟩;rw[he] at t0 t1 t2 t3 t4 t5 t6 hcc ⊢;obtain⟨⟨tk,tt,tv1,tv2,tv3⟩,tl,tc⟩:=t;simp only at t0 t1 t2 t3 t4 t5 t6 hcc ⊢;rw[hm];obtain⟨hc1,hc2,hc3⟩:=hcc;have hm6:m+1<=1000000:=by omega
 obtain⟨W1,hW1⟩:∃W1,w.alloc (.cells #[.int .i64 0,.int .i64 0] 33)=W1:=⟨_,rfl⟩;have hb1:Below w.heap.size w W1:=by rw[←hW1];exact(Aq _ w).alloc (Ak _) _
 have hz1:W1.heap.size=w.heap.size+1:=by rw[←hW1];simp
 have hp1:=A0 w (.cells #[.int .i64 0,.int .i64 0] 33);rw[hW1] at hp1;have t0':=A6 hb1 t0;have t1':=A6 hb1 t1;have t2':=A6 hb1 t2;have t3':=A6 hb1 t3;have t4':=A6 hb1 t4;have t5':=A6 hb1 t5;have t6':=A6 hb1 t6;obtain⟨W2,hW2⟩:∃W2,W1.alloc (.cells #[.int .u8 tk,.string ⟨tt.toArray⟩,.int .u8 tv1,.int .i64 tv2,.string ⟨tv3.toArray⟩,.int .i64 tl,.int .i64 tc] 94)=W2:=⟨_,rfl⟩;have hb2:Below W1.heap.size W1 W2:=by rw[←hW2];exact(Aq _ W1).alloc (Ak _) _
 have hz2:W2.heap.size=w.heap.size+2:=by rw[←hW2];simp [hz1]
 have hp2:=A0 W1 (.cells #[.int .u8 tk,.string ⟨tt.toArray⟩,.int .u8 tv1,.int .i64 tv2,.string ⟨tv3.toArray⟩,.int .i64 tl,.int .i64 tc] 94);rw[hW2,hz1] at hp2;obtain⟨s0,s1,s2,s3,s4,s5,s6⟩:=Fz hp2;obtain⟨W3,hW3⟩:∃W3,W2.alloc (.cells #[.int .i64 tl,.int .i64 tc] 33)=W3:=⟨_,rfl⟩;have hb3:Below W2.heap.size W2 W3:=by rw[←hW3];exact(Aq _ W2).alloc (Ak _) _
 have hz3:W3.heap.size=w.heap.size+3:=by rw[←hW3];simp [hz2]
 have hp3:=A0 W2 (.cells #[.int .i64 tl,.int .i64 tc] 33);rw[hW3,hz2] at hp3;have hq2:=(hb3.block _ (Ay hp2)).trans hp2;have hq1:=(hb3.block _ nU).trans ((hb2.block _ (Ay hp1)).trans hp1);obtain⟨r0,r1,r2,r3,r4,r5,r6⟩:=Fz hq2;obtain⟨x0,x1,xf⟩:=Be hp3;obtain⟨y0,y1,yf⟩:=Be hq1;have xf0:=xf 0;have xf1:=xf 1;have yf0:=yf 0;have yf1:=yf 1;have HB3:=Ax (hb1.trans ((hb2.trans (hb3.mono hb2.size)).mono hb1.size));clear hb1 hb2 hb3 hp1 hp2 hp3 hq1 hq2 xf yf t0 t1 t2 t3 t4 t5 t6 hbe hlast hc he ht hbig h0;by_cases hk:tk=2\/tk=3\/tk=6
 ·rcases hk with rfl|rfl|rfl
  ·exact zyz
  ·exact zyz
  exact zyz
 by_cases h5:tk=5
 ·subst h5;go_enter Tryz.func54,Tryz.ntmps54;go_wp2_with fail;refine Au (v:= .agg #[.int .i64 tl,.int .i64 (tc+(tt.length:Int)+2)]) oV rfl ?_;refine⟨by simp [*],?_⟩;exact(((HB3.out.setCell nW _).setCell nW _).setCell nW _).setCell nW _
 have j2:(tk==2)=false:=by simp at hk ⊢;omega
 have j3:(tk==3)=false:=by simp at hk ⊢;omega
 have j6:(tk==6)=false:=by simp at hk ⊢;omega
 have j5:(tk==5)=false:=by simpa using h5
 rw[Ao hk,Ao h5,Int.add_zero];clear hk h5;go_enter Tryz.func54,Tryz.ntmps54;go_wp2_with fail;refine Au (v:= .agg #[.int .i64 tl,.int .i64 (tc+(tt.length:Int))]) oV rfl ?_;refine⟨by simp [*],?_⟩;exact((HB3.out.setCell nW _).setCell nW _).setCell nW _
def Pm (w:World)(x:Except ((Int×Int)×Int) Ex)(e:Ending)(w':World):Prop:=
 Below w.heap.size w w'/\match x with
  | .error p=>e= .returned (.tuple #[.slice none 0 0,.agg #[.int .i64 p.1.1,.int .i64 p.1.2],.int .i64 p.2])
  | .ok a=>∃v,e= .returned (.tuple #[v,.agg #[.int .i64 0,.int .i64 0],.int .i64 0])/\Gu w' w.heap.size [] v (a.flat 0)
theorem jV {s:ByteArray}(w:World)(hs:s.size<=65536)(hR:Rd w){a b q:Int}(h:Fb (dl s)= .error (a,b,q)):Calls Tryz.prog 20 #[.string s] w (Pm w (Cm (dl s))):=by
 have hx:Cm (dl s)= .error ((a,b),q):=by unfold Cm;rw[h]
 have hq:q=4\/q=9:=((J2 _ (dl s) 1 1 (Ak _) nV).1 a b q h).2.2;have hq1:(q !=0)=true:=by rcases hq with rfl|rfl<;>rfl
 have hq2:(q==0)=false:=by rcases hq with rfl|rfl<;>rfl
 obtain⟨W1,hW1⟩:∃W1,w.alloc (.cells #[.int .i64 0,.int .i64 0] 33)=W1:=⟨_,rfl⟩;have hb1:Below w.heap.size w W1:=by rw[←hW1];exact(Aq _ w).alloc (Ak _) _
 have hp1:=A0 w (.cells #[.int .i64 0,.int .i64 0] 33);rw[hW1] at hp1;have L1:=Ax (mR (s:=s) W1 hs (hR.below hb1) h);have HB1:=Ax hb1;have HP1:=Ax hp1;rw[hx];clear hx h hR hb1 hp1 hq;go_enter Tryz.func20,Tryz.ntmps20;go_wp2_with fail;refine L1.out.mono ?_;rintro e V2 ⟨rfl,hb2⟩;have hp2:=(hb2.block _ (Ay HP1.out)).trans HP1.out;obtain⟨V3,hV3⟩:∃V3,V2.alloc (.cells #[.int .i64 a,.int .i64 b] 33)=V3:=⟨_,rfl⟩;have hb3:Below V2.heap.size V2 V3:=by rw[←hV3];exact(Aq _ V2).alloc (Ak _) _
 have hp3:=A0 V2 (.cells #[.int .i64 a,.int .i64 b] 33);rw[hV3] at hp3;have hp4:=(hb3.block _ (Ay hp2)).trans hp2;obtain⟨x0,x1,_⟩:=Be hp3;obtain⟨y0,y1,yf⟩:=Be hp4;have yf0:=yf 0;have yf1:=yf 1;have HB3:=Ax (HB1.out.trans ((hb2.trans (hb3.mono hb2.size)).mono HB1.out.size));have hne:¬w.heap.size=V2.heap.size:=by have:=Ay hp2;omega
 have hne2:¬V2.heap.size=w.heap.size:=fun h=>hne h.symm
 clear hb2 hb3 hp2 hp3 hp4 yf L1 HP1;go_wp2_with fail;go_region;go_wp2_with fail;refine Au (v:= .tuple #[.slice none 0 0,.agg #[.int .i64 a,.int .i64 b],.int .i64 q]) pD rfl ?_;exact⟨((HB3.out.setCell nW _).setCell nW _).drew,rfl⟩
inductive Mid (ts:List Tkn)(w:World)(V:World)(v:Value)(n:Nat)(e0:Int):Except ((Int×Int)×Int) Ex->Prop where
 |tree (a:Ex) (he:e0=0) (hn:n=ts.length) (ht:Gu V w.heap.size [] v (a.flat 0)):Mid ts w V v n e0 (.ok a)
 |more (t:Tkn) (he:e0=0) (hn:ts[n]? =some t):Mid ts w V v n e0 (.error ((t.line,t.col),4))
 |bad (t:Tkn) (he:e0≠0) (hn:ts[n]? =some t):Mid ts w V v n e0 (.error ((t.line,t.col),e0))
 |end' (he:e0≠0) (hn:n=ts.length):Mid ts w V v n e0 (.error (El ts,e0))
theorem Suf.head {t:Tkn}{q ts:List Tkn}(h:Suf (t::q) ts):ts[ts.length - (t::q).length]? =some t:=by
 have h1:=h.at_drop;have h2:=Ar (fun l=>l[0]?) h1;simpa using h2.symm
theorem eI {w V V':World}{ts:List Tkn}{l:List UInt8}(hl:Fb l= .ok ts){e:Ending}(h:Pd V ts 0 (A9 0 0 ts) e V')(hw:w.heap.size<=V.heap.size):
 ∃(v:Value) (n:Nat) (e0:Int),e= .returned (.tuple #[v,.int .i64 (n:Int),.int .i64 e0])/\n<=ts.length/\(∃a k c,v= .slice a k c)/\Mid ts w V' v n e0 (Cm l)/\Below V.heap.size V V':=by
 have hx:Cm l=match A9 0 0 ts with
  | .error (e,q)=> .error (Ol ts q,e)
  | .ok (a,q)=>if 60<a.size then .error (Ol ts ts,7) else if q=[] then .ok a else .error (Ol ts q,4):=by
  simp only[Cm,hl]
  all_goals (cases A9 0 0 ts<;>rfl)
 obtain⟨hb,h⟩:=h;cases hq:A9 0 0 ts with
 |error p=>
  obtain⟨er,q⟩:=p;rw[hq] at h hx;have hs:=jP (td:= .lvl 0) qG (show exE (.lvl 0) 0 ts=_ from hq)
  have he:er≠0:=by
   have:=Vt (.lvl 0) 0 ts qG _ (show exE (.lvl 0) 0 ts=_ from hq)
   simp only at this;omega
  refine⟨_,_,er,h,by omega,⟨_,_,_,rfl⟩,?_,hb⟩;rw[hx];simp only;cases q with
  |nil=>exact .end' he nW
  |cons t q=>exact .bad t he hs.head
 |ok p=>
  obtain⟨a,q⟩:=p;rw[hq] at h hx;simp only at h hx;have hs:=Dj (n:=0) nU hq;by_cases h60:60<a.size
  ·rw[Ap h60] at h hx;refine⟨_,0,7,h,by omega,⟨_,_,_,rfl⟩,?_,hb⟩;rw[hx];cases ts with
   |nil=>simp at hs
   |cons t ts=>exact .bad t nV rfl
  rw[Ao h60] at h hx;obtain⟨v,h1,h2⟩:=h
  have hv:∃a k c,v= .slice a k c:=by
   obtain⟨kvs,h3,_⟩:=h2;obtain⟨x,c,rfl⟩:=D9 h3;exact⟨_,_,_,rfl⟩
  refine⟨v,_,0,h1,by omega,hv,?_,hb⟩;rw[hx];cases q with
  |nil=>
   rw[Ap rfl];refine .tree a rfl nW ?_;obtain⟨kvs,h3,h4⟩:=h2;exact⟨kvs,Ss h3 hw,Cu.base hw h4⟩
  |cons t q=>
   rw[Ao nW];exact .more t rfl hs.1.head
theorem jX {s:ByteArray}(w:World)(hs:s.size<=65536)(hR:Rd w){ts:List Tkn}(h:Fb (dl s)= .ok ts):Calls Tryz.prog 20 #[.string s] w (Pm w (Cm (dl s))):=by
 have hlen:=(Hk _ (dl s) 1 1 ts (Ak _) h).2;have hpl:=Jz h;have hsh:=S5 h;rw[A4] at hlen;have hbig:ts.length<=1000000:=by omega
 have hcols:∀t∈ts,0<=t.col/\t.col<=1000000/\t.w.t.length<=1000000:=fun t ht=>by
  have h1:=hpl t ht;have h2:=hsh t ht;rw[A4] at h1 h2;omega
 obtain⟨W1,hW1⟩:∃W1,w.alloc (.cells #[.int .i64 0,.int .i64 0] 33)=W1:=⟨_,rfl⟩;have hb1:Below w.heap.size w W1:=by rw[←hW1];exact(Aq _ w).alloc (Ak _) _
 have hp1:=A0 w (.cells #[.int .i64 0,.int .i64 0] 33);rw[hW1] at hp1;have L1:=Ax (mL (s:=s) W1 hs (hR.below hb1) h);have HB1:=Ax hb1;have HP1:=Ax hp1;have HL:=Ax h;have Hcols:=Ax hcols;have Hnam:=Ax (Tn h);clear h hR hb1 hp1 hcols hpl hsh hs;go_enter Tryz.func20,Tryz.ntmps20;go_wp2_with fail;refine L1.out.mono ?_;rintro e V2 ⟨tv,rfl,hrow,hb2⟩;have htk:=G4.of_row hrow;obtain⟨ta,tc,rfl⟩:=htk.form;have hp2:=(hb2.block _ (Ay HP1.out)).trans HP1.out;obtain⟨V3,hV3⟩:∃V3,V2.alloc (.cells #[.int .i64 0,.int .i64 0] 33)=V3:=⟨_,rfl⟩;have hb3:Below V2.heap.size V2 V3:=by rw[←hV3];exact(Aq _ V2).alloc (Ak _) _
 have hp4:=(hb3.block _ (Ay hp2)).trans hp2;have hB3:=HB1.out.trans ((hb2.trans (hb3.mono hb2.size)).mono HB1.out.size);have ht3:=htk.below hb3;have hpa:Calls Tryz.prog 53 #[.slice ta ts.length tc,.int .i64 0] V3 (Pd V3 ts 0 (A9 0 0 ts)):=Yy ht3 Hnam.out hbig 0 (Nat.zero_le _);have HPA:=Ax hpa;have HB3:=Ax hB3;have HP4:=Ax hp4;have HT3:=Ax ht3;clear hb2 hp2 hb3 hp4 hB3 ht3 hpa htk hrow L1 HP1;subst hV3;go_wp2_with fail;refine HPA.out.mono ?_;rintro e V4 hp;obtain⟨v,n,e0,rfl,hn,⟨va,vk,vc,rfl⟩,hmid,hb4⟩:=eI (w:=w) HL.out hp HB3.out.size;have hB4:=HB3.out.trans (hb4.mono HB3.out.size);have hp5:=(hb4.block _ (Ay HP4.out)).trans HP4.out;have ht4:=HT3.out.below hb4;have HB4:=Ax hB4;have HP5:=Ax hp5;have HT4:=Ax ht4;obtain⟨x,hx⟩:∃x,Cm (dl s)=x:=⟨_,rfl⟩;rw[hx] at hmid;have HX:=Ax hx;clear hp hb4 hB4 hp5 ht4 HPA HP4 HT3 HL hx;obtain⟨y0,y1,yf⟩:=Be HP5.out;have yf0:=yf 0;have yf1:=yf 1;clear yf;cases hmid with
 |tree a he hn' ht=>
  subst he;subst hn';have HT:=Ax ht;clear ht;go_wp2_with fail;refine Au (v:= .tuple #[.slice va vk vc,.agg #[.int .i64 0,.int .i64 0],.int .i64 0]) pD rfl ?_;exact zyt
 |more t he hn'=>
  obtain⟨hnl,hte⟩:=List.getElem?_eq_some_iff.1 hn';obtain⟨g,c,et,hg,t0,t1,t2,t3,t4,t5,t6⟩:=HT4.out.at hnl;injection et with e1 _ e3;subst e1;subst e3;rw[hte] at t5 t6;have i0:(0:Int)<=(n:Int):=by omega
  have i1:(n:Int)<(ts.length:Int):=by omega
  have i2:decide ((n:Int)<(ts.length:Int))=true:=by simp;omega
  have hgw:g<V4.drew.heap.size:=hg;subst he;clear t0 t1 t2 t3 t4 hte hn' hg;go_wp2_with fail;go_region;go_wp2_with fail;refine Au (v:= .tuple #[.slice none 0 0,.agg #[.int .i64 t.line,.int .i64 t.col],.int .i64 4]) pD rfl ?_;exact zxv
 |bad t he hn'=>
  obtain⟨hnl,hte⟩:=List.getElem?_eq_some_iff.1 hn';obtain⟨g,c,et,hg,t0,t1,t2,t3,t4,t5,t6⟩:=HT4.out.at hnl;injection et with e1 _ e3;subst e1;subst e3;rw[hte] at t5 t6;have i0:(0:Int)<=(n:Int):=by omega
  have i1:(n:Int)<(ts.length:Int):=by omega
  have i2:decide ((n:Int)<(ts.length:Int))=true:=by simp;omega
  have hgw:g<V4.drew.heap.size:=hg;have j1:(e0==0)=false:=by simpa using he
  have HE:=Ax he;clear he;clear t0 t1 t2 t3 t4 hte hn' hg;go_wp2_with fail;go_region;go_wp2_with fail;refine Au (v:= .tuple #[.slice none 0 0,.agg #[.int .i64 t.line,.int .i64 t.col],.int .i64 e0]) pD rfl ?_;exact zxv
 |end' he hn'=>
  subst hn';have hbe:=Yi HT4.out Hcols.out hbig;have j1:(e0==0)=false:=by simpa using he
  have Hbe:=Ax hbe;clear he hbe;go_wp2_with fail;refine Hbe.out.mono ?_;rintro e V5 ⟨rfl,hb5⟩;have hp6:=(hb5.block _ (Ay HP5.out)).trans HP5.out;obtain⟨y0,y1,yf⟩:=Be hp6;have yf0:=yf 0;have yf1:=yf 1;have HB5:=Ax (HB4.out.trans (hb5.mono HB4.out.size));clear hp6 hb5 yf Hbe;go_wp2_with fail;refine Au (v:= .tuple #[.slice none 0 0,.agg #[.int .i64 (El ts).1,.int .i64 (El ts).2],.int .i64 e0]) pD rfl ?_;rw[HX.out];exact⟨(HB5.out.setCell nW _).setCell nW _,rfl⟩
theorem Tj (s:ByteArray)(w:World)(hs:s.size<=65536)(hR:Rd w):Calls Tryz.prog 20 #[.string s] w (Pm w (Cm (dl s))):=by
 cases h:Fb (dl s) with
 |error p=>exact jV w hs hR (a:=p.1) (b:=p.2.1) (q:=p.2.2) h
 |ok ts=>exact jX w hs hR h
open Go Go.RowKit Go.Lib Go.Sort Go.Shelf
structure Nz where
 h:Hd
 kids:List Int
def Nd.z (n:Nd):Nz:=⟨n.h,n.kids.map fun(k:Nat)=>(k:Int)⟩
def E4 (w:World)(x:Value)(l:List Int):Prop:=l.length<=1000000/\∃a c,x= .slice a l.length c/\∀i (h:i<l.length),∃b off,a=some ⟨b,off,none⟩/\w.cell? ⟨b,off+i,none⟩=some (.int .i64 l[i])
theorem E4.below {w w':World}{x:Value}{l:List Int}(h:E4 w x l)(hb:Below w.heap.size w w'):E4 w' x l:=by
 exact zx6
theorem E4.of_row {w:World}{B:Nat}{v:Value}{l:List Nat}(hl:l.length<=1000000)(h:w.ownsRow B 3 1 v l.length (Fo l)):E4 w v (l.map fun(k:Nat)=>(k:Int)):=by
 rcases h.2 with ⟨e,h0⟩|⟨g,cap,cur,rfl,_,hg,hc,_⟩
 ·have:l=[]:=List.eq_nil_of_length_eq_zero h0
  subst this;exact⟨by simp,none,0,e,fun i hi=>by simp at hi⟩
 refine⟨by simpa using hl,some ⟨g,0,none⟩,cap,by simp,fun i hi=>⟨g,0,rfl,?_⟩⟩;have hi':i<l.length:=by simpa using hi
 have:=h.cells (g:=g) rfl i (.int .i64 (l[i]:Int)) (by simp [Fo,hi'])
 rw[Addr.add_lit,Nat.zero_add] at this;rw[Nat.zero_add];simpa using this
def L6 (w:World)(b off:Nat)(h:Hd)(kv:Value):Prop:=
 w.cell? ⟨b,off,none⟩=some (.int .u8 h.op)/\w.cell? ⟨b,off+1,none⟩=some (.int .u8 h.v.1)/\w.cell? ⟨b,off+2,none⟩=some (.int .i64 h.v.2.1)/\w.cell? ⟨b,off+3,none⟩=some (.string ⟨h.v.2.2.toArray⟩)/\
 w.cell? ⟨b,off+4,none⟩=some (.string ⟨h.name.toArray⟩)/\w.cell? ⟨b,off+5,none⟩=some kv/\w.cell? ⟨b,off+6,none⟩=some (.int .i64 h.line)/\w.cell? ⟨b,off+7,none⟩=some (.int .i64 h.col)
theorem L6.below {w w':World}{b off:Nat}{h:Hd}{kv:Value}(q:L6 w b off h kv)(hb:Below w.heap.size w w'):L6 w' b off h kv:=
 ⟨A6 hb q.1,A6 hb q.2.1,A6 hb q.2.2.1,A6 hb q.2.2.2.1,A6 hb q.2.2.2.2.1,A6 hb q.2.2.2.2.2.1,A6 hb q.2.2.2.2.2.2.1,A6 hb q.2.2.2.2.2.2.2⟩
def TrZ (w:World)(v:Value)(l:List Nz):Prop:=l.length<=1000000/\∃a c,v= .slice a l.length c/\∀i (h:i<l.length),∃b off kv,a=some ⟨b,off,none⟩/\L6 w b (off+i*8) l[i].h kv/\E4 w kv l[i].kids
theorem TrZ.below {w w':World}{v:Value}{l:List Nz}(h:TrZ w v l)(hb:Below w.heap.size w w'):TrZ w' v l:=by
 obtain⟨h1,a,c,h2,h3⟩:=h;refine⟨h1,a,c,h2,fun i hi=>?_⟩;obtain⟨b,off,kv,e,hc,hk⟩:=h3 i hi;exact⟨b,off,kv,e,hc.below hb,hk.below hb⟩
theorem S9 {w:World}{B:Nat}{X:List Nat}:∀{vs:List Value} {ns:List Nd},Cu w B X vs ns->∀(i:Nat) (h:i<ns.length),∃kv,vs[i]? =some kv/\w.ownsRow B 3 1 kv ns[i].kids.length (Fo ns[i].kids)/\
 (Ed vs ns)[i*8]? =some (.int .u8 ns[i].h.op)/\(Ed vs ns)[i*8+1]? =some (.int .u8 ns[i].h.v.1)/\(Ed vs ns)[i*8+2]? =some (.int .i64 ns[i].h.v.2.1)/\(Ed vs ns)[i*8+3]? =some (.string ⟨ns[i].h.v.2.2.toArray⟩)/\
 (Ed vs ns)[i*8+4]? =some (.string ⟨ns[i].h.name.toArray⟩)/\(Ed vs ns)[i*8+5]? =some kv/\(Ed vs ns)[i*8+6]? =some (.int .i64 ns[i].h.line)/\(Ed vs ns)[i*8+7]? =some (.int .i64 ns[i].h.col)
 |[],[],_,i,h=>by simp at h
 |v::vs,n::ns,hk,0,_=>⟨v,rfl,hk.1.1,rfl,rfl,rfl,rfl,rfl,rfl,rfl,rfl⟩
 |v::vs,n::ns,hk,i+1,h=>by
  have:=S9 hk.2 i oQ
  rw[show(i+1)*8=i*8+1+1+1+1+1+1+1+1 by omega];exact this
 |[],_::_,h,_,_=>h.elim
 |_::_,[],h,_,_=>h.elim
def nM (ns:List Nd):Prop:=∀n∈ns,n.kids.length<=1000000
theorem Gu.z {w:World}{B:Nat}{X:List Nat}{v:Value}{ns:List Nd}(h:Gu w B X v ns)(hl:ns.length<=1000000)(hs:nM ns):TrZ w v (ns.map Nd.z):=by
 obtain⟨kvs,h1,h2⟩:=h;rcases h1.2 with ⟨e,h0⟩|⟨g,cap,cur,rfl,_,hg,hc,_⟩
 ·have:ns=[]:=List.eq_nil_of_length_eq_zero h0
  subst this;exact⟨by simp,none,0,e,fun i hi=>by simp at hi⟩
 refine⟨by simpa using hl,some ⟨g,0,none⟩,cap,by simp,fun i hi=>?_⟩;have hi':i<ns.length:=by simpa using hi
 obtain⟨kv,_,hk,g0,g1,g2,g3,g4,g5,g6,g7⟩:=S9 h2 i hi'
 have hcell:∀j u,(Ed kvs ns)[j]? =some u->w.cell? ⟨g,0+j,none⟩=some u:=fun j u hj=>by
  have:=h1.cells (g:=g) rfl j u hj
  rwa [Addr.add_lit] at this
 have he:(ns.map Nd.z)[i]=Nd.z ns[i]:=by simp
 refine⟨g,0,kv,rfl,?_,?_⟩
 ·rw[he];exact⟨hcell _ _ g0,hcell _ _ g1,hcell _ _ g2,hcell _ _ g3,hcell _ _ g4,hcell _ _ g5,hcell _ _ g6,hcell _ _ g7⟩
 rw[he];exact E4.of_row (hs _ (List.getElem_mem hi')) hk
theorem fV {x y:Value}{l m:List Int}(w:World)(hx:E4 w x l)(hy:E4 w y m):Calls Tryz.prog 60 #[x,y] w fun e w'=>e= .returned (.bool (decide (l=m)))/\Below w.heap.size w w':=by
 obtain⟨hx1,a,c,rfl,hx2⟩:=hx;obtain⟨hy1,a',c',rfl,hy2⟩:=hy;by_cases hn:l.length=m.length
 ·by_cases h0:l.length=0
  ·obtain rfl:l=[]:=List.eq_nil_of_length_eq_zero h0;obtain rfl:m=[]:=List.eq_nil_of_length_eq_zero nU;refine(Tryz.slices_Equal_int_empty a a' c 0 c' w nU).mono ?_;rintro e w' ⟨rfl,rfl⟩;exact⟨by simp,Aq _ _⟩
  obtain⟨b,off,e1,_⟩:=hx2 0 nU;obtain⟨b',off',e2,_⟩:=hy2 0 nU;subst e1;subst e2;refine(Tryz.slices_Equal_int b off l.length c b' off' m.length c' l m w (Ak _) (Ak _) nU nU (fun j h=>?_) (fun j h=>?_)).mono ?_
  ·obtain⟨b2,o2,e,hc⟩:=hx2 j h;injection e with e;injection e with e1 e2;subst e1;subst e2;rw[hc,List.getD_eq_getElem?_getD,Ag h];rfl
  ·obtain⟨b2,o2,e,hc⟩:=hy2 j h;injection e with e;injection e with e1 e2;subst e1;subst e2;rw[hc,List.getD_eq_getElem?_getD,Ag h];rfl
  rintro e w' ⟨rfl,q,rfl⟩;refine⟨?_,Bd (Aq _ _) q⟩;rw[List.take_length,List.take_length];congr 2;rw[Bool.eq_iff_iff];simp
 have hd:decide (l=m)=false:=An fun h=>hn (Ar List.length h)
 rw[hd];have h1:(((l.length:Nat):Int) !=((m.length:Nat):Int))=true:=by simp;omega
 clear hx2 hy2 hd hn;go_enter Tryz.func60,Tryz.ntmps60;exact zyq
def Gp (x y:Nz):Bool:=decide (x.h.op=y.h.op) && (decide (x.h.v=y.h.v) && (decide (x.h.name=y.h.name) && decide (x.kids=y.kids)))
theorem dR (x y:Nz):Gp x y=true↔x.h.bare=y.h.bare/\x.kids=y.kids:=by
 obtain⟨⟨a1,a2,a3,a4,a5⟩,ak⟩:=x;obtain⟨⟨b1,b2,b3,b4,b5⟩,bk⟩:=y;simp [Gp,Hd.bare,and_assoc]
def Ef:List Nz->List Nz->Bool
 |[],[]=>true
 |x::l,y::m=>Gp x y && Ef l m
 |_,_=>false
def Nz.bare (n:Nz):Nz:=⟨n.h.bare,n.kids⟩
theorem Mr:∀(l m:List Nz),Ef l m=true↔l.map Nz.bare=m.map Nz.bare
 |[],[]=>by simp [Ef]
 |[],_::_=>by simp [Ef]
 |_::_,[]=>by simp [Ef]
 |x::l,y::m=>by
  simp only[Ef,Bool.and_eq_true,dR,Mr l m,List.map_cons,List.cons.injEq,Nz.bare,Nz.mk.injEq]
theorem Uc (h1 h2:Hd)(kv1 kv2:Value)(k1 k2:List Int)(w:World)(hx:E4 w kv1 k1)(hy:E4 w kv2 k2):
 Calls Tryz.prog 59 #[.agg #[.int .u8 h1.op,.int .u8 h1.v.1,.int .i64 h1.v.2.1,.string ⟨h1.v.2.2.toArray⟩,.string ⟨h1.name.toArray⟩,kv1,.int .i64 h1.line,.int .i64 h1.col],.agg #[.int .u8 h2.op,.int .u8 h2.v.1,.int .i64 h2.v.2.1,.string ⟨h2.v.2.2.toArray⟩,.string ⟨h2.name.toArray⟩,kv2,.int .i64 h2.line,.int .i64 h2.col]] w
  fun e w'=>e= .returned (.bool (Gp ⟨h1,k1⟩ ⟨h2,k2⟩))/\Below w.heap.size w w':=by
 obtain⟨op1,⟨vk1,vn1,vs1⟩,nm1,ln1,cl1⟩:=h1;obtain⟨op2,⟨vk2,vn2,vs2⟩,nm2,ln2,cl2⟩:=h2;by_cases e0:op1=op2
 ·subst e0;by_cases e1:vk1=vk2
  ·subst e1;by_cases e2:vn1=vn2
   ·subst e2;by_cases e3:vs1=vs2
    ·subst e3;by_cases e4:nm1=nm2
     ·subst e4;have hb:Below w.heap.size w ((w.alloc (.cells #[.int .u8 op1,.int .u8 vk1,.int .i64 vn1,.string ⟨vs1.toArray⟩,.string ⟨nm1.toArray⟩,kv1,.int .i64 ln1,.int .i64 cl1] 43)).alloc (.cells #[.int .u8 op1,.int .u8 vk1,.int .i64 vn1,.string ⟨vs1.toArray⟩,.string ⟨nm1.toArray⟩,kv2,.int .i64 ln2,.int .i64 cl2] 43)):=((Aq _ w).alloc (Ak _) _).alloc nW _;have hc:=fV _ (hx.below hb) (hy.below hb);have HC:=Ax hc;have HB:=Ax hb;clear hx hy hc hb;go_enter Tryz.func59,Tryz.ntmps59;go_wp2_with fail;refine HC.out.mono ?_;rintro e V ⟨rfl,hb2⟩;have HB2:=Ax (HB.out.trans (hb2.mono HB.out.size));clear hb2 HC HB;go_wp2_with fail;go_ret;exact⟨by simp [Gp],HB2.out⟩
     have f:(nm1==nm2)=false:=by simpa using e4
     have hz:Gp ⟨⟨op1,(vk1,vn1,vs1),nm1,ln1,cl1⟩,k1⟩ ⟨⟨op1,(vk1,vn1,vs1),nm2,ln2,cl2⟩,k2⟩=false:=by simp [Gp,e4]
     rw[hz];clear hz hx hy e4;exact zyx
    have f:(vs1==vs2)=false:=by simpa using e3
    have hz:Gp ⟨⟨op1,(vk1,vn1,vs1),nm1,ln1,cl1⟩,k1⟩ ⟨⟨op1,(vk1,vn1,vs2),nm2,ln2,cl2⟩,k2⟩=false:=by simp [Gp,e3]
    rw[hz];clear hz hx hy e3;exact zyx
   have f:(vn1==vn2)=false:=by simpa using e2
   have hz:Gp ⟨⟨op1,(vk1,vn1,vs1),nm1,ln1,cl1⟩,k1⟩ ⟨⟨op1,(vk1,vn2,vs2),nm2,ln2,cl2⟩,k2⟩=false:=by simp [Gp,e2]
   rw[hz];clear hz hx hy e2;exact zyx
  have f:(vk1==vk2)=false:=by simpa using e1
  have hz:Gp ⟨⟨op1,(vk1,vn1,vs1),nm1,ln1,cl1⟩,k1⟩ ⟨⟨op1,(vk2,vn2,vs2),nm2,ln2,cl2⟩,k2⟩=false:=by simp [Gp,e1]
  rw[hz];clear hz hx hy e1;exact zyx
 have f:(op1==op2)=false:=by simpa using e0
 have hz:Gp ⟨⟨op1,(vk1,vn1,vs1),nm1,ln1,cl1⟩,k1⟩ ⟨⟨op2,(vk2,vn2,vs2),nm2,ln2,cl2⟩,k2⟩=false:=by simp [Gp,e0]
 rw[hz];clear hz hx hy e0;exact zyx
theorem eU {v1 v2:Value}{l m:List Nz}(w:World)(hx:TrZ w v1 l)(hy:TrZ w v2 m):Calls Tryz.prog 23 #[v1,v2] w fun e w'=>e= .returned (.bool (Ef l m))/\Below w.heap.size w w':=by
 have hef:Calls Tryz.prog 58 #[v1,v2,.func (.func 59) #[] #[]] w fun e w'=>e= .returned (.bool (Ef l m))/\Below w.heap.size w w':=by
  have hl1:=hx.1;have hm1:=hy.1;have HX:=Ax hx;have HY:=Ax hy;obtain⟨_,a,c,rfl,_⟩:=hx;obtain⟨_,a',c',rfl,_⟩:=hy;by_cases hn:l.length=m.length
  ·rw[←hn];have HN:=Ax hn;have hlm:l.length<=m.length:=by omega
   clear hn;go_enter Tryz.func58,Tryz.ntmps58;go_wp2_with fail
   go_loopw [17] (fun vi wr=>∃j:Nat,j<=l.length/\vi= .int .i64 j/\Hid (Ef (l.drop j) (m.drop j)=Ef l m)/\Hid (Below w.heap.size w wr)) (fun vi _=>l.length - (intOf vi).toNat)
   case atStart=>exact⟨0,Nat.zero_le _,rfl,rfl,Aq _ _⟩
   obtain⟨j,hj,rfl,hq,hb⟩:=hrel;by_cases hjl:j<l.length
   ·have hjm:j<m.length:=by omega
    have hx2:=HX.out.below hb.out;have hy2:=HY.out.below hb.out;obtain⟨_,ax,cx,ex,hx3⟩:=hx2;obtain⟨_,ay,cy,ey,hy3⟩:=hy2;injection ex with ex1 _ ex2;injection ey with ey1 _ ey2;subst ex1 ex2 ey1 ey2;obtain⟨bx,ox,kx,rfl,hnx,hix⟩:=hx3 j hjl;obtain⟨by',oy,ky,rfl,hny,hiy⟩:=hy3 j hjm
    have hs:(Gp l[j] m[j] && Ef (l.drop (j+1)) (m.drop (j+1)))=Ef l m:=by
     rw[←hq.out,List.drop_eq_getElem_cons hjl,List.drop_eq_getElem_cons hjm];rfl
    obtain⟨⟨hd1,k1⟩,e1⟩:∃z,l[j]=z:=⟨_,rfl⟩;obtain⟨⟨hd2,k2⟩,e2⟩:∃z,m[j]=z:=⟨_,rfl⟩;rw[e1] at hnx hix hs;rw[e2] at hny hiy hs;simp only at hnx hix hny hiy;obtain⟨op1,⟨vk1,vn1,vs1⟩,nm1,ln1,cl1⟩:=hd1;obtain⟨op2,⟨vk2,vn2,vs2⟩,nm2,ln2,cl2⟩:=hd2;obtain⟨ak,ck,rfl⟩:∃ak ck,kx= .slice ak k1.length ck:=⟨_,_,hix.2.choose_spec.choose_spec.1⟩;obtain⟨ak',ck',rfl⟩:∃ak ck,ky= .slice ak k2.length ck:=⟨_,_,hiy.2.choose_spec.choose_spec.1⟩;obtain⟨x0,x1,x2,x3,x4,x5,x6,x7⟩:=hnx;obtain⟨y0,y1,y2,y3,y4,y5,y6,y7⟩:=hny;simp only at x0 x1 x2 x3 x4 x5 x6 x7 y0 y1 y2 y3 y4 y5 y6 y7;have hb2:Below wr.heap.size wr ((wr.alloc (.cells #[.int .u8 op1,.int .u8 vk1,.int .i64 vn1,.string ⟨vs1.toArray⟩,.string ⟨nm1.toArray⟩,.slice ak k1.length ck,.int .i64 ln1,.int .i64 cl1] 43)).alloc (.cells #[.int .u8 op2,.int .u8 vk2,.int .i64 vn2,.string ⟨vs2.toArray⟩,.string ⟨nm2.toArray⟩,.slice ak' k2.length ck',.int .i64 ln2,.int .i64 cl2] 43)):=((Aq _ wr).alloc (Ak _) _).alloc nW _;have hc:=Uc ⟨op1,(vk1,vn1,vs1),nm1,ln1,cl1⟩ ⟨op2,(vk2,vn2,vs2),nm2,ln2,cl2⟩ (.slice ak k1.length ck) (.slice ak' k2.length ck') k1 k2 _ (hix.below hb2) (hiy.below hb2);simp only at hc;have HC:=Ax hc;have HS:=Ax hs;have HB:=Ax (hb.out.trans (hb2.mono hb.out.size));have hbx:bx<wr.heap.size:=B1 x0;have hby:by'<wr.heap.size:=B1 y0;have i1:(0:Int)<=(j:Int):=by omega
    have i2:(j:Int)<(l.length:Int):=by omega
    have i3:(j:Int)<(m.length:Int):=by omega
    clear hb hb2 hc hs hq hix hiy hx3 hy3 e1 e2;go_wp2_with fail;refine HC.out.mono ?_;rintro e V ⟨rfl,hbV⟩;have HBV:=Ax (HB.out.trans (hbV.mono HB.out.size));have hs:=HS.out;clear hbV HC HB HS x0 x1 x2 x3 x4 x5 x6 x7 y0 y1 y2 y3 y4 y5 y6 y7 hbx hby;cases hz:Gp ⟨⟨op1,(vk1,vn1,vs1),nm1,ln1,cl1⟩,k1⟩ ⟨⟨op2,(vk2,vn2,vs2),nm2,ln2,cl2⟩,k2⟩ with
    |true=>
     rw[hz,Bool.true_and] at hs;have HS:=Ax hs;clear hs hz;go_wp2_with fail;go_roundw
     case rel=>exact⟨j+1,by omega,by go_num,HS,HBV⟩
     case measure=>simp [intOf];omega
    |false=>
     rw[hz,Bool.false_and] at hs;have HS:=Ax hs;clear hs hz;go_wp2_with fail;go_ret;exact⟨by rw[←HS.out];rfl,HBV.out⟩
   obtain rfl:j=l.length:=by omega
   have hs:=hq.out;rw[List.drop_length,HN.out,List.drop_length] at hs;have HS:=Ax hs;have HB:=Ax hb.out;clear hq hb hs;go_wp2_with fail;go_ret;exact⟨by rw[←HS.out];rfl,HB.out⟩
  have hs:Ef l m=false:=by
   cases h:Ef l m with
   |false=>rfl
   |true=>exact absurd (by simpa using Ar List.length ((Mr l m).1 h)) hn
  rw[hs];have h1:(((l.length:Nat):Int) !=((m.length:Nat):Int))=true:=by simp;omega
  clear hn hs HX HY;go_enter Tryz.func58,Tryz.ntmps58;exact zyq
 have HE:=Ax hef;obtain⟨_,a,c,rfl,_⟩:=hx;obtain⟨_,a',c',rfl,_⟩:=hy;clear hef;go_enter Tryz.func23,Tryz.ntmps23;go_wp2_with fail;refine HE.out.mono ?_;rintro e V ⟨rfl,hb2⟩;have HB:=Ax hb2;clear hb2 HE;go_wp2_with fail;go_ret;exact⟨rfl,HB.out⟩
open Go Go.RowKit Go.Lib Go.Sort Go.Shelf
theorem nI {s:ByteArray}{a:Ex}(w:World)(hs:s.size<=65536)(hR:Rd w)(h:Cm (dl s)= .ok a):Calls Tryz.prog 20 #[.string s] w fun e w'=>∃v,e= .returned (.tuple #[v,.agg #[.int .i64 0,.int .i64 0],.int .i64 0])/\Gu w' w.heap.size [] v (a.flat 0)/\Below w.heap.size w w':=by
 refine(Tj s w hs hR).mono ?_;exact zw9
theorem nB {s:ByteArray}{x y q:Int}(w:World)(hs:s.size<=65536)(hR:Rd w)(h:Cm (dl s)= .error ((x,y),q)):Calls Tryz.prog 20 #[.string s] w fun e w'=>e= .returned (.tuple #[.slice none 0 0,.agg #[.int .i64 x,.int .i64 y],.int .i64 q])/\Below w.heap.size w w':=by
 refine(Tj s w hs hR).mono ?_;rintro e w' ⟨hb,he⟩;rw[h] at he;exact⟨he,hb⟩
open Go Go.ChangeShapes Go.WideShapes Go.ChangeAt Go.RowKit Go.Deep Go.Lib
theorem Ke {H:Type}{P:Program}{e:TypeId}:∀{l:List (DataW H)} {d:DataW H},d∈l->∀n∈d.weights P e,n∈DataW.weightsAll P e l
 |_::r,_,.head _,n,hn=>by rw[DataW.weightsAll];exact List.mem_append_left _ hn
 |_::r,_,.tail _ hm,n,hn=>by rw[DataW.weightsAll];exact List.mem_append_right _ (Ke hm n hn)
theorem G1 {H:Type}{P:Program}:∀{ts:List TypeId} {l:List (DataW H)} {i:Nat} {t:TypeId} {d:DataW H},ts[i]? =some t->l[i]? =some d->∀n∈d.weights P t,n∈DataW.weightsEach P ts l
 |[],_,i,_,_,h,_,_,_=>by simp at h
 |_::_,[],i,_,_,_,h,_,_=>by simp at h
 |t::ts,d::l,0,_,_,h1,h2,n,hn=>by
  simp only[List.getElem?_cons_zero,Option.some.injEq] at h1 h2;subst h1 h2;rw[DataW.weightsEach];exact List.mem_append_left _ hn
 |t::ts,d::l,i+1,_,_,h1,h2,n,hn=>by
  simp only[List.getElem?_cons_succ] at h1 h2;rw[DataW.weightsEach];exact List.mem_append_right _ (G1 h1 h2 n hn)
theorem Uk {H:Type}{P:Program}{t e:TypeId}(ht:P.underlying t=some (.slice e)){el sp:List (DataW H)}{d:DataW H}(hd:d∈el):∀n∈d.weights P e,n∈(DataW.slice el sp).weights P t:=fun n hn=>by
 rw[DataW.weights,ht];exact Aj _ (List.mem_append_left _ (Ke hd n hn))
theorem Uz {H:Type}{P:Program}{t e:TypeId}(ht:P.underlying t=some (.slice e)){el sp:List (DataW H)}:(el.length+sp.length)*P.bytesOf e∈(DataW.slice el sp).weights P t:=by
 rw[DataW.weights,ht];exact Ai
theorem Gk {H:Type}{P:Program}{t:TypeId}{fs:Array Field}(ht:P.underlying t=some (.struct fs)){l:List (DataW H×List MemPlace)}{i:Nat}{f:Field}{d:DataW H×List MemPlace}(hf:fs[i]? =some f)(hd:l[i]? =some d):
 ∀n∈d.1.weights P f.type,n∈(DataW.agg (l.map (·.1))).weights P t:=fun n hn=>by
 rw[DataW.weights,ht];refine G1 (i:=i) (t:=f.type) ?_ (by rw[List.getElem?_map,hd];rfl) n hn;rw[List.getElem?_map,Array.getElem?_toList,hf];rfl
structure Na where
 h:Hd
 a:Option Addr
 n:Nat
 c:Nat
def Na.kv (x:Na):Value:= .slice x.a x.n x.c
structure Na.Ok (w:World)(x:Na):Prop where
 op0:0<=x.h.op
 op1:x.h.op<=255
 v0: -9223372036854775808<=x.h.v.2.1
 v1:x.h.v.2.1<=9223372036854775807
 s:x.h.v.2.2.length<=reachBytes
 name:x.h.name.length<=reachBytes
 n:x.n<=reachBytes
 kids:x.n<=1000000->∃ks,ks.length=x.n/\E4 w x.kv ks
 nil:x.a=none->x.n=0/\x.c=0
def Qp (w:World)(v:Value)(l:List Na):Prop:=l.length<=maxLen/\∃a c,v= .slice a l.length c/\∀i (h:i<l.length),∃b off,a=some ⟨b,off,none⟩/\L6 w b (off+i*8) l[i].h l[i].kv/\l[i].Ok w
theorem Na.Ok.below {w w':World}{x:Na}(h:x.Ok w)(hb:Below w.heap.size w w'):x.Ok w':=
 ⟨h.op0,h.op1,h.v0,h.v1,h.s,h.name,h.n,fun q=>by obtain⟨ks,h1,h2⟩:=h.kids q;exact⟨ks,h1,h2.below hb⟩,h.nil⟩
theorem Qp.below {w w':World}{v:Value}{l:List Na}(h:Qp w v l)(hb:Below w.heap.size w w'):Qp w' v l:=by
 obtain⟨h1,a,c,h2,h3⟩:=h;refine⟨h1,a,c,h2,fun i hi=>?_⟩;obtain⟨b,off,e,hc,hk⟩:=h3 i hi;exact⟨b,off,e,hc.below hb,hk.below hb⟩
theorem Qp.z {w:World}{v:Value}{l:List Na}(h:Qp w v l)(hl:l.length<=1000000)(hk:∀x∈l,x.n<=1000000):
 ∃zs:List Nz,zs.length=l.length/\(∀i (h1:i<l.length) (h2:i<zs.length),zs[i].h=l[i].h/\zs[i].kids.length=l[i].n/\E4 w l[i].kv zs[i].kids)/\TrZ w v zs:=by
 obtain⟨h1,a,c,h2,h3⟩:=h
 obtain⟨zs,hz,hp⟩:=Gq (fun i (z:Nz)=>∃h:i<l.length,z.h=l[i].h/\z.kids.length=l[i].n/\E4 w l[i].kv z.kids) l.length (fun i hi=>by
  obtain⟨b,off,e,hc,ok⟩:=h3 i hi;obtain⟨ks,q1,q2⟩:=ok.kids (hk _ (List.getElem_mem hi))
  exact⟨⟨l[i].h,ks⟩,hi,rfl,q1,q2⟩)
 refine⟨zs,hz,fun i h1 h2=>?_,by omega,a,c,by rw[hz];exact h2,fun i hi=>?_⟩
 ·obtain⟨_,g1,g2,g3⟩:=hp i h2;exact⟨g1,g2,g3⟩
 obtain⟨b,off,e,hc,_⟩:=h3 i nU;obtain⟨_,g1,_,g3⟩:=hp i hi;exact⟨b,off,l[i].kv,e,by rw[g1];exact hc,g3⟩
section
variable {H:Type} {enc:TypeId×Value->H} {w:World} {base:Nat} {spare:Nat->Bool} {held:Bool}
theorem aS {fuel:Nat}{v:Value}{x:DataW H×List MemPlace}(h:DataW.trod enc Tryz.prog w base spare held fuel 41 [v]=some x)(hw:∀k∈x.1.weights Tryz.prog 41,k<=reachBytes):
 ∃a n c,v= .slice a n c/\n<=reachBytes/\(n<=1000000->∃ks:List Int,ks.length=n/\E4 w v ks)/\(a=none->n=0/\c=0):=by
 rcases open_slice Tryz.underlying41 h with ⟨hc,_⟩|⟨a,len,cap,m,n,D,Pl,hc,hb,hle,hcap,hm,rfl,hi⟩
 ·simp only[List.cons.injEq,and_true] at hc;subst hc;exact⟨none,0,0,rfl,Nat.zero_le _,fun _=>⟨[],rfl,by simp,none,0,rfl,fun i hi=>by simp at hi⟩,fun _=>⟨rfl,rfl⟩⟩
 simp only[List.cons.injEq,and_true] at hc;subst hc;have hl8:=hw _ (Uz Tryz.underlying41);rw[show Tryz.prog.bytesOf 3=8 from by kernel_rfl] at hl8;simp only[List.length_map,List.length_range] at hl8;refine⟨some a,len,cap,rfl,by omega,fun hn=>?_,fun e=>by cases e⟩;have hml:len<=m:=by rw[hm];split<;>omega
 have hcells:∀i,i<len->∃z:Int,w.cell? (a.add i)=some (.int .i64 z):=by
  intro i hil;obtain⟨cs',hcs,ht⟩:=hi i nU;rw[show Tryz.prog.cellsOf 3=1 from by kernel_rfl] at hcs;obtain⟨z,e0,_,_⟩:=DataW.trod_int Tryz.underlying3 ht;obtain⟨_,hcl,hat⟩:=World.cells?_some hcs
  have:=hat 0 nU
  subst e0;exact⟨z,by simpa[Addr.add] using this⟩
 obtain⟨l,hl,hp⟩:=Gq _ len hcells;refine⟨l,hl,by omega,some a,cap,by rw[hl],fun i hil=>?_⟩;have hs:=Jr (by simpa[Addr.add] using hp 0 nU)
 have:=hp i hil
 rw[hs] at this;refine⟨a.block,a.off,by rw[hs],?_⟩;simpa only[Addr.add_lit] using this
theorem Yg {fuel:Nat}{v:Value}{x:DataW H×List MemPlace}(h:DataW.trod enc Tryz.prog w base spare held fuel 31 [v]=some x)(hw:∀k∈x.1.weights Tryz.prog 31,k<=reachBytes):∃l,Qp w v l:=by
 rcases open_slice Tryz.underlying31 h with ⟨hc,_⟩|⟨a,len,cap,m,n,D,Pl,hc,hb,hle,hcap,hm,rfl,hi⟩
 ·simp only[List.cons.injEq,and_true] at hc;subst hc;exact⟨[],Nat.zero_le _,none,0,rfl,fun i hi=>by simp at hi⟩
 simp only[List.cons.injEq,and_true] at hc;subst hc;have hml:len<=m:=by rw[hm];split<;>omega
 have hsp:∀i,i<len->a=⟨a.block,a.off,none⟩:=by
  intro i hil;obtain⟨cs,hcs,ht⟩:=hi 0 nU;rw[show Tryz.prog.cellsOf 43=8 from by kernel_rfl] at hcs;obtain⟨hlen,hcl,hat⟩:=World.cells?_some hcs;have h0:=hat 0 nU;rw[Ag nU] at h0;exact Jr (a:=a) h0
 have hcells:∀i,i<len->∃x:Na,L6 w a.block (a.off+i*8) x.h x.kv/\x.Ok w/\w.cell? (a.add (i*8))=some (.int .u8 x.h.op):=by
  intro i hil;obtain⟨cs,hcs,ht⟩:=hi i nU;rw[show Tryz.prog.cellsOf 43=8 from by kernel_rfl] at hcs;obtain⟨ys,n',_,hxd,hlen,hyl,hf⟩:=DataW.trod_struct Tryz.underlying43 ht;have hD:D i= .agg (ys.map (·.1)):=Ar Prod.fst hxd;have hwD:∀k∈(DataW.agg (ys.map (·.1))).weights Tryz.prog 43,k<=reachBytes:=fun k hk=>hw k (Uk Tryz.underlying31 (List.mem_map.2 ⟨i,List.mem_range.2 hil,rfl⟩) k (by rw[hD];exact hk))
  rw[show Tryz.prog.cellsOf 43=8 from by kernel_rfl] at hlen;obtain⟨_,hcl,hat⟩:=World.cells?_some hcs
  obtain⟨c0,c1,c2,c3,c4,c5,c6,c7,rfl⟩:∃c0 c1 c2 c3 c4 c5 c6 c7,cs=[c0,c1,c2,c3,c4,c5,c6,c7]:=by
   match cs,hlen with
   |[c0,c1,c2,c3,c4,c5,c6,c7],_=>exact⟨_,_,_,_,_,_,_,_,rfl⟩
  have hys:∀i,i<5->∃y,ys[i]? =some y:=fun i hi=>⟨ys[i]'(by rw[hyl];exact hi),Ag (by rw[hyl];exact hi)⟩
  obtain⟨y0,hy0⟩:=hys 0 nU;obtain⟨y1,hy1⟩:=hys 1 nU;obtain⟨y2,hy2⟩:=hys 2 nU;obtain⟨y3,hy3⟩:=hys 3 nU;obtain⟨y4,hy4⟩:=hys 4 nU;have g0:DataW.trod enc Tryz.prog w base spare held n' 5 (([c0,c1,c2,c3,c4,c5,c6,c7].drop 0).take (Tryz.prog.cellsOf 5))=ys[0]?:=hf 0 _ rfl;rw[show Tryz.prog.cellsOf 5=1 from by kernel_rfl] at g0;have g1:DataW.trod enc Tryz.prog w base spare held n' 23 (([c0,c1,c2,c3,c4,c5,c6,c7].drop 1).take (Tryz.prog.cellsOf 23))=ys[1]?:=hf 1 _ rfl;rw[show Tryz.prog.cellsOf 23=3 from by kernel_rfl] at g1;have g2:DataW.trod enc Tryz.prog w base spare held n' 9 (([c0,c1,c2,c3,c4,c5,c6,c7].drop 4).take (Tryz.prog.cellsOf 9))=ys[2]?:=hf 2 _ rfl;rw[show Tryz.prog.cellsOf 9=1 from by kernel_rfl] at g2;have g3:DataW.trod enc Tryz.prog w base spare held n' 41 (([c0,c1,c2,c3,c4,c5,c6,c7].drop 5).take (Tryz.prog.cellsOf 41))=ys[3]?:=hf 3 _ rfl;rw[show Tryz.prog.cellsOf 41=1 from by kernel_rfl] at g3;have g4:DataW.trod enc Tryz.prog w base spare held n' 33 (([c0,c1,c2,c3,c4,c5,c6,c7].drop 6).take (Tryz.prog.cellsOf 33))=ys[4]?:=hf 4 _ rfl;rw[show Tryz.prog.cellsOf 33=2 from by kernel_rfl] at g4;obtain⟨op,e0,_,hk⟩:=DataW.trod_int Tryz.underlying5 (g0.trans hy0);obtain⟨nm,e4,en4,_⟩:=DataW.trod_string Tryz.underlying9 (g2.trans hy2);have hnm:nm.data.toList.length<=reachBytes:=hwD _ (Gk Tryz.underlying43 (i:=2) rfl hy2 _ (by rw[en4,DataW.weights];exact List.mem_singleton.2 rfl));obtain⟨ka,kn,kc,e5,hkn,hks,hnil⟩:=aS (v:=c5) (g3.trans hy3) (fun k hk=>hwD k (Gk Tryz.underlying43 (i:=3) rfl hy3 k hk));obtain⟨us,n2,_,eu,_,hul,hg⟩:=DataW.trod_struct Tryz.underlying23 (g1.trans hy1);have hwU:∀k∈(DataW.agg (us.map (·.1))).weights Tryz.prog 23,k<=reachBytes:=fun k hk=>hwD k (Gk Tryz.underlying43 (i:=1) rfl hy1 k (by rw[eu];exact hk))
  obtain⟨ps,n3,_,_,_,hpl,hq⟩:=DataW.trod_struct Tryz.underlying33 (g4.trans hy4);have hus:∀i,i<3->∃y,us[i]? =some y:=fun i hi=>⟨us[i]'(by rw[hul];exact hi),Ag (by rw[hul];exact hi)⟩
  have hps:∀i,i<2->∃y,ps[i]? =some y:=fun i hi=>⟨ps[i]'(by rw[hpl];exact hi),Ag (by rw[hpl];exact hi)⟩
  obtain⟨u0,hu0⟩:=hus 0 nU;obtain⟨u1,hu1⟩:=hus 1 nU;obtain⟨u2,hu2⟩:=hus 2 nU;obtain⟨p0,hp0⟩:=hps 0 nU;obtain⟨p1,hp1⟩:=hps 1 nU;have f0:DataW.trod enc Tryz.prog w base spare held n2 5 (([c1,c2,c3].drop 0).take (Tryz.prog.cellsOf 5))=us[0]?:=hg 0 _ rfl;rw[show Tryz.prog.cellsOf 5=1 from by kernel_rfl] at f0;have f1:DataW.trod enc Tryz.prog w base spare held n2 2 (([c1,c2,c3].drop 1).take (Tryz.prog.cellsOf 2))=us[1]?:=hg 1 _ rfl;rw[show Tryz.prog.cellsOf 2=1 from by kernel_rfl] at f1;have f2:DataW.trod enc Tryz.prog w base spare held n2 9 (([c1,c2,c3].drop 2).take (Tryz.prog.cellsOf 9))=us[2]?:=hg 2 _ rfl;rw[show Tryz.prog.cellsOf 9=1 from by kernel_rfl] at f2;have r0:DataW.trod enc Tryz.prog w base spare held n3 3 (([c6,c7].drop 0).take (Tryz.prog.cellsOf 3))=ps[0]?:=hq 0 _ rfl;rw[show Tryz.prog.cellsOf 3=1 from by kernel_rfl] at r0;have r1:DataW.trod enc Tryz.prog w base spare held n3 3 (([c6,c7].drop 1).take (Tryz.prog.cellsOf 3))=ps[1]?:=hq 1 _ rfl;rw[show Tryz.prog.cellsOf 3=1 from by kernel_rfl] at r1;obtain⟨vk,e1,_,hvk⟩:=DataW.trod_int Tryz.underlying5 (f0.trans hu0);obtain⟨vn,e2,_,hvn⟩:=DataW.trod_int Tryz.underlying2 (f1.trans hu1);obtain⟨vs,e3,en3,_⟩:=DataW.trod_string Tryz.underlying9 (f2.trans hu2);have hvs:vs.data.toList.length<=reachBytes:=hwU _ (Gk Tryz.underlying23 (i:=2) rfl hu2 _ (by rw[en3,DataW.weights];exact List.mem_singleton.2 rfl));obtain⟨ln,e6,_,_⟩:=DataW.trod_int Tryz.underlying3 (r0.trans hp0);obtain⟨cl,e7,_,_⟩:=DataW.trod_int Tryz.underlying3 (r1.trans hp1);simp only[List.drop_zero,List.drop_succ_cons,List.take_succ_cons,List.take_zero,List.cons.injEq,and_true] at e0 e1 e2 e3 e4 e6 e7;subst e0 e1 e2 e3 e4 e5 e6 e7;have h0:=hat 0 nU;have h1:=hat 1 nU;have h2:=hat 2 nU;have h3:=hat 3 nU;have h4:=hat 4 nU;have h5:=hat 5 nU;have h6:=hat 6 nU;have h7:=hat 7 nU;rw[hsp i hil] at h0 h1 h2 h3 h4 h5 h6 h7 ⊢;simp only[Addr.add_lit,Nat.add_zero] at h0 h1 h2 h3 h4 h5 h6 h7 ⊢;refine⟨⟨⟨op,(vk,vn,vs.data.toList),nm.data.toList,ln,cl⟩,ka,kn,kc⟩,⟨h0,h1,h2,h3,h4,h5,h6,h7⟩,⟨(eN hk).1,(eN hk).2,(mA hvn).1,(mA hvn).2,hvs,hnm,hkn,hks,hnil⟩,h0⟩
 obtain⟨l,hl,hp⟩:=Gq _ len hcells;refine⟨l,by omega,some a,cap,by rw[hl],fun i hil=>?_⟩;have hs:=Jr (hp 0 nU).2.2;simp only[Nat.zero_mul,Addr.add,if_true] at hs;obtain⟨q1,q2,_⟩:=hp i hil;exact⟨a.block,a.off,by rw[hs],q1,q2⟩
end
open Go Go.ChangeShapes Go.WideShapes Go.ChangeAt Go.RowKit Go.Lib Go.ChangeMaps
theorem T8 {H:Type}{enc:TypeId×Value->H}{a:Assume}{C:Checked}{os:Os}{f:FuncId}{fn:Func}{s:ChangeSpec}{conds:List PathCond}{apart fresh handsOn again:Bool}{X:World->Array Value->Prop}
 (hX:∀(w w':World) (args:Array Value),w.heap=w'.heap->X w args->X w' args)
 (own:ownKnob C.prog.godebug=none) (started:os.Started) (noInit:C.prog.inits.idxOf? f=none) (hfn:C.prog.funcs[f]? =some fn)
 (witness:∃(w:World) (tape:Tape) (i:Input),w.os=os/\(w.forCall tape i).Shaped C.prog/\i.vars=[]/\Input.okWide C.prog (w.forCall tape i) .any w.heap.size f i/\
  ((s.pre enc C.prog fn conds apart (w.forCall tape i).memory i.args/\X (w.forCall tape i).memory i.args)/\sizedMet enc C.prog fn (OpenSpec.ofChange s) apart (w.forCall tape i).memory i.args)/\a.holds C.prog (lone (Frame.enter C.prog f i.args .normal) [] (w.forCall tape i)))
 (contract:∀(W:World) (base:Nat) (args:Array Value) (ds gs:List (DataW H)) (before:List MemPlace),
  (∀(j:Nat) t v,fn.params[j]? =some t->args[j]? =some v->Value.okWide C.prog W .any base t v)->
  DataW.Whole enc C.prog fn.params.toList s.vars apart W args.toList ds gs before->W.ShapedOpen C.prog->X W args->
  (∀(j:Nat) t d,fn.params.toList[j]? =some t->ds[j]? =some d->∀k∈d.weights C.prog t,k<=reachBytes)->
  Calls C.prog f args W fun e W'=>∃v,e= .returned v/\s.post enc C.prog fn apart fresh handsOn again W args v W'):
 ReturnsInHanded a C os f .any (fun w args=>(s.pre enc C.prog fn conds apart w args/\X w args)/\sizedMet enc C.prog fn (OpenSpec.ofChange s) apart w args) (s.post enc C.prog fn apart fresh handsOn again):=by
 refine returnsInHanded_of_calls own started noInit witness ?_;intro w tape i _ hshape _ hin hp _;obtain⟨_,_,_,g,hg,_,_,_,_,hv⟩:=hin;obtain rfl:g=fn:=Option.some.inj (hg.symm.trans hfn);obtain⟨⟨⟨ds,gs,before,hw,_⟩,hx⟩,hz⟩:=hp;have hall:=hz.weights hw;refine(contract (w.forCall tape i) w.heap.size i.args ds gs before hv (DataW.Whole.of_heap (w':=w.forCall tape i) pF hw) hshape (hX _ _ _ pF hx) (fun j t d h1 h2 k hk=>?_)).mono ?_
 ·have:=List.all_eq_true.1 hall k (G1 (i:=j) (t:=t) (by rw[List.getElem?_append_left (List.getElem?_eq_some_iff.1 h1).1];exact h1) (by rw[List.getElem?_append_left (List.getElem?_eq_some_iff.1 h2).1];exact h2) k hk)
  simpa using this
 rintro e W' ⟨v,rfl,hq⟩;exact ChangeSpec.post_blind hq
theorem bL {H:Type}{enc:TypeId×Value->H}{w:World}{base:Nat}{spare:Nat->Bool}{held:Bool}{v:Value}{d:DataW H}{p:List MemPlace}{r:Reach}{b0:Nat}
 (hv:Value.okWide Tryz.prog w r b0 31 v) (h:DataW.Trod enc Tryz.prog w base spare held 31 v d p) (hw:∀k∈d.weights Tryz.prog 31,k<=reachBytes):∃l,Qp w v l:=by
 obtain⟨a',n',c',rfl⟩:=okWide_slice Tryz.underlying31 hv;obtain⟨fuel,h⟩:=h;exact Yg h hw
open Go Go.RowKit Go.Lib
def Kd (l:List Na):Nat:=(l.map fun x=>x.h.name.length+x.h.v.2.2.length+x.n).sum
def Uh (l:List Na):Bool:=decide (70<l.length)||decide (3000<Kd l)
theorem Ts {l:List Na}{j:Nat}(hj:j<l.length):Kd (l.take (j+1))=Kd (l.take j)+(l[j].h.name.length+l[j].h.v.2.2.length+l[j].n):=by
 unfold Kd;rw[List.take_succ_eq_append_getElem hj,List.map_append,List.sum_append];simp
theorem aG {w:World}{l:List Na}(h:∀x∈l,x.Ok w):∀j,j<=l.length->Kd (l.take j)<=j*422212465053696
 |0,_=>by simp [Kd]
 |j+1,hj=>by
  have h1:=aG h j nU;have h2:=h _ (List.getElem_mem (show j<l.length by omega));rw[Ts nU];have a:=h2.s;have b:=h2.name;have c:=h2.n;unfold reachBytes at a b c;omega
open Go Go.RowKit Go.Lib
def Kc (w:World)(v:Value)(l:List Int):Prop:=l.length<=1000000/\∃a c,v= .slice a l.length c/\∀i (h:i<l.length),∃b off,a=some ⟨b,off,none⟩/\w.cell? ⟨b,off+i,none⟩=some (.int .u8 l[i])
theorem Kc.below {w w':World}{x:Value}{l:List Int}(h:Kc w x l)(hb:Below w.heap.size w w'):Kc w' x l:=by
 exact zx6
def Gm (k:Int):List Int->Int
 |[]=>k
 |x::l=>if 2<x then 255 else Gm (max k x) l
def O9 (c:Int)(l:List Int):Bool:=l.all fun k=>k==c||k==0
def Pg (a b:Int):Bool:=a==0||b==0||a==b||(decide (a<=2) && decide (b<=2))
theorem Ks {v:Value}{l:List Int}(w:World)(h:Kc w v l):Calls Tryz.prog 105 #[v] w fun e w'=>e= .returned (.int .u8 (Gm 0 l))/\Below w.heap.size w w':=by
 have hlm:=h.1;obtain⟨_,a,c,rfl,hc⟩:=h;have HC:=Ax hc;clear hc;go_enter Tryz.func105,Tryz.ntmps105;go_wp2_with fail
 go_loopw [3,8] (fun v3 v8 wr=>∃(i:Nat) (k:Int),i<=l.length/\v8= .int .i64 i/\v3= .int .u8 k/\Hid (Below w.heap.size w wr/\Gm 0 l=Gm k (l.drop i))) (fun _ v8 _=>l.length - (intOf v8).toNat)
 case atStart=>exact⟨0,0,Nat.zero_le _,rfl,rfl,Aq _ w,rfl⟩
 obtain⟨i,k,hi,rfl,rfl,hq⟩:=hrel;by_cases hil:i<l.length
 ·obtain⟨b,off,rfl,hcell⟩:=HC.out i hil;have hcell:=A6 hq.out.1 hcell;have hd:=List.drop_eq_getElem_cons hil;obtain⟨x,hx⟩:∃x,l[i]=x:=⟨_,rfl⟩;rw[hx] at hcell hd;have j0:(0:Int)<=(i:Int):=by omega
  have j1:(i:Int)<(l.length:Int):=by omega
  have j2:decide ((i:Int)<(l.length:Int))=true:=Am j1;have HQ:=Ax hq.out;have HD:=Ax hd;clear hq hd hx;by_cases h2:2<x
  ·have d1:decide (2<x)=true:=Am h2;have HZ:=Ax (show Gm 0 l=255 by rw[HQ.out.2,HD.out,Gm,Ap h2]);clear h2;go_wp2_with fail;go_ret;exact⟨by rw[HZ.out];rfl,HQ.out.1⟩
  have d1:decide (2<x)=false:=An h2;have HZ:=Ax (show Gm 0 l=Gm (max k x) (l.drop (i+1)) by rw[HQ.out.2,HD.out,Gm,Ao h2]);clear h2;go_wp2_with fail;go_roundw
  case rel=>exact⟨i+1,_,by omega,by go_num,rfl,HQ.out.1,HZ.out⟩
  case measure=>simp [intOf];omega
 obtain rfl:i=l.length:=by omega
 have j2:decide ((l.length:Int)<(l.length:Int))=false:=by simp
 have HZ:=Ax (show Gm 0 l=k by rw[hq.out.2,List.drop_length,Gm]);have HB:=Ax hq.out.1;clear hq;go_wp2_with fail;go_ret;exact⟨by rw[HZ.out];rfl,HB.out⟩
open Go Go.RowKit Go.Lib
def Nj (w:World)(v:Value)(l:List (List UInt8×Int)):Prop:=l.length<=1000000/\∃a c,v= .slice a l.length c/\∀i (h:i<l.length),∃b off,a=some ⟨b,off,none⟩/\w.cell? ⟨b,off+i*2,none⟩=some (.string ⟨l[i].1.toArray⟩)/\w.cell? ⟨b,off+i*2+1,none⟩=some (.int .u8 l[i].2)
theorem Nj.below {w w':World}{x:Value}{l:List (List UInt8×Int)}(h:Nj w x l)(hb:Below w.heap.size w w'):Nj w' x l:=by
 obtain⟨h1,a,c,h2,h3⟩:=h;refine⟨h1,a,c,h2,fun i hi=>?_⟩;obtain⟨b,off,e,hc,hd⟩:=h3 i hi;exact⟨b,off,e,A6 hb hc,A6 hb hd⟩
def Di (n:List UInt8):List (List UInt8×Int)->Option Int
 |[]=>none
 |x::l=>if(x.1==n)=true then some x.2 else Di n l
end Go.Proofs.YtgfakdobajgnfaaGreatDoor
