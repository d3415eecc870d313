import Derived.Test.YtmpfilddeglgbaaGreatDoorQj11
set_option maxRecDepth 100000
set_option maxHeartbeats 16000000
namespace Go.Proofs.YtmpfilddeglgbaaGreatDoor
open Go Go.RowKit Go.Lib Go.Sort Go.Shelf
theorem sA {s:ByteArray}(w:World)(hs:s.size<=65536)(hR:Rd w){ts:List Tkn}(h:Ev (dl s)= .ok ts):
 Calls Tryz.prog 30 #[.string s] w fun e w'=>∃v,e= .returned (.tuple #[v,.agg #[.int .i64 0,.int .i64 0],.int .i64 0])/\w'.ownsRow w.heap.size 63 7 v ts.length (Ek ts)/\Below w.heap.size w w':=by
 refine(dW s w hs hR).mono ?_;exact zw8
theorem sI {s:ByteArray}(w:World)(hs:s.size<=65536)(hR:Rd w){a b q:Int}(h:Ev (dl s)= .error (a,b,q)):
 Calls Tryz.prog 30 #[.string s] w fun e w'=>e= .returned (.tuple #[.slice none 0 0,.agg #[.int .i64 a,.int .i64 b],.int .i64 q])/\Below w.heap.size w w':=by
 refine(dW s w hs hR).mono ?_;rintro e w' ⟨hb,he⟩;rw[h] at he;exact⟨he,hb⟩
open Go Go.RowKit Go.Lib Go.Sort Go.Shelf
theorem dI {w:World}{v:Value}{ts:List Tkn}(ht:I8 w v ts)(hc:∀t∈ts,0<=t.col/\t.col<=1000000/\t.w.t.length<=1000000)(hbig:ts.length<=1000000):
 Calls Tryz.prog 32 #[v] w fun e w'=>e= .returned (.agg #[.int .i64 (Fi ts).1,.int .i64 (Fi ts).2])/\Below w.heap.size w w':=by
 by_cases h0:ts=[]
 ·subst h0;obtain⟨va,vc,rfl⟩:=ht.form;simp only[List.length_nil];clear hc hbig ht;go_enter Tryz.func32,Tryz.ntmps32;go_wp2_with fail;refine Au (v:= .agg #[.int .i64 1,.int .i64 1]) uI rfl ?_;refine⟨rfl,?_⟩;exact(Aq _ w).alloc (Ak _) _
 obtain⟨m,hm⟩:∃m,ts.length=m+1:=⟨ts.length - 1,by have:=List.length_pos_iff.2 h0;omega⟩;have hml:m<ts.length:=by omega
 obtain⟨g,c,rfl,hg,t0,t1,t2,t3,t4,t5,t6⟩:=ht.at hml
 have hlast:ts.getLast? =some ts[m]:=by
  rw[List.getLast?_eq_getElem?,hm,Nat.add_sub_cancel,Ag hml]
 have hcc:=hc ts[m] (List.getElem_mem hml)
 have hbe:Fi ts=(ts[m].line,ts[m].col+ts[m].w.t.length+if ts[m].w.k=2\/ts[m].w.k=3\/ts[m].w.k=6 then 1 else if ts[m].w.k=5 then 2 else 0):=by
  unfold Fi;rw[hlast]
 rw[hbe];obtain⟨t,he⟩:∃t,ts[m]=t:=⟨_,rfl⟩;rw[he] at t0 t1 t2 t3 t4 t5 t6 hcc ⊢;obtain⟨⟨tk,tt,tv1,tv2,tv3⟩,tl,tc⟩:=t;simp only at t0 t1 t2 t3 t4 t5 t6 hcc ⊢;rw[hm];obtain⟨hc1,hc2,hc3⟩:=hcc;have hm6:m+1<=1000000:=by omega
 obtain⟨W1,hW1⟩:∃W1,w.alloc (.cells #[.int .i64 0,.int .i64 0] 26)=W1:=⟨_,rfl⟩;have hb1:Below w.heap.size w W1:=by rw[←hW1];exact(Aq _ w).alloc (Ak _) _
 have hz1:W1.heap.size=w.heap.size+1:=by rw[←hW1];simp
 have hp1:=A1 w (.cells #[.int .i64 0,.int .i64 0] 26);rw[hW1] at hp1;have t0':=Ba hb1 t0;have t1':=Ba hb1 t1;have t2':=Ba hb1 t2;have t3':=Ba hb1 t3;have t4':=Ba hb1 t4;have t5':=Ba hb1 t5;have t6':=Ba hb1 t6;obtain⟨W2,hW2⟩:∃W2,W1.alloc (.cells #[.int .u8 tk,.string ⟨tt.toArray⟩,.int .u8 tv1,.int .i64 tv2,.string ⟨tv3.toArray⟩,.int .i64 tl,.int .i64 tc] 63)=W2:=⟨_,rfl⟩;have hb2:Below W1.heap.size W1 W2:=by rw[←hW2];exact(Aq _ W1).alloc (Ak _) _
 have hz2:W2.heap.size=w.heap.size+2:=by rw[←hW2];simp [hz1]
 have hp2:=A1 W1 (.cells #[.int .u8 tk,.string ⟨tt.toArray⟩,.int .u8 tv1,.int .i64 tv2,.string ⟨tv3.toArray⟩,.int .i64 tl,.int .i64 tc] 63);rw[hW2,hz1] at hp2;obtain⟨s0,s1,s2,s3,s4,s5,s6⟩:=Gv hp2;obtain⟨W3,hW3⟩:∃W3,W2.alloc (.cells #[.int .i64 tl,.int .i64 tc] 26)=W3:=⟨_,rfl⟩;have hb3:Below W2.heap.size W2 W3:=by rw[←hW3];exact(Aq _ W2).alloc (Ak _) _
 have hz3:W3.heap.size=w.heap.size+3:=by rw[←hW3];simp [hz2]
 have hp3:=A1 W2 (.cells #[.int .i64 tl,.int .i64 tc] 26);rw[hW3,hz2] at hp3;have hq2:=(hb3.block _ (Ay hp2)).trans hp2;have hq1:=(hb3.block _ tE).trans ((hb2.block _ (Ay hp1)).trans hp1);obtain⟨r0,r1,r2,r3,r4,r5,r6⟩:=Gv hq2;obtain⟨x0,x1,xf⟩:=Bo hp3;obtain⟨y0,y1,yf⟩:=Bo hq1;have xf0:=xf 0;have xf1:=xf 1;have yf0:=yf 0;have yf1:=yf 1;have HB3:=Ax (hb1.trans ((hb2.trans (hb3.mono hb2.size)).mono hb1.size));clear hb1 hb2 hb3 hp1 hp2 hp3 hq1 hq2 xf yf t0 t1 t2 t3 t4 t5 t6 hbe hlast hc he ht hbig h0;by_cases hk:tk=2\/tk=3\/tk=6
 ·rcases hk with rfl|rfl|rfl
  ·exact zyw
  ·exact zyw
  exact zyw
 by_cases h5:tk=5
 ·subst h5;go_enter Tryz.func32,Tryz.ntmps32;go_wp2_with fail;refine Au (v:= .agg #[.int .i64 tl,.int .i64 (tc+(tt.length:Int)+2)]) uI rfl ?_;refine⟨by simp [*],?_⟩;exact(((HB3.out.setCell tH _).setCell tH _).setCell tH _).setCell tH _
 have j2:(tk==2)=false:=by simp at hk ⊢;omega
 have j3:(tk==3)=false:=by simp at hk ⊢;omega
 have j6:(tk==6)=false:=by simp at hk ⊢;omega
 have j5:(tk==5)=false:=by simpa using h5
 rw[Ao hk,Ao h5,Int.add_zero];clear hk h5;go_enter Tryz.func32,Tryz.ntmps32;go_wp2_with fail;refine Au (v:= .agg #[.int .i64 tl,.int .i64 (tc+(tt.length:Int))]) uI rfl ?_;refine⟨by simp [*],?_⟩;exact((HB3.out.setCell tH _).setCell tH _).setCell tH _
def Rn (w:World)(x:Except ((Int×Int)×Int) Ex)(e:Ending)(w':World):Prop:=
 Below w.heap.size w w'/\match x with
  | .error p=>e= .returned (.tuple #[.slice none 0 0,.agg #[.int .i64 p.1.1,.int .i64 p.1.2],.int .i64 p.2])
  | .ok a=>∃v,e= .returned (.tuple #[v,.agg #[.int .i64 0,.int .i64 0],.int .i64 0])/\Ii w' w.heap.size [] v (a.flat 0)
theorem oK {s:ByteArray}(w:World)(hs:s.size<=65536)(hR:Rd w){a b q:Int}(h:Ev (dl s)= .error (a,b,q)):Calls Tryz.prog 9 #[.string s] w (Rn w (Bj (dl s))):=by
 have hx:Bj (dl s)= .error ((a,b),q):=by unfold Bj;rw[h]
 have hq:q=4\/q=9:=((Lx _ (dl s) 1 1 (Ak _) tG).1 a b q h).2.2;have hq1:(q !=0)=true:=by rcases hq with rfl|rfl<;>rfl
 have hq2:(q==0)=false:=by rcases hq with rfl|rfl<;>rfl
 obtain⟨W1,hW1⟩:∃W1,w.alloc (.cells #[.int .i64 0,.int .i64 0] 26)=W1:=⟨_,rfl⟩;have hb1:Below w.heap.size w W1:=by rw[←hW1];exact(Aq _ w).alloc (Ak _) _
 have hp1:=A1 w (.cells #[.int .i64 0,.int .i64 0] 26);rw[hW1] at hp1;have L1:=Ax (sI (s:=s) W1 hs (hR.below hb1) h);have HB1:=Ax hb1;have HP1:=Ax hp1;rw[hx];clear hx h hR hb1 hp1 hq;go_enter Tryz.func9,Tryz.ntmps9;go_wp2_with fail;refine L1.out.mono ?_;rintro e V2 ⟨rfl,hb2⟩;have hp2:=(hb2.block _ (Ay HP1.out)).trans HP1.out;obtain⟨V3,hV3⟩:∃V3,V2.alloc (.cells #[.int .i64 a,.int .i64 b] 26)=V3:=⟨_,rfl⟩;have hb3:Below V2.heap.size V2 V3:=by rw[←hV3];exact(Aq _ V2).alloc (Ak _) _
 have hp3:=A1 V2 (.cells #[.int .i64 a,.int .i64 b] 26);rw[hV3] at hp3;have hp4:=(hb3.block _ (Ay hp2)).trans hp2;obtain⟨x0,x1,_⟩:=Bo hp3;obtain⟨y0,y1,yf⟩:=Bo hp4;have yf0:=yf 0;have yf1:=yf 1;have HB3:=Ax (HB1.out.trans ((hb2.trans (hb3.mono hb2.size)).mono HB1.out.size));have hne:¬w.heap.size=V2.heap.size:=by have:=Ay hp2;omega
 have hne2:¬V2.heap.size=w.heap.size:=fun h=>hne h.symm
 clear hb2 hb3 hp2 hp3 hp4 yf L1 HP1;go_wp2_with fail;go_region;go_wp2_with fail;refine Au (v:= .tuple #[.slice none 0 0,.agg #[.int .i64 a,.int .i64 b],.int .i64 q]) uP rfl ?_;exact⟨((HB3.out.setCell tH _).setCell tH _).drew,rfl⟩
inductive Mid (ts:List Tkn)(w:World)(V:World)(v:Value)(n:Nat)(e0:Int):Except ((Int×Int)×Int) Ex->Prop where
 |tree (a:Ex) (he:e0=0) (hn:n=ts.length) (ht:Ii V w.heap.size [] v (a.flat 0)):Mid ts w V v n e0 (.ok a)
 |more (t:Tkn) (he:e0=0) (hn:ts[n]? =some t):Mid ts w V v n e0 (.error ((t.line,t.col),4))
 |bad (t:Tkn) (he:e0≠0) (hn:ts[n]? =some t):Mid ts w V v n e0 (.error ((t.line,t.col),e0))
 |end' (he:e0≠0) (hn:n=ts.length):Mid ts w V v n e0 (.error (Fi ts,e0))
theorem Suf.head {t:Tkn}{q ts:List Tkn}(h:Suf (t::q) ts):ts[ts.length - (t::q).length]? =some t:=by
 have h1:=h.at_drop;have h2:=Ar (fun l=>l[0]?) h1;simpa using h2.symm
theorem lQ {w V V':World}{ts:List Tkn}{l:List UInt8}(hl:Ev l= .ok ts){e:Ending}(h:Ru V ts 0 (A9 0 0 ts) e V')(hw:w.heap.size<=V.heap.size):
 ∃(v:Value) (n:Nat) (e0:Int),e= .returned (.tuple #[v,.int .i64 (n:Int),.int .i64 e0])/\n<=ts.length/\(∃a k c,v= .slice a k c)/\Mid ts w V' v n e0 (Bj l)/\Below V.heap.size V V':=by
 have hx:Bj l=match A9 0 0 ts with
  | .error (e,q)=> .error (Mz ts q,e)
  | .ok (a,q)=>if 60<a.size then .error (Mz ts ts,7) else if q=[] then .ok a else .error (Mz ts q,4):=by
  simp only[Bj,hl]
  all_goals (cases A9 0 0 ts<;>rfl)
 obtain⟨hb,h⟩:=h;cases hq:A9 0 0 ts with
 |error p=>
  obtain⟨er,q⟩:=p;rw[hq] at h hx;have hs:=oX (td:= .lvl 0) vB (show exE (.lvl 0) 0 ts=_ from hq)
  have he:er≠0:=by
   have:=Zj (.lvl 0) 0 ts vB _ (show exE (.lvl 0) 0 ts=_ from hq)
   simp only at this;omega
  refine⟨_,_,er,h,by omega,⟨_,_,_,rfl⟩,?_,hb⟩;rw[hx];simp only;cases q with
  |nil=>exact .end' he tH
  |cons t q=>exact .bad t he hs.head
 |ok p=>
  obtain⟨a,q⟩:=p;rw[hq] at h hx;simp only at h hx;have hs:=Dz (n:=0) tE hq;by_cases h60:60<a.size
  ·rw[Ap h60] at h hx;refine⟨_,0,7,h,by omega,⟨_,_,_,rfl⟩,?_,hb⟩;rw[hx];cases ts with
   |nil=>simp at hs
   |cons t ts=>exact .bad t tG rfl
  rw[Ao h60] at h hx;obtain⟨v,h1,h2⟩:=h
  have hv:∃a k c,v= .slice a k c:=by
   obtain⟨kvs,h3,_⟩:=h2;obtain⟨x,c,rfl⟩:=Er h3;exact⟨_,_,_,rfl⟩
  refine⟨v,_,0,h1,by omega,hv,?_,hb⟩;rw[hx];cases q with
  |nil=>
   rw[Ap rfl];refine .tree a rfl tH ?_;obtain⟨kvs,h3,h4⟩:=h2;exact⟨kvs,U7 h3 hw,C8.base hw h4⟩
  |cons t q=>
   rw[Ao tH];exact .more t rfl hs.1.head
theorem rJ {s:ByteArray}(w:World)(hs:s.size<=65536)(hR:Rd w){ts:List Tkn}(h:Ev (dl s)= .ok ts):Calls Tryz.prog 9 #[.string s] w (Rn w (Bj (dl s))):=by
 have hlen:=(J0 _ (dl s) 1 1 ts (Ak _) h).2;have hpl:=Ln h;have hsh:=U0 h;rw[A4] at hlen;have hbig:ts.length<=1000000:=by omega
 have hcols:∀t∈ts,0<=t.col/\t.col<=1000000/\t.w.t.length<=1000000:=fun t ht=>by
  have h1:=hpl t ht;have h2:=hsh t ht;rw[A4] at h1 h2;omega
 obtain⟨W1,hW1⟩:∃W1,w.alloc (.cells #[.int .i64 0,.int .i64 0] 26)=W1:=⟨_,rfl⟩;have hb1:Below w.heap.size w W1:=by rw[←hW1];exact(Aq _ w).alloc (Ak _) _
 have hp1:=A1 w (.cells #[.int .i64 0,.int .i64 0] 26);rw[hW1] at hp1;have L1:=Ax (sA (s:=s) W1 hs (hR.below hb1) h);have HB1:=Ax hb1;have HP1:=Ax hp1;have HL:=Ax h;have Hcols:=Ax hcols;have Hnam:=Ax (Vx h);clear h hR hb1 hp1 hcols hpl hsh hs;go_enter Tryz.func9,Tryz.ntmps9;go_wp2_with fail;refine L1.out.mono ?_;rintro e V2 ⟨tv,rfl,hrow,hb2⟩;have htk:=I8.of_row hrow;obtain⟨ta,tc,rfl⟩:=htk.form;have hp2:=(hb2.block _ (Ay HP1.out)).trans HP1.out;obtain⟨V3,hV3⟩:∃V3,V2.alloc (.cells #[.int .i64 0,.int .i64 0] 26)=V3:=⟨_,rfl⟩;have hb3:Below V2.heap.size V2 V3:=by rw[←hV3];exact(Aq _ V2).alloc (Ak _) _
 have hp4:=(hb3.block _ (Ay hp2)).trans hp2;have hB3:=HB1.out.trans ((hb2.trans (hb3.mono hb2.size)).mono HB1.out.size);have ht3:=htk.below hb3;have hpa:Calls Tryz.prog 31 #[.slice ta ts.length tc,.int .i64 0] V3 (Ru V3 ts 0 (A9 0 0 ts)):=bY ht3 Hnam.out hbig 0 (Nat.zero_le _);have HPA:=Ax hpa;have HB3:=Ax hB3;have HP4:=Ax hp4;have HT3:=Ax ht3;clear hb2 hp2 hb3 hp4 hB3 ht3 hpa htk hrow L1 HP1;subst hV3;go_wp2_with fail;refine HPA.out.mono ?_;rintro e V4 hp;obtain⟨v,n,e0,rfl,hn,⟨va,vk,vc,rfl⟩,hmid,hb4⟩:=lQ (w:=w) HL.out hp HB3.out.size;have hB4:=HB3.out.trans (hb4.mono HB3.out.size);have hp5:=(hb4.block _ (Ay HP4.out)).trans HP4.out;have ht4:=HT3.out.below hb4;have HB4:=Ax hB4;have HP5:=Ax hp5;have HT4:=Ax ht4;obtain⟨x,hx⟩:∃x,Bj (dl s)=x:=⟨_,rfl⟩;rw[hx] at hmid;have HX:=Ax hx;clear hp hb4 hB4 hp5 ht4 HPA HP4 HT3 HL hx;obtain⟨y0,y1,yf⟩:=Bo HP5.out;have yf0:=yf 0;have yf1:=yf 1;clear yf;cases hmid with
 |tree a he hn' ht=>
  subst he;subst hn';have HT:=Ax ht;clear ht;go_wp2_with fail;refine Au (v:= .tuple #[.slice va vk vc,.agg #[.int .i64 0,.int .i64 0],.int .i64 0]) uP rfl ?_;exact zyp
 |more t he hn'=>
  obtain⟨hnl,hte⟩:=List.getElem?_eq_some_iff.1 hn';obtain⟨g,c,et,hg,t0,t1,t2,t3,t4,t5,t6⟩:=HT4.out.at hnl;injection et with e1 _ e3;subst e1;subst e3;rw[hte] at t5 t6;have i0:(0:Int)<=(n:Int):=by omega
  have i1:(n:Int)<(ts.length:Int):=by omega
  have i2:decide ((n:Int)<(ts.length:Int))=true:=by simp;omega
  have hgw:g<V4.drew.heap.size:=hg;subst he;clear t0 t1 t2 t3 t4 hte hn' hg;go_wp2_with fail;go_region;go_wp2_with fail;refine Au (v:= .tuple #[.slice none 0 0,.agg #[.int .i64 t.line,.int .i64 t.col],.int .i64 4]) uP rfl ?_;exact zxt
 |bad t he hn'=>
  obtain⟨hnl,hte⟩:=List.getElem?_eq_some_iff.1 hn';obtain⟨g,c,et,hg,t0,t1,t2,t3,t4,t5,t6⟩:=HT4.out.at hnl;injection et with e1 _ e3;subst e1;subst e3;rw[hte] at t5 t6;have i0:(0:Int)<=(n:Int):=by omega
  have i1:(n:Int)<(ts.length:Int):=by omega
  have i2:decide ((n:Int)<(ts.length:Int))=true:=by simp;omega
  have hgw:g<V4.drew.heap.size:=hg;have j1:(e0==0)=false:=by simpa using he
  have HE:=Ax he;clear he;clear t0 t1 t2 t3 t4 hte hn' hg;go_wp2_with fail;go_region;go_wp2_with fail;refine Au (v:= .tuple #[.slice none 0 0,.agg #[.int .i64 t.line,.int .i64 t.col],.int .i64 e0]) uP rfl ?_;exact zxt
 |end' he hn'=>
  subst hn';have hbe:=dI HT4.out Hcols.out hbig;have j1:(e0==0)=false:=by simpa using he
  have Hbe:=Ax hbe;clear he hbe;go_wp2_with fail;refine Hbe.out.mono ?_;rintro e V5 ⟨rfl,hb5⟩;have hp6:=(hb5.block _ (Ay HP5.out)).trans HP5.out;obtain⟨y0,y1,yf⟩:=Bo hp6;have yf0:=yf 0;have yf1:=yf 1;have HB5:=Ax (HB4.out.trans (hb5.mono HB4.out.size));clear hp6 hb5 yf Hbe;go_wp2_with fail;refine Au (v:= .tuple #[.slice none 0 0,.agg #[.int .i64 (Fi ts).1,.int .i64 (Fi ts).2],.int .i64 e0]) uP rfl ?_;rw[HX.out];exact⟨(HB5.out.setCell tH _).setCell tH _,rfl⟩
theorem Vz (s:ByteArray)(w:World)(hs:s.size<=65536)(hR:Rd w):Calls Tryz.prog 9 #[.string s] w (Rn w (Bj (dl s))):=by
 cases h:Ev (dl s) with
 |error p=>exact oK w hs hR (a:=p.1) (b:=p.2.1) (q:=p.2.2) h
 |ok ts=>exact rJ w hs hR h
open Go Go.RowKit Go.Lib Go.Sort Go.Shelf
structure Nz where
 h:Hd
 kids:List Int
def Nd.z (n:Nd):Nz:=⟨n.h,n.kids.map fun(k:Nat)=>(k:Int)⟩
def Gg (w:World)(x:Value)(l:List Int):Prop:=l.length<=1000000/\∃a c,x= .slice a l.length c/\∀i (h:i<l.length),∃b off,a=some ⟨b,off,none⟩/\w.cell? ⟨b,off+i,none⟩=some (.int .i64 l[i])
theorem Gg.below {w w':World}{x:Value}{l:List Int}(h:Gg w x l)(hb:Below w.heap.size w w'):Gg w' x l:=by
 exact zx6
theorem Gg.of_row {w:World}{B:Nat}{v:Value}{l:List Nat}(hl:l.length<=1000000)(h:w.ownsRow B 3 1 v l.length (Gq l)):Gg w v (l.map fun(k:Nat)=>(k:Int)):=by
 rcases h.2 with ⟨e,h0⟩|⟨g,cap,cur,rfl,_,hg,hc,_⟩
 ·have:l=[]:=List.eq_nil_of_length_eq_zero h0
  subst this;exact⟨by simp,none,0,e,fun i hi=>by simp at hi⟩
 refine⟨by simpa using hl,some ⟨g,0,none⟩,cap,by simp,fun i hi=>⟨g,0,rfl,?_⟩⟩;have hi':i<l.length:=by simpa using hi
 have:=h.cells (g:=g) rfl i (.int .i64 (l[i]:Int)) (by simp [Gq,hi'])
 rw[Addr.add_lit,Nat.zero_add] at this;rw[Nat.zero_add];simpa using this
def Qu (w:World)(b off:Nat)(h:Hd)(kv:Value):Prop:=
 w.cell? ⟨b,off,none⟩=some (.int .u8 h.op)/\w.cell? ⟨b,off+1,none⟩=some (.int .u8 h.v.1)/\w.cell? ⟨b,off+2,none⟩=some (.int .i64 h.v.2.1)/\w.cell? ⟨b,off+3,none⟩=some (.string ⟨h.v.2.2.toArray⟩)/\
 w.cell? ⟨b,off+4,none⟩=some (.string ⟨h.name.toArray⟩)/\w.cell? ⟨b,off+5,none⟩=some kv/\w.cell? ⟨b,off+6,none⟩=some (.int .i64 h.line)/\w.cell? ⟨b,off+7,none⟩=some (.int .i64 h.col)
theorem Qu.below {w w':World}{b off:Nat}{h:Hd}{kv:Value}(q:Qu w b off h kv)(hb:Below w.heap.size w w'):Qu w' b off h kv:=
 ⟨Ba hb q.1,Ba hb q.2.1,Ba hb q.2.2.1,Ba hb q.2.2.2.1,Ba hb q.2.2.2.2.1,Ba hb q.2.2.2.2.2.1,Ba hb q.2.2.2.2.2.2.1,Ba hb q.2.2.2.2.2.2.2⟩
def TrZ (w:World)(v:Value)(l:List Nz):Prop:=l.length<=1000000/\∃a c,v= .slice a l.length c/\∀i (h:i<l.length),∃b off kv,a=some ⟨b,off,none⟩/\Qu w b (off+i*8) l[i].h kv/\Gg w kv l[i].kids
theorem TrZ.below {w w':World}{v:Value}{l:List Nz}(h:TrZ w v l)(hb:Below w.heap.size w w'):TrZ w' v l:=by
 obtain⟨h1,a,c,h2,h3⟩:=h;refine⟨h1,a,c,h2,fun i hi=>?_⟩;obtain⟨b,off,kv,e,hc,hk⟩:=h3 i hi;exact⟨b,off,kv,e,hc.below hb,hk.below hb⟩
theorem Us {w:World}{B:Nat}{X:List Nat}:∀{vs:List Value} {ns:List Nd},C8 w B X vs ns->∀(i:Nat) (h:i<ns.length),∃kv,vs[i]? =some kv/\w.ownsRow B 3 1 kv ns[i].kids.length (Gq ns[i].kids)/\
 (Fb vs ns)[i*8]? =some (.int .u8 ns[i].h.op)/\(Fb vs ns)[i*8+1]? =some (.int .u8 ns[i].h.v.1)/\(Fb vs ns)[i*8+2]? =some (.int .i64 ns[i].h.v.2.1)/\(Fb vs ns)[i*8+3]? =some (.string ⟨ns[i].h.v.2.2.toArray⟩)/\
 (Fb vs ns)[i*8+4]? =some (.string ⟨ns[i].h.name.toArray⟩)/\(Fb vs ns)[i*8+5]? =some kv/\(Fb vs ns)[i*8+6]? =some (.int .i64 ns[i].h.line)/\(Fb vs ns)[i*8+7]? =some (.int .i64 ns[i].h.col)
 |[],[],_,i,h=>by simp at h
 |v::vs,n::ns,hk,0,_=>⟨v,rfl,hk.1.1,rfl,rfl,rfl,rfl,rfl,rfl,rfl,rfl⟩
 |v::vs,n::ns,hk,i+1,h=>by
  have:=Us hk.2 i uB
  rw[show(i+1)*8=i*8+1+1+1+1+1+1+1+1 by omega];exact this
 |[],_::_,h,_,_=>h.elim
 |_::_,[],h,_,_=>h.elim
def sN (ns:List Nd):Prop:=∀n∈ns,n.kids.length<=1000000
theorem Ii.z {w:World}{B:Nat}{X:List Nat}{v:Value}{ns:List Nd}(h:Ii w B X v ns)(hl:ns.length<=1000000)(hs:sN ns):TrZ w v (ns.map Nd.z):=by
 obtain⟨kvs,h1,h2⟩:=h;rcases h1.2 with ⟨e,h0⟩|⟨g,cap,cur,rfl,_,hg,hc,_⟩
 ·have:ns=[]:=List.eq_nil_of_length_eq_zero h0
  subst this;exact⟨by simp,none,0,e,fun i hi=>by simp at hi⟩
 refine⟨by simpa using hl,some ⟨g,0,none⟩,cap,by simp,fun i hi=>?_⟩;have hi':i<ns.length:=by simpa using hi
 obtain⟨kv,_,hk,g0,g1,g2,g3,g4,g5,g6,g7⟩:=Us h2 i hi'
 have hcell:∀j u,(Fb kvs ns)[j]? =some u->w.cell? ⟨g,0+j,none⟩=some u:=fun j u hj=>by
  have:=h1.cells (g:=g) rfl j u hj
  rwa [Addr.add_lit] at this
 have he:(ns.map Nd.z)[i]=Nd.z ns[i]:=by simp
 refine⟨g,0,kv,rfl,?_,?_⟩
 ·rw[he];exact⟨hcell _ _ g0,hcell _ _ g1,hcell _ _ g2,hcell _ _ g3,hcell _ _ g4,hcell _ _ g5,hcell _ _ g6,hcell _ _ g7⟩
 rw[he];exact Gg.of_row (hs _ (List.getElem_mem hi')) hk
theorem oG {x y:Value}{l m:List Int}(w:World)(hx:Gg w x l)(hy:Gg w y m):Calls Tryz.prog 37 #[x,y] w fun e w'=>e= .returned (.bool (decide (l=m)))/\Below w.heap.size w w':=by
 obtain⟨hx1,a,c,rfl,hx2⟩:=hx;obtain⟨hy1,a',c',rfl,hy2⟩:=hy;by_cases hn:l.length=m.length
 ·by_cases h0:l.length=0
  ·obtain rfl:l=[]:=List.eq_nil_of_length_eq_zero h0;obtain rfl:m=[]:=List.eq_nil_of_length_eq_zero tE;refine(Tryz.slices_Equal_int_empty a a' c 0 c' w tE).mono ?_;rintro e w' ⟨rfl,rfl⟩;exact⟨by simp,Aq _ _⟩
  obtain⟨b,off,e1,_⟩:=hx2 0 tE;obtain⟨b',off',e2,_⟩:=hy2 0 tE;subst e1;subst e2;refine(Tryz.slices_Equal_int b off l.length c b' off' m.length c' l m w (Ak _) (Ak _) tE tE (fun j h=>?_) (fun j h=>?_)).mono ?_
  ·obtain⟨b2,o2,e,hc⟩:=hx2 j h;injection e with e;injection e with e1 e2;subst e1;subst e2;rw[hc,List.getD_eq_getElem?_getD,Ag h];rfl
  ·obtain⟨b2,o2,e,hc⟩:=hy2 j h;injection e with e;injection e with e1 e2;subst e1;subst e2;rw[hc,List.getD_eq_getElem?_getD,Ag h];rfl
  rintro e w' ⟨rfl,q,rfl⟩;refine⟨?_,Bg (Aq _ _) q⟩;rw[List.take_length,List.take_length];congr 2;rw[Bool.eq_iff_iff];simp
 have hd:decide (l=m)=false:=An fun h=>hn (Ar List.length h)
 rw[hd];have h1:(((l.length:Nat):Int) !=((m.length:Nat):Int))=true:=by simp;omega
 clear hx2 hy2 hd hn;go_enter Tryz.func37,Tryz.ntmps37;exact zym
def Ip (x y:Nz):Bool:=decide (x.h.op=y.h.op) && (decide (x.h.v=y.h.v) && (decide (x.h.name=y.h.name) && decide (x.kids=y.kids)))
theorem iL (x y:Nz):Ip x y=true↔x.h.bare=y.h.bare/\x.kids=y.kids:=by
 obtain⟨⟨a1,a2,a3,a4,a5⟩,ak⟩:=x;obtain⟨⟨b1,b2,b3,b4,b5⟩,bk⟩:=y;simp [Ip,Hd.bare,and_assoc]
def E6:List Nz->List Nz->Bool
 |[],[]=>true
 |x::l,y::m=>Ip x y && E6 l m
 |_,_=>false
def Nz.bare (n:Nz):Nz:=⟨n.h.bare,n.kids⟩
theorem Ls:∀(l m:List Nz),E6 l m=true↔l.map Nz.bare=m.map Nz.bare
 |[],[]=>by simp [E6]
 |[],_::_=>by simp [E6]
 |_::_,[]=>by simp [E6]
 |x::l,y::m=>by
  simp only[E6,Bool.and_eq_true,iL,Ls l m,List.map_cons,List.cons.injEq,Nz.bare,Nz.mk.injEq]
theorem Wu (h1 h2:Hd)(kv1 kv2:Value)(k1 k2:List Int)(w:World)(hx:Gg w kv1 k1)(hy:Gg w kv2 k2):
 Calls Tryz.prog 36 #[.agg #[.int .u8 h1.op,.int .u8 h1.v.1,.int .i64 h1.v.2.1,.string ⟨h1.v.2.2.toArray⟩,.string ⟨h1.name.toArray⟩,kv1,.int .i64 h1.line,.int .i64 h1.col],.agg #[.int .u8 h2.op,.int .u8 h2.v.1,.int .i64 h2.v.2.1,.string ⟨h2.v.2.2.toArray⟩,.string ⟨h2.name.toArray⟩,kv2,.int .i64 h2.line,.int .i64 h2.col]] w
  fun e w'=>e= .returned (.bool (Ip ⟨h1,k1⟩ ⟨h2,k2⟩))/\Below w.heap.size w w':=by
 obtain⟨op1,⟨vk1,vn1,vs1⟩,nm1,ln1,cl1⟩:=h1;obtain⟨op2,⟨vk2,vn2,vs2⟩,nm2,ln2,cl2⟩:=h2;by_cases e0:op1=op2
 ·subst e0;by_cases e1:vk1=vk2
  ·subst e1;by_cases e2:vn1=vn2
   ·subst e2;by_cases e3:vs1=vs2
    ·subst e3;by_cases e4:nm1=nm2
     ·subst e4;have hb:Below w.heap.size w ((w.alloc (.cells #[.int .u8 op1,.int .u8 vk1,.int .i64 vn1,.string ⟨vs1.toArray⟩,.string ⟨nm1.toArray⟩,kv1,.int .i64 ln1,.int .i64 cl1] 38)).alloc (.cells #[.int .u8 op1,.int .u8 vk1,.int .i64 vn1,.string ⟨vs1.toArray⟩,.string ⟨nm1.toArray⟩,kv2,.int .i64 ln2,.int .i64 cl2] 38)):=((Aq _ w).alloc (Ak _) _).alloc tH _;have hc:=oG _ (hx.below hb) (hy.below hb);have HC:=Ax hc;have HB:=Ax hb;clear hx hy hc hb;go_enter Tryz.func36,Tryz.ntmps36;go_wp2_with fail;refine HC.out.mono ?_;rintro e V ⟨rfl,hb2⟩;have HB2:=Ax (HB.out.trans (hb2.mono HB.out.size));clear hb2 HC HB;go_wp2_with fail;go_ret;exact⟨by simp [Ip],HB2.out⟩
     have f:(nm1==nm2)=false:=by simpa using e4
     have hz:Ip ⟨⟨op1,(vk1,vn1,vs1),nm1,ln1,cl1⟩,k1⟩ ⟨⟨op1,(vk1,vn1,vs1),nm2,ln2,cl2⟩,k2⟩=false:=by simp [Ip,e4]
     rw[hz];clear hz hx hy e4;exact zyu
    have f:(vs1==vs2)=false:=by simpa using e3
    have hz:Ip ⟨⟨op1,(vk1,vn1,vs1),nm1,ln1,cl1⟩,k1⟩ ⟨⟨op1,(vk1,vn1,vs2),nm2,ln2,cl2⟩,k2⟩=false:=by simp [Ip,e3]
    rw[hz];clear hz hx hy e3;exact zyu
   have f:(vn1==vn2)=false:=by simpa using e2
   have hz:Ip ⟨⟨op1,(vk1,vn1,vs1),nm1,ln1,cl1⟩,k1⟩ ⟨⟨op1,(vk1,vn2,vs2),nm2,ln2,cl2⟩,k2⟩=false:=by simp [Ip,e2]
   rw[hz];clear hz hx hy e2;exact zyu
  have f:(vk1==vk2)=false:=by simpa using e1
  have hz:Ip ⟨⟨op1,(vk1,vn1,vs1),nm1,ln1,cl1⟩,k1⟩ ⟨⟨op1,(vk2,vn2,vs2),nm2,ln2,cl2⟩,k2⟩=false:=by simp [Ip,e1]
  rw[hz];clear hz hx hy e1;exact zyu
 have f:(op1==op2)=false:=by simpa using e0
 have hz:Ip ⟨⟨op1,(vk1,vn1,vs1),nm1,ln1,cl1⟩,k1⟩ ⟨⟨op2,(vk2,vn2,vs2),nm2,ln2,cl2⟩,k2⟩=false:=by simp [Ip,e0]
 rw[hz];clear hz hx hy e0;exact zyu
theorem nB {v1 v2:Value}{l m:List Nz}(w:World)(hx:TrZ w v1 l)(hy:TrZ w v2 m):Calls Tryz.prog 12 #[v1,v2] w fun e w'=>e= .returned (.bool (E6 l m))/\Below w.heap.size w w':=by
 have hef:Calls Tryz.prog 35 #[v1,v2,.func (.func 36) #[] #[]] w fun e w'=>e= .returned (.bool (E6 l m))/\Below w.heap.size w w':=by
  have hl1:=hx.1;have hm1:=hy.1;have HX:=Ax hx;have HY:=Ax hy;obtain⟨_,a,c,rfl,_⟩:=hx;obtain⟨_,a',c',rfl,_⟩:=hy;by_cases hn:l.length=m.length
  ·rw[←hn];have HN:=Ax hn;have hlm:l.length<=m.length:=by omega
   clear hn;go_enter Tryz.func35,Tryz.ntmps35;go_wp2_with fail
   go_loopw [17] (fun vi wr=>∃j:Nat,j<=l.length/\vi= .int .i64 j/\Hid (E6 (l.drop j) (m.drop j)=E6 l m)/\Hid (Below w.heap.size w wr)) (fun vi _=>l.length - (intOf vi).toNat)
   case atStart=>exact⟨0,Nat.zero_le _,rfl,rfl,Aq _ _⟩
   obtain⟨j,hj,rfl,hq,hb⟩:=hrel;by_cases hjl:j<l.length
   ·have hjm:j<m.length:=by omega
    have hx2:=HX.out.below hb.out;have hy2:=HY.out.below hb.out;obtain⟨_,ax,cx,ex,hx3⟩:=hx2;obtain⟨_,ay,cy,ey,hy3⟩:=hy2;injection ex with ex1 _ ex2;injection ey with ey1 _ ey2;subst ex1 ex2 ey1 ey2;obtain⟨bx,ox,kx,rfl,hnx,hix⟩:=hx3 j hjl;obtain⟨by',oy,ky,rfl,hny,hiy⟩:=hy3 j hjm
    have hs:(Ip l[j] m[j] && E6 (l.drop (j+1)) (m.drop (j+1)))=E6 l m:=by
     rw[←hq.out,List.drop_eq_getElem_cons hjl,List.drop_eq_getElem_cons hjm];rfl
    obtain⟨⟨hd1,k1⟩,e1⟩:∃z,l[j]=z:=⟨_,rfl⟩;obtain⟨⟨hd2,k2⟩,e2⟩:∃z,m[j]=z:=⟨_,rfl⟩;rw[e1] at hnx hix hs;rw[e2] at hny hiy hs;simp only at hnx hix hny hiy;obtain⟨op1,⟨vk1,vn1,vs1⟩,nm1,ln1,cl1⟩:=hd1;obtain⟨op2,⟨vk2,vn2,vs2⟩,nm2,ln2,cl2⟩:=hd2;obtain⟨ak,ck,rfl⟩:∃ak ck,kx= .slice ak k1.length ck:=⟨_,_,hix.2.choose_spec.choose_spec.1⟩;obtain⟨ak',ck',rfl⟩:∃ak ck,ky= .slice ak k2.length ck:=⟨_,_,hiy.2.choose_spec.choose_spec.1⟩;obtain⟨x0,x1,x2,x3,x4,x5,x6,x7⟩:=hnx;obtain⟨y0,y1,y2,y3,y4,y5,y6,y7⟩:=hny;simp only at x0 x1 x2 x3 x4 x5 x6 x7 y0 y1 y2 y3 y4 y5 y6 y7;have hb2:Below wr.heap.size wr ((wr.alloc (.cells #[.int .u8 op1,.int .u8 vk1,.int .i64 vn1,.string ⟨vs1.toArray⟩,.string ⟨nm1.toArray⟩,.slice ak k1.length ck,.int .i64 ln1,.int .i64 cl1] 38)).alloc (.cells #[.int .u8 op2,.int .u8 vk2,.int .i64 vn2,.string ⟨vs2.toArray⟩,.string ⟨nm2.toArray⟩,.slice ak' k2.length ck',.int .i64 ln2,.int .i64 cl2] 38)):=((Aq _ wr).alloc (Ak _) _).alloc tH _;have hc:=Wu ⟨op1,(vk1,vn1,vs1),nm1,ln1,cl1⟩ ⟨op2,(vk2,vn2,vs2),nm2,ln2,cl2⟩ (.slice ak k1.length ck) (.slice ak' k2.length ck') k1 k2 _ (hix.below hb2) (hiy.below hb2);simp only at hc;have HC:=Ax hc;have HS:=Ax hs;have HB:=Ax (hb.out.trans (hb2.mono hb.out.size));have hbx:bx<wr.heap.size:=Ca x0;have hby:by'<wr.heap.size:=Ca y0;have i1:(0:Int)<=(j:Int):=by omega
    have i2:(j:Int)<(l.length:Int):=by omega
    have i3:(j:Int)<(m.length:Int):=by omega
    clear hb hb2 hc hs hq hix hiy hx3 hy3 e1 e2;go_wp2_with fail;refine HC.out.mono ?_;rintro e V ⟨rfl,hbV⟩;have HBV:=Ax (HB.out.trans (hbV.mono HB.out.size));have hs:=HS.out;clear hbV HC HB HS x0 x1 x2 x3 x4 x5 x6 x7 y0 y1 y2 y3 y4 y5 y6 y7 hbx hby;cases hz:Ip ⟨⟨op1,(vk1,vn1,vs1),nm1,ln1,cl1⟩,k1⟩ ⟨⟨op2,(vk2,vn2,vs2),nm2,ln2,cl2⟩,k2⟩ with
    |true=>
     rw[hz,Bool.true_and] at hs;have HS:=Ax hs;clear hs hz;go_wp2_with fail;go_roundw
     case rel=>exact⟨j+1,by omega,by go_num,HS,HBV⟩
     case measure=>simp [intOf];omega
    |false=>
     rw[hz,Bool.false_and] at hs;have HS:=Ax hs;clear hs hz;go_wp2_with fail;go_ret;exact⟨by rw[←HS.out];rfl,HBV.out⟩
   obtain rfl:j=l.length:=by omega
   have hs:=hq.out;rw[List.drop_length,HN.out,List.drop_length] at hs;have HS:=Ax hs;have HB:=Ax hb.out;clear hq hb hs;go_wp2_with fail;go_ret;exact⟨by rw[←HS.out];rfl,HB.out⟩
  have hs:E6 l m=false:=by
   cases h:E6 l m with
   |false=>rfl
   |true=>exact absurd (by simpa using Ar List.length ((Ls l m).1 h)) hn
  rw[hs];have h1:(((l.length:Nat):Int) !=((m.length:Nat):Int))=true:=by simp;omega
  clear hn hs HX HY;go_enter Tryz.func35,Tryz.ntmps35;exact zym
 have HE:=Ax hef;obtain⟨_,a,c,rfl,_⟩:=hx;obtain⟨_,a',c',rfl,_⟩:=hy;clear hef;go_enter Tryz.func12,Tryz.ntmps12;go_wp2_with fail;refine HE.out.mono ?_;rintro e V ⟨rfl,hb2⟩;have HB:=Ax hb2;clear hb2 HE;go_wp2_with fail;go_ret;exact⟨rfl,HB.out⟩
open Go Go.RowKit Go.Lib Go.Sort Go.Shelf
theorem sR {s:ByteArray}{a:Ex}(w:World)(hs:s.size<=65536)(hR:Rd w)(h:Bj (dl s)= .ok a):Calls Tryz.prog 9 #[.string s] w fun e w'=>∃v,e= .returned (.tuple #[v,.agg #[.int .i64 0,.int .i64 0],.int .i64 0])/\Ii w' w.heap.size [] v (a.flat 0)/\Below w.heap.size w w':=by
 refine(Vz s w hs hR).mono ?_;exact zw8
theorem sX {s:ByteArray}{x y q:Int}(w:World)(hs:s.size<=65536)(hR:Rd w)(h:Bj (dl s)= .error ((x,y),q)):Calls Tryz.prog 9 #[.string s] w fun e w'=>e= .returned (.tuple #[.slice none 0 0,.agg #[.int .i64 x,.int .i64 y],.int .i64 q])/\Below w.heap.size w w':=by
 refine(Vz s w hs hR).mono ?_;rintro e w' ⟨hb,he⟩;rw[h] at he;exact⟨he,hb⟩
open Go Go.RowKit Go.Lib
def Md (w:World)(v:Value)(l:List Int):Prop:=l.length<=1000000/\∃a c,v= .slice a l.length c/\∀i (h:i<l.length),∃b off,a=some ⟨b,off,none⟩/\w.cell? ⟨b,off+i,none⟩=some (.int .u8 l[i])
theorem Md.below {w w':World}{x:Value}{l:List Int}(h:Md w x l)(hb:Below w.heap.size w w'):Md w' x l:=by
 exact zx6
def Fx (k:Int):List Int->Int
 |[]=>k
 |x::l=>if 2<x then 255 else Fx (max k x) l
def Qw (c:Int)(l:List Int):Bool:=l.all fun k=>k==c||k==0
def Ml (a b:Int):Bool:=a==0||b==0||a==b||(decide (a<=2) && decide (b<=2))
theorem Mt {v:Value}{l:List Int}(w:World)(h:Md w v l):Calls Tryz.prog 81 #[v] w fun e w'=>e= .returned (.int .u8 (Fx 0 l))/\Below w.heap.size w w':=by
 have hlm:=h.1;obtain⟨_,a,c,rfl,hc⟩:=h;have HC:=Ax hc;clear hc;go_enter Tryz.func81,Tryz.ntmps81;go_wp2_with fail
 go_loopw [3,8] (fun v3 v8 wr=>∃(i:Nat) (k:Int),i<=l.length/\v8= .int .i64 i/\v3= .int .u8 k/\Hid (Below w.heap.size w wr/\Fx 0 l=Fx k (l.drop i))) (fun _ v8 _=>l.length - (intOf v8).toNat)
 case atStart=>exact⟨0,0,Nat.zero_le _,rfl,rfl,Aq _ w,rfl⟩
 obtain⟨i,k,hi,rfl,rfl,hq⟩:=hrel;by_cases hil:i<l.length
 ·obtain⟨b,off,rfl,hcell⟩:=HC.out i hil;have hcell:=Ba hq.out.1 hcell;have hd:=List.drop_eq_getElem_cons hil;obtain⟨x,hx⟩:∃x,l[i]=x:=⟨_,rfl⟩;rw[hx] at hcell hd;have j0:(0:Int)<=(i:Int):=by omega
  have j1:(i:Int)<(l.length:Int):=by omega
  have j2:decide ((i:Int)<(l.length:Int))=true:=Am j1;have HQ:=Ax hq.out;have HD:=Ax hd;clear hq hd hx;by_cases h2:2<x
  ·have d1:decide (2<x)=true:=Am h2;have HZ:=Ax (show Fx 0 l=255 by rw[HQ.out.2,HD.out,Fx,Ap h2]);clear h2;go_wp2_with fail;go_ret;exact⟨by rw[HZ.out];rfl,HQ.out.1⟩
  have d1:decide (2<x)=false:=An h2;have HZ:=Ax (show Fx 0 l=Fx (max k x) (l.drop (i+1)) by rw[HQ.out.2,HD.out,Fx,Ao h2]);clear h2;go_wp2_with fail;go_roundw
  case rel=>exact⟨i+1,_,by omega,by go_num,rfl,HQ.out.1,HZ.out⟩
  case measure=>simp [intOf];omega
 obtain rfl:i=l.length:=by omega
 have j2:decide ((l.length:Int)<(l.length:Int))=false:=by simp
 have HZ:=Ax (show Fx 0 l=k by rw[hq.out.2,List.drop_length,Fx]);have HB:=Ax hq.out.1;clear hq;go_wp2_with fail;go_ret;exact⟨by rw[HZ.out];rfl,HB.out⟩
open Go Go.RowKit Go.Lib
def Zq (w:World)(v:Value)(l:List (List UInt8×Int)):Prop:=l.length<=1000000/\∃a c,v= .slice a l.length c/\∀i (h:i<l.length),∃b off,a=some ⟨b,off,none⟩/\w.cell? ⟨b,off+i*2,none⟩=some (.string ⟨l[i].1.toArray⟩)/\w.cell? ⟨b,off+i*2+1,none⟩=some (.int .u8 l[i].2)
theorem Zq.below {w w':World}{x:Value}{l:List (List UInt8×Int)}(h:Zq w x l)(hb:Below w.heap.size w w'):Zq w' x l:=by
 obtain⟨h1,a,c,h2,h3⟩:=h;refine⟨h1,a,c,h2,fun i hi=>?_⟩;obtain⟨b,off,e,hc,hd⟩:=h3 i hi;exact⟨b,off,e,Ba hb hc,Ba hb hd⟩
def Ma (n:List UInt8):List (List UInt8×Int)->Option Int
 |[]=>none
 |x::l=>if(x.1==n)=true then some x.2 else Ma n l
open Go Go.RowKit Go.Lib Go.MapKept
theorem Su {w:World}{b:Nat}{x y:Value}{t:TypeId}(h:w.heap[b]? =some (.cells #[x,y] t (0,0))):w.cell? ⟨b,0,none⟩=some x/\w.cell? ⟨b,1,none⟩=some y/\∀i,w.frozen? ⟨b,i,none⟩=false:=
 ⟨by simp only[World.cell?,h];rfl,by simp only[World.cell?,h];rfl,fun i=>by simp only[World.frozen?,h];simp⟩
def J1 (op:Int):Option (Int×Int):=if op=4\/op=5\/op=6 then some (4,4) else if op=21 then some (1,1) else if op=22 then some (3,1) else if op=23 then some (3,3) else if op=24\/op=25 then some (3,4) else none
def ofV (c:Int×Int):Value:= .agg #[.int .u8 c.1,.int .u8 c.2]
def aX:List (Int×Value):=[(4,.agg #[.int .u8 4,.int .u8 4]),(5,.agg #[.int .u8 4,.int .u8 4]),(6,.agg #[.int .u8 4,.int .u8 4]),(21,.agg #[.int .u8 1,.int .u8 1]),(22,.agg #[.int .u8 3,.int .u8 1]),(23,.agg #[.int .u8 3,.int .u8 3]),(24,.agg #[.int .u8 3,.int .u8 4]),(25,.agg #[.int .u8 3,.int .u8 4])]
theorem Yy (op:Int):aE aX op=(J1 op).map ofV:=by
 unfold aX J1 aE;simp only[List.find?];by_cases h4:op=4
 ·subst h4;rfl
 by_cases h5:op=5
 ·subst h5;rfl
 by_cases h6:op=6
 ·subst h6;rfl
 by_cases h21:op=21
 ·subst h21;rfl
 by_cases h22:op=22
 ·subst h22;rfl
 by_cases h23:op=23
 ·subst h23;rfl
 by_cases h24:op=24
 ·subst h24;rfl
 by_cases h25:op=25
 ·subst h25;rfl
 have g4:((4:Int)==op)=false:=Af.2 (fun e=>h4 e.symm);have g5:((5:Int)==op)=false:=Af.2 (fun e=>h5 e.symm);have g6:((6:Int)==op)=false:=Af.2 (fun e=>h6 e.symm);have g21:((21:Int)==op)=false:=Af.2 (fun e=>h21 e.symm);have g22:((22:Int)==op)=false:=Af.2 (fun e=>h22 e.symm);have g23:((23:Int)==op)=false:=Af.2 (fun e=>h23 e.symm);have g24:((24:Int)==op)=false:=Af.2 (fun e=>h24 e.symm);have g25:((25:Int)==op)=false:=Af.2 (fun e=>h25 e.symm);rw[g4,g5,g6,g21,g22,g23,g24,g25];simp [h4,h5,h6,h21,h22,h23,h24,h25]
theorem sG (w:World):(zeroValue 169).run Tryz.prog w= .ok (.agg #[.int .u8 0,.int .u8 0]) w:=by kernel_rfl
theorem J8 (op:Int)(w:World):Calls Tryz.prog 77 #[.int .u8 op] w fun e w'=>e= .returned (.tuple #[ofV ((J1 op).getD (0,0)),.bool (J1 op).isSome])/\Below w.heap.size w w':=by
 obtain⟨W0,hW0⟩:∃W0,w.alloc (.cells #[.int .u8 0,.int .u8 0] 169)=W0:=⟨_,rfl⟩;have hb0:Below w.heap.size w W0:=by rw[←hW0];exact(Aq w.heap.size w).alloc (Ak _) _
 have hbx:=A1 w (.cells #[.int .u8 0,.int .u8 0] 169);have hz0:W0.heap.size=w.heap.size+1:=by rw[←hW0];simp
 rw[hW0] at hbx;have m0:=Jn.new (K:= .u8) W0;have ha:Below W0.heap.size W0 (W0.alloc (.map #[] 0)):=(Aq _ _).alloc (Ak _) _;have hm0:(W0.alloc (.map #[] 0)).heap.size=W0.heap.size+1:=by simp
 obtain⟨M0,hM0⟩:∃M0,W0.alloc (.map #[] 0)=M0:=⟨_,rfl⟩;rw[hM0,hz0] at m0;rw[hM0] at ha hm0;obtain⟨M1,e1,m1,o1,z1⟩:=Ck (P:=Tryz.prog) (t:=211) Tryz.underlying211 Tryz.underlying5 m0 4 (.agg #[.int .u8 4,.int .u8 4]);obtain⟨M2,e2,m2,o2,z2⟩:=Ck (P:=Tryz.prog) (t:=211) Tryz.underlying211 Tryz.underlying5 m1 5 (.agg #[.int .u8 4,.int .u8 4]);obtain⟨M3,e3,m3,o3,z3⟩:=Ck (P:=Tryz.prog) (t:=211) Tryz.underlying211 Tryz.underlying5 m2 6 (.agg #[.int .u8 4,.int .u8 4]);obtain⟨M4,e4,m4,o4,z4⟩:=Ck (P:=Tryz.prog) (t:=211) Tryz.underlying211 Tryz.underlying5 m3 21 (.agg #[.int .u8 1,.int .u8 1]);obtain⟨M5,e5,m5,o5,z5⟩:=Ck (P:=Tryz.prog) (t:=211) Tryz.underlying211 Tryz.underlying5 m4 22 (.agg #[.int .u8 3,.int .u8 1]);obtain⟨M6,e6,m6,o6,z6⟩:=Ck (P:=Tryz.prog) (t:=211) Tryz.underlying211 Tryz.underlying5 m5 23 (.agg #[.int .u8 3,.int .u8 3]);obtain⟨M7,e7,m7,o7,z7⟩:=Ck (P:=Tryz.prog) (t:=211) Tryz.underlying211 Tryz.underlying5 m6 24 (.agg #[.int .u8 3,.int .u8 4]);obtain⟨M8,e8,m8,o8,z8⟩:=Ck (P:=Tryz.prog) (t:=211) Tryz.underlying211 Tryz.underlying5 m7 25 (.agg #[.int .u8 3,.int .u8 4]);have hlk:=T4 (P:=Tryz.prog) (t:=211) Tryz.underlying211 Tryz.underlying5 m8 (sG M8) op;rw[show put (put (put (put (put (put (put (put (([]:List (Int×Value))) 4 (.agg #[.int .u8 4,.int .u8 4])) 5 (.agg #[.int .u8 4,.int .u8 4])) 6 (.agg #[.int .u8 4,.int .u8 4])) 21 (.agg #[.int .u8 1,.int .u8 1])) 22 (.agg #[.int .u8 3,.int .u8 1])) 23 (.agg #[.int .u8 3,.int .u8 3])) 24 (.agg #[.int .u8 3,.int .u8 4])) 25 (.agg #[.int .u8 3,.int .u8 4])=aX from rfl,Yy] at hlk;have hO:Bc [w.heap.size+1] M0 M8:=(((((((o1.trans o2).trans o3).trans o4).trans o5).trans o6).trans o7).trans o8);have hB3:Below w.heap.size w M8:=Bv (hb0.trans (ha.mono tE)) hO tH tE;have hx3:M8.heap[w.heap.size]? =some (.cells #[.int .u8 0,.int .u8 0] 169 (0,0)):=(hO.block _ tE tH).trans ((ha.block _ tE).trans hbx);have HW0:=Ax hW0;have HB3:=Ax hB3;have Hx3:=Ax hx3;have Hlk:=Ax hlk;have hlt:=Ay hx3;have hmm:= @run_makeMap Tryz.prog;clear hW0 hb0 hbx ha hm0 m0 m1 o1 z1 m2 o2 z2 m3 o3 z3 m4 o4 z4 m5 o5 z5 m6 o6 z6 m7 o7 z7 m8 o8 z8 hO hB3 hx3 hlk;go_enter Tryz.func77,Tryz.ntmps77;go_upto_region 1 with fail
 rw[HW0.out];clear HW0;cases hl:J1 op with
 |none=>
  have hlk:=Hlk.out;rw[hl] at hlk;simp only[Option.map_none,G1] at hlk;obtain⟨f0,f1,f2⟩:=Su Hx3.out;have Hl:=Ax hl;clear hl Hlk;go_wp2_with fail;refine Au (v:= .tuple #[.agg #[.int .u8 0,.int .u8 0],.bool false]) (by simp [results,Tryz.results77,go_sem, *]) rfl ?_;refine⟨by rw[Hl.out];rfl,?_⟩;exact((HB3.out.setCell (Ak _) _).setCell (Ak _) _).alloc tL _
 |some v=>
  have hlk:=Hlk.out;rw[hl] at hlk;simp only[Option.map_some,G1] at hlk;obtain⟨va,vb⟩:=v;simp only[ofV] at hlk;obtain⟨f0,f1,f2⟩:=Su Hx3.out;have Hl:=Ax hl;clear hl Hlk;go_wp2_with fail;refine Au (v:= .tuple #[.agg #[.int .u8 va,.int .u8 vb],.bool true]) (by simp [results,Tryz.results77,go_sem, *]) rfl ?_;refine⟨by rw[Hl.out];rfl,?_⟩;exact((HB3.out.setCell (Ak _) _).setCell (Ak _) _).alloc tL _
theorem K5 (b:Bool)(k:Int)(w:World):Calls Tryz.prog 78 #[.bool b,.int .u8 k] w fun e w'=>e= .returned (.int .u8 (if b then k else 255))/\Below w.heap.size w w':=by
 cases b
 all_goals
  go_enter Tryz.func78,Tryz.ntmps78;exact zym
open Go Go.RowKit Go.Lib
def Pw {α:Type}(l:List α)(p:α->Bool):Int:=match l.findIdx? p with|some i=>i|none=> -1
theorem Wx {α:Type}{l:List α}{p:α->Bool}{k:Nat}(hk:k<l.length)(h0:∀j (h:j<l.length),j<k->p l[j]=false)(h1:p l[k]=true):Pw l p=k:=by
 unfold Pw;rw[(List.findIdx?_eq_some_iff_getElem (p:=p) (i:=k)).2 ⟨hk,h1,fun j hj=>by simpa using h0 j tE hj⟩]
theorem Vv {α:Type}{l:List α}{p:α->Bool}(h0:∀j (h:j<l.length),p l[j]=false):Pw l p= -1:=by
 unfold Pw;rw[List.findIdx?_eq_none_iff.2 (fun e he=>by obtain⟨j,hj,rfl⟩:=List.getElem_of_mem he;exact h0 j hj)]
theorem kR {α:Type}(l:List α)(p:α->Bool):decide (0<=Pw l p)=l.any p:=by
 unfold Pw;cases h:l.findIdx? p with
 |none=>
  rw[List.findIdx?_eq_none_iff] at h
  have:l.any p=false:=List.any_eq_false.2 fun x hx=>by simpa using h x hx
  rw[this];rfl
 |some i=>
  obtain⟨hi,hp,_⟩:=List.findIdx?_eq_some_iff_getElem.1 h
  have:l.any p=true:=List.any_eq_true.2 ⟨l[i],List.getElem_mem hi,hp⟩
  rw[this];exact Am (by show(0:Int)<=(i:Int);omega)
def mN (w:World)(v:Value)(l:List (List UInt8)):Prop:=l.length<=1000000/\∃a c,v= .slice a l.length c/\∀i (h:i<l.length),∃b off,a=some ⟨b,off,none⟩/\w.cell? ⟨b,off+i,none⟩=some (.string ⟨l[i].toArray⟩)
theorem mN.below {w w':World}{x:Value}{l:List (List UInt8)}(h:mN w x l)(hb:Below w.heap.size w w'):mN w' x l:=by
 exact zx6
open Go Go.RowKit Go.Lib
def sK (l:List Int)(w:World)(fn:Nat)(caps:Array Value)(p:Int->Bool):Prop:=
 ∀(t:Int) (V:World),t∈l->Below w.heap.size w V->Calls Tryz.prog fn (#[.int .u8 t]++caps) V fun r V'=>r= .returned (.bool (p t))/\Below V.heap.size V V'
theorem cI (fn:Nat)(caps:Array Value)(p:Int->Bool)(eg:∀args w,(callFunc fn args).run Tryz.prog w= .ok (.enter fn args) w){v:Value}(l:List Int)(w:World)(h:Md w v l)(ha:sK l w fn caps p):
 Calls Tryz.prog 178 #[v,.func (.func fn) #[] caps] w fun r w'=>r= .returned (.int .i64 (Pw l p))/\Below w.heap.size w w':=by
 have hlm:=h.1;obtain⟨_,a,c,rfl,hcs⟩:=h;have HC:=Ax hcs;have HA:=Ax ha;clear hcs ha;go_enter Tryz.func178,Tryz.ntmps178
 go_wp2
 go_loopw [8] (fun vi wr=>∃k:Nat,k<=l.length/\vi= .int .i64 k/\Hid (∀j (h:j<l.length),j<k->p l[j]=false)/\Hid (Below w.heap.size w wr)) (fun i _=>l.length - (intOf i).toNat)
 case atStart=>exact⟨0,Nat.zero_le _,rfl,fun j h hj=>absurd hj tE,Aq _ _⟩
 obtain⟨wo,rfl⟩:∃wo:World,wo=wr:=⟨_,rfl⟩;obtain⟨k,hk,rfl,hq,hb⟩:=hrel;by_cases hlk:k<l.length
 ·obtain⟨g,off,rfl,c0⟩:=HC.out k hlk;have c0:=Ba hb.out c0;exact zy9
 obtain rfl:k=l.length:=by omega
 go_wp2
 go_ret;exact⟨by rw[Vv (fun j h=>hq.out j h h)];rfl,hb.out⟩
theorem Ui (fn:Nat)(caps:Array Value)(p:Int->Bool)(eg:∀args w,(callFunc fn args).run Tryz.prog w= .ok (.enter fn args) w){v:Value}(l:List Int)(w:World)(h:Md w v l)(ha:sK l w fn caps p):
 Calls Tryz.prog 136 #[v,.func (.func fn) #[] caps] w fun r w'=>r= .returned (.bool (l.any p))/\Below w.heap.size w w':=by
 have Hi:=Ax (cI fn caps p eg l w h ha);have He:=Ax (kR l p);obtain⟨_,a,c,rfl,_⟩:=h;clear ha;obtain⟨i,hi⟩:∃i,Pw l p=i:=⟨_,rfl⟩;rw[hi] at Hi He;clear hi;go_enter Tryz.func136,Tryz.ntmps136;go_wp2_with fail;refine Hi.out.mono ?_;rintro r V ⟨rfl,hb⟩;have HB:=Ax hb;clear hb
 go_wp2
 go_ret;exact⟨by rw[←He.out];rfl,HB.out⟩
def tB (l:List (List UInt8×Int))(w:World)(fn:Nat)(caps:Array Value)(p:(List UInt8×Int)->Bool):Prop:=
 ∀(t:(List UInt8×Int)) (V:World),t∈l->Below w.heap.size w V->Calls Tryz.prog fn (#[.agg #[.string ⟨t.1.toArray⟩,.int .u8 t.2]]++caps) V fun r V'=>r= .returned (.bool (p t))/\Below V.heap.size V V'
theorem dB (fn:Nat)(caps:Array Value)(p:(List UInt8×Int)->Bool)(eg:∀args w,(callFunc fn args).run Tryz.prog w= .ok (.enter fn args) w){v:Value}(l:List (List UInt8×Int))(w:World)(h:Zq w v l)(ha:tB l w fn caps p):
 Calls Tryz.prog 75 #[v,.func (.func fn) #[] caps] w fun r w'=>r= .returned (.int .i64 (Pw l p))/\Below w.heap.size w w':=by
 have hlm:=h.1;obtain⟨_,a,c,rfl,hcs⟩:=h;have HC:=Ax hcs;have HA:=Ax ha;clear hcs ha;go_enter Tryz.func75,Tryz.ntmps75
 go_wp2
 go_loopw [8] (fun vi wr=>∃k:Nat,k<=l.length/\vi= .int .i64 k/\Hid (∀j (h:j<l.length),j<k->p l[j]=false)/\Hid (Below w.heap.size w wr)) (fun i _=>l.length - (intOf i).toNat)
 case atStart=>exact⟨0,Nat.zero_le _,rfl,fun j h hj=>absurd hj tE,Aq _ _⟩
 obtain⟨wo,rfl⟩:∃wo:World,wo=wr:=⟨_,rfl⟩;obtain⟨k,hk,rfl,hq,hb⟩:=hrel;by_cases hlk:k<l.length
 ·obtain⟨g,off,rfl,c0,c1⟩:=HC.out k hlk;have c0:=Ba hb.out c0;have c1:=Ba hb.out c1;exact zy9
 obtain rfl:k=l.length:=by omega
 go_wp2
 go_ret;exact⟨by rw[Vv (fun j h=>hq.out j h h)];rfl,hb.out⟩
open Go Go.RowKit Go.Lib
theorem aW (k c:Int)(b:Nat)(w:World)(hc:w.cell? ⟨b,0,none⟩=some (.int .u8 c)):Calls Tryz.prog 137 #[.int .u8 k,.pointer (some ⟨b,0,none⟩)] w fun e w'=>e= .returned (.bool (k !=c && k !=0))/\Below w.heap.size w w':=by
 obtain⟨x,hx⟩:∃x,(k !=c)=x:=⟨_,rfl⟩;rw[hx];cases x
 all_goals
  go_enter Tryz.func137,Tryz.ntmps137;exact zym
theorem R0 (c:Int):∀l:List Int,(!(l.any fun k=>k !=c && k !=0))=Qw c l
 |[]=>rfl
 |x::l=>by
  have h:=R0 c l;unfold Qw at h ⊢;rw[List.any_cons,List.all_cons,←h,Bool.not_or,Bool.not_and,bne,bne,Bool.not_not,Bool.not_not]
theorem Qh {v:Value}{l:List Int}(c:Int)(w:World)(h:Md w v l):Calls Tryz.prog 79 #[.int .u8 c,v] w fun e w'=>e= .returned (.bool (Qw c l))/\Below w.heap.size w w':=by
 have hb:=(Aq w.heap.size w).alloc (Ak _) (.cells #[.int .u8 c] 5)
 have hcc:(w.alloc (.cells #[.int .u8 c] 5)).cell? ⟨w.heap.size,0,none⟩=some (.int .u8 c):=by
  have:=A1 w (.cells #[.int .u8 c] 5)
  simp only[World.cell?,this];rfl
 have Hi:=Ax (Ui 137 #[.pointer (some ⟨w.heap.size,0,none⟩)] (fun k=>k !=c && k !=0) (enters_of Tryz.func137 tF rfl) l (w.alloc (.cells #[.int .u8 c] 5)) (h.below hb)
  fun t V _ hV=>aW t c w.heap.size V (Ba hV hcc))
 have HB:=Ax hb;have hn:=R0 c l;obtain⟨_,a,cc,rfl,_⟩:=h;obtain⟨q,hq⟩:∃q,(l.any fun k=>k !=c && k !=0)=q:=⟨_,rfl⟩;rw[hq] at Hi hn;have Hn:=Ax hn;clear hb hcc hq hn;go_enter Tryz.func79,Tryz.ntmps79;go_wp2_with fail;refine Hi.out.mono ?_;rintro r V ⟨rfl,hb⟩;have HB1:=Ax (HB.out.trans (hb.mono tH));clear hb;go_wp2_with fail;go_ret;exact⟨by rw[←Hn.out];rfl,HB1.out⟩
theorem lD (a b:Int)(ha:0<=a)(hb:0<=b):(Fx 0 [a,b] !=255)=(decide (a<=2) && decide (b<=2)):=by
 unfold Fx;by_cases h1:2<a
 ·rw[Ap h1,An tE];rfl
 rw[Ao h1,Am tE,Fx];by_cases h2:2<b
 ·rw[Ap h2,An tE];rfl
 rw[Ao h2,Am tE,Fx];exact bne_iff_ne.2 tE
theorem Zz (a b:Int)(ha:0<=a)(hb:0<=b)(w:World):Calls Tryz.prog 80 #[.int .u8 a,.int .u8 b] w fun e w'=>e= .returned (.bool (Ml a b))/\Below w.heap.size w w':=by
 have hn:=lD a b ha hb;unfold Ml;rw[←hn];have hW:=(Aq w.heap.size w).alloc (Ak _) (.cells #[.int .u8 a,.int .u8 b] 5)
 have hk:Md (w.alloc (.cells #[.int .u8 a,.int .u8 b] 5)) (.slice (some ⟨w.heap.size,0,none⟩) 2 2) [a,b]:=by
  have hp:=A1 w (.cells #[.int .u8 a,.int .u8 b] 5);obtain⟨c0,c1,_⟩:=Su hp;refine⟨by simp,_,_,rfl,fun i hi=>⟨w.heap.size,0,rfl,?_⟩⟩
  match i,hi with
  |0,_=>exact c0
  |1,_=>exact c1
 have HA:=Ax (Mt _ hk);have HW:=Ax hW;obtain⟨x,hx⟩:∃x,(a==0)=x:=⟨_,rfl⟩;obtain⟨y,hy⟩:∃y,(b==0)=y:=⟨_,rfl⟩;obtain⟨z,hz⟩:∃z,(a==b)=z:=⟨_,rfl⟩;obtain⟨m,hm⟩:∃m,Fx 0 [a,b]=m:=⟨_,rfl⟩;rw[hx,hy,hz,hm];rw[hm] at HA;clear hn hW hk hm;cases x;rotate_left
 ·clear HA;go_enter Tryz.func80,Tryz.ntmps80;exact zym
 cases y;rotate_left
 ·clear HA;go_enter Tryz.func80,Tryz.ntmps80;exact zym
 cases z;rotate_left
 ·clear HA;go_enter Tryz.func80,Tryz.ntmps80;exact zym
 go_enter Tryz.func80,Tryz.ntmps80;go_wp2_with fail;refine HA.out.mono ?_;rintro e V ⟨rfl,hb⟩;have HB:=Ax (HW.out.trans (hb.mono HW.out.size));clear hb HA HW;go_wp2_with fail;go_ret;exact⟨rfl,HB.out⟩
end Go.Proofs.YtmpfilddeglgbaaGreatDoor
