import Derived.Test.YtgfakdobajgnfaaGreatDoorQe11
set_option maxRecDepth 100000
set_option maxHeartbeats 16000000
namespace Go.Proofs.YtgfakdobajgnfaaGreatDoor
open Go Go.RowKit Go.Lib Go.Sort Go.Shelf
theorem qG {s:ByteArray}(w:World)(hs:s.size<=65536)(hR:Rd w){ts:List Tkn}(h:Fp (dl s)= .ok ts):
 Calls Tryz.prog 52 #[.string s] w fun e w'=>∃v,e= .returned (.tuple #[v,.agg #[.int .i64 0,.int .i64 0],.int .i64 0])/\w'.ownsRow w.heap.size 94 7 v ts.length (Es ts)/\Below w.heap.size w w':=by
 refine(dH s w hs hR).mono ?_
 exact zxb
theorem pU {s:ByteArray}(w:World)(hs:s.size<=65536)(hR:Rd w){a b q:Int}(h:Fp (dl s)= .error (a,b,q)):
 Calls Tryz.prog 52 #[.string s] w fun e w'=>e= .returned (.tuple #[.slice none 0 0,.agg #[.int .i64 a,.int .i64 b],.int .i64 q])/\Below w.heap.size w w':=by
 refine(dH s w hs hR).mono ?_
 rintro e w' ⟨hb,he⟩
 rw[h] at he
 exact⟨he,hb⟩
open Go Go.RowKit Go.Lib Go.Sort Go.Shelf
theorem bT {w:World}{v:Value}{ts:List Tkn}(ht:Jo w v ts)(hc:∀t∈ts,0<=t.col/\t.col<=1000000/\t.w.t.length<=1000000)(hbig:ts.length<=1000000):
 Calls Tryz.prog 54 #[v] w fun e w'=>e= .returned (.agg #[.int .i64 (Ft ts).1,.int .i64 (Ft ts).2])/\Below w.heap.size w w':=by
 by_cases h0:ts=[]
 ·subst h0
  obtain⟨va,vc,rfl⟩:=ht.form
  simp only[List.length_nil]
  clear hc hbig ht
  go_enter Tryz.func54,Tryz.ntmps54
  go_wp2_with fail
  refine bodyPost_ret (v:= .agg #[.int .i64 1,.int .i64 1]) sE rfl ?_
  refine⟨rfl,?_⟩
  exact(Below.refl _ w).alloc (Ak _) _
 ·obtain⟨m,hm⟩:∃m,ts.length=m+1:=⟨ts.length - 1,by have:=List.length_pos_iff.2 h0;omega⟩
  have hml:m<ts.length:=by omega
  obtain⟨g,c,rfl,hg,t0,t1,t2,t3,t4,t5,t6⟩:=ht.at hml
  have hlast:ts.getLast? =some ts[m]:=by
   rw[List.getLast?_eq_getElem?,hm,Nat.add_sub_cancel,Ag hml]
  have hcc:=hc ts[m] (List.getElem_mem hml)
  have hbe:Ft ts=(ts[m].line,ts[m].col+ts[m].w.t.length+if ts[m].w.k=2\/ts[m].w.k=3\/ts[m].w.k=6 then 1 else if ts[m].w.k=5 then 2 else 0):=by
   unfold Ft
   rw[hlast]
  rw[hbe]
  obtain⟨t,he⟩:∃t,ts[m]=t:=⟨_,rfl⟩
  rw[he] at t0 t1 t2 t3 t4 t5 t6 hcc ⊢
  obtain⟨⟨tk,tt,tv1,tv2,tv3⟩,tl,tc⟩:=t
  simp only at t0 t1 t2 t3 t4 t5 t6 hcc ⊢
  rw[hm]
  obtain⟨hc1,hc2,hc3⟩:=hcc
  have hm6:m+1<=1000000:=by omega
  obtain⟨W1,hW1⟩:∃W1,w.alloc (.cells #[.int .i64 0,.int .i64 0] 33)=W1:=⟨_,rfl⟩
  have hb1:Below w.heap.size w W1:=by rw[←hW1];exact(Below.refl _ w).alloc (Ak _) _
  have hz1:W1.heap.size=w.heap.size+1:=by rw[←hW1];simp
  have hp1:=Au w (.cells #[.int .i64 0,.int .i64 0] 33)
  rw[hW1] at hp1
  have t0':=A5 hb1 t0
  have t1':=A5 hb1 t1
  have t2':=A5 hb1 t2
  have t3':=A5 hb1 t3
  have t4':=A5 hb1 t4
  have t5':=A5 hb1 t5
  have t6':=A5 hb1 t6
  obtain⟨W2,hW2⟩:∃W2,W1.alloc (.cells #[.int .u8 tk,.string ⟨tt.toArray⟩,.int .u8 tv1,.int .i64 tv2,.string ⟨tv3.toArray⟩,.int .i64 tl,.int .i64 tc] 94)=W2:=⟨_,rfl⟩
  have hb2:Below W1.heap.size W1 W2:=by rw[←hW2];exact(Below.refl _ W1).alloc (Ak _) _
  have hz2:W2.heap.size=w.heap.size+2:=by rw[←hW2];simp [hz1]
  have hp2:=Au W1 (.cells #[.int .u8 tk,.string ⟨tt.toArray⟩,.int .u8 tv1,.int .i64 tv2,.string ⟨tv3.toArray⟩,.int .i64 tl,.int .i64 tc] 94)
  rw[hW2,hz1] at hp2
  obtain⟨s0,s1,s2,s3,s4,s5,s6⟩:=G5 hp2
  obtain⟨W3,hW3⟩:∃W3,W2.alloc (.cells #[.int .i64 tl,.int .i64 tc] 33)=W3:=⟨_,rfl⟩
  have hb3:Below W2.heap.size W2 W3:=by rw[←hW3];exact(Below.refl _ W2).alloc (Ak _) _
  have hz3:W3.heap.size=w.heap.size+3:=by rw[←hW3];simp [hz2]
  have hp3:=Au W2 (.cells #[.int .i64 tl,.int .i64 tc] 33)
  rw[hW3,hz2] at hp3
  have hq2:=(hb3.block _ (Aq hp2)).trans hp2
  have hq1:=(hb3.block _ rA).trans ((hb2.block _ (Aq hp1)).trans hp1)
  obtain⟨r0,r1,r2,r3,r4,r5,r6⟩:=G5 hq2
  obtain⟨x0,x1,xf⟩:=B1 hp3
  obtain⟨y0,y1,yf⟩:=B1 hq1
  have xf0:=xf 0
  have xf1:=xf 1
  have yf0:=yf 0
  have yf1:=yf 1
  have HB3:=Ao (hb1.trans ((hb2.trans (hb3.mono hb2.size)).mono hb1.size))
  clear hb1 hb2 hb3 hp1 hp2 hp3 hq1 hq2 xf yf t0 t1 t2 t3 t4 t5 t6 hbe hlast hc he ht hbig h0
  by_cases hk:tk=2\/tk=3\/tk=6
  ·rcases hk with rfl|rfl|rfl
   ·exact zyx
   ·exact zyx
   ·exact zyx
  ·by_cases h5:tk=5
   ·subst h5
    go_enter Tryz.func54,Tryz.ntmps54
    go_wp2_with fail
    refine bodyPost_ret (v:= .agg #[.int .i64 tl,.int .i64 (tc+(tt.length:Int)+2)]) sE rfl ?_
    refine⟨by simp [*],?_⟩
    exact(((HB3.out.setCell rC _).setCell rC _).setCell rC _).setCell rC _
   ·have j2:(tk==2)=false:=by simp at hk ⊢;omega
    have j3:(tk==3)=false:=by simp at hk ⊢;omega
    have j6:(tk==6)=false:=by simp at hk ⊢;omega
    have j5:(tk==5)=false:=by simpa using h5
    rw[if_neg hk,if_neg h5,Int.add_zero]
    clear hk h5
    go_enter Tryz.func54,Tryz.ntmps54
    go_wp2_with fail
    refine bodyPost_ret (v:= .agg #[.int .i64 tl,.int .i64 (tc+(tt.length:Int))]) sE rfl ?_
    refine⟨by simp [*],?_⟩
    exact((HB3.out.setCell rC _).setCell rC _).setCell rC _
def Rk (w:World)(x:Except ((Int×Int)×Int) Ex)(e:Ending)(w':World):Prop:=
 Below w.heap.size w w'/\match x with
  | .error p=>e= .returned (.tuple #[.slice none 0 0,.agg #[.int .i64 p.1.1,.int .i64 p.1.2],.int .i64 p.2])
  | .ok a=>∃v,e= .returned (.tuple #[v,.agg #[.int .i64 0,.int .i64 0],.int .i64 0])/\Gr w' w.heap.size [] v (a.flat 0)
theorem oR {s:ByteArray}(w:World)(hs:s.size<=65536)(hR:Rd w){a b q:Int}(h:Fp (dl s)= .error (a,b,q)):Calls Tryz.prog 20 #[.string s] w (Rk w (Bn (dl s))):=by
 have hx:Bn (dl s)= .error ((a,b),q):=by unfold Bn;rw[h]
 have hq:q=4\/q=9:=((Mb _ (dl s) 1 1 (Ak _) rB).1 a b q h).2.2
 have hq1:(q !=0)=true:=by rcases hq with rfl|rfl<;>rfl
 have hq2:(q==0)=false:=by rcases hq with rfl|rfl<;>rfl
 obtain⟨W1,hW1⟩:∃W1,w.alloc (.cells #[.int .i64 0,.int .i64 0] 33)=W1:=⟨_,rfl⟩
 have hb1:Below w.heap.size w W1:=by rw[←hW1];exact(Below.refl _ w).alloc (Ak _) _
 have hp1:=Au w (.cells #[.int .i64 0,.int .i64 0] 33)
 rw[hW1] at hp1
 have L1:=Ao (pU (s:=s) W1 hs (hR.below hb1) h)
 have HB1:=Ao hb1
 have HP1:=Ao hp1
 rw[hx]
 clear hx h hR hb1 hp1 hq
 go_enter Tryz.func20,Tryz.ntmps20
 go_wp2_with fail
 refine L1.out.mono ?_
 rintro e V2 ⟨rfl,hb2⟩
 have hp2:=(hb2.block _ (Aq HP1.out)).trans HP1.out
 obtain⟨V3,hV3⟩:∃V3,V2.alloc (.cells #[.int .i64 a,.int .i64 b] 33)=V3:=⟨_,rfl⟩
 have hb3:Below V2.heap.size V2 V3:=by rw[←hV3];exact(Below.refl _ V2).alloc (Ak _) _
 have hp3:=Au V2 (.cells #[.int .i64 a,.int .i64 b] 33)
 rw[hV3] at hp3
 have hp4:=(hb3.block _ (Aq hp2)).trans hp2
 obtain⟨x0,x1,_⟩:=B1 hp3
 obtain⟨y0,y1,yf⟩:=B1 hp4
 have yf0:=yf 0
 have yf1:=yf 1
 have HB3:=Ao (HB1.out.trans ((hb2.trans (hb3.mono hb2.size)).mono HB1.out.size))
 have hne:¬w.heap.size=V2.heap.size:=by have:=Aq hp2;omega
 have hne2:¬V2.heap.size=w.heap.size:=fun h=>hne h.symm
 clear hb2 hb3 hp2 hp3 hp4 yf L1 HP1
 go_wp2_with fail
 go_region
 go_wp2_with fail
 refine bodyPost_ret (v:= .tuple #[.slice none 0 0,.agg #[.int .i64 a,.int .i64 b],.int .i64 q]) sL rfl ?_
 exact⟨((HB3.out.setCell rC _).setCell rC _).drew,rfl⟩
inductive Mid (ts:List Tkn)(w:World)(V:World)(v:Value)(n:Nat)(e0:Int):Except ((Int×Int)×Int) Ex->Prop where
 |tree (a:Ex) (he:e0=0) (hn:n=ts.length) (ht:Gr V w.heap.size [] v (a.flat 0)):Mid ts w V v n e0 (.ok a)
 |more (t:Tkn) (he:e0=0) (hn:ts[n]? =some t):Mid ts w V v n e0 (.error ((t.line,t.col),4))
 |bad (t:Tkn) (he:e0≠0) (hn:ts[n]? =some t):Mid ts w V v n e0 (.error ((t.line,t.col),e0))
 |end' (he:e0≠0) (hn:n=ts.length):Mid ts w V v n e0 (.error (Ft ts,e0))
theorem Suf.head {t:Tkn}{q ts:List Tkn}(h:Suf (t::q) ts):ts[ts.length - (t::q).length]? =some t:=by
 have h1:=h.at_drop
 have h2:=congrArg (fun l=>l[0]?) h1
 simpa using h2.symm
theorem mB {w V V':World}{ts:List Tkn}{l:List UInt8}(hl:Fp l= .ok ts){e:Ending}(h:Rx V ts 0 (A2 0 0 ts) e V')(hw:w.heap.size<=V.heap.size):
 ∃(v:Value) (n:Nat) (e0:Int),e= .returned (.tuple #[v,.int .i64 (n:Int),.int .i64 e0])/\n<=ts.length/\(∃a k c,v= .slice a k c)/\Mid ts w V' v n e0 (Bn l)/\Below V.heap.size V V':=by
 have hx:Bn l=match A2 0 0 ts with
  | .error (e,q)=> .error (Nk ts q,e)
  | .ok (a,q)=>if 60<a.size then .error (Nk ts ts,7) else if q=[] then .ok a else .error (Nk ts q,4):=by
  simp only[Bn,hl]
  cases A2 0 0 ts with
  |error p=>rfl
  |ok p=>rfl
 obtain⟨hb,h⟩:=h
 cases hq:A2 0 0 ts with
 |error p=>
  obtain⟨er,q⟩:=p
  rw[hq] at h hx
  have hs:=mX (td:= .lvl 0) sY (show exE (.lvl 0) 0 ts=_ from hq)
  have he:er≠0:=by
   have:=Yd (.lvl 0) 0 ts sY _ (show exE (.lvl 0) 0 ts=_ from hq)
   simp only at this
   omega
  refine⟨_,_,er,h,by omega,⟨_,_,_,rfl⟩,?_,hb⟩
  rw[hx]
  simp only
  cases q with
  |nil=>exact .end' he rC
  |cons t q=>exact .bad t he hs.head
 |ok p=>
  obtain⟨a,q⟩:=p
  rw[hq] at h hx
  simp only at h hx
  have hs:=Dw (n:=0) rA hq
  by_cases h60:60<a.size
  ·rw[if_pos h60] at h hx
   refine⟨_,0,7,h,by omega,⟨_,_,_,rfl⟩,?_,hb⟩
   rw[hx]
   cases ts with
   |nil=>simp at hs
   |cons t ts=>exact .bad t rB rfl
  ·rw[if_neg h60] at h hx
   obtain⟨v,h1,h2⟩:=h
   have hv:∃a k c,v= .slice a k c:=by
    obtain⟨kvs,h3,_⟩:=h2
    obtain⟨x,c,rfl⟩:=Fi h3
    exact⟨_,_,_,rfl⟩
   refine⟨v,_,0,h1,by omega,hv,?_,hb⟩
   rw[hx]
   cases q with
   |nil=>
    rw[if_pos rfl]
    refine .tree a rfl rC ?_
    obtain⟨kvs,h3,h4⟩:=h2
    exact⟨kvs,N1 h3 hw,Cr.base hw h4⟩
   |cons t q=>
    rw[if_neg rC]
    exact .more t rfl hs.1.head
theorem mT {s:ByteArray}(w:World)(hs:s.size<=65536)(hR:Rd w){ts:List Tkn}(h:Fp (dl s)= .ok ts):Calls Tryz.prog 20 #[.string s] w (Rk w (Bn (dl s))):=by
 have hlen:=(J9 _ (dl s) 1 1 ts (Ak _) h).2
 have hpl:=L7 h
 have hsh:=Vo h
 rw[Ax] at hlen
 have hbig:ts.length<=1000000:=by omega
 have hcols:∀t∈ts,0<=t.col/\t.col<=1000000/\t.w.t.length<=1000000:=fun t ht=>by
  have h1:=hpl t ht
  have h2:=hsh t ht
  rw[Ax] at h1 h2
  omega
 obtain⟨W1,hW1⟩:∃W1,w.alloc (.cells #[.int .i64 0,.int .i64 0] 33)=W1:=⟨_,rfl⟩
 have hb1:Below w.heap.size w W1:=by rw[←hW1];exact(Below.refl _ w).alloc (Ak _) _
 have hp1:=Au w (.cells #[.int .i64 0,.int .i64 0] 33)
 rw[hW1] at hp1
 have L1:=Ao (qG (s:=s) W1 hs (hR.below hb1) h)
 have HB1:=Ao hb1
 have HP1:=Ao hp1
 have HL:=Ao h
 have Hcols:=Ao hcols
 have Hnam:=Ao (Ur h)
 clear h hR hb1 hp1 hcols hpl hsh hs
 go_enter Tryz.func20,Tryz.ntmps20
 go_wp2_with fail
 refine L1.out.mono ?_
 rintro e V2 ⟨tv,rfl,hrow,hb2⟩
 have htk:=Jo.of_row hrow
 obtain⟨ta,tc,rfl⟩:=htk.form
 have hp2:=(hb2.block _ (Aq HP1.out)).trans HP1.out
 obtain⟨V3,hV3⟩:∃V3,V2.alloc (.cells #[.int .i64 0,.int .i64 0] 33)=V3:=⟨_,rfl⟩
 have hb3:Below V2.heap.size V2 V3:=by rw[←hV3];exact(Below.refl _ V2).alloc (Ak _) _
 have hp4:=(hb3.block _ (Aq hp2)).trans hp2
 have hB3:=HB1.out.trans ((hb2.trans (hb3.mono hb2.size)).mono HB1.out.size)
 have ht3:=htk.below hb3
 have hpa:Calls Tryz.prog 53 #[.slice ta ts.length tc,.int .i64 0] V3 (Rx V3 ts 0 (A2 0 0 ts)):=aK ht3 Hnam.out hbig 0 (Nat.zero_le _)
 have HPA:=Ao hpa
 have HB3:=Ao hB3
 have HP4:=Ao hp4
 have HT3:=Ao ht3
 clear hb2 hp2 hb3 hp4 hB3 ht3 hpa htk hrow L1 HP1
 subst hV3
 go_wp2_with fail
 refine HPA.out.mono ?_
 rintro e V4 hp
 obtain⟨v,n,e0,rfl,hn,⟨va,vk,vc,rfl⟩,hmid,hb4⟩:=mB (w:=w) HL.out hp HB3.out.size
 have hB4:=HB3.out.trans (hb4.mono HB3.out.size)
 have hp5:=(hb4.block _ (Aq HP4.out)).trans HP4.out
 have ht4:=HT3.out.below hb4
 have HB4:=Ao hB4
 have HP5:=Ao hp5
 have HT4:=Ao ht4
 obtain⟨x,hx⟩:∃x,Bn (dl s)=x:=⟨_,rfl⟩
 rw[hx] at hmid
 have HX:=Ao hx
 clear hp hb4 hB4 hp5 ht4 HPA HP4 HT3 HL hx
 obtain⟨y0,y1,yf⟩:=B1 HP5.out
 have yf0:=yf 0
 have yf1:=yf 1
 clear yf
 cases hmid with
 |tree a he hn' ht=>
  subst he
  subst hn'
  have HT:=Ao ht
  clear ht
  go_wp2_with fail
  refine bodyPost_ret (v:= .tuple #[.slice va vk vc,.agg #[.int .i64 0,.int .i64 0],.int .i64 0]) sL rfl ?_
  exact zyr
 |more t he hn'=>
  obtain⟨hnl,hte⟩:=List.getElem?_eq_some_iff.1 hn'
  obtain⟨g,c,et,hg,t0,t1,t2,t3,t4,t5,t6⟩:=HT4.out.at hnl
  injection et with e1 _ e3
  subst e1
  subst e3
  rw[hte] at t5 t6
  have i0:(0:Int)<=(n:Int):=by omega
  have i1:(n:Int)<(ts.length:Int):=by omega
  have i2:decide ((n:Int)<(ts.length:Int))=true:=by simp;omega
  have hgw:g<V4.drew.heap.size:=hg
  subst he
  clear t0 t1 t2 t3 t4 hte hn' hg
  go_wp2_with fail
  go_region
  go_wp2_with fail
  refine bodyPost_ret (v:= .tuple #[.slice none 0 0,.agg #[.int .i64 t.line,.int .i64 t.col],.int .i64 4]) sL rfl ?_
  exact zxx
 |bad t he hn'=>
  obtain⟨hnl,hte⟩:=List.getElem?_eq_some_iff.1 hn'
  obtain⟨g,c,et,hg,t0,t1,t2,t3,t4,t5,t6⟩:=HT4.out.at hnl
  injection et with e1 _ e3
  subst e1
  subst e3
  rw[hte] at t5 t6
  have i0:(0:Int)<=(n:Int):=by omega
  have i1:(n:Int)<(ts.length:Int):=by omega
  have i2:decide ((n:Int)<(ts.length:Int))=true:=by simp;omega
  have hgw:g<V4.drew.heap.size:=hg
  have j1:(e0==0)=false:=by simpa using he
  have HE:=Ao he
  clear he
  clear t0 t1 t2 t3 t4 hte hn' hg
  go_wp2_with fail
  go_region
  go_wp2_with fail
  refine bodyPost_ret (v:= .tuple #[.slice none 0 0,.agg #[.int .i64 t.line,.int .i64 t.col],.int .i64 e0]) sL rfl ?_
  exact zxx
 |end' he hn'=>
  subst hn'
  have hbe:=bT HT4.out Hcols.out hbig
  have j1:(e0==0)=false:=by simpa using he
  have Hbe:=Ao hbe
  clear he hbe
  go_wp2_with fail
  refine Hbe.out.mono ?_
  rintro e V5 ⟨rfl,hb5⟩
  have hp6:=(hb5.block _ (Aq HP5.out)).trans HP5.out
  obtain⟨y0,y1,yf⟩:=B1 hp6
  have yf0:=yf 0
  have yf1:=yf 1
  have HB5:=Ao (HB4.out.trans (hb5.mono HB4.out.size))
  clear hp6 hb5 yf Hbe
  go_wp2_with fail
  refine bodyPost_ret (v:= .tuple #[.slice none 0 0,.agg #[.int .i64 (Ft ts).1,.int .i64 (Ft ts).2],.int .i64 e0]) sL rfl ?_
  rw[HX.out]
  exact⟨(HB5.out.setCell rC _).setCell rC _,rfl⟩
theorem Re (s:ByteArray)(w:World)(hs:s.size<=65536)(hR:Rd w):Calls Tryz.prog 20 #[.string s] w (Rk w (Bn (dl s))):=by
 cases h:Fp (dl s) with
 |error p=>exact oR w hs hR (a:=p.1) (b:=p.2.1) (q:=p.2.2) h
 |ok ts=>exact mT w hs hR h
open Go Go.RowKit Go.Lib Go.Sort Go.Shelf
structure Nz where
 h:Hd
 kids:List Int
def Nd.z (n:Nd):Nz:=⟨n.h,n.kids.map fun(k:Nat)=>(k:Int)⟩
def Ik (w:World)(x:Value)(l:List Int):Prop:=l.length<=1000000/\∃a c,x= .slice a l.length c/\∀i (h:i<l.length),∃b off,a=some ⟨b,off,none⟩/\w.cell? ⟨b,off+i,none⟩=some (.int .i64 l[i])
theorem Ik.below {w w':World}{x:Value}{l:List Int}(h:Ik w x l)(hb:Below w.heap.size w w'):Ik w' x l:=by
 obtain⟨h1,a,c,h2,h3⟩:=h
 refine⟨h1,a,c,h2,fun i hi=>?_⟩
 obtain⟨b,off,e,hc⟩:=h3 i hi
 exact⟨b,off,e,A5 hb hc⟩
theorem Ik.of_row {w:World}{B:Nat}{v:Value}{l:List Nat}(hl:l.length<=1000000)(h:w.ownsRow B 3 1 v l.length (Eg l)):Ik w v (l.map fun(k:Nat)=>(k:Int)):=by
 rcases h.2 with ⟨e,h0⟩|⟨g,cap,cur,rfl,_,hg,hc,_⟩
 ·have:l=[]:=List.eq_nil_of_length_eq_zero h0
  subst this
  exact⟨by simp,none,0,e,fun i hi=>by simp at hi⟩
 ·refine⟨by simpa using hl,some ⟨g,0,none⟩,cap,by simp,fun i hi=>⟨g,0,rfl,?_⟩⟩
  have hi':i<l.length:=by simpa using hi
  have:=h.cells (g:=g) rfl i (.int .i64 (l[i]:Int)) (by simp [Eg,hi'])
  rw[Addr.add_lit,Nat.zero_add] at this
  rw[Nat.zero_add]
  simpa using this
def Ta (w:World)(b off:Nat)(h:Hd)(kv:Value):Prop:=
 w.cell? ⟨b,off,none⟩=some (.int .u8 h.op)/\w.cell? ⟨b,off+1,none⟩=some (.int .u8 h.v.1)/\w.cell? ⟨b,off+2,none⟩=some (.int .i64 h.v.2.1)/\w.cell? ⟨b,off+3,none⟩=some (.string ⟨h.v.2.2.toArray⟩)/\
 w.cell? ⟨b,off+4,none⟩=some (.string ⟨h.name.toArray⟩)/\w.cell? ⟨b,off+5,none⟩=some kv/\w.cell? ⟨b,off+6,none⟩=some (.int .i64 h.line)/\w.cell? ⟨b,off+7,none⟩=some (.int .i64 h.col)
theorem Ta.below {w w':World}{b off:Nat}{h:Hd}{kv:Value}(q:Ta w b off h kv)(hb:Below w.heap.size w w'):Ta w' b off h kv:=
 ⟨A5 hb q.1,A5 hb q.2.1,A5 hb q.2.2.1,A5 hb q.2.2.2.1,A5 hb q.2.2.2.2.1,A5 hb q.2.2.2.2.2.1,A5 hb q.2.2.2.2.2.2.1,A5 hb q.2.2.2.2.2.2.2⟩
def TrZ (w:World)(v:Value)(l:List Nz):Prop:=l.length<=1000000/\∃a c,v= .slice a l.length c/\∀i (h:i<l.length),∃b off kv,a=some ⟨b,off,none⟩/\Ta w b (off+i*8) l[i].h kv/\Ik w kv l[i].kids
theorem TrZ.below {w w':World}{v:Value}{l:List Nz}(h:TrZ w v l)(hb:Below w.heap.size w w'):TrZ w' v l:=by
 obtain⟨h1,a,c,h2,h3⟩:=h
 refine⟨h1,a,c,h2,fun i hi=>?_⟩
 obtain⟨b,off,kv,e,hc,hk⟩:=h3 i hi
 exact⟨b,off,kv,e,hc.below hb,hk.below hb⟩
theorem Uz {w:World}{B:Nat}{X:List Nat}:∀{vs:List Value} {ns:List Nd},Cr w B X vs ns->∀(i:Nat) (h:i<ns.length),∃kv,vs[i]? =some kv/\w.ownsRow B 3 1 kv ns[i].kids.length (Eg ns[i].kids)/\
 (Ee vs ns)[i*8]? =some (.int .u8 ns[i].h.op)/\(Ee vs ns)[i*8+1]? =some (.int .u8 ns[i].h.v.1)/\(Ee vs ns)[i*8+2]? =some (.int .i64 ns[i].h.v.2.1)/\(Ee vs ns)[i*8+3]? =some (.string ⟨ns[i].h.v.2.2.toArray⟩)/\
 (Ee vs ns)[i*8+4]? =some (.string ⟨ns[i].h.name.toArray⟩)/\(Ee vs ns)[i*8+5]? =some kv/\(Ee vs ns)[i*8+6]? =some (.int .i64 ns[i].h.line)/\(Ee vs ns)[i*8+7]? =some (.int .i64 ns[i].h.col)
 |[],[],_,i,h=>by simp at h
 |v::vs,n::ns,hk,0,_=>⟨v,rfl,hk.1.1,rfl,rfl,rfl,rfl,rfl,rfl,rfl,rfl⟩
 |v::vs,n::ns,hk,i+1,h=>by
  have:=Uz hk.2 i rY
  rw[show(i+1)*8=i*8+1+1+1+1+1+1+1+1 by omega]
  exact this
 |[],_::_,h,_,_=>h.elim
 |_::_,[],h,_,_=>h.elim
def qC (ns:List Nd):Prop:=∀n∈ns,n.kids.length<=1000000
theorem Gr.z {w:World}{B:Nat}{X:List Nat}{v:Value}{ns:List Nd}(h:Gr w B X v ns)(hl:ns.length<=1000000)(hs:qC ns):TrZ w v (ns.map Nd.z):=by
 obtain⟨kvs,h1,h2⟩:=h
 rcases h1.2 with ⟨e,h0⟩|⟨g,cap,cur,rfl,_,hg,hc,_⟩
 ·have:ns=[]:=List.eq_nil_of_length_eq_zero h0
  subst this
  exact⟨by simp,none,0,e,fun i hi=>by simp at hi⟩
 ·refine⟨by simpa using hl,some ⟨g,0,none⟩,cap,by simp,fun i hi=>?_⟩
  have hi':i<ns.length:=by simpa using hi
  obtain⟨kv,_,hk,g0,g1,g2,g3,g4,g5,g6,g7⟩:=Uz h2 i hi'
  have hcell:∀j u,(Ee kvs ns)[j]? =some u->w.cell? ⟨g,0+j,none⟩=some u:=fun j u hj=>by
   have:=h1.cells (g:=g) rfl j u hj
   rwa [Addr.add_lit] at this
  have he:(ns.map Nd.z)[i]=Nd.z ns[i]:=by simp
  refine⟨g,0,kv,rfl,?_,?_⟩
  ·rw[he]
   exact⟨hcell _ _ g0,hcell _ _ g1,hcell _ _ g2,hcell _ _ g3,hcell _ _ g4,hcell _ _ g5,hcell _ _ g6,hcell _ _ g7⟩
  ·rw[he]
   exact Ik.of_row (hs _ (List.getElem_mem hi')) hk
theorem lT {x y:Value}{l m:List Int}(w:World)(hx:Ik w x l)(hy:Ik w y m):Calls Tryz.prog 60 #[x,y] w fun e w'=>e= .returned (.bool (decide (l=m)))/\Below w.heap.size w w':=by
 obtain⟨hx1,a,c,rfl,hx2⟩:=hx
 obtain⟨hy1,a',c',rfl,hy2⟩:=hy
 by_cases hn:l.length=m.length
 ·by_cases h0:l.length=0
  ·obtain rfl:l=[]:=List.eq_nil_of_length_eq_zero h0
   obtain rfl:m=[]:=List.eq_nil_of_length_eq_zero rA
   refine(Tryz.slices_Equal_int_empty a a' c 0 c' w rA).mono ?_
   rintro e w' ⟨rfl,rfl⟩
   exact⟨by simp,Below.refl _ _⟩
  ·obtain⟨b,off,e1,_⟩:=hx2 0 rA
   obtain⟨b',off',e2,_⟩:=hy2 0 rA
   subst e1
   subst e2
   refine(Tryz.slices_Equal_int b off l.length c b' off' m.length c' l m w (Ak _) (Ak _) rA rA (fun j h=>?_) (fun j h=>?_)).mono ?_
   ·obtain⟨b2,o2,e,hc⟩:=hx2 j h
    injection e with e
    injection e with e1 e2
    subst e1
    subst e2
    rw[hc,List.getD_eq_getElem?_getD,Ag h]
    rfl
   ·obtain⟨b2,o2,e,hc⟩:=hy2 j h
    injection e with e
    injection e with e1 e2
    subst e1
    subst e2
    rw[hc,List.getD_eq_getElem?_getD,Ag h]
    rfl
   ·rintro e w' ⟨rfl,q,rfl⟩
    refine⟨?_,Ba (Below.refl _ _) q⟩
    rw[List.take_length,List.take_length]
    congr 2
    rw[Bool.eq_iff_iff]
    simp
 ·have hd:decide (l=m)=false:=An fun h=>hn (congrArg List.length h)
  rw[hd]
  have h1:(((l.length:Nat):Int) !=((m.length:Nat):Int))=true:=by simp;omega
  clear hx2 hy2 hd hn
  go_enter Tryz.func60,Tryz.ntmps60
  go_wp2_with fail
  exact zyj
def G8 (x y:Nz):Bool:=decide (x.h.op=y.h.op) && (decide (x.h.v=y.h.v) && (decide (x.h.name=y.h.name) && decide (x.kids=y.kids)))
theorem Q7 (x y:Nz):G8 x y=true↔x.h.bare=y.h.bare/\x.kids=y.kids:=by
 obtain⟨⟨a1,a2,a3,a4,a5⟩,ak⟩:=x
 obtain⟨⟨b1,b2,b3,b4,b5⟩,bk⟩:=y
 simp [G8,Hd.bare,and_assoc]
def Dg:List Nz->List Nz->Bool
 |[],[]=>true
 |x::l,y::m=>G8 x y && Dg l m
 |_,_=>false
def Nz.bare (n:Nz):Nz:=⟨n.h.bare,n.kids⟩
theorem Pe:∀(l m:List Nz),Dg l m=true↔l.map Nz.bare=m.map Nz.bare
 |[],[]=>by simp [Dg]
 |[],_::_=>by simp [Dg]
 |_::_,[]=>by simp [Dg]
 |x::l,y::m=>by
  simp only[Dg,Bool.and_eq_true,Q7,Pe l m,List.map_cons,List.cons.injEq,Nz.bare,Nz.mk.injEq]
theorem Wj (h1 h2:Hd)(kv1 kv2:Value)(k1 k2:List Int)(w:World)(hx:Ik w kv1 k1)(hy:Ik w kv2 k2):
 Calls Tryz.prog 59 #[.agg #[.int .u8 h1.op,.int .u8 h1.v.1,.int .i64 h1.v.2.1,.string ⟨h1.v.2.2.toArray⟩,.string ⟨h1.name.toArray⟩,kv1,.int .i64 h1.line,.int .i64 h1.col],.agg #[.int .u8 h2.op,.int .u8 h2.v.1,.int .i64 h2.v.2.1,.string ⟨h2.v.2.2.toArray⟩,.string ⟨h2.name.toArray⟩,kv2,.int .i64 h2.line,.int .i64 h2.col]] w
  fun e w'=>e= .returned (.bool (G8 ⟨h1,k1⟩ ⟨h2,k2⟩))/\Below w.heap.size w w':=by
 obtain⟨op1,⟨vk1,vn1,vs1⟩,nm1,ln1,cl1⟩:=h1
 obtain⟨op2,⟨vk2,vn2,vs2⟩,nm2,ln2,cl2⟩:=h2
 by_cases e0:op1=op2
 ·subst e0
  by_cases e1:vk1=vk2
  ·subst e1
   by_cases e2:vn1=vn2
   ·subst e2
    by_cases e3:vs1=vs2
    ·subst e3
     by_cases e4:nm1=nm2
     ·subst e4
      have hb:Below w.heap.size w ((w.alloc (.cells #[.int .u8 op1,.int .u8 vk1,.int .i64 vn1,.string ⟨vs1.toArray⟩,.string ⟨nm1.toArray⟩,kv1,.int .i64 ln1,.int .i64 cl1] 43)).alloc (.cells #[.int .u8 op1,.int .u8 vk1,.int .i64 vn1,.string ⟨vs1.toArray⟩,.string ⟨nm1.toArray⟩,kv2,.int .i64 ln2,.int .i64 cl2] 43)):=((Below.refl _ w).alloc (Ak _) _).alloc rC _
      have hc:=lT _ (hx.below hb) (hy.below hb)
      have HC:=Ao hc
      have HB:=Ao hb
      clear hx hy hc hb
      go_enter Tryz.func59,Tryz.ntmps59
      go_wp2_with fail
      refine HC.out.mono ?_
      rintro e V ⟨rfl,hb2⟩
      have HB2:=Ao (HB.out.trans (hb2.mono HB.out.size))
      clear hb2 HC HB
      go_wp2_with fail
      go_ret
      exact⟨by simp [G8],HB2.out⟩
     ·have f:(nm1==nm2)=false:=by simpa using e4
      have hz:G8 ⟨⟨op1,(vk1,vn1,vs1),nm1,ln1,cl1⟩,k1⟩ ⟨⟨op1,(vk1,vn1,vs1),nm2,ln2,cl2⟩,k2⟩=false:=by simp [G8,e4]
      rw[hz]
      clear hz hx hy e4
      exact zyw
    ·have f:(vs1==vs2)=false:=by simpa using e3
     have hz:G8 ⟨⟨op1,(vk1,vn1,vs1),nm1,ln1,cl1⟩,k1⟩ ⟨⟨op1,(vk1,vn1,vs2),nm2,ln2,cl2⟩,k2⟩=false:=by simp [G8,e3]
     rw[hz]
     clear hz hx hy e3
     exact zyw
   ·have f:(vn1==vn2)=false:=by simpa using e2
    have hz:G8 ⟨⟨op1,(vk1,vn1,vs1),nm1,ln1,cl1⟩,k1⟩ ⟨⟨op1,(vk1,vn2,vs2),nm2,ln2,cl2⟩,k2⟩=false:=by simp [G8,e2]
    rw[hz]
    clear hz hx hy e2
    exact zyw
  ·have f:(vk1==vk2)=false:=by simpa using e1
   have hz:G8 ⟨⟨op1,(vk1,vn1,vs1),nm1,ln1,cl1⟩,k1⟩ ⟨⟨op1,(vk2,vn2,vs2),nm2,ln2,cl2⟩,k2⟩=false:=by simp [G8,e1]
   rw[hz]
   clear hz hx hy e1
   exact zyw
 ·have f:(op1==op2)=false:=by simpa using e0
  have hz:G8 ⟨⟨op1,(vk1,vn1,vs1),nm1,ln1,cl1⟩,k1⟩ ⟨⟨op2,(vk2,vn2,vs2),nm2,ln2,cl2⟩,k2⟩=false:=by simp [G8,e0]
  rw[hz]
  clear hz hx hy e0
  exact zyw
theorem S0 {v1 v2:Value}{l m:List Nz}(w:World)(hx:TrZ w v1 l)(hy:TrZ w v2 m):Calls Tryz.prog 23 #[v1,v2] w fun e w'=>e= .returned (.bool (Dg l m))/\Below w.heap.size w w':=by
 have hef:Calls Tryz.prog 58 #[v1,v2,.func (.func 59) #[] #[]] w fun e w'=>e= .returned (.bool (Dg l m))/\Below w.heap.size w w':=by
  have hl1:=hx.1
  have hm1:=hy.1
  have HX:=Ao hx
  have HY:=Ao hy
  obtain⟨_,a,c,rfl,_⟩:=hx
  obtain⟨_,a',c',rfl,_⟩:=hy
  by_cases hn:l.length=m.length
  ·rw[←hn]
   have HN:=Ao hn
   have hlm:l.length<=m.length:=by omega
   clear hn
   go_enter Tryz.func58,Tryz.ntmps58
   go_wp2_with fail
   go_loopw [17] (fun vi wr=>∃j:Nat,j<=l.length/\vi= .int .i64 j/\Hid (Dg (l.drop j) (m.drop j)=Dg l m)/\Hid (Below w.heap.size w wr)) (fun vi _=>l.length - (intOf vi).toNat)
   case atStart=>exact⟨0,Nat.zero_le _,rfl,rfl,Below.refl _ _⟩
   case round=>
    obtain⟨j,hj,rfl,hq,hb⟩:=hrel
    by_cases hjl:j<l.length
    ·have hjm:j<m.length:=by omega
     have hx2:=HX.out.below hb.out
     have hy2:=HY.out.below hb.out
     obtain⟨_,ax,cx,ex,hx3⟩:=hx2
     obtain⟨_,ay,cy,ey,hy3⟩:=hy2
     injection ex with ex1 _ ex2
     injection ey with ey1 _ ey2
     subst ex1 ex2 ey1 ey2
     obtain⟨bx,ox,kx,rfl,hnx,hix⟩:=hx3 j hjl
     obtain⟨by',oy,ky,rfl,hny,hiy⟩:=hy3 j hjm
     have hs:(G8 l[j] m[j] && Dg (l.drop (j+1)) (m.drop (j+1)))=Dg l m:=by
      rw[←hq.out,List.drop_eq_getElem_cons hjl,List.drop_eq_getElem_cons hjm]
      rfl
     obtain⟨⟨hd1,k1⟩,e1⟩:∃z,l[j]=z:=⟨_,rfl⟩
     obtain⟨⟨hd2,k2⟩,e2⟩:∃z,m[j]=z:=⟨_,rfl⟩
     rw[e1] at hnx hix hs
     rw[e2] at hny hiy hs
     simp only at hnx hix hny hiy
     obtain⟨op1,⟨vk1,vn1,vs1⟩,nm1,ln1,cl1⟩:=hd1
     obtain⟨op2,⟨vk2,vn2,vs2⟩,nm2,ln2,cl2⟩:=hd2
     obtain⟨ak,ck,rfl⟩:∃ak ck,kx= .slice ak k1.length ck:=⟨_,_,hix.2.choose_spec.choose_spec.1⟩
     obtain⟨ak',ck',rfl⟩:∃ak ck,ky= .slice ak k2.length ck:=⟨_,_,hiy.2.choose_spec.choose_spec.1⟩
     obtain⟨x0,x1,x2,x3,x4,x5,x6,x7⟩:=hnx
     obtain⟨y0,y1,y2,y3,y4,y5,y6,y7⟩:=hny
     simp only at x0 x1 x2 x3 x4 x5 x6 x7 y0 y1 y2 y3 y4 y5 y6 y7
     have hb2:Below wr.heap.size wr ((wr.alloc (.cells #[.int .u8 op1,.int .u8 vk1,.int .i64 vn1,.string ⟨vs1.toArray⟩,.string ⟨nm1.toArray⟩,.slice ak k1.length ck,.int .i64 ln1,.int .i64 cl1] 43)).alloc (.cells #[.int .u8 op2,.int .u8 vk2,.int .i64 vn2,.string ⟨vs2.toArray⟩,.string ⟨nm2.toArray⟩,.slice ak' k2.length ck',.int .i64 ln2,.int .i64 cl2] 43)):=((Below.refl _ wr).alloc (Ak _) _).alloc rC _
     have hc:=Wj ⟨op1,(vk1,vn1,vs1),nm1,ln1,cl1⟩ ⟨op2,(vk2,vn2,vs2),nm2,ln2,cl2⟩ (.slice ak k1.length ck) (.slice ak' k2.length ck') k1 k2 _ (hix.below hb2) (hiy.below hb2)
     simp only at hc
     have HC:=Ao hc
     have HS:=Ao hs
     have HB:=Ao (hb.out.trans (hb2.mono hb.out.size))
     have hbx:bx<wr.heap.size:=Bz x0
     have hby:by'<wr.heap.size:=Bz y0
     have i1:(0:Int)<=(j:Int):=by omega
     have i2:(j:Int)<(l.length:Int):=by omega
     have i3:(j:Int)<(m.length:Int):=by omega
     clear hb hb2 hc hs hq hix hiy hx3 hy3 e1 e2
     go_wp2_with fail
     refine HC.out.mono ?_
     rintro e V ⟨rfl,hbV⟩
     have HBV:=Ao (HB.out.trans (hbV.mono HB.out.size))
     have hs:=HS.out
     clear hbV HC HB HS x0 x1 x2 x3 x4 x5 x6 x7 y0 y1 y2 y3 y4 y5 y6 y7 hbx hby
     cases hz:G8 ⟨⟨op1,(vk1,vn1,vs1),nm1,ln1,cl1⟩,k1⟩ ⟨⟨op2,(vk2,vn2,vs2),nm2,ln2,cl2⟩,k2⟩ with
     |true=>
      rw[hz,Bool.true_and] at hs
      have HS:=Ao hs
      clear hs hz
      go_wp2_with fail
      go_roundw
      case rel=>exact⟨j+1,by omega,by go_num,HS,HBV⟩
      case measure=>simp [intOf];omega
     |false=>
      rw[hz,Bool.false_and] at hs
      have HS:=Ao hs
      clear hs hz
      go_wp2_with fail
      go_ret
      exact⟨by rw[←HS.out];rfl,HBV.out⟩
    ·obtain rfl:j=l.length:=by omega
     have hs:=hq.out
     rw[List.drop_length,HN.out,List.drop_length] at hs
     have HS:=Ao hs
     have HB:=Ao hb.out
     clear hq hb hs
     go_wp2_with fail
     go_ret
     exact⟨by rw[←HS.out];rfl,HB.out⟩
  ·have hs:Dg l m=false:=by
    cases h:Dg l m with
    |false=>rfl
    |true=>exact absurd (by simpa using congrArg List.length ((Pe l m).1 h)) hn
   rw[hs]
   have h1:(((l.length:Nat):Int) !=((m.length:Nat):Int))=true:=by simp;omega
   clear hn hs HX HY
   go_enter Tryz.func58,Tryz.ntmps58
   go_wp2_with fail
   exact zyj
 have HE:=Ao hef
 obtain⟨_,a,c,rfl,_⟩:=hx
 obtain⟨_,a',c',rfl,_⟩:=hy
 clear hef
 go_enter Tryz.func23,Tryz.ntmps23
 go_wp2_with fail
 refine HE.out.mono ?_
 rintro e V ⟨rfl,hb2⟩
 have HB:=Ao hb2
 clear hb2 HE
 go_wp2_with fail
 go_ret
 exact⟨rfl,HB.out⟩
open Go Go.RowKit Go.Lib Go.Sort Go.Shelf
theorem pG {s:ByteArray}{a:Ex}(w:World)(hs:s.size<=65536)(hR:Rd w)(h:Bn (dl s)= .ok a):Calls Tryz.prog 20 #[.string s] w fun e w'=>∃v,e= .returned (.tuple #[v,.agg #[.int .i64 0,.int .i64 0],.int .i64 0])/\Gr w' w.heap.size [] v (a.flat 0)/\Below w.heap.size w w':=by
 refine(Re s w hs hR).mono ?_
 exact zxb
theorem qP {s:ByteArray}{x y q:Int}(w:World)(hs:s.size<=65536)(hR:Rd w)(h:Bn (dl s)= .error ((x,y),q)):Calls Tryz.prog 20 #[.string s] w fun e w'=>e= .returned (.tuple #[.slice none 0 0,.agg #[.int .i64 x,.int .i64 y],.int .i64 q])/\Below w.heap.size w w':=by
 refine(Re s w hs hR).mono ?_
 rintro e w' ⟨hb,he⟩
 rw[h] at he
 exact⟨he,hb⟩
open Go Go.RowKit Go.Lib Go.Sort Go.Shelf
def Ew (op:Int):Nat×Nat:=if(4<=op/\op<=5)\/(7<=op/\op<=16)\/op=21\/op=24\/op=25 then(2,2) else if op=6\/op=17\/op=18\/op=22\/op=23 then(1,1)
 else if op=19\/op=20 then(1,8) else if op=26 then(3,3) else(0,0)
structure Xf (h:Hd)(k:Nat):Prop where
 few:(Ew h.op).1<=k
 many:k<=(Ew h.op).2
 op1:1<=h.op
 op2:h.op<=26
 line:1<=h.line
 col:1<=h.col
 v:h.op≠1->h.v=v0
 name:h.op=2->I8 h.name=true
 anon:h.op≠2->h.name=[]
theorem Jw {h:Hd}{k:Nat}(o:Int)(ho:h.op=o)(hk:(Ew o).1<=k/\k<=(Ew o).2/\1<=o/\o<=26)(hl:1<=h.line)(hc:1<=h.col)(hv:o≠1->h.v=v0)(hn:o=2->I8 h.name=true)(ha:o≠2->h.name=[]):Xf h k:=by
 subst ho
 exact⟨hk.1,hk.2.1,hk.2.2.1,hk.2.2.2,hl,hc,hv,hn,ha⟩
theorem Nm {r:List Tkn}:∀{l:List (List UInt8×Int)},A9 r l≠0->A9 r l∈l.map Prod.snd
 |[],h=>absurd rfl h
 |(s,o)::l,h=>by
  unfold A9 at h ⊢
  by_cases e:isH s r=true
  ·rw[if_pos e]
   exact Ai
  ·rw[if_neg e] at h ⊢
   exact Aj _ (Nm h)
theorem Om (n:Nat):∀o∈(Bh n).map Prod.snd,(4<=o/\o<=5)\/(7<=o/\o<=16):=by
 unfold Bh
 repeat' split
 all_goals first|decide|(intro o ho;cases ho)
theorem S2 {l:List UInt8}{ts:List Tkn}(h:Fp l= .ok ts){a:Ex}{q:List Tkn}(hx:A2 0 0 ts= .ok (a,q)):a.All Xf:=by
 refine Xa (P:=Xf) (W:=fun t=>Qg t.w/\1<=t.line/\1<=t.col) ?_ ?_ ?_ ?_ (.lvl 0) 0 ts sY trivial (fun t ht=>⟨Pl h t ht,(L7 h t ht).1,(L7 h t ht).2.2.1⟩) a q hx
 ·rintro t hd ⟨hf,hl,hc⟩ he
  unfold Ce at he
  by_cases h1:t.w.k=4\/t.w.k=5\/t.w.k=6
  ·rw[if_pos h1] at he
   injection he with he
   subst he
   exact Jw 1 rfl rB hl hc (fun e=>absurd rfl e) (fun e=>absurd e rB) fun _=>rfl
  rw[if_neg h1] at he
  by_cases h2:t.w.k=2
  ·rw[if_pos h2] at he
   injection he with he
   subst he
   refine Jw 2 rfl rB hl hc (fun _=>rfl) (fun _=>?_) fun e=>absurd rfl e
   show I8 t.w.t=true
   cases hf with
   |var _ ht _=>exact ht
   |name h _ _=>omega
   |self h _ _=>omega
   |num h _ _=>omega
   |str h _ _ _=>omega
   |sym h _ _=>omega
   |sign h _ _=>omega
  rw[if_neg h2] at he
  by_cases h3:t.w.k=3
  ·rw[if_pos h3] at he
   injection he with he
   subst he
   exact Jw 3 rfl rB hl hc (fun _=>rfl) (fun e=>absurd e rB) fun _=>rfl
  rw[if_neg h3] at he
  by_cases h4:t.w.k=1
  ·rw[if_pos h4] at he
   cases hcl:Dd t.w.t with
   |some c=>rw[hcl] at he;cases he
   |none=>
    rw[hcl] at he
    cases hll:Lx t.w.t with
    |none=>rw[hll] at he;cases he
    |some v=>
     rw[hll] at he
     injection he with he
     subst he
     exact Jw 1 rfl rB hl hc (fun e=>absurd rfl e) (fun e=>absurd e rB) fun _=>rfl
  ·rw[if_neg h4] at he
   cases he
 ·rintro n t hn ⟨hf,hl,hc⟩
  rcases hn with rfl|rfl
  ·exact Jw 6 rfl rB hl hc (fun _=>rfl) (fun e=>absurd e rB) fun _=>rfl
  ·exact Jw 17 rfl rB hl hc (fun _=>rfl) (fun e=>absurd e rB) fun _=>rfl
 ·rintro n t r ⟨hf,hl,hc⟩ hz
  have ho:=Om n _ (Nm hz)
  obtain⟨o,hoo⟩:∃o,A9 (t::r) (Bh n)=o:=⟨_,rfl⟩
  rw[hoo] at ho ⊢
  have hk:Ew o=(2,2):=by
   unfold Ew
   rw[if_pos rA]
  refine⟨?_,?_,?_,?_,hl,hc,fun _=>rfl,fun e=>?_,fun _=>rfl⟩
  ·show(Ew o).1<=2
   rw[hk]
   decide
  ·show 2<=(Ew o).2
   rw[hk]
   decide
  ·show 1<=o
   omega
  ·show o<=26
   omega
  ·have:o=2:=e
   omega
 ·rintro t c k ⟨hf,hl,hc⟩ he h1 h2
  obtain⟨_,hcl,hln,hco,_⟩:=Pz he
  have hk:Ew c.op=(c.least,c.most)/\18<=c.op/\c.op<=26:=by
   unfold Dd at hcl
   repeat' split at hcl
   all_goals first|(injection hcl with hcl;injection hcl with e1 e2;injection e2 with e2 e3;rw[←e1,←e2,←e3];decide)|cases hcl
  refine⟨?_,?_,?_,?_,?_,?_,fun _=>rfl,fun e=>?_,fun _=>rfl⟩
  ·show(Ew c.op).1<=k
   rw[hk.1]
   exact h1
  ·show k<=(Ew c.op).2
   rw[hk.1]
   exact h2
  ·show 1<=c.op
   omega
  ·show c.op<=26
   omega
  ·show 1<=c.line
   omega
  ·show 1<=c.col
   omega
  ·have:c.op=2:=e
   omega
open Go Go.RowKit Go.Lib Go.Sort Go.Shelf
def Ig (w:World)(b:Nat)(l:List Nat):Prop:=w.heap[b]? =some (.cells (Eg l).toArray 3 (0,0))
theorem Ig.cell {w:World}{b:Nat}{l:List Nat}(h:Ig w b l){i:Nat}{x:Nat}(hx:l[i]? =some x):w.cell? ⟨b,i,none⟩=some (.int .i64 (x:Int)):=by
 unfold Ig at h
 simp only[World.cell?,h]
 simp [Eg,hx]
theorem Ig.frozen {w:World}{b:Nat}{l:List Nat}(h:Ig w b l)(i:Nat):w.frozen? ⟨b,i,none⟩=false:=by
 unfold Ig at h
 simp only[World.frozen?,h]
 simp
theorem Ig.set {w:World}{b:Nat}{l:List Nat}(h:Ig w b l)(i x:Nat):Ig (w.setCell ⟨b,i,none⟩ (.int .i64 (x:Int))) b (l.set i x):=by
 unfold Ig at h ⊢
 rw[Av h]
 congr 2
 apply Array.ext'
 simp [Eg,List.map_set]
theorem Ig.below {w w':World}{b:Nat}{l:List Nat}(h:Ig w b l)(hb:Below w.heap.size w w'):Ig w' b l:=(hb.block b (Aq h)).trans h
theorem Ii {l:List UInt8}{p:(Int×Int)×Int}(h:Bn l= .error p):p.2≠0:=by
 unfold Bn at h
 cases hl:Fp l with
 |error e=>
  obtain⟨a,b,q⟩:=e
  rw[hl] at h
  injection h with h
  have:=((Mb _ l 1 1 (Ak _) rB).1 a b q hl).2.2
  rw[←h]
  show q≠0
  omega
 |ok ts=>
  rw[hl] at h
  simp only at h
  cases hx:A2 0 0 ts with
  |error e=>
   obtain⟨er,q⟩:=e
   rw[hx] at h
   injection h with h
   have:=Yd (.lvl 0) 0 ts sY _ (show exE (.lvl 0) 0 ts=_ from hx)
   rw[←h]
   show er≠0
   simp only at this
   omega
  |ok x=>
   obtain⟨a,q⟩:=x
   rw[hx] at h
   simp only at h
   split at h
   ·injection h with h
    rw[←h]
    show(7:Int)≠0
    decide
   ·split at h
    ·cases h
    ·injection h with h
     rw[←h]
     show(4:Int)≠0
     decide
theorem Dx {l:List UInt8}{a:Ex}(h:Bn l= .ok a):∃ts,Fp l= .ok ts/\A2 0 0 ts= .ok (a,[])/\a.size<=60:=by
 unfold Bn at h
 cases hl:Fp l with
 |error e=>rw[hl] at h;cases h
 |ok ts=>
  rw[hl] at h
  simp only at h
  cases hx:A2 0 0 ts with
  |error e=>rw[hx] at h;cases h
  |ok x=>
   obtain⟨b,q⟩:=x
   rw[hx] at h
   simp only at h
   split at h
   ·cases h
   ·rename_i h60
    split at h
    ·rename_i hq
     injection h with h
     subst h
     subst hq
     exact⟨ts,rfl,hx,by omega⟩
    ·cases h
theorem iD {l:List UInt8}{a:Ex}(h:Bn l= .ok a):a.All Xf:=by
 obtain⟨ts,h1,h2,_⟩:=Dx h
 exact S2 h1 h2
theorem iT (op:Int):(Ew op).2<=8:=by
 unfold Ew
 repeat' split
 all_goals decide
theorem Qk {l:List UInt8}{a:Ex}(h:Bn l= .ok a):qC (a.flat 0):=fun n hn=>by
 have h1:=Zi a 0 (iD h) n hn
 have h2:=h1.many
 have h3:=iT n.h.op
 omega
open Go Go.RowKit Go.Lib Go.Sort Go.Shelf
theorem Ml:∀{l m:List Nz},Dg l m=true->l.length=m.length/\∀(i:Nat) (h1:i<l.length) (h2:i<m.length),G8 l[i] m[i]=true
 |[],[],_=>⟨rfl,fun i h1 _=>absurd h1 rC⟩
 |[],_::_,h=>by cases h
 |_::_,[],h=>by cases h
 |x::l,y::m,h=>by
  have h':(G8 x y && Dg l m)=true:=h
  rw[Bool.and_eq_true] at h'
  obtain⟨e,ih⟩:=Ml h'.2
  refine⟨by simp [e],fun i h1 h2=>?_⟩
  cases i with
  |zero=>exact h'.1
  |succ i=>exact ih i tF (by simpa using h2)
theorem Below.drewN' {B:Nat}{a:World}:∀(n:Nat) {w:World},Below B a w->Below B a (w.drewN n)
 |0,_,h=>h
 |n+1,_,h=>(Below.drewN' n h).drew
open Go Go.Lib
theorem Li:∀(k:Nat) (l:List UInt8) (a b a' b':Int) (ts:List Tkn),l.length<=k->LX l a b= .ok ts->∃us,LX l a' b'= .ok us/\us.map Tkn.w=ts.map Tkn.w
 |k,l,a,b,a',b',ts,hk,h=>by
  refine Ib (P:=fun l=>l.length<=k->LX l a b= .ok ts->∃us,LX l a' b'= .ok us/\us.map Tkn.w=ts.map Tkn.w) l ?_ ?_ ?_ ?_ ?_ ?_ hk h
  ·rintro rfl _ h
   rw[Je] at h
   injection h with h
   subst h
   exact⟨[],Je _ _,rfl⟩
  ·rintro r rfl hk h
   obtain⟨k,rfl⟩:∃j,k=j+1:=⟨k - 1,by rw[Aa] at hk;omega⟩
   rw[Jl] at h ⊢
   exact Li k r _ _ _ _ ts rX h
  ·rintro r rfl hk h
   obtain⟨k,rfl⟩:∃j,k=j+1:=⟨k - 1,by rw[Aa] at hk;omega⟩
   rw[Fz] at h ⊢
   exact Li k r _ _ _ _ ts rX h
  ·rintro r rfl hk h
   obtain⟨k,rfl⟩:∃j,k=j+1:=⟨k - 1,by rw[Aa] at hk;omega⟩
   have hp:=F7 (q:=Eu) (c:=59) (r:=r) rB
   rw[Lv] at h ⊢
   exact Li k _ _ _ _ _ ts rT h
  ·rintro c r e rfl hc hw hk h
   rw[La hc hw] at h
   cases h
  ·rintro c r w n rfl hc hw hk h
   obtain⟨k,rfl⟩:∃j,k=j+1:=⟨k - 1,by rw[Aa] at hk;omega⟩
   obtain⟨hn,hnl⟩:=Ea hw
   rw[Ez hc hw] at h
   cases hx:LX ((c::r).drop n) a (b+n) with
   |error e=>rw[hx] at h;cases h
   |ok vs=>
    rw[hx] at h
    injection h with h
    subst h
    obtain⟨us,h1,h2⟩:=Li k _ a (b+n) a' (b'+n) vs rT hx
    refine⟨⟨w,a',b'⟩::us,?_,by simp [h2]⟩
    rw[Ez hc hw,h1]
    rfl
theorem bE (r:List UInt8):Bf (40::r)= .ok (⟨7,[40],v0⟩,1):=by
 unfold Bf
 simp only
 rw[if_neg rB,if_neg rB,if_neg rB,if_neg rB,if_neg (by rintro ⟨h,_⟩;exact absurd h rB)]
 unfold E8
 have h2:(40::r).take 2∉E4:=by
  cases r with
  |nil=>decide
  |cons c r=>
   simp [E4]
 rw[if_neg h2,if_pos (by rw[List.take_succ_cons,List.take_zero];decide)]
 rfl
theorem nP (a b:Int):LX [41] a b= .ok [⟨⟨7,[41],v0⟩,a,b⟩]:=rfl
theorem Yv (l r:List UInt8)(a b:Int):LX (40::(l++10::r)) a b=Mq ⟨⟨7,[40],v0⟩,a,b⟩ (Gb (LX l a (b+1)) (LX r (a+(l.count 10:Nat)+1) 1)):=by
 rw[Ez ⟨by decide,by decide,by decide⟩ (bE _),List.drop_one,List.tail_cons,P5 r _ l _ _ (Ak _)]
 rfl
def Og (t:Tkn):Prop:=t.w=⟨7,[40],v0⟩
def Rq (t:Tkn):Prop:=t.w=⟨7,[41],v0⟩
theorem dW {t:Tkn}(h:Rq t)(post:List Tkn):Xq (t::post):=fun s hs=>by
 unfold Rq at h
 show(decide (t.w.t=s) && (decide (t.w.k=1)||decide (t.w.k=7)))=false
 rw[h]
 have:¬[41]=s:=fun e=>hs e.symm
 simp [this]
theorem dI {t:Tkn}(h:Og t)(r:List Tkn)(s:List UInt8):isH s (t::r)=decide (s=[40]):=by
 unfold Og at h
 show(decide (t.w.t=s) && (decide (t.w.k=1)||decide (t.w.k=7)))=_
 rw[h]
 by_cases e:s=[40]
 ·subst e
  decide
 ·have:¬[40]=s:=fun h=>e h.symm
  simp [this,e]
theorem Tn {p s:Tkn}(hp:Og p)(hs:Rq s){ts us post:List Tkn}{a:Ex}(ha:A2 0 0 ts= .ok (a,[]))(hu:us.map Tkn.w=ts.map Tkn.w)(d:Nat):
 (∃q,A2 7 d (p::(us++s::post))= .error (12,q))\/∃a',A2 7 d (p::(us++s::post))= .ok (a',post)/\a'.bare=a.bare:=by
 have hl:Ce p=none:=by unfold Og at hp;unfold Ce;rw[hp];rfl
 have hc:Cx p=none:=by unfold Og at hp;unfold Cx;rw[hp];rfl
 rw[Bj]
 simp only[hl,hc]
 unfold Bv
 rw[dI hp,if_pos rC]
 by_cases hd:d=12
 ·rw[if_pos hd]
  exact .inl ⟨_,rfl⟩
 ·rw[if_neg hd,List.tail_cons]
  have hx:=nU (d+1) (s::post) (dW hs post) (.lvl 0) 0 ts sY (.lvl 0) us rfl hu a [] ha
  rw[Nat.zero_add] at hx
  rcases hx with ⟨_,q1,e⟩|⟨a',q',e,h1,h2⟩
  ·show(∃q,(A2 0 (d+1) (us++s::post)).next Cs= .error (12,q))\/∃a',(A2 0 (d+1) (us++s::post)).next Cs= .ok (a',post)/\a'.bare=a.bare
   rw[show A2 0 (d+1) (us++s::post)=_ from e]
   exact .inl ⟨_,rfl⟩
  ·have:q'=[]:=by simpa using h2
   subst this
   show(∃q,(A2 0 (d+1) (us++s::post)).next Cs= .error (12,q))\/∃a',(A2 0 (d+1) (us++s::post)).next Cs= .ok (a',post)/\a'.bare=a.bare
   rw[show A2 0 (d+1) (us++s::post)=_ from e]
   refine .inr ⟨a',?_,h1⟩
   unfold Rq at hs
   have:isH [41] ([]++s::post)=true:=by
    show(decide (s.w.t=[41]) && (decide (s.w.k=1)||decide (s.w.k=7)))=true
    rw[hs]
    decide
   simp only[ExR.next]
   unfold Cs
   rw[if_pos this]
   rfl
theorem Qr {r:List Tkn}{d:Nat}{a:Ex}{post:List Tkn}(hpre:∀n,isH (Er n) r=false)(m:Nat)(hpost:∀n,m<=n->A9 post (Bh n)=0):∀(k n:Nat),n+k=7->m<=n->A2 7 d r= .ok (a,post)->A2 n d r= .ok (a,post)
 |0,n,hk,_,h=>by
  rw[show n=7 by omega]
  exact h
 |k+1,n,hk,hm,h=>by
  have ih:=Qr hpre m hpost k (n+1) rA rA h
  by_cases h26:n=2\/n=6
  ·rw[Ec h26,hpre n,if_neg rB]
   exact ih
  ·rw[Dv rA rA,ih]
   simp only[ExR.next]
   rw[Dl,if_pos (hpost n hm)]
theorem Tb {r:List Tkn}{d:Nat}{p:Int×List Tkn}(hpre:∀n,isH (Er n) r=false):∀(k n:Nat),n+k=7->A2 7 d r= .error p->A2 n d r= .error p
 |0,n,hk,h=>by
  rw[show n=7 by omega]
  exact h
 |k+1,n,hk,h=>by
  have ih:=Tb hpre k (n+1) rA h
  by_cases h26:n=2\/n=6
  ·rw[Ec h26,hpre n,if_neg rB]
   exact ih
  ·rw[Dv rA rA,ih]
   rfl
theorem Lf {p:Tkn}(hp:Og p)(r:List Tkn)(n:Nat):isH (Er n) (p::r)=false:=by
 rw[dI hp]
 unfold Er
 split<;>decide
theorem Jv:∀(l:List (List UInt8×Int)),A9 [] l=0
 |[]=>rfl
 |(s,o)::l=>by
  unfold A9
  rw[if_neg (by simp [isH])]
  exact Jv l
open Go Go.RowKit Go.Lib Go.Sort Go.Shelf
theorem Nn {a b:Ex}(h:a.bare=b.bare):Dg ((a.flat 0).map Nd.z) ((b.flat 0).map Nd.z)=true:=by
 rw[Pe]
 have:=congrArg (List.map Nd.z) (fO h 0)
 rw[List.map_map,List.map_map] at this ⊢
 exact this
open Go Go.RowKit Go.Lib Go.Sort Go.Shelf
def Jg:List (List UInt8×Int×Nat):=
 [([111,114],4,0),([97,110,100],5,1),([61],7,3),([60,62],8,3),([60],9,3),([60,61],10,3),([62],11,3),([62,61],12,3),([43],13,4),([45],14,4),([42],15,5),([47],16,5)]
def Od (s:List UInt8):Int:=if s=[111,114]\/s=[97,110,100] then 1 else 7
def U2 (s:List UInt8)(t:Tkn):Prop:=t.w=⟨Od s,s,v0⟩
theorem oT {s:List UInt8}{t:Tkn}(h:U2 s t)(r:List Tkn)(u:List UInt8):isH u (t::r)=decide (s=u):=by
 unfold U2 at h
 show(decide (t.w.t=u) && (decide (t.w.k=1)||decide (t.w.k=7)))=_
 rw[h]
 show(decide (s=u) && (decide (Od s=1)||decide (Od s=7)))=_
 have:(decide (Od s=1)||decide (Od s=7))=true:=by
  unfold Od
  split<;>rfl
 rw[this,Bool.and_true]
theorem J3 {x:List UInt8×Int×Nat}(hx:x∈Jg){t:Tkn}(h:U2 x.1 t)(r:List Tkn)(n:Nat):A9 (t::r) (Bh n)=if n=x.2.2 then x.2.1 else 0:=by
 have key:∀l:List (List UInt8×Int),A9 (t::r) l=(l.find? fun y=>decide (x.1=y.1)).elim 0 Prod.snd:=fun l=>by
  induction l with
  |nil=>rfl
  |cons y l ih=>
   unfold A9
   rw[oT h,List.find?_cons]
   by_cases e:x.1=y.1
   ·rw[if_pos tX]
    simp [e]
   ·rw[if_neg tX,ih]
    simp [e]
 rw[key]
 clear key h
 by_cases h5:n<=5
 ·revert n
  revert x
  decide
 ·rw[Qu rA]
  have:n≠x.2.2:=by
   have:x.2.2<=5:=by
    revert x
    decide
   omega
  rw[if_neg this]
  rfl
theorem cL {r:List Tkn}{d:Nat}{a:Ex}{post:List Tkn}(hpre:∀n,isH (Er n) r=false)(m m':Nat)(hm7:m'<=7)(hpost:∀n,m<=n->n<m'->A9 post (Bh n)=0):∀(k n:Nat),n+k=m'->m<=n->A2 m' d r= .ok (a,post)->A2 n d r= .ok (a,post)
 |0,n,hk,_,h=>by
  rw[show n=m' by omega]
  exact h
 |k+1,n,hk,hm,h=>by
  have ih:=cL hpre m m' hm7 hpost k (n+1) rA rA h
  by_cases h26:n=2\/n=6
  ·rw[Ec h26,hpre n,if_neg rB]
   exact ih
  ·rw[Dv rA rA,ih]
   simp only[ExR.next]
   rw[Dl,if_pos (hpost n hm rA)]
theorem eD {x:List UInt8×Int×Nat}(hx:x∈Jg):x.2.2<=5/\x.2.2≠2/\x.2.1≠0:=by
 revert x
 decide
theorem bB {x:List UInt8×Int×Nat}(hx:x∈Jg){p1 s1 o p2 s2:Tkn}(h1:Og p1)(h2:Rq s1)(h3:U2 x.1 o)(h4:Og p2)(h5:Rq s2){ts us ts' us':List Tkn}{a b:Ex}(ha:A2 0 0 ts= .ok (a,[]))(hb:A2 0 0 ts'= .ok (b,[]))(hu:us.map Tkn.w=ts.map Tkn.w)(hu':us'.map Tkn.w=ts'.map Tkn.w):
 (∃q,A2 0 0 (p1::(us++s1::(o::p2::(us'++[s2]))))= .error (12,q))\/
 ∃a' b' l c,A2 0 0 (p1::(us++s1::(o::p2::(us'++[s2]))))= .ok (.mk ⟨x.2.1,v0,[],l,c⟩ [a',b'],[])/\a'.bare=a.bare/\b'.bare=b.bare:=by
 obtain⟨k1,k2,k3⟩:=eD hx
 rcases Tn h1 h2 (post:=o::p2::(us'++[s2])) ha hu 0 with ⟨q,e⟩|⟨a',e,hba⟩
 ·exact .inl ⟨q,Tb (fun n=>Lf h1 _ n) 7 0 rfl e⟩
 ·have e1:=Qr (fun n=>Lf h1 _ n) (x.2.2+1) (fun n hn=>by rw[J3 hx h3,if_neg rA]) (7 - (x.2.2+1)) (x.2.2+1) rA (Ak _) e
  rcases Tn h4 h5 (post:=[]) hb hu' 0 with ⟨q,g⟩|⟨b',g,hbb⟩
  ·have g1:=Tb (fun n=>Lf h4 _ n) (7 - (x.2.2+1)) (x.2.2+1) rA g
   have e2:A2 x.2.2 0 (p1::(us++s1::(o::p2::(us'++[s2]))))= .error (12,q):=by
    rw[Dv k1 k2,e1]
    simp only[ExR.next]
    rw[Dl,if_neg (by rw[J3 hx h3,if_pos rfl];exact k3),List.tail_cons,g1]
    rfl
   refine .inl ⟨q,?_⟩
   have up:∀(k n:Nat),n+k=x.2.2->A2 n 0 (p1::(us++s1::(o::p2::(us'++[s2]))))= .error (12,q):=fun k=>by
    induction k with
    |zero=>intro n hn;rw[show n=x.2.2 by omega];exact e2
    |succ k ih=>
     intro n hn
     have:=ih (n+1) rA
     by_cases h26:n=2\/n=6
     ·rw[Ec h26,Lf h1 _ n,if_neg rB]
      exact this
     ·rw[Dv rA rA,this]
      rfl
   exact up x.2.2 0 rA
  ·have g1:=Qr (fun n=>Lf h4 _ n) 0 (fun n _=>Jv _) (7 - (x.2.2+1)) (x.2.2+1) rA rA g
   have e2:A2 x.2.2 0 (p1::(us++s1::(o::p2::(us'++[s2]))))= .ok (.mk ⟨x.2.1,v0,[],(plH (o::p2::(us'++[s2]))).1,(plH (o::p2::(us'++[s2]))).2⟩ [a',b'],[]):=by
    rw[Dv k1 k2,e1]
    simp only[ExR.next]
    rw[Dl,if_neg (by rw[J3 hx h3,if_pos rfl];exact k3),List.tail_cons,g1]
    simp only[ExR.next]
    rw[J3 hx h3,if_pos rfl]
    by_cases hn3:x.2.2=3
    ·rw[if_pos hn3]
    ·rw[if_neg hn3,Dl,if_pos (Jv _)]
   exact .inr ⟨a',b',_,_,cL (fun n=>Lf h1 _ n) 0 x.2.2 rA (fun n _ _=>Jv _) x.2.2 0 rA (Ak _) e2,hba,hbb⟩
theorem nK (r:List UInt8)(hs:Xp r)(a b:Int):LX (41::r) a b=Mq ⟨⟨7,[41],v0⟩,a,b⟩ (LX r a (b+1)):=by
 have h:Bf [41]= .ok (⟨7,[41],v0⟩,1):=rfl
 have h2:Bf (41::r)= .ok (⟨7,[41],v0⟩,1):=Rt h hs
 rw[Ez ⟨by decide,by decide,by decide⟩ h2]
 rfl
theorem fM {x:List UInt8×Int×Nat}(hx:x∈Jg):Bf x.1= .ok (⟨Od x.1,x.1,v0⟩,x.1.length)/\∃c r,x.1=c::r/\Jh c:=by
 unfold Jh
 simp only[Jg,List.mem_cons,List.not_mem_nil,or_false] at hx
 rcases hx with rfl|rfl|rfl|rfl|rfl|rfl|rfl|rfl|rfl|rfl|rfl|rfl<;>exact⟨rfl,_,_,rfl,by decide⟩
theorem cK {x:List UInt8×Int×Nat}(hx:x∈Jg)(r:List UInt8)(hs:Xp r)(a b:Int):LX (x.1++r) a b=Mq ⟨⟨Od x.1,x.1,v0⟩,a,b⟩ (LX r a (b+(x.1.length:Nat))):=by
 obtain⟨h,c,q,e,hc⟩:=fM hx
 have h2:=Rt h hs
 rw[List.take_length] at h2
 rw[e] at h2 ⊢
 rw[List.cons_append] at h2 ⊢
 rw[Ez hc h2,←List.cons_append,List.drop_left]
theorem O0 (r:List UInt8):Xp (32::r):=fun c h=> .inr (by simpa using h.symm)
def Ob (l o m:List UInt8):List UInt8:=40::(l++10::41::32::(o++32::40::(m++[10,41])))
theorem Xz {x:List UInt8×Int×Nat}(hx:x∈Jg){l m:List UInt8}{ts ts':List Tkn}(h:Fp l= .ok ts)(h':Fp m= .ok ts'):
 ∃p1 us s1 o p2 us' s2,Fp (Ob l x.1 m)= .ok (p1::(us++s1::(o::p2::(us'++[s2]))))/\Og p1/\Rq s1/\U2 x.1 o/\Og p2/\Rq s2/\us.map Tkn.w=ts.map Tkn.w/\us'.map Tkn.w=ts'.map Tkn.w:=by
 obtain⟨us,h1,h2⟩:=Li _ l 1 1 1 2 ts (Ak _) h
 obtain⟨us',h3,h4⟩:=Li _ m 1 1 (1+(l.count 10:Nat)+1) (1+1+1+(x.1.length:Nat)+1+1) ts' (Ak _) h'
 have e:Fp (Ob l x.1 m)= .ok (⟨⟨7,[40],v0⟩,1,1⟩::(us++⟨⟨7,[41],v0⟩,1+(l.count 10:Nat)+1,1⟩::(⟨⟨Od x.1,x.1,v0⟩,1+(l.count 10:Nat)+1,1+1+1⟩::⟨⟨7,[40],v0⟩,1+(l.count 10:Nat)+1,1+1+1+(x.1.length:Nat)+1⟩::(us'++[⟨⟨7,[41],v0⟩,1+(l.count 10:Nat)+1+(m.count 10:Nat)+1,1⟩])))):=by
  unfold Ob
  rw[Sl,Yv,show(1:Int)+1=2 from rfl,h1,nK _ (O0 _),Fz,cK hx _ (O0 _),Fz,show[10,41]=(10:UInt8)::[41] from rfl,Yv,h3,nP]
  rfl
 exact⟨_,us,_,_,_,us',_,e,rfl,rfl,rfl,rfl,rfl,h2,h4⟩
theorem aX {x:List UInt8×Int×Nat}(hx:x∈Jg){l m:List UInt8}{a b:Ex}(h:Bn l= .ok a)(h':Bn m= .ok b):
 (∃p q,Bn (Ob l x.1 m)= .error (p,q)/\(q=12\/q=7/\60<a.size+b.size+1))\/
 ∃a' b' y z,Bn (Ob l x.1 m)= .ok (.mk ⟨x.2.1,v0,[],y,z⟩ [a',b'])/\a'.bare=a.bare/\b'.bare=b.bare/\a.size+b.size+1<=60:=by
 obtain⟨ts,t1,t2,_⟩:=Dx h
 obtain⟨ts',t3,t4,_⟩:=Dx h'
 obtain⟨p1,us,s1,o,p2,us',s2,e,g1,g2,g3,g4,g5,g6,g7⟩:=Xz hx t1 t3
 rcases bB hx g1 g2 g3 g4 g5 t2 t4 g6 g7 with ⟨q,e2⟩|⟨a',b',y,z,e2,e3,e4⟩
 ·refine .inl ⟨Nk (p1::(us++s1::(o::p2::(us'++[s2])))) q,12,?_,.inl rfl⟩
  simp only[Bn,e,e2]
 ·have z1:=N0 e3
  have z2:=N0 e4
  have z3:(Ex.mk ⟨x.2.1,v0,[],y,z⟩ [a',b']).size=a.size+b.size+1:=by
   rw[Ex.size,A6,A6,A6]
   omega
  by_cases h60:60<a.size+b.size+1
  ·refine .inl ⟨Nk (p1::(us++s1::(o::p2::(us'++[s2])))) (p1::(us++s1::(o::p2::(us'++[s2])))),7,?_,.inr ⟨rfl,h60⟩⟩
   simp only[Bn,e,e2]
   rw[if_pos rA]
  ·refine .inr ⟨a',b',y,z,?_,e3,e4,by omega⟩
   simp only[Bn,e,e2]
   rw[if_neg rA,if_pos trivial]
end Go.Proofs.YtgfakdobajgnfaaGreatDoor
