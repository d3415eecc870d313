import Derived.Test.YtgfakdobajgnfaaGreatDoorQn19
set_option maxRecDepth 100000
set_option maxHeartbeats 16000000
namespace Go.Proofs.YtgfakdobajgnfaaGreatDoor
open Go Go.RowKit Go.Lib
theorem Jm:∀F∈([]:List (Value->World->Prop)),∀v w w',F v w->Below w.heap.size w w'->F v w':=fun _ h=>by cases h
theorem B6 {F:Value->World->Prop}{Fs:List (Value->World->Prop)}(h:∀v w w',F v w->Below w.heap.size w w'->F v w')(hs:∀F∈Fs,∀v w w',F v w->Below w.heap.size w w'->F v w'):∀G∈F::Fs,∀v w w',G v w->Below w.heap.size w w'->G v w':=fun G hG=>by
 rcases List.mem_cons.1 hG with rfl|hG
 ·exact h
 exact hs G hG
def Two (n m:Nat)(v:Value)(V:World):Prop:=∃v1 v2,v= .tuple #[v1,v2]/\Bj V v1 ((n:Nat):Int)/\Bj V v2 ((m:Nat):Int)
theorem Two.below {n m:Nat}{v:Value}{w w':World}(h:Two n m v w)(hb:Below w.heap.size w w'):Two n m v w':=by
 obtain⟨v1,v2,h1,h2,h3⟩:=h;exact⟨v1,v2,h1,h2.below hb,h3.below hb⟩
def Iy (n:Nat)(v:Value)(V:World):Prop:=Bj V v (n:Int)
theorem Iy.below {n:Nat}{v:Value}{w w':World}(h:Iy n v w)(hb:Below w.heap.size w w'):Iy n v w':=Bj.below h hb
theorem fO {d:Nat}(h:0<d)(h':d<10000):dg d=[d]:=by
 rw[Jf nU,Nat.mod_eq_of_lt h',show d/10000=0 by omega,Dr]
theorem Rw {w:World}{a:Option Addr}{n c m:Nat}(h:Ch w (.slice a n c) (dg m)):Bj w (.agg #[.bool false,.slice a n c]) (m:Int):=⟨_,by rw[An nU],by rw[Int.natAbs_natCast];exact h⟩
theorem S0 {w:World}{a:Option Addr}{n c d:Nat}(h:Ch w (.slice a n c) (dg d))(hd:d<10):(d=0/\n=0)\/(0<d/\n=1/\∃b o,a=some ⟨b,o,none⟩/\w.cell? ⟨b,o,none⟩=some (.int .i64 (d:Int))):=by
 obtain⟨_,_,e,_⟩:=h.slice;injection e with _ e _;by_cases h0:d=0
 ·subst h0;exact .inl ⟨rfl,by rw[e,Dr];rfl⟩
 rw[fO nU nU] at e h;obtain⟨b,o,h1,h2⟩:=h.at (i:=0) nW;exact .inr ⟨by omega,e,b,o,h1,by simpa using h2⟩
theorem Jw (F:World)(d:Nat)(x:Int)(hx:x=48+(d:Int))(h:d<10):(convert 40 9 (.slice (some ⟨F.heap.size,0,none⟩) 1 1)).run Tryz.prog (F.alloc (.cells #[.int .u8 x] 5))= .ok (.string ⟨#[UInt8.ofNat (48+d)]⟩) (F.alloc (.cells #[.int .u8 x] 5)):=by
 have:=run_convert_bytes_back (P:=Tryz.prog) (F.alloc (.cells #[.int .u8 x] 5)) 40 9 5 ⟨F.heap.size,0,none⟩ 1 [UInt8.ofNat (48+d)] Tryz.underlying40 Tryz.underlying5 Tryz.underlying9 (fun j hj=>by
  have hj0:j=0:=by simp at hj;exact hj
  subst hj0;simp only[List.getElem_cons_zero,Tu d h]
  show(F.alloc (.cells #[.int .u8 x] 5)).cell? ⟨F.heap.size,0,none⟩=_
  simp only[World.cell?,A0,hx]
  rfl)
 exact this
theorem Zt:∀(m n:Nat),n<10^(m+1)->(decDigits n).length<=m+1
 |0,n,h=>by rw[Dg nU];simp
 |m+1,n,h=>by
  by_cases h10:n<10
  ·rw[Dg h10];simp
  have:=Zt m (n/10) (by rw[Nat.pow_succ] at h;omega)
  rw[Gh h10,Ab];simp;omega
theorem Mj {n k:Nat}(hn:Bo n<=5)(hk:k<=5):(Fr n k).length<=30:=by
 have h1:=Nw n;have h2:10000^Bo n<=10000^5:=Nat.pow_le_pow_right nV hn;have h3:=Zt 19 n nU
 have:=iQ n k
 omega
theorem Q9 {V F:World}{p q:Nat}{x1 x2 y1 y2:Value}(hp:V.heap[p]? =some (.cells #[.bool false,.slice none 0 0] 79 (0,0)))(hq:V.heap[q]? =some (.cells #[.bool false,.slice none 0 0] 79 (0,0)))(hne:p≠q)
 (hF:(((V.setCell ⟨p,0,none⟩ x1).setCell ⟨p,1,none⟩ x2).setCell ⟨q,0,none⟩ y1).setCell ⟨q,1,none⟩ y2=F):
 F.heap[p]? =some (.cells #[x1,x2] 79 (0,0))/\F.heap[q]? =some (.cells #[y1,y2] 79 (0,0))/\A8 [p,q] V F/\∀v z,Bj V v z->Bj F v z:=by
 subst hF;have h1:=A2 (i:=1) (u:=x2) (A2 (i:=0) (u:=x1) hp);have o1:A8 [p] V ((V.setCell ⟨p,0,none⟩ x1).setCell ⟨p,1,none⟩ x2):=((A8.refl [p] V).setCell (.inl nW) _).setCell (.inl nW) _;obtain⟨V1,hV1⟩:∃V1,(V.setCell ⟨p,0,none⟩ x1).setCell ⟨p,1,none⟩ x2=V1:=⟨_,rfl⟩;rw[hV1] at h1 o1 ⊢;have hq1:V1.heap[q]? =_:=(o1.block q (Bm hq) (by simp;exact fun e=>hne e.symm)).trans hq;have h2:=A2 (i:=1) (u:=y2) (A2 (i:=0) (u:=y1) hq1);have o2:A8 [q] V1 ((V1.setCell ⟨q,0,none⟩ y1).setCell ⟨q,1,none⟩ y2):=((A8.refl [q] V1).setCell (.inl nW) _).setCell (.inl nW) _;refine⟨(o2.block p (Bm h1) (by simp;exact hne)).trans h1,h2,(o1.mono (T:=[p,q]) nW).step o2 nW,fun v z h=>?_⟩
 have:=(h.store hp x1 x2).store (r:=q) (t:=79) (p:=false) (a:=none) (n:=0) (c:=0) (by rw[hV1];exact hq1) y1 y2
 rwa [hV1] at this
structure iU (w wr:World)(b:Bool)(s:Value)(l:Value):Prop where
 x:wr.heap[w.heap.size]? =some (.cells #[.bool b,s] 79 (0,0))
 l:wr.heap[w.heap.size+1]? =some (.cells #[.bool false,l] 79 (0,0))
 bel:Below w.heap.size w wr
theorem iU.box {w wo F:World}{b:Bool}{s l:Value}(hA:iU w wo b s l)(hF:Below wo.heap.size wo F)(O:Obj):(F.alloc O).heap[w.heap.size+1]? =some (.cells #[.bool false,l] 79 (0,0)):=
 ((hF.alloc (hF.size) O).block _ (Bm hA.l)).trans hA.l
theorem Qe {w wo F:World}{b:Bool}{s:Value}{la a5:Option Addr}{ln lc n5 c5 m:Nat}(hA:iU w wo b s (.slice la ln lc))(hF:Below wo.heap.size wo F)(h5:Bj F (.agg #[.bool false,.slice a5 n5 c5]) (m:Int))(O:Obj):
 iU w (((F.alloc O).setCell ⟨w.heap.size+1,0,none⟩ (.bool false)).setCell ⟨w.heap.size+1,1,none⟩ (.slice a5 n5 c5)) b s (.slice a5 n5 c5)/\Ch (((F.alloc O).setCell ⟨w.heap.size+1,0,none⟩ (.bool false)).setCell ⟨w.heap.size+1,1,none⟩ (.slice a5 n5 c5)) (.slice a5 n5 c5) (dg m)/\n5=Bo m:=by
 have hbx:=hA.box hF O;have h1:=A2 (i:=1) (u:= .slice a5 n5 c5) (A2 (i:=0) (u:= .bool false) hbx);have o1:A8 [w.heap.size+1] (F.alloc O) (((F.alloc O).setCell ⟨w.heap.size+1,0,none⟩ (.bool false)).setCell ⟨w.heap.size+1,1,none⟩ (.slice a5 n5 c5)):=((A8.refl _ _).setCell (.inl nW) _).setCell (.inl nW) _;have hbF:=hF.alloc (hF.size) O;have h5':=((Bj.below h5 ((Aq F.heap.size F).alloc (Ak _) O)).store hbx (.bool false) (.slice a5 n5 c5)).nat;obtain⟨_,_,_,e,hd⟩:=h5';injection e with e;have e2:=Ar (fun x:Array Value=>x[1]?) e;simp at e2;obtain⟨rfl,rfl,rfl⟩:=e2;refine⟨⟨?_,h1,?_⟩,hd,?_⟩
 ·refine(o1.block _ ?_ nW).trans ((hbF.block _ (Bm hA.x)).trans hA.x);exact Nat.lt_of_lt_of_le (Bm hA.x) hbF.size
 ·exact((hA.bel.trans (hbF.mono hA.bel.size)).setCell nW _).setCell nW _
 obtain⟨_,_,e,_⟩:=hd.slice;injection e
theorem Vi {N k n dd:Nat}{sl cs:ByteArray}(hP:Fr N k=Fr n (k - sl.size)++dl sl)(hgo:0<n\/sl.size<k)(hdd:n % 10=dd)(hcs:cs=⟨#[UInt8.ofNat (48+dd)]⟩)(hN:Bo N<=5)(hk:k<=5):(cs++sl).size<=30/\Fr N k=Fr (n/10) (k - (cs++sl).size)++dl (cs++sl)/\30 - (cs++sl).size<30 - sl.size:=by
 obtain⟨h1,h2⟩:=dN hP nU;have h3:=Mj hN hk;have e1:(cs++sl).size=1+sl.size:=by rw[ByteArray.size_append,hcs];rfl
 have e2:dl (cs++sl)=UInt8.ofNat (48+n % 10)::dl sl:=by rw[Du,hcs,hdd];rfl
 rw[A4] at h2;refine⟨by omega,?_,by omega⟩;rw[e1,e2,h1,show k - sl.size - 1=k - (1+sl.size) by omega]
theorem Pq {w:World}{sx:Value}{N:Nat}(bx:Bool)(hx:Ch w sx (dg N))(hN:Bo N<=5)(k:Nat)(hk:k<=5):Calls Tryz.prog 48 #[.agg #[.bool bx,sx],.int .i64 (k:Int)] w fun e w'=>e= .returned (.string ⟨(Fr N k).toArray⟩)/\Below w.heap.size w w':=by
 obtain⟨ax,cx,rfl,_⟩:=hx.slice;obtain⟨nx,hnx⟩:∃n,(dg N).length=n:=⟨_,rfl⟩;rw[hnx] at hx ⊢;have HX:=Ax hx;have HNX:=Ax hnx;have HN:=Ax hN;have HK:=Ax hk;clear hx hnx hN hk;go_enter Tryz.func48,Tryz.ntmps48;go_wp2_with fail
 go_loopw [5] (fun v5 wr=>∃(n:Nat) (sl:ByteArray) (la:Option Addr) (ln lc:Nat),v5= .string sl/\sl.size<=30/\Hid (iU w wr bx (.slice ax nx cx) (.slice la ln lc)/\Ch wr (.slice la ln lc) (dg n)/\ln=Bo n/\Bo n<=5/\Fr N k=Fr n (k - sl.size)++dl sl)) (fun v5 _=>30 - (nS v5).size)
 case atStart=>
  refine⟨N,⟨#[]⟩,ax,nx,cx,rfl,by decide,Ax ⟨⟨?_,?_,?_⟩,?_,HNX.out.symm,HN.out,by simp [dl];rfl⟩⟩
  ·rw[RowKit.Below.heap_alloc _ _ _ nW];exact(MapKept.heap_alloc w _).1
  ·have:=(MapKept.heap_alloc (w.alloc (.cells #[.bool bx,.slice ax nx cx] 79)) (.cells #[.bool false,.slice ax nx cx] 79)).1
   simpa using this
  ·exact((Aq _ _).alloc (Ak _) _).alloc nW _
  exact HX.out.below (((Aq _ _).alloc (Ak _) _).alloc nW _)
 obtain⟨wo,rfl⟩:∃wo:World,wo=wr:=⟨_,rfl⟩;obtain⟨n,sl,la,ln,lc,rfl,hsl,hq⟩:=hrel;obtain⟨hA,hD,hln,hL5,hP⟩:=hq.out;obtain⟨m0,m1,_⟩:=A1 hA.l;obtain⟨wd,hwd⟩:∃wd,wo.drew=wd:=⟨_,rfl⟩;have hbd:Below wo.heap.size wo wd:=by rw[←hwd];exact(Aq _ _).drew
 have HA:=Ax (And.intro hA hbd);have HPP:=Ax (And.intro hP hL5)
 have hlp:0<n↔0<ln:=by
  rw[hln];constructor
  ·intro h
   have:=Nw n
   rcases Nat.eq_zero_or_pos (Bo n) with q|q
   ·rw[q] at this;omega
   exact q
  intro h;rcases Nat.eq_zero_or_pos n with q|q
  ·subst q;simp [Bo,Dr] at h
  exact q
 have hbb:∀V,Below wd.heap.size wd V->Bj V (.agg #[.bool false,.slice la ln lc]) (n:Int):=fun V hV=>⟨_,by rw[An nU],by simpa[hln] using(hD.below hbd).below hV⟩
 have HLN:=Ax hbb
 have hsl2:∀V,Below wd.heap.size wd V->V.cell? ⟨w.heap.size+1,0,none⟩=some (.bool false)/\V.cell? ⟨w.heap.size+1,1,none⟩=some (.slice la ln lc):=fun V hV=>by
  exact⟨A6 hV (A6 hbd m0),A6 hV (A6 hbd m1)⟩
 have HSL:=Ax hsl2;have HLD:=Ax hln;have HLP:=Ax hlp;clear hq hA hD hP hL5 hbd hlp hbb hsl2 hln;by_cases hgo:0<n\/sl.size<k
 ·have HGO:=Ax hgo;obtain⟨gb,hgb⟩:∃gb,decide ((0:Int)<(ln:Int))=gb:=⟨_,rfl⟩
  have hgt:gb=false->decide (sl.size<k)=true:=fun e=>Am (by
   subst e
   have:=of_decide_eq_false hgb
   have:=HLP.out
   omega)
  clear hgo;cases gb with
  |false=>
   have hgk:=hgt rfl;obtain rfl:ln=0:=by have:=of_decide_eq_false hgb;omega
   have m0d:=(HSL.out wd (Aq _ _)).1;have m1d:=(HSL.out wd (Aq _ _)).2;clear hgt hgb;go_wp2_with fail;refine wp_region_noPanic ?_;refine wp_region_held_drew (S:=fun V=>V.cell? ⟨w.heap.size+1,0,none⟩=some (.bool false)/\V.cell? ⟨w.heap.size+1,1,none⟩=some (.slice la 0 lc)) nT ?_ (fun hHeld=>?_)
   ·(try dsimp only);go_keep
   rw[hwd] at hHeld ⊢;refine wpAnyH_take (i:=0) (oi:=⟨some 24,_,_,_,_,_⟩) (v:=?_) rfl nT nT nT (fun _ _ _ h=>h) (Or.inl ⟨by rfl,?_⟩) nX ?_;rotate_left
   ·(intro w hSw;(try dsimp only at hSw);(first|(go_simp;done)|(go_simp;with_reducible rfl)))
   exact zz9
  |true=>
   have hgp:(0:Int)<(ln:Int):=of_decide_eq_true hgb;have m0d:=(HSL.out wd (Aq _ _)).1;have m1d:=(HSL.out wd (Aq _ _)).2;clear hgt;go_wp2_with fail;refine wp_region_noPanic ?_;refine wp_region_held_drew (S:=fun V=>V.cell? ⟨w.heap.size+1,0,none⟩=some (.bool false)/\V.cell? ⟨w.heap.size+1,1,none⟩=some (.slice la ln lc)) nT ?_ (fun hHeld=>?_)
   ·(try dsimp only);go_keep
   rw[hwd] at hHeld ⊢;refine wpAnyH_take (i:=0) (oi:=⟨some 24,_,_,_,_,_⟩) (v:=?_) rfl nT nT nT (fun _ _ _ h=>h) (Or.inl ⟨by rfl,?_⟩) nX ?_;rotate_left
   ·(intro w hSw;(try dsimp only at hSw);(first|(go_simp;done)|(go_simp;with_reducible rfl)))
   exact zz9
 obtain rfl:n=0:=by omega
 obtain rfl:ln=0:=by
  have:=HLP.out
  omega
 have hfin:dl ⟨(Fr N k).toArray⟩=dl sl:=by
  have:=HPP.out.1
  rw[show k - sl.size=0 by omega,cW] at this;rw[C7,this];rfl
 have HFN:=Ax (D7 hfin);have hgk:decide (sl.size<k)=false:=An nU;clear hfin hgo;go_wp2_with fail;go_ret;exact⟨HFN.out.symm,HA.out.1.bel⟩
open Go Go.RowKit Go.Lib Go.Sort Go.Shelf
theorem Td (l:List UInt8)(c:UInt8):Ka (l++[c])=Ka l++(if c=92 then[92,92] else if c=34 then[92,34] else[c]):=by
 induction l with
 |nil=>rw[List.nil_append,O3];simp [Ka,N0]
 |cons b r ih=>rw[List.cons_append,O3,ih,O3 b r,List.append_assoc]
theorem P5 {s:ByteArray}{i:Nat}(h:i<s.size):dl (s.extract i (i+1))=[s[i]]/\(s.extract i (i+1)).size=1/\(dl s).take (i+1)=(dl s).take i++[s[i]]:=by
 have hl:i<(dl s).length:=by rw[A4];exact h
 have hg:(dl s)[i]=s[i]:=by
  have:=Fu h
  rw[Ag hl] at this;exact Option.some.inj this
 have e1:dl (s.extract i (i+1))=[s[i]]:=by
  rw[Ei,List.drop_eq_getElem_cons hl,Nat.add_sub_cancel_left,hg];rfl
 refine⟨e1,by rw[←A4,e1];rfl,?_⟩;rw[←hg];exact List.take_succ_eq_append_getElem hl
theorem Ca {c:UInt8}{n:Nat}(h:c.toNat=n):c=UInt8.ofNat n:=by rw[←h];exact(UInt8.ofNat_toNat).symm
theorem Z7 {s S:ByteArray}{i:Nat}(h:i<s.size)(hS:dl S=34::Ka ((dl s).take i))(hz:S.size<=1+2*i)(hc:s[i].toNat=34\/s[i].toNat=92):(S++⟨#[92]⟩++s.extract i (i+1)).size<=1+2*(i+1)/\dl (S++⟨#[92]⟩++s.extract i (i+1))=34::Ka ((dl s).take (i+1)):=by
 obtain⟨e1,e2,e3⟩:=P5 h
 have e4:dl (S++⟨#[92]⟩++s.extract i (i+1))=34::Ka ((dl s).take (i+1)):=by
  rw[Du,Du,hS,e1,e3,Td];rcases hc with hc|hc
  ·rw[Ca hc];simp [dl]
  rw[Ca hc];simp [dl]
 refine⟨?_,e4⟩;rw[ByteArray.size_append,ByteArray.size_append,e2];show S.size+1+1<=_;omega
theorem kV {s S:ByteArray}{i:Nat}(h:i<s.size)(hS:dl S=34::Ka ((dl s).take i))(hz:S.size<=1+2*i)(hc:s[i].toNat≠34)(hd:s[i].toNat≠92):(S++s.extract i (i+1)).size<=1+2*(i+1)/\dl (S++s.extract i (i+1))=34::Ka ((dl s).take (i+1)):=by
 obtain⟨e1,e2,e3⟩:=P5 h;have n1:¬s[i]=92:=fun e=>hd oK
 have n2:¬s[i]=34:=fun e=>hc oK
 refine⟨by rw[ByteArray.size_append,e2];omega,?_⟩;rw[Du,hS,e1,e3,Td,Ao n1,Ao n2];rfl
theorem lM {r:List UInt8}(hl:r.length=4){j:Nat}(h1:1<=j)(h4:j<=4)(hz:∀i,j<=i->i<4->r[i]? =some 48)(hend:j=1\/∃c,r[j - 1]? =some c/\c≠48):Kf r=r.take j:=by
 match r,hl with
 |[a,b,c,d],_=>
  rcases (show j=1\/j=2\/j=3\/j=4 by omega) with rfl|rfl|rfl|rfl
  ·have e1:=hz 1 nU nU;have e2:=hz 2 nU nU;have e3:=hz 3 nU nU;simp at e1 e2 e3;subst e1 e2 e3;by_cases ha:a=48
   ·subst ha;rfl
   simp [Kf,trimRightB,ha]
  ·have e2:=hz 2 nU nU;have e3:=hz 3 nU nU;simp at e2 e3;subst e2 e3;exact zxg
  ·have e3:=hz 3 nU nU;simp at e3;subst e3;exact zxg
  exact zxg
theorem lD {n:Int}{pd:ByteArray}{m:Nat}(hpd:dl pd=L8 (decDigits n.natAbs))(h1:pd.size<=m+4)(h2:m<pd.size)(hz:∀i,m<i->i<pd.size->(dl pd)[i]? =some 48)(hend:m+4=pd.size\/∃c,(dl pd)[m]? =some c/\c≠48)(b:ByteArray)(hb:dl b=if n<0 then[45] else[]):
 dl (b++pd.extract 0 (pd.size - 4)++⟨#[46]⟩++pd.extract (pd.size - 4) (m+1))=O8 n:=by
 have h5:5<=pd.size:=by
  have:=Rv (decDigits n.natAbs)
  rw[←hpd,A4] at this;exact this
 rw[Du,Du,Du,Ei,Ei,hb];unfold O8;rw[←hpd,A4,List.drop_zero,Nat.sub_zero];have hl:((dl pd).drop (pd.size - 4)).length=4:=by rw[List.length_drop,A4];omega
 have:=lM hl (j:=m+1 - (pd.size - 4)) nU nU (fun i q1 q2=>by
  rw[List.getElem?_drop]
  exact hz _ nU nU) (by
  rcases hend with q|⟨c,q1,q2⟩
  ·exact .inl nU
  refine .inr ⟨c,?_,q2⟩;rw[List.getElem?_drop,←q1];congr 1
  omega)
 rw[this];simp [dl]
theorem N6 (s:ByteArray)(j:Int)(h0:0<=j)(h1:j<=(s.size:Int))(W:World):(Instr.slice 9 (.string s) none (some (.int .i64 j)) none).run Tryz.prog W= .ok (.string (s.extract 0 j.toNat)) W:=
 run_slice_string_h W 9 s Tryz.underlying9 .i64 j h0 h1
theorem Db (s:ByteArray)(i j:Int)(h0:0<=i)(h1:i<=j)(h2:j<=(s.size:Int))(W:World):(Instr.slice 9 (.string s) (some (.int .i64 i)) (some (.int .i64 j)) none).run Tryz.prog W= .ok (.string (s.extract i.toNat j.toNat)) W:=
 run_slice_string W 9 s .i64 .i64 i j Tryz.underlying9 h0 h1 h2
theorem Gb (v:Vl)(w:World)(hv:v.fit):
 Calls Tryz.prog 16 #[.agg #[.int .u8 v.k,.int .i64 v.n,.string v.s]] w fun e w'=>e= .returned (.string (Mk v))/\Below w.heap.size w w':=by
 obtain⟨h1,h2,h3⟩:=hv;have hbA:Below w.heap.size w (w.alloc (.cells #[.int .u8 v.k,.int .i64 v.n,.string v.s] 23)):=(Aq w.heap.size w).alloc (Ak _) _;have hm:=Gr v h1 (w.alloc (.cells #[.int .u8 v.k,.int .i64 v.n,.string v.s] 23));have hbx:=(MapKept.heap_alloc w (.cells #[.int .u8 v.k,.int .i64 v.n,.string v.s] 23)).1;rw[J1] at hm;unfold Mk Cy;obtain⟨k,n,s⟩:=v;simp only at*
 have hbb:∀V,Below (w.heap.size+1) (w.alloc (.cells #[.int .u8 k,.int .i64 n,.string s] 23)) V->V.heap[w.heap.size]? =some (.cells #[.int .u8 k,.int .i64 n,.string s] 23 (0,0))/\Below w.heap.size w V:=fun V hV=>by
  have hz:(w.alloc (.cells #[.int .u8 k,.int .i64 n,.string s] 23)).heap.size=w.heap.size+1:=by simp
  exact⟨(hV.block w.heap.size nU).trans hbx,hbA.trans (hV.mono nU)⟩
 have Hbb:=Ax hbb;have hz:(w.alloc (.cells #[.int .u8 k,.int .i64 n,.string s] 23)).heap.size=w.heap.size+1:=by simp
 have Hm:=Ax hm;have c0:(w.alloc (.cells #[.int .u8 k,.int .i64 n,.string s] 23)).cell? ⟨w.heap.size,0,none⟩=some (.int .u8 k):=by simp only[World.cell?,hbx];rfl
 have c1:(w.alloc (.cells #[.int .u8 k,.int .i64 n,.string s] 23)).cell? ⟨w.heap.size,1,none⟩=some (.int .i64 n):=by simp only[World.cell?,hbx];rfl
 have c2:(w.alloc (.cells #[.int .u8 k,.int .i64 n,.string s] 23)).cell? ⟨w.heap.size,2,none⟩=some (.string s):=by simp only[World.cell?,hbx];rfl
 cases hmy:Fa k n (dl s) with
 |false=>
  rw[hmy] at Hm;simp only[Bool.false_eq_true,if_false];clear hm hbx hbA hbb hz hmy;go_enter Tryz.func16,Tryz.ntmps16;go_wp2_with fail;refine Hm.out.mono ?_;rintro e W ⟨rfl,hb⟩;rw[show(w.alloc (.cells #[.int .u8 k,.int .i64 n,.string s] 23)).heap.size=w.heap.size+1 by simp] at hb;have HB:=Ax (Hbb.out W hb).2;clear hb;exact zzl
 |true=>
  rw[hmy] at Hm;simp only[if_true];have Hmy:=Ax (Ma hmy);clear hm hbx hbA hbb hz hmy;go_enter Tryz.func16,Tryz.ntmps16;go_wp2_with fail;refine Hm.out.mono ?_;rintro e W ⟨rfl,hb⟩;rw[show(w.alloc (.cells #[.int .u8 k,.int .i64 n,.string s] 23)).heap.size=w.heap.size+1 by simp] at hb;obtain⟨hx,hbW⟩:=Hbb.out W hb;have HX:=Ax hx;have d0:W.cell? ⟨w.heap.size,0,none⟩=some (.int .u8 k):=by simp only[World.cell?,hx];rfl
  have d1:W.cell? ⟨w.heap.size,1,none⟩=some (.int .i64 n):=by simp only[World.cell?,hx];rfl
  have d2:W.cell? ⟨w.heap.size,2,none⟩=some (.string s):=by simp only[World.cell?,hx];rfl
  have HbW:=Ax hbW;have HOf:=Ax (Jd (w:=W) n h2 h3);clear hb c0 c1 c2 Hm Hbb hx hbW;go_wp2_with fail;refine HOf.out.mono ?_;rintro e W2 ⟨⟨x,rfl,hn⟩,hb2⟩;obtain⟨ax,cx,rfl,hd⟩:=hn.form;obtain⟨nx,hnx⟩:∃m,Bo n.natAbs=m:=⟨_,rfl⟩;rw[hnx] at hd ⊢;obtain⟨nb,hnb⟩:∃b,decide (n<0)=b:=⟨_,rfl⟩;rw[hnb];have hx2:=(hb2.block _ (Ay HX.out)).trans HX.out;have d0:W2.cell? ⟨w.heap.size,0,none⟩=some (.int .u8 k):=by simp only[World.cell?,hx2];rfl
  have d1:W2.cell? ⟨w.heap.size,1,none⟩=some (.int .i64 n):=by simp only[World.cell?,hx2];rfl
  have d2:W2.cell? ⟨w.heap.size,2,none⟩=some (.string s):=by simp only[World.cell?,hx2];rfl
  have HB2:=Ax (HbW.out.trans (hb2.mono HbW.out.size));clear hn hb2 hx2 HOf;have hA:=(Aq W2.heap.size W2).alloc (Ak _) (.cells #[.bool nb,.slice ax nx cx] 79);have e0:=A6 hA d0;have e1:=A6 hA d1;have e2:=A6 hA d2;have HBA:=Ax (HB2.out.trans (hA.mono HB2.out.size));clear hA;rcases Hmy.out with ⟨rfl,rfl,hs⟩|⟨rfl,hs⟩|⟨rfl,hs⟩|⟨rfl,rfl,hl,hp⟩|⟨rfl,hs,hn⟩|⟨rfl,rfl,hn⟩
  ·clear hs;exact zxm
  ·have hdg:=(Pq (w:=W2.alloc (.cells #[.bool nb,.slice ax nx cx] 79)) nb (hd.below ((Aq _ _).alloc (Ak _) _)) (Kx nU) 1 nV);have HDG:Hid (Calls Tryz.prog 48 #[.agg #[.bool nb,.slice ax nx cx],.int .i64 1] (W2.alloc (.cells #[.bool nb,.slice ax nx cx] 79)) _):=Ax hdg;have HD5:Hid ((Fr n.natAbs 1).length<=30):=Ax (Mj (Kx nU) nV)
   have HIT:Hid (dl ((if nb=true then(⟨#[45]⟩:ByteArray) else⟨#[]⟩)++⟨(Fr n.natAbs 1).toArray⟩)=dl ⟨(P0 1 n (dl s)).toArray⟩):=Ax (by
    rw[Du,C7,C7,iG,←hnb];simp only[P0,if_true,itoa];by_cases h:n<0
    ·simp [h,dl]
    rw[show n.natAbs=n.toNat by omega];simp [h,dl])
   obtain⟨pd,hpd⟩:∃pd:ByteArray,⟨(Fr n.natAbs 1).toArray⟩=pd:=⟨_,rfl⟩;rw[hpd] at HDG HIT;have hpl:pd.size<=30:=by rw[←hpd,←A4,C7];exact HD5.out
   clear hs hdg hd hpd HD5;cases nb with
   |false=>
    exact zxo
   |true=>
    exact zxo
  ·have hdg:=(Pq (w:=W2.alloc (.cells #[.bool nb,.slice ax nx cx] 79)) nb (hd.below ((Aq _ _).alloc (Ak _) _)) (Kx nU) 5 nV);have HDG:Hid (Calls Tryz.prog 48 #[.agg #[.bool nb,.slice ax nx cx],.int .i64 5] (W2.alloc (.cells #[.bool nb,.slice ax nx cx] 79)) _):=Ax hdg;obtain⟨pd,hpd⟩:∃pd:ByteArray,⟨(Fr n.natAbs 5).toArray⟩=pd:=⟨_,rfl⟩;have hpl:pd.size<=30:=by rw[←hpd,←A4,C7];exact Mj (Kx nU) nV
   have hpe:dl pd=L8 (decDigits n.natAbs):=by rw[←hpd,C7,cI]
   have hp5:5<=pd.size:=by
    have:=Rv (decDigits n.natAbs)
    rw[←hpe,A4] at this;exact this
   have HDC:Hid (∀m,pd.size<=m+4->m<pd.size->(∀i,m<i->i<pd.size->(dl pd)[i]? =some 48)->(m+4=pd.size\/∃c,(dl pd)[m]? =some c/\c≠48)->dl ((if nb=true then(⟨#[45]⟩:ByteArray) else⟨#[]⟩)++pd.extract 0 (pd.size - 4)++⟨#[46]⟩++pd.extract (pd.size - 4) (m+1))=dl ⟨(P0 2 n (dl s)).toArray⟩):=Ax fun m q1 q2 q3 q4=>by
    rw[lD hpe q1 q2 q3 q4 _ (by rw[←hnb];by_cases h:n<0<;>simp [h,dl]),C7];rfl
   rw[hpd] at HDG;clear hs hdg hd hpd hpe;cases nb with
   |false=>
    exact zz2
   |true=>
    exact zz2
  ·rw[A4] at hl;obtain rfl:nb=false:=by rw[←hnb];rfl
   clear hnb hp;go_wp2_with fail
   go_loop [7,8] (fun v7 v8=>∃(i:Nat) (S:ByteArray),i<=s.size/\v8= .int .i64 i/\v7= .string S/\S.size<=1+2*i/\Hid (dl S=34::Ka ((dl s).take i))) (fun _ v8=>s.size - (intOf v8).toNat)
   case atStart=>exact⟨0,⟨#[34]⟩,Nat.zero_le _,rfl,rfl,by decide,Ax rfl⟩
   obtain⟨i,S,hi,rfl,rfl,hS,hq⟩:=hrel;by_cases hil:i<s.size
   ·have p0:decide ((i:Int)<(s.size:Int))=true:=Am nU;have q0:(0:Int)<=(i:Int):=by omega
    have q1:(i:Int)<(s.size:Int):=by omega
    by_cases h34:s[i].toNat=34
    ·have d1:((s[i].toNat:Int)==34)=true:=beq_iff_eq.2 nU;have d2:(s[i].toNat:Int)=34:=by omega
     have HN:=Ax (Z7 hil hq.out hS (.inl h34));exact zyb
    have d1:((s[i].toNat:Int)==34)=false:=Af.2 nU;by_cases h92:s[i].toNat=92
    ·have d2:((s[i].toNat:Int)==92)=true:=beq_iff_eq.2 nU;have HN:=Ax (Z7 hil hq.out hS (.inr h92));exact zyb
    have d2:((s[i].toNat:Int)==92)=false:=Af.2 nU;have HN:=Ax (kV hil hq.out hS h34 h92);exact zyb
   obtain rfl:i=s.size:=by omega
   have p0:decide ((s.size:Int)<(s.size:Int))=false:=An nU
   have HN:Hid (dl (S++⟨#[34]⟩)=dl ⟨(P0 3 0 (dl s)).toArray⟩):=Ax (by
    rw[Du,hq.out,C7,←A4,List.take_length]
    simp [P0,mO,dl])
   clear hq;go_wp2_with fail;go_ret;exact⟨D7 HN.out,HBA.out⟩
  ·clear hs;rcases hn with rfl|rfl
   ·exact zxm
   exact zxm
  have hs12:s.size<=12:=by rw[←A4];exact(Fi hn).2.1
  obtain rfl:nb=false:=by rw[←hnb];rfl
  clear hnb hn;go_wp2_with fail;go_ret;exact⟨D7 (by rw[Du];rfl),HBA.out⟩
end Go.Proofs.YtgfakdobajgnfaaGreatDoor
