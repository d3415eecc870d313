import Derived.Test.YtmpfilddeglgbaaGreatDoorQj7
import Derived.Test.YtmpfilddeglgbaaGreatDoorQj8
set_option maxRecDepth 100000
set_option maxHeartbeats 16000000
namespace Go.Proofs.YtmpfilddeglgbaaGreatDoor
open Go Go.RowKit Go.Lib Go.Sort Go.Shelf
def Gb (w:Wd)(line col:Int):Value:= .agg #[.int .u8 w.k,.string ⟨w.t.toArray⟩,.int .u8 w.v.1,.int .i64 w.v.2.1,.string ⟨w.v.2.2.toArray⟩,.int .i64 line,.int .i64 col]
def Rr (w0:World)(r:Except Int (Wd×Nat))(e:Ending)(w':World):Prop:=
 Below w0.heap.size w0 w'/\match r with
  | .ok p=>e= .returned (.tuple #[Gb p.1 0 0,.int .i64 (p.2:Nat),.int .i64 0])
  | .error q=>∃wd n,e= .returned (.tuple #[Gb wd 0 0,.int .i64 n,.int .i64 q])
def Dw:Array Value:= #[.int .u8 0,.string ⟨#[]⟩,.int .u8 0,.int .i64 0,.string ⟨#[]⟩,.int .i64 0,.int .i64 0]
structure Bl (w:World)(b:Nat)(k:Int)(t:ByteArray)(vk vn:Int)(vs:ByteArray)(line col:Int):Prop where
 c0:w.cell? ⟨b,0,none⟩=some (.int .u8 k)
 c1:w.cell? ⟨b,1,none⟩=some (.string t)
 c2:w.cell? ⟨b,2,none⟩=some (.int .u8 vk)
 c3:w.cell? ⟨b,3,none⟩=some (.int .i64 vn)
 c4:w.cell? ⟨b,4,none⟩=some (.string vs)
 c5:w.cell? ⟨b,5,none⟩=some (.int .i64 line)
 c6:w.cell? ⟨b,6,none⟩=some (.int .i64 col)
 fz:∀i,w.frozen? ⟨b,i,none⟩=false
theorem Bl.new (w:World):Bl (w.alloc (.cells Dw 63)) w.heap.size 0 ⟨#[]⟩ 0 0 ⟨#[]⟩ 0 0:=by
 have h:=(MapKept.heap_alloc w (.cells Dw 63)).1;constructor<;>first|(simp only[World.cell?,h];rfl)|(intro i;simp only[World.frozen?,h];simp)
theorem Bl.newc (w:World)(k:Int)(t:ByteArray)(vk vn:Int)(vs:ByteArray)(line col:Int):Bl (w.alloc (.cells #[.int .u8 k,.string t,.int .u8 vk,.int .i64 vn,.string vs,.int .i64 line,.int .i64 col] 63)) w.heap.size k t vk vn vs line col:=by
 have h:=(MapKept.heap_alloc w (.cells #[.int .u8 k,.string t,.int .u8 vk,.int .i64 vn,.string vs,.int .i64 line,.int .i64 col] 63)).1;constructor<;>first|(simp only[World.cell?,h];rfl)|(intro i;simp only[World.frozen?,h];simp)
theorem Bl.below {w w':World}{b:Nat}{k:Int}{t:ByteArray}{vk vn:Int}{vs:ByteArray}{line col:Int}(h:Bl w b k t vk vn vs line col)(hb:Below w.heap.size w w'):Bl w' b k t vk vn vs line col:=by
 have hl:=Ca h.c0;simp only at hl;have e:=hb.block b hl;exact zyj
theorem Bl.isSome {w:World}{b:Nat}{k:Int}{t:ByteArray}{vk vn:Int}{vs:ByteArray}{line col:Int}(h:Bl w b k t vk vn vs line col):∀i,i<7->(w.cell? ⟨b,i,none⟩).isSome=true:=fun i hi=>by
 match i,hi with
 |0,_=>rw[h.c0];rfl
 |1,_=>rw[h.c1];rfl
 |2,_=>rw[h.c2];rfl
 |3,_=>rw[h.c3];rfl
 |4,_=>rw[h.c4];rfl
 |5,_=>rw[h.c5];rfl
 |6,_=>rw[h.c6];rfl
def set7 (w:World)(b:Nat)(k:Int)(t:ByteArray)(vk vn:Int)(vs:ByteArray)(line col:Int):World:=
 ((((((w.setCell ⟨b,0,none⟩ (.int .u8 k)).setCell ⟨b,1,none⟩ (.string t)).setCell ⟨b,2,none⟩ (.int .u8 vk)).setCell ⟨b,3,none⟩ (.int .i64 vn)).setCell ⟨b,4,none⟩ (.string vs)).setCell ⟨b,5,none⟩ (.int .i64 line)).setCell ⟨b,6,none⟩ (.int .i64 col)
theorem Fo {w:World}{b i:Nat}(j:Nat)(v:Value)(h:(w.cell? ⟨b,i,none⟩).isSome=true):((w.setCell ⟨b,j,none⟩ v).cell? ⟨b,i,none⟩).isSome=true:=by
 by_cases e:j=i
 ·subst e;rw[World.cell?_setCell_same' _ _ _ h];rfl
 have q:(⟨b,j,none⟩:Addr)≠⟨b,i,none⟩:=fun z=>by injection z with _ z;exact e z
 rw[World.cell?_setCell_other (h:=q)];exact h
theorem cell_far {w:World}{b i:Nat}(j:Nat)(v u:Value)(hn:j≠i)(h:w.cell? ⟨b,i,none⟩=some u):(w.setCell ⟨b,j,none⟩ v).cell? ⟨b,i,none⟩=some u:=by
 have q:(⟨b,j,none⟩:Addr)≠⟨b,i,none⟩:=fun z=>by injection z with _ z;exact hn z
 rw[World.cell?_setCell_other (h:=q)];exact h
theorem Bl.set7 {w:World}{b:Nat}{k:Int}{t:ByteArray}{vk vn:Int}{vs:ByteArray}{line col:Int}(h:Bl w b k t vk vn vs line col)(k':Int)(t':ByteArray)(vk' vn':Int)(vs':ByteArray)(line' col':Int):
 Bl (set7 w b k' t' vk' vn' vs' line' col') b k' t' vk' vn' vs' line' col':=by
 have H:=h.isSome;have w1:=fun i hi=>Fo (i:=i) 0 (.int .u8 k') (H i hi)
 have w2:=fun i hi=>Fo (i:=i) 1 (.string t') (w1 i hi)
 have w3:=fun i hi=>Fo (i:=i) 2 (.int .u8 vk') (w2 i hi)
 have w4:=fun i hi=>Fo (i:=i) 3 (.int .i64 vn') (w3 i hi)
 have w5:=fun i hi=>Fo (i:=i) 4 (.string vs') (w4 i hi)
 have w6:=fun i hi=>Fo (i:=i) 5 (.int .i64 line') (w5 i hi)
 refine⟨?_,?_,?_,?_,?_,?_,?_,fun i=>?_⟩
 ·exact cell_far 6 _ _ tG (cell_far 5 _ _ tG (cell_far 4 _ _ tG (cell_far 3 _ _ tG (cell_far 2 _ _ tG (cell_far 1 _ _ tG (World.cell?_setCell_same' _ _ _ (H 0 tG)))))))
 ·exact cell_far 6 _ _ tG (cell_far 5 _ _ tG (cell_far 4 _ _ tG (cell_far 3 _ _ tG (cell_far 2 _ _ tG (World.cell?_setCell_same' _ _ _ (w1 1 tG))))))
 ·exact cell_far 6 _ _ tG (cell_far 5 _ _ tG (cell_far 4 _ _ tG (cell_far 3 _ _ tG (World.cell?_setCell_same' _ _ _ (w2 2 tG)))))
 ·exact cell_far 6 _ _ tG (cell_far 5 _ _ tG (cell_far 4 _ _ tG (World.cell?_setCell_same' _ _ _ (w3 3 tG))))
 ·exact cell_far 6 _ _ tG (cell_far 5 _ _ tG (World.cell?_setCell_same' _ _ _ (w4 4 tG)))
 ·exact cell_far 6 _ _ tG (World.cell?_setCell_same' _ _ _ (w5 5 tG))
 ·exact World.cell?_setCell_same' _ _ _ (w6 6 tG)
 have:=h.fz i
 simpa[Proofs.YtmpfilddeglgbaaGreatDoor.set7] using this
theorem A6 {w V:World}{b:Nat}(h:Below w.heap.size w V)(hb:w.heap.size<=b)(k':Int)(t':ByteArray)(vk' vn':Int)(vs':ByteArray)(line' col':Int):Below w.heap.size w (set7 V b k' t' vk' vn' vs' line' col'):=
 ((((((h.setCell hb _).setCell hb _).setCell hb _).setCell hb _).setCell hb _).setCell hb _).setCell hb _
theorem Jj (V:World)(b:Nat)(k':Int)(t':ByteArray)(vk' vn':Int)(vs':ByteArray)(line' col':Int):(set7 V b k' t' vk' vn' vs' line' col').heap.size=V.heap.size:=by simp [set7]
theorem G8 (V:World)(o:Obj):Below V.heap.size V (V.alloc o).drew:=((Aq _ V).alloc (Ak _) o).drew
theorem dG (s:ByteArray)(w:World)(hs:s.size<=9223372036854775806):
 Calls Tryz.prog 109 #[.string s] w fun e w'=>e= .returned (.tuple #[.string ⟨(if Dt (dl s) then(dl s).tail.take (A5 Cg (dl s).tail) else[]).toArray⟩,.bool (Dt (dl s))])/\w=w':=by
 by_cases h2:s.size<2
 ·have hm:Dt (dl s)=false:=by
   have hl:=A4 s
   match dl s,hl with
   |[],_=>rfl
   |[_],_=>rfl
   |_::_::_,hl=>simp at hl;omega
  rw[hm];have i2:decide ((s.size:Int)<2)=true:=by simp;omega
  clear hm h2;go_enter Tryz.func109,Tryz.ntmps109
  go_wp2
  refine Au (v:= .tuple #[.string ⟨#[]⟩,.bool false]) wA rfl ?_;exact⟨rfl,rfl⟩
 have i2:decide ((s.size:Int)<2)=false:=by simp;omega
 have i1:(1:Int)<(s.size:Int):=by omega
 have hl:1<s.size:=by omega
 have hm:Dt (dl s)=Dm s[1]:=by
  have h0:=Gw (s:=s) (i:=1) hl
  match dl s,h0 with
  |_::c::_,h0=>injection h0 with h0;rw[←h0];rfl
 have hc:=Ov s[1] w;rw[hm];rw[←hm] at hc;cases hb:Dm s[1] with
 |false=>
  rw[hm,hb] at hc;have Hc:=Ax hc;clear hc hm hb h2;go_enter Tryz.func109,Tryz.ntmps109;go_wp2_with fail;refine Hc.out.mono ?_;rintro e V ⟨rfl,rfl⟩
  go_wp2
  refine Au (v:= .tuple #[.string ⟨#[]⟩,.bool false]) wA rfl ?_;exact⟨rfl,rfl⟩
 |true=>
  rw[hm,hb] at hc;have hw:=J2 s 111 Cg (fun args w=>by kernel_rfl) hs 1 w tE fun c V=>Vh c V
  have hle:=Cm Cg ((dl s).drop 1);rw[List.length_drop,A4] at hle;have ht:(⟨((dl s).tail.take (A5 Cg (dl s).tail)).toArray⟩:ByteArray)=s.extract 1 (1+A5 Cg ((dl s).drop 1)):=Cn (by rw[Dj,Fg,List.drop_one,Nat.add_sub_cancel_left]);simp only[if_true];rw[ht];obtain⟨n,hn⟩:∃n,A5 Cg ((dl s).drop 1)=n:=⟨_,rfl⟩;rw[hn] at hw hle ⊢;have e1:((1:Nat):Int)=1:=rfl;rw[e1] at hw;have j1:(1:Int)+(n:Int)<=(s.size:Int):=by omega
  have Hc:=Ax hc;have Hw:=Ax hw;clear hc hm hb h2 hw ht hn;go_enter Tryz.func109,Tryz.ntmps109;go_wp2_with fail;refine Hc.out.mono ?_;rintro e V ⟨rfl,rfl⟩;go_wp2_with fail;refine Hw.out.mono ?_;rintro e V ⟨rfl,rfl⟩
  go_wp2
  refine Au (v:= .tuple #[.string (s.extract 1 (1+n)),.bool true]) wA rfl ?_;exact⟨rfl,rfl⟩
open Go Go.RowKit Go.Lib Go.Sort Go.Shelf
theorem fH (s:ByteArray):∃n1,A5 Bb (dl s)=n1/\n1<=s.size/\((∃h:n1+1<s.size,s[n1]=46/\Bb s[n1+1]=true/\Br (dl s)=n1+(1+A5 Bb ((dl s).drop (n1+1))))\/
 (Br (dl s)=n1/\(¬n1+1<s.size\/(∃h:n1+1<s.size,s[n1]≠46)\/(∃h:n1+1<s.size,s[n1]=46/\Bb s[n1+1]=false)))):=by
 have hle:=Cm Bb (dl s);rw[A4] at hle;obtain⟨n1,hn⟩:∃n1,A5 Bb (dl s)=n1:=⟨_,rfl⟩;rw[hn] at hle;refine⟨n1,hn,hle,?_⟩;rw[Fz,hn]
 show(∃h:n1+1<s.size,s[n1]=46/\Bb s[n1+1]=true/\Cj n1 ((dl s).drop n1)=n1+(1+A5 Bb ((dl s).drop (n1+1))))\/(Cj n1 ((dl s).drop n1)=n1/\_)
 by_cases h:n1+1<s.size
 ·have l1:n1<(dl s).length:=by rw[A4];omega
  have l2:n1+1<(dl s).length:=by rw[A4];exact h
  have hd:(dl s).drop n1=s[n1]::s[n1+1]::(dl s).drop (n1+2):=by
   rw[List.drop_eq_getElem_cons l1,List.drop_eq_getElem_cons l2];rfl
  have hd1:(dl s).drop (n1+1)=s[n1+1]::(dl s).drop (n1+2):=by
   rw[List.drop_eq_getElem_cons l2];rfl
  rw[hd,hd1];by_cases hc:s[n1]=46
  ·rw[hc];by_cases hg:Bb s[n1+1]=true
   ·refine .inl ⟨h,hc,hg,?_⟩
    show(if Bb s[n1+1]=true then _ else _)=_
    rw[Ap hg]
   refine .inr ⟨?_,.inr (.inr ⟨h,hc,by simpa using hg⟩)⟩
   show(if Bb s[n1+1]=true then _ else _)=_
   rw[Ao hg]
  refine .inr ⟨?_,.inr (.inl ⟨h,hc⟩)⟩;unfold Cj
  split
  ·rename_i e
   injection e with e;exact absurd e hc
  rfl
 refine .inr ⟨?_,.inl h⟩;unfold Cj
 split
 ·rename_i e
  have:=Ar List.length e
  rw[List.length_drop,A4] at this;simp at this;omega
 rfl
theorem aS {s:ByteArray}{h:0<s.size}(hd:Bb s[0]=true):1<=Br (dl s)/\Br (dl s)<=s.size:=by
 have e:dl s=s[0]::(dl s).drop 1:=by
  have l1:0<(dl s).length:=by rw[A4];exact h
  exact zw2
 have:=Lz (c:=s[0]) (r:=(dl s).drop 1) hd
 rw[←e,A4] at this;exact this
theorem Zo (s:ByteArray)(w:World)(h0:0<s.size)(hd0:Bb s[0]=true)(hs:s.size<=65536)(hR:Rd w):
 Calls Tryz.prog 113 #[.string s] w (Rr w (Jk (dl s))):=by
 obtain⟨W0,hW0⟩:∃W0,w.alloc (.cells Dw 63)=W0:=⟨_,rfl⟩;have hb0:Below w.heap.size w W0:=by rw[←hW0];exact(Aq w.heap.size w).alloc (Ak _) _
 have ht0:=Bl.new w;have hz0:W0.heap.size=w.heap.size+1:=by rw[←hW0];simp
 rw[hW0] at ht0;unfold Dw at hW0;obtain⟨hNp,hNl⟩:=aS hd0;obtain⟨n1,hn,hn1,hor⟩:=fH s;have hdig:∀(V:World) (i:Nat) (hi:i<s.size),Calls Tryz.prog 112 #[.int .u8 (s[i].toNat:Int)] V fun e w'=>e= .returned (.bool (Bb s[i]))/\V=w':=fun V i hi=>Lb s[i] V
 have hwh:=J2 s 112 Bb (fun args w=>by kernel_rfl) tE 0 W0 tE fun c V=>Lb c V
 rw[List.drop_zero,show((0:Nat):Int)=0 from rfl] at hwh;have hwh2:=fun(h:A5 Bb (dl s)+1<=s.size)=>J2 s 112 Bb (fun args w=>by kernel_rfl) tE (A5 Bb (dl s)+1) W0 h fun c V=>Lb c V
 have hle2:=Cm Bb ((dl s).drop (A5 Bb (dl s)+1));rw[List.length_drop,A4] at hle2;rw[hn] at hwh hwh2 hle2;obtain⟨N,hN⟩:∃N,Br (dl s)=N:=⟨_,rfl⟩;have hsp:dl (s.extract 0 N)=(dl s).take N:=by rw[Fg,List.drop_zero,Nat.sub_zero]
 have hP:Jk (dl s)=match D2 (dl (s.extract 0 N)) with
  | .ok v=> .ok (⟨4,(dl s).take N,v⟩,N)
  | .error e=> .error (if e=9 then 9 else 4):=by
  unfold Jk;rw[hN,hsp];cases D2 ((dl s).take N)<;>rfl
 have hex:(⟨((dl s).take N).toArray⟩:ByteArray)=s.extract 0 N:=Cn (by rw[Dj,hsp]);rw[hN] at hor hNp hNl;rw[hP];have hsx:(s.extract 0 N).size<=9223372036854775807:=by rw[←A4,hsp,List.length_take,A4];omega
 have hp:=Vo (s.extract 0 N) W0 hsx (hR.below hb0);obtain⟨r,hr⟩:∃r,D2 (dl (s.extract 0 N))=r:=⟨_,rfl⟩;have hpe:∀q,r= .error q->q=3\/q=4\/q=9:=fun q hq=>Pu (hr.trans hq)
 rw[hr] at hp ⊢;have HW0:=Ax hW0;have Hb0:=Ax hb0;have Ht0:=Ax ht0;have Hz0:=Ax hz0;have Hp:=Ax hp;have Hpe:=Ax hpe;have Hex:=Ax hex;have Hdig:=Ax hdig;have Hwh:=Ax hwh;have Hwh2:=Ax hwh2;have Hh0:=Ax h0;clear hW0 hb0 ht0 hz0 hp hpe hex hdig hwh hwh2 hP hsp hr hN hd0 hR hn h0 hsx;have jN:(N:Int)<=(s.size:Int):=by omega
 go_enter Tryz.func113,Tryz.ntmps113;go_upto_region 1 with fail
 rw[HW0.out];clear HW0;go_wp2_with fail;refine Hwh.out.mono ?_;rintro e V ⟨rfl,rfl⟩;clear Hwh;go_upto_region 2 with fail
 obtain⟨bb,hbb⟩:∃bb,bb=decide (∃h:n1+1<s.size,s[n1]=46/\Bb s[n1+1]=true):=⟨_,rfl⟩
 go_cut [25] from 8 to 25 (fun u25 wx=>u25= .bool bb/\wx=W0)
 case first=>
  rcases hor with ⟨hlt,hc,hg,hNe⟩|⟨hNe,hlt|⟨hlt,hc⟩|⟨hlt,hc,hg⟩⟩
  ·have hl1:n1<s.size:=by omega
   have hdg:=Hdig.out W0 (n1+1) hlt;rw[hg] at hdg;have hb1:bb=true:=by rw[hbb];exact Am ⟨hlt,hc,hg⟩
   subst hb1;have i1:(n1:Int)+1<(s.size:Int):=by omega
   have i2:decide ((n1:Int)+1<(s.size:Int))=true:=by simp;omega
   have i3:(n1:Int)<(s.size:Int):=by omega
   have i4:(0:Int)<=(n1:Int):=by omega
   have i5:((s[n1].toNat:Int)==46)=true:=by rw[hc];rfl
   have e2:((n1:Int)+1).toNat=n1+1:=by omega
   have Hdg:=Ax hdg;clear hdg hc hg Hdig Hwh2 hNe hbb hle2;go_wp2_with fail;refine Hdg.out.mono ?_;rintro e V ⟨rfl,rfl⟩;exact zy2
  ·have i2:decide ((n1:Int)+1<(s.size:Int))=false:=by simp;omega
   have hb1:bb=false:=by rw[hbb];exact An fun h=>hlt h.1
   subst hb1;clear hlt Hdig Hwh2 hle2 hNe hbb;exact zy2
  ·have i2:decide ((n1:Int)+1<(s.size:Int))=true:=by simp;omega
   have hl1:n1<s.size:=by omega
   have i3:(n1:Int)<(s.size:Int):=by omega
   have i5:((s[n1].toNat:Int)==46)=false:=by
    have:s[n1].toNat≠46:=fun e=>hc (UInt8.toNat_inj.1 e)
    simp;omega
   have hb1:bb=false:=by rw[hbb];exact An fun h=>hc h.2.1
   subst hb1;have i4:(0:Int)<=(n1:Int):=by omega
   clear hc Hdig Hwh2 hle2 hNe hbb;exact zy2
  have i2:decide ((n1:Int)+1<(s.size:Int))=true:=by simp;omega
  have hl1:n1<s.size:=by omega
  have i1:(n1:Int)+1<(s.size:Int):=by omega
  have i3:(n1:Int)<(s.size:Int):=by omega
  have i5:((s[n1].toNat:Int)==46)=true:=by rw[hc];rfl
  have hb1:bb=false:=by rw[hbb];exact An fun⟨_,_,h3⟩=>absurd (hg.symm.trans h3) tH
  subst hb1;have hdg:=Hdig.out W0 (n1+1) hlt;rw[hg] at hdg;have e2:((n1:Int)+1).toNat=n1+1:=by omega
  have i4:(0:Int)<=(n1:Int):=by omega
  have Hdg:=Ax hdg;clear hc hg hdg Hdig Hwh2 hle2 hNe hbb;go_wp2_with fail;refine Hdg.out.mono ?_;rintro e V ⟨rfl,rfl⟩;exact zy2
 case rest=>
 obtain⟨rfl,rfl⟩:=hcut
 go_upto_if 25 with fail
 go_cut [3] from 26 to 32 (fun u3 wx=>u3= .int .i64 N/\wx=wc)
 case first=>
  cases bb with
  |true=>
   obtain⟨hlt,hc,hg⟩:=of_decide_eq_true hbb.symm
   have hNe:N=n1+(1+A5 Bb ((dl s).drop (n1+1))):=by
    rcases hor with ⟨_,_,_,hNe⟩|⟨_,h|⟨_,h⟩|⟨_,_,h⟩⟩
    ·exact hNe
    ·exact absurd hlt h
    ·exact absurd hc h
    rw[hg] at h;cases h
   obtain⟨k,hk⟩:∃k,A5 Bb ((dl s).drop (n1+1))=k:=⟨_,rfl⟩;have hw2:=Hwh2.out tE;rw[hk] at hw2 hle2 hNe;have e1:((n1+1:Nat):Int)=(n1:Int)+1:=by omega
   have e3:(n1:Int)+(1+(k:Int))=(N:Int):=by omega
   rw[e1] at hw2;have Hw2:=Ax hw2;have He3:=Ax e3;clear hw2 hc hg hk e1 e3 Hdig Hwh2 hor hbb;go_wp2_with fail;refine Hw2.out.mono ?_;rintro e V ⟨rfl,rfl⟩
   go_wp2
   go_meet
   case rel=>exact⟨by rw[←He3.out],rfl⟩
  |false=>
   have hNe:N=n1:=by
    rcases hor with ⟨h1,h2,h3,_⟩|⟨h,_⟩
    ·exact absurd ⟨h1,h2,h3⟩ (of_decide_eq_false hbb.symm)
    exact h
   have HNe:=Ax hNe;clear hNe hor hbb Hdig Hwh2 hle2
   go_wp2
   go_meet
   case rel=>exact⟨by rw[HNe.out],rfl⟩
 case rest=>
  obtain⟨rfl,rfl⟩:=hcut;clear hor Hdig Hwh2 hle2 hn1 hbb;go_wp2_with fail;refine Hp.out.mono ?_;rintro e V ⟨hb,he⟩;obtain⟨c0,c1,c2,c3,c4,c5,c6,fz⟩:=Ht0.out.below hb;have HB:=Ax (Hb0.out.trans (hb.mono vL));have hz:w.heap.size<V.heap.size:=by have:=hb.size;have:=Hz0.out;omega
  cases r with
  |ok v=>
   obtain⟨vk,vn,vs⟩:=v;simp only at he;subst he;have hT:=(Bl.set7 ⟨c0,c1,c2,c3,c4,c5,c6,fz⟩ 4 (s.extract 0 N) vk vn ⟨vs.toArray⟩ 0 0).below (G8 _ (.cells #[.int .u8 vk,.int .i64 vn,.string ⟨vs.toArray⟩] 35));have hB2:=(A6 HB.out (Ak _) 4 (s.extract 0 N) vk vn ⟨vs.toArray⟩ 0 0).trans ((G8 _ (.cells #[.int .u8 vk,.int .i64 vn,.string ⟨vs.toArray⟩] 35)).mono wG);obtain⟨Z,hZ⟩:∃Z,((set7 V w.heap.size 4 (s.extract 0 N) vk vn ⟨vs.toArray⟩ 0 0).alloc (.cells #[.int .u8 vk,.int .i64 vn,.string ⟨vs.toArray⟩] 35)).drew=Z:=⟨_,rfl⟩;rw[hZ] at hT hB2;unfold set7 at hZ;have HT:=Ax hT;have HB2:=Ax hB2;have HZ:=Ax hZ;clear Hp Hpe Ht0 Hb0 Hz0 hb hT hB2 hZ HB;go_wp2_with fail;go_region
   all_goals
    rw[HZ.out];obtain⟨d0,d1,d2,d3,d4,d5,d6,_⟩:=HT.out;clear c0 c1 c2 c3 c4 c5 c6 fz
    go_wp2
    refine Au (v:= .tuple #[.agg #[.int .u8 4,.string (s.extract 0 N),.int .u8 vk,.int .i64 vn,.string ⟨vs.toArray⟩,.int .i64 0,.int .i64 0],.int .i64 N,.int .i64 0]) uV rfl ?_;exact⟨HB2.out,by rw[←Hex.out];rfl⟩
  |error q=>
   simp only at he;subst he;have hq:=Hpe.out q rfl;have hT:=(Bl.set7 ⟨c0,c1,c2,c3,c4,c5,c6,fz⟩ 4 (s.extract 0 N) 0 0 ⟨#[]⟩ 0 0).below (G8 _ (.cells #[.int .u8 0,.int .i64 0,.string ⟨#[]⟩] 35));have hB2:=(A6 HB.out (Ak _) 4 (s.extract 0 N) 0 0 ⟨#[]⟩ 0 0).trans ((G8 _ (.cells #[.int .u8 0,.int .i64 0,.string ⟨#[]⟩] 35)).mono wG);obtain⟨Z,hZ⟩:∃Z,((set7 V w.heap.size 4 (s.extract 0 N) 0 0 ⟨#[]⟩ 0 0).alloc (.cells #[.int .u8 0,.int .i64 0,.string ⟨#[]⟩] 35)).drew=Z:=⟨_,rfl⟩;rw[hZ] at hT hB2;unfold set7 at hZ;have HT:=Ax hT;have HB2:=Ax hB2;have HZ:=Ax hZ;clear Hp Hpe Ht0 Hb0 Hz0 hb hT hB2 hZ HB;rcases hq with rfl|rfl|rfl
   ·exact zyk
   ·exact zyk
   go_wp2_with fail;go_region
   all_goals
    rw[HZ.out];obtain⟨d0,d1,d2,d3,d4,d5,d6,_⟩:=HT.out;clear c0 c1 c2 c3 c4 c5 c6 fz
    go_wp2
    refine Au (v:= .tuple #[.agg #[.int .u8 4,.string (s.extract 0 N),.int .u8 0,.int .i64 0,.string ⟨#[]⟩,.int .i64 0,.int .i64 0],.int .i64 N,.int .i64 9]) uV rfl ?_;exact⟨HB2.out,⟨4,(dl s).take N,(0,0,[])⟩,_,by rw[←Hex.out];rfl⟩
open Go Go.RowKit Go.Lib Go.Sort Go.Shelf
def stB:Bool->List UInt8->Nat->Bool
 |b,_,0=>b
 |b,[],_+1=>b
 |b,c::r,i+1=>stB (c==92 && !b) r i
theorem nU (b:Bool)(l:List UInt8):stB b l 0=b:=by cases l<;>rfl
theorem aF:∀(b:Bool) (l:List UInt8) (i:Nat) (c:UInt8),l[i]? =some c->stB b l (i+1)=(c==92 && !stB b l i)
 |b,[],i,c,h=>by simp at h
 |b,d::r,0,c,h=>by
  injection h with h;subst h;cases r<;>rfl
 |b,d::r,i+1,c,h=>by
  rw[List.getElem?_cons_succ] at h;exact aF _ r i c h
def N7 (b:Bool)(c:UInt8):Bool:=!((c==34 && !b)||!G7 c)
def Ux (b:Bool)(l:List UInt8)(i:Nat):Bool:=match l[i]? with
 |some c=>N7 (stB b l i) c
 |none=>false
theorem Zl:∀(b:Bool) (l:List UInt8) (i:Nat),i<A7 b l->Ux b l i=true
 |b,[],i,h=>by simp [A7] at h
 |b,c::r,i,h=>by
  rw[B6] at h;by_cases hc:((c==34 && !b)||!G7 c)=true
  ·rw[Ap hc] at h;omega
  rw[Ao hc] at h;cases i with
  |zero=>
   show(!((c==34 && !b)||!G7 c))=true
   rw[Bool.eq_false_iff.2 hc];rfl
  |succ i=>exact Zl (c==92 && !b) r i tE
theorem Vj:∀(b:Bool) (l:List UInt8),A7 b l<l.length->Ux b l (A7 b l)=false
 |b,[],h=>by simp [A7] at h
 |b,c::r,h=>by
  rw[B6] at h ⊢;by_cases hc:((c==34 && !b)||!G7 c)=true
  ·rw[Ap hc]
   show(!((c==34 && !b)||!G7 c))=false
   rw[hc];rfl
  rw[Ao hc] at h ⊢;rw[Nat.add_comm];exact Vj (c==92 && !b) r (by rw[Aa] at h;omega)
theorem iF (c:UInt8)(b:Bool)(B:Nat)(w:World)(h:w.heap[B]? =some (.cells #[.bool b] 4 (0,0))):
 Calls Tryz.prog 156 #[.int .u8 (c.toNat:Int),.pointer (some ⟨B,0,none⟩)] w fun e w'=>e= .returned (.bool (N7 b c))/\w'=w.setCell ⟨B,0,none⟩ (.bool (c==92 && !b)):=by
 have c0:w.cell? ⟨B,0,none⟩=some (.bool b):=by simp [World.cell?,h]
 have f0:w.frozen? ⟨B,0,none⟩=false:=by simp [World.frozen?,h]
 have hor:c=34\/c=92\/(c≠34/\c≠92/\c.toNat<32)\/(c≠34/\c≠92/\126<c.toNat)\/(c≠34/\c≠92/\32<=c.toNat/\c.toNat<=126):=by
  by_cases h1:c=34
  ·exact .inl h1
  by_cases h2:c=92
  ·exact .inr (.inl h2)
  by_cases h3:c.toNat<32
  ·exact .inr (.inr (.inl ⟨h1,h2,h3⟩))
  by_cases h4:126<c.toNat
  ·exact .inr (.inr (.inr (.inl ⟨h1,h2,h4⟩)))
  exact .inr (.inr (.inr (.inr ⟨h1,h2,by omega,by omega⟩)))
 have hne:∀d:UInt8,c≠d->((c.toNat:Int)==(d.toNat:Int))=false:=fun d hd=>by
  have:c.toNat≠d.toNat:=fun e=>hd (UInt8.toNat_inj.1 e)
  simp;omega
 clear h;rcases hor with rfl|rfl|⟨h1,h2,h3⟩|⟨h1,h2,h3⟩|⟨h1,h2,h3,h4⟩
 ·clear hne;have e:N7 b 34=b:=by cases b<;>rfl
  rw[e];clear e;cases b
  all_goals
   go_enter Tryz.func156,Tryz.ntmps156
   go_wp2
   exact zyr
 ·clear hne;have e:N7 b 92=true:=by cases b<;>rfl
  rw[e];clear e;cases b
  all_goals
   go_enter Tryz.func156,Tryz.ntmps156
   go_wp2
   exact zyr
 ·have n1:((c.toNat:Int)==34)=false:=hne 34 h1;have n2:((c.toNat:Int)==92)=false:=hne 92 h2;have i1:decide ((c.toNat:Int)<32)=true:=by simp;omega
  have e:N7 b c=false:=by
   have:G7 c=false:=by unfold G7;simp;omega
   simp [N7,this]
  have e2:(c==92 && !b)=false:=by simp [h2]
  rw[e,e2];clear e e2 hne h1 h2 h3;go_enter Tryz.func156,Tryz.ntmps156
  go_wp2
  exact zyr
 ·have n1:((c.toNat:Int)==34)=false:=hne 34 h1;have n2:((c.toNat:Int)==92)=false:=hne 92 h2;have i1:decide ((c.toNat:Int)<32)=false:=by simp;omega
  have i2:decide ((126:Int)<(c.toNat:Int))=true:=by simp;omega
  have e:N7 b c=false:=by
   have:G7 c=false:=by unfold G7;simp;omega
   simp [N7,this]
  have e2:(c==92 && !b)=false:=by simp [h2]
  rw[e,e2];clear e e2 hne h1 h2 h3;go_enter Tryz.func156,Tryz.ntmps156
  go_wp2
  exact zyr
 have n1:((c.toNat:Int)==34)=false:=hne 34 h1;have n2:((c.toNat:Int)==92)=false:=hne 92 h2;have i1:decide ((c.toNat:Int)<32)=false:=by simp;omega
 have i2:decide ((126:Int)<(c.toNat:Int))=false:=by simp;omega
 have e:N7 b c=true:=by
  have:G7 c=true:=by unfold G7;simp;omega
  simp [N7,this,h1]
 have e2:(c==92 && !b)=false:=by simp [h2]
 rw[e,e2];clear e e2 hne h1 h2 h3 h4;go_enter Tryz.func156,Tryz.ntmps156
 go_wp2
 exact zyr
structure sL (w0 V:World)(B:Nat)(l:List UInt8)(k:Nat):Prop where
 below:Below B w0 V
 box:V.heap[B]? =some (.cells #[.bool (stB false l (k - 1))] 4 (0,0))
theorem iY (s:ByteArray)(w:World)(h0:0<s.size)(hs:s.size<=65536)(hR:Rd w):
 Calls Tryz.prog 114 #[.string s] w (Rr w (Pr (dl s))):=by
 obtain⟨W0,hW0⟩:∃W0,w.alloc (.cells Dw 63)=W0:=⟨_,rfl⟩;have hb0:Below w.heap.size w W0:=by rw[←hW0];exact(Aq w.heap.size w).alloc (Ak _) _
 have ht0:=Bl.new w;have hz0:W0.heap.size=w.heap.size+1:=by rw[←hW0];simp
 rw[hW0] at ht0;unfold Dw at hW0;obtain⟨W1,hW1⟩:∃W1,W0.alloc (.cells #[.bool false] 4)=W1:=⟨_,rfl⟩;have hb1:Below (w.heap.size+1) W0 W1:=by rw[←hW1,←hz0];exact(Aq W0.heap.size W0).alloc (Ak _) _
 have hx1:sL W0 W1 (w.heap.size+1) (dl s).tail 1:=⟨hb1,by rw[Nat.sub_self,nU,←hW1,←hz0];exact(MapKept.heap_alloc W0 _).1⟩;have hl:=A4 s
 have hcons:∃c q,dl s=c::q:=by
  cases hd:dl s with
  |nil=>rw[hd] at hl;simp at hl;omega
  |cons c q=>exact⟨c,q,rfl⟩
 obtain⟨c,q,hd⟩:=hcons;have hql:q.length+1=s.size:=by rw[←hl,hd];rfl
 have hget:∀i,1<=i->∀(h:i<s.size),q[i - 1]? =some s[i]:=fun i hi h=>by
  have:=Gw h
  rw[hd] at this;obtain⟨j,rfl⟩:∃j,i=j+1:=⟨i - 1,by omega⟩;simpa using this
 have hle:=Lq false q;obtain⟨N,hN⟩:∃N,A7 false q=N:=⟨_,rfl⟩;have hgo:=Zl false q;have hst:=Vj false q;rw[hN] at hgo hst hle
 have hwh:=Vg s 156 #[.pointer (some ⟨w.heap.size+1,0,none⟩)] (fun i=>Ux false q (i - 1)) (fun k V=>sL W0 V (w.heap.size+1) q k) (fun args w=>by kernel_rfl) tE 1 (1+N) W1 tE tE
  (fun i h1 h2=>hgo (i - 1) tE) (fun h=>by
   show Ux false q (1+N - 1)=false;rw[Nat.add_sub_cancel_left]
   exact hst tE) (by rw[hd] at hx1;exact hx1) (fun i V h h1 hI=>by
   have hg:=hget i h1 h;refine(iF s[i] _ (w.heap.size+1) V hI.box).mono ?_;rintro e V' ⟨rfl,rfl⟩;refine⟨?_,(hI.below.setCell tH _),?_⟩
   ·show _=Ending.returned (.bool (Ux false q (i - 1)));unfold Ux;rw[hg]
   rw[A2 hI.box,show i+1 - 1=(i - 1)+1 by omega,aF _ _ _ _ hg]
   rfl)
 have e1:((1:Nat):Int)=1:=rfl;have e2:(((1+N:Nat):Int) - 1)=(N:Int):=by omega
 rw[e1,e2] at hwh;have HW0:=Ax hW0;have HW1:=Ax hW1;have Hb0:=Ax hb0;have Ht0:=Ax ht0;have Hz0:=Ax hz0;have Hwh:=Ax hwh;rw[hd,Gk,hN];clear hW0 hb0 ht0 hz0 hwh e1 e2 hgo hst hget hW1 hb1 hx1 hl;have hsp:dl (s.extract 0 (N+2))=(c::q).take (N+2):=by rw[Fg,List.drop_zero,Nat.sub_zero,hd]
 have hex:(⟨(q.take N).toArray⟩:ByteArray)=s.extract 1 (1+N):=Cn (by rw[Dj,Fg,hd,List.drop_one,List.tail_cons,Nat.add_sub_cancel_left]);have hhd:((c::q).drop (1+N)).head? =(dl s)[1+N]?:=by rw[List.head?_drop,hd]
 by_cases hq:∃h:1+N<s.size,s[1+N]=34
 ·obtain⟨hlt,hc⟩:=hq;rw[hhd,Gw hlt,hc,Ap rfl,←hsp];have hp:=fun V (hV:Below w.heap.size w V)=>Vo (s.extract 0 (N+2)) V (by rw[←A4,hsp,List.length_take,Aa];omega) (hR.below hV)
  obtain⟨r,hr⟩:∃r,D2 (dl (s.extract 0 (N+2)))=r:=⟨_,rfl⟩;have hpe:∀q,r= .error q->q=3\/q=4\/q=9:=fun q hq=>Pu (hr.trans hq)
  rw[hr];simp only[hr] at hp;have i1:decide ((s.size:Int)<=1+(N:Int))=false:=by simp;omega
  have i2:1+(N:Int)<(s.size:Int):=by omega
  have i3:(N:Int)+2<=(s.size:Int):=by omega
  have i4:((s[1+N].toNat:Int) !=34)=false:=by rw[hc];rfl
  have i5:(0:Int)<=(N:Int):=by omega
  have Hp:=Ax hp;have Hpe:=Ax hpe;have Hex:=Ax hex;clear hp hpe hex hsp hhd hc hR hr hd hN;go_enter Tryz.func114,Tryz.ntmps114;go_upto_region 1 with fail
  rw[HW0.out];clear HW0;go_upto_region 2 with fail
  rw[HW1.out,Hz0.out];go_wp2_with fail;refine Hwh.out.mono ?_;rintro e V ⟨rfl,k,hV⟩;have hVb:Below w.heap.size w V:=Hb0.out.trans (hV.below.mono tE);obtain⟨c0,c1,c2,c3,c4,c5,c6,fz⟩:=Ht0.out.below (hV.below.mono vL);have hVz:w.heap.size+1<V.heap.size:=Ay hV.box;have HB:=Ax hVb;clear hV hVb Hwh Hb0 Ht0 Hz0 HW1;have Hp2:=Ax (Hp.out V HB.out);clear Hp;go_wp2_with fail;refine Hp2.out.mono ?_;rintro e X ⟨hb,he⟩;obtain⟨c0,c1,c2,c3,c4,c5,c6,fz⟩:=(show Bl V w.heap.size 0 ⟨#[]⟩ 0 0 ⟨#[]⟩ 0 0 from⟨c0,c1,c2,c3,c4,c5,c6,fz⟩).below hb;have HB2:=Ax (HB.out.trans (hb.mono HB.out.size));have hz:w.heap.size<X.heap.size:=by have:=hb.size;omega
  cases r with
  |ok v=>
   obtain⟨vk,vn,vs⟩:=v;simp only at he;subst he;clear Hp2 Hpe hb HB;have hT:=(Bl.set7 (w:=X) ⟨c0,c1,c2,c3,c4,c5,c6,fz⟩ 5 (s.extract 1 (1+N)) vk vn ⟨vs.toArray⟩ 0 0).below (G8 _ (.cells #[.int .u8 vk,.int .i64 vn,.string ⟨vs.toArray⟩] 35));have hB2:=(A6 HB2.out (Ak _) 5 (s.extract 1 (1+N)) vk vn ⟨vs.toArray⟩ 0 0).trans ((G8 _ (.cells #[.int .u8 vk,.int .i64 vn,.string ⟨vs.toArray⟩] 35)).mono wG);obtain⟨Z,hZ⟩:∃Z,((set7 X w.heap.size 5 (s.extract 1 (1+N)) vk vn ⟨vs.toArray⟩ 0 0).alloc (.cells #[.int .u8 vk,.int .i64 vn,.string ⟨vs.toArray⟩] 35)).drew=Z:=⟨_,rfl⟩;rw[hZ] at hT hB2;unfold set7 at hZ;have HT:=Ax hT;have HB3:=Ax hB2;have HZ:=Ax hZ;clear hT hB2 hZ HB2;go_wp2_with fail;go_region
   all_goals
    rw[HZ.out];obtain⟨d0,d1,d2,d3,d4,d5,d6,_⟩:=HT.out;clear c0 c1 c2 c3 c4 c5 c6 fz
    go_wp2
    refine Au (v:= .tuple #[.agg #[.int .u8 5,.string (s.extract 1 (1+N)),.int .u8 vk,.int .i64 vn,.string ⟨vs.toArray⟩,.int .i64 0,.int .i64 0],.int .i64 ((N:Int)+2),.int .i64 0]) uG rfl ?_;exact⟨HB3.out,by rw[←Hex.out];rfl⟩
  |error q=>
   simp only at he;subst he;have hq:=Hpe.out q rfl;clear Hp2 Hpe hb HB;rcases hq with rfl|rfl|rfl
   ·exact zzs
   ·exact zzs
   exact zzs
 rw[hhd]
 have hno:¬(dl s)[1+N]? =some 34:=fun h=>hq (by
  have h1:=(List.getElem?_eq_some_iff.1 h).1;rw[A4] at h1;rw[Gw h1] at h;injection h with h
  exact⟨h1,h⟩)
 rw[Ao hno];clear hno hhd hex hsp hR;by_cases hlt:1+N<s.size
 ·have hc:s[1+N]≠34:=fun e=>hq ⟨hlt,e⟩
  have i1:decide ((s.size:Int)<=1+(N:Int))=false:=by simp;omega
  have i2:1+(N:Int)<(s.size:Int):=by omega
  have i4:((s[1+N].toNat:Int) !=34)=true:=by
   have:s[1+N].toNat≠34:=fun e=>hc (UInt8.toNat_inj.1 e)
   simp;omega
  have i5:(0:Int)<=(N:Int):=by omega
  clear hq hc hd hN;go_enter Tryz.func114,Tryz.ntmps114;go_upto_region 1 with fail
  rw[HW0.out];clear HW0;go_upto_region 2 with fail
  rw[HW1.out,Hz0.out];go_wp2_with fail;refine Hwh.out.mono ?_;rintro e V ⟨rfl,k,hV⟩;have hVb:Below w.heap.size w V:=Hb0.out.trans (hV.below.mono tE);obtain⟨c0,c1,c2,c3,c4,c5,c6,fz⟩:=Ht0.out.below (hV.below.mono vL);have hVz:w.heap.size+1<V.heap.size:=Ay hV.box;have HB:=Ax hVb;clear hV hVb Hwh Hb0 Ht0 Hz0 HW1;have hT:=Bl.set7 (w:=V) ⟨c0,c1,c2,c3,c4,c5,c6,fz⟩ 0 ⟨#[]⟩ 0 0 ⟨#[]⟩ 0 0;have hB2:=A6 HB.out (Ak _) 0 ⟨#[]⟩ 0 0 ⟨#[]⟩ 0 0;obtain⟨Z,hZ⟩:∃Z,set7 V w.heap.size 0 ⟨#[]⟩ 0 0 ⟨#[]⟩ 0 0=Z:=⟨_,rfl⟩;rw[hZ] at hT hB2;unfold set7 at hZ;have HT:=Ax hT;have HB3:=Ax hB2;have HZ:=Ax hZ;clear hT hB2 hZ HB;exact zzl
 have i1:decide ((s.size:Int)<=1+(N:Int))=true:=by simp;omega
 clear hq hd hN hlt;go_enter Tryz.func114,Tryz.ntmps114;go_upto_region 1 with fail
 rw[HW0.out];clear HW0;go_upto_region 2 with fail
 rw[HW1.out,Hz0.out];go_wp2_with fail;refine Hwh.out.mono ?_;rintro e V ⟨rfl,k,hV⟩;have hVb:Below w.heap.size w V:=Hb0.out.trans (hV.below.mono tE);obtain⟨c0,c1,c2,c3,c4,c5,c6,fz⟩:=Ht0.out.below (hV.below.mono vL);have hVz:w.heap.size+1<V.heap.size:=Ay hV.box;have HB:=Ax hVb;clear hV hVb Hwh Hb0 Ht0 Hz0 HW1;have hT:=Bl.set7 (w:=V) ⟨c0,c1,c2,c3,c4,c5,c6,fz⟩ 0 ⟨#[]⟩ 0 0 ⟨#[]⟩ 0 0;have hB2:=A6 HB.out (Ak _) 0 ⟨#[]⟩ 0 0 ⟨#[]⟩ 0 0;obtain⟨Z,hZ⟩:∃Z,set7 V w.heap.size 0 ⟨#[]⟩ 0 0 ⟨#[]⟩ 0 0=Z:=⟨_,rfl⟩;rw[hZ] at hT hB2;unfold set7 at hZ;have HT:=Ax hT;have HB3:=Ax hB2;have HZ:=Ax hZ;clear hT hB2 hZ HB;exact zzl
open Go Go.RowKit Go.Lib Go.Sort Go.Shelf
def tw (i:Nat):ByteArray:=match i with
 |0=>⟨#[60,61]⟩|1=>⟨#[62,61]⟩|2=>⟨#[60,62]⟩|_=>⟨#[46,46]⟩
theorem oF (i:Nat):dl (tw i)∈Ez:=by
 match i with
 |0=>exact .head _
 |1=>exact .tail _ (.head _)
 |2=>exact .tail _ (.tail _ (.head _))
 |n+3=>exact .tail _ (.tail _ (.tail _ (.head _)))
theorem kB (i:Nat):(dl (tw i)).length=2:=(show ∀x∈Ez,x.length=2 by decide) _ (oF i)
theorem Z8 {l p:List UInt8}(hp:p.length=2):hasPrefix l p=decide (l.take 2=p):=by
 unfold hasPrefix;rw[Bool.eq_iff_iff,List.isPrefixOf_iff_prefix,List.prefix_iff_eq_take,hp,decide_eq_true_iff];exact eq_comm
theorem jD {l:List UInt8}(h:∀j,j<4->hasPrefix l (dl (tw j))=false):¬l.take 2∈Ez:=by
 have hq:∀j,j<4->l.take 2≠dl (tw j):=fun j hj=>by
  have:=h j hj
  rw[Z8 (kB j)] at this;exact of_decide_eq_false this
 intro hm;simp only[Ez,List.mem_cons,List.not_mem_nil,or_false] at hm;rcases hm with e|e|e|e
 ·exact hq 0 tG e
 ·exact hq 1 tG e
 ·exact hq 2 tG e
 exact hq 3 tG e
theorem dN:∀(l:List UInt8) (c:UInt8),indexByte l c<0↔c∉l
 |[],c=>by simp [indexByte]
 |b::l,c=>by
  have ih:=dN l c;have hge:=indexByte_ge l c;unfold indexByte;by_cases h:b=c
  ·subst h;simp
  have h1:(b==c)=false:=by simpa using h
  rw[h1];simp only[Bool.false_eq_true,if_false,List.mem_cons,not_or];by_cases h2:indexByte l c= -1
  ·rw[h2] at ih ⊢;simp only[beq_self_eq_true,if_true];constructor
   ·intro _;exact⟨fun e=>h e.symm,ih.1 tG⟩
   intro _;decide
  have h3:(indexByte l c== -1)=false:=by simpa using h2
  rw[h3];simp only[Bool.false_eq_true,if_false];constructor
  ·intro h4;omega
  intro h4
  have:=ih.2 h4.2
  omega
theorem tx0 (w:World):(Instr.index 233 (.agg #[.string ⟨#[60,61]⟩,.string ⟨#[62,61]⟩,.string ⟨#[60,62]⟩,.string ⟨#[46,46]⟩]) (.int .i64 0)).run Tryz.prog w= .ok (.string ⟨#[60,61]⟩) w:=by kernel_rfl
theorem tx1 (w:World):(Instr.index 233 (.agg #[.string ⟨#[60,61]⟩,.string ⟨#[62,61]⟩,.string ⟨#[60,62]⟩,.string ⟨#[46,46]⟩]) (.int .i64 1)).run Tryz.prog w= .ok (.string ⟨#[62,61]⟩) w:=by kernel_rfl
theorem tx2 (w:World):(Instr.index 233 (.agg #[.string ⟨#[60,61]⟩,.string ⟨#[62,61]⟩,.string ⟨#[60,62]⟩,.string ⟨#[46,46]⟩]) (.int .i64 2)).run Tryz.prog w= .ok (.string ⟨#[60,62]⟩) w:=by kernel_rfl
theorem tx3 (w:World):(Instr.index 233 (.agg #[.string ⟨#[60,61]⟩,.string ⟨#[62,61]⟩,.string ⟨#[60,62]⟩,.string ⟨#[46,46]⟩]) (.int .i64 3)).run Tryz.prog w= .ok (.string ⟨#[46,46]⟩) w:=by kernel_rfl
theorem gZ (s:ByteArray)(w:World)(h0:0<s.size)(hs:s.size<=65536):
 Calls Tryz.prog 115 #[.string s] w (Rr w (Es (dl s))):=by
 obtain⟨W0,hW0⟩:∃W0,w.alloc (.cells Dw 63)=W0:=⟨_,rfl⟩;have hb0:Below w.heap.size w W0:=by rw[←hW0];exact(Aq w.heap.size w).alloc (Ak _) _
 have ht0:=Bl.new w;rw[hW0] at ht0;unfold Dw at hW0
 have ix:∀(i:Nat) (w:World),i<4->(Instr.index 233 (.agg #[.string ⟨#[60,61]⟩,.string ⟨#[62,61]⟩,.string ⟨#[60,62]⟩,.string ⟨#[46,46]⟩]) (.int .i64 (i:Nat))).run Tryz.prog w= .ok (.string (tw i)) w:=fun i w hi=>by
  match i,hi with
  |0,_=>exact tx0 w
  |1,_=>exact tx1 w
  |2,_=>exact tx2 w
  |3,_=>exact tx3 w
 have hdc:dl s=s[0]::(dl s).drop 1:=by
  have l1:0<(dl s).length:=by rw[A4];exact h0
  exact zw2
 have hib:=Tryz.strings_IndexByte ⟨#[40,41,91,93,44,58,61,60,62,43,45,42,47]⟩ (s[0].toNat:Int) W0
 have hu:((s[0].toNat:Int).toNat.toUInt8)=s[0]:=by
  rw[Int.toNat_natCast];exact UInt8.ofNat_toNat
 rw[hu] at hib;have hneg:=dN Ng s[0]
 have hone:∀b:Bool,decide (s[0]∉Ng)=b->((dl s).take 1∈(Ng.map fun c=>[c])↔b=false):=fun b hb=>by
  rw[hdc,List.take_succ_cons,List.take_zero,List.mem_map];cases b with
  |true=>
   have:=of_decide_eq_true hb
   simp only[List.cons.injEq,and_true,exists_eq_right,Bool.true_eq_false,iff_false];exact this
  |false=>
   have:=of_decide_eq_false hb
   simp only[List.cons.injEq,and_true,exists_eq_right,iff_true];simpa using this
 obtain⟨x,hx⟩:∃x,indexByte Ng s[0]=x:=⟨_,rfl⟩;have hib2:Calls Tryz.prog 158 #[.string ⟨#[40,41,91,93,44,58,61,60,62,43,45,42,47]⟩,.int .u8 (s[0].toNat:Int)] W0 fun e w'=>e= .returned (.int .i64 x)/\w'=W0:=by rw[←hx];exact hib
 rw[hx] at hneg;have he1:(⟨((dl s).take 1).toArray⟩:ByteArray)=s.extract 0 1:=Cn (by rw[Dj,Fg,List.drop_zero]);have HW0:=Ax hW0;have Hb0:=Ax hb0;have Ht0:=Ax ht0;have Hix:=Ax ix;have Hib:=Ax hib2;have Hone:=Ax hone;have Hneg:=Ax hneg;have He1:=Ax he1;have i0:(0:Int)<(s.size:Int):=by omega
 have i1:(1:Int)<=(s.size:Int):=by omega
 clear hW0 hb0 ht0 ix hib hib2 hone hneg hx hdc he1 hu;go_enter Tryz.func115,Tryz.ntmps115;go_upto_region 1 with fail
 rw[HW0.out];clear HW0
 go_wp2
 go_loopw [8] (fun v8 wr=>∃i:Nat,i<=4/\v8= .int .i64 i/\Hid ((∀j,j<i->hasPrefix (dl s) (dl (tw j))=false)/\W0=wr)) (fun v8 _=>4 - (intOf v8).toNat)
 case atStart=>exact⟨0,by omega,rfl,fun j h=>by omega,rfl⟩
 obtain⟨i,hi,rfl,hq⟩:=hrel;obtain⟨hno,rfl⟩:=hq.out;by_cases hlt:i<4
 ·have i2:(i:Int)<4:=by omega
  have hix:=Hix.out i W0 hlt;have hpc:=Tryz.strings_HasPrefix s (tw i) W0;have htk:=Z8 (l:=dl s) (kB i);obtain⟨b,hb⟩:∃b,hasPrefix (dl s) (dl (tw i))=b:=⟨_,rfl⟩;have hb':hasPrefix s.data.toList (tw i).data.toList=b:=hb;rw[hb'] at hpc;rw[hb] at htk;have hmem:=oF i;cases b with
  |true=>
   have hsig:Es (dl s)= .ok (⟨7,dl (tw i),v0⟩,2):=by
    have e:(dl s).take 2=dl (tw i):=of_decide_eq_true htk.symm;unfold Es;rw[e,Ap hmem]
   obtain⟨z,hz⟩:∃z,tw i=z:=⟨_,rfl⟩;rw[hz] at hix hpc hsig;have Hpc:=Ax hpc;have Hsig:=Ax hsig;clear hpc hsig hb hb' htk hmem hno hq hz Hib Hone Hneg He1;go_wp2_with fail;refine Hpc.out.mono ?_;rintro e V ⟨rfl,rfl⟩;obtain⟨c0,c1,c2,c3,c4,c5,c6,fz⟩:=Ht0.out;have hT:=Bl.set7 (w:=V) (b:=w.heap.size) ⟨c0,c1,c2,c3,c4,c5,c6,fz⟩ 7 z 0 0 ⟨#[]⟩ 0 0;have hB2:=A6 Hb0.out (Ak _) 7 z 0 0 ⟨#[]⟩ 0 0;obtain⟨Z,hZ⟩:∃Z,set7 V w.heap.size 7 z 0 0 ⟨#[]⟩ 0 0=Z:=⟨_,rfl⟩;rw[hZ] at hT hB2;unfold set7 at hZ;have HT:=Ax hT;have HB3:=Ax hB2;have HZ:=Ax hZ;clear hT hB2 hZ;go_wp2_with fail;rw[HZ.out];obtain⟨d0,d1,d2,d3,d4,d5,d6,_⟩:=HT.out;clear c0 c1 c2 c3 c4 c5 c6 fz;refine Au (v:= .tuple #[.agg #[.int .u8 7,.string z,.int .u8 0,.int .i64 0,.string ⟨#[]⟩,.int .i64 0,.int .i64 0],.int .i64 2,.int .i64 0]) vV rfl ?_;rw[Hsig.out];exact⟨HB3.out,by rw[←Lj z];rfl⟩
  |false=>
   have hno2:∀j,j<i+1->hasPrefix (dl s) (dl (tw j))=false:=fun j hj=>by
    rcases Nat.lt_or_ge j i with q|q
    ·exact hno j q
    obtain rfl:j=i:=by omega
    exact hb
   obtain⟨z,hz⟩:∃z,tw i=z:=⟨_,rfl⟩;rw[hz] at hix hpc;have Hpc:=Ax hpc;have Hno:=Ax hno2;clear hpc hb hb' htk hmem hno hq hz hno2 Hib Hone Hneg He1;go_wp2_with fail;refine Hpc.out.mono ?_;rintro e V ⟨rfl,rfl⟩
   go_wp2
   go_roundw
   case rel=>exact⟨i+1,by omega,by go_num,Hno.out,by trivial⟩
   case measure=>simp [intOf];omega
 obtain rfl:i=4:=by omega
 have hnt:=jD hno;obtain⟨b,hb⟩:∃b,decide (s[0]∉Ng)=b:=⟨_,rfl⟩;have hon:=Hone.out b hb;cases b with
 |true=>
  have hx0:x<0:=Hneg.out.2 (of_decide_eq_true hb)
  have hsig:Es (dl s)= .error 4:=by
   unfold Es;rw[Ao hnt,Ao (fun h=>absurd (hon.1 h) tH)]
  have i3:decide (x<0)=true:=by simpa using hx0
  have Hsig:=Ax hsig;clear hsig hx0 hb hon hnt hno hq Hix Hone Hneg He1;go_wp2_with fail;refine Hib.out.mono ?_;rintro e V ⟨rfl,rfl⟩;clear Hib;obtain⟨c0,c1,c2,c3,c4,c5,c6,fz⟩:=Ht0.out;have hT:=Bl.set7 (w:=V) (b:=w.heap.size) ⟨c0,c1,c2,c3,c4,c5,c6,fz⟩ 0 ⟨#[]⟩ 0 0 ⟨#[]⟩ 0 0;have hB2:=A6 Hb0.out (Ak _) 0 ⟨#[]⟩ 0 0 ⟨#[]⟩ 0 0;obtain⟨Z,hZ⟩:∃Z,set7 V w.heap.size 0 ⟨#[]⟩ 0 0 ⟨#[]⟩ 0 0=Z:=⟨_,rfl⟩;rw[hZ] at hT hB2;unfold set7 at hZ;have HT:=Ax hT;have HB3:=Ax hB2;have HZ:=Ax hZ;clear hT hB2 hZ;go_wp2_with fail;rw[HZ.out];obtain⟨d0,d1,d2,d3,d4,d5,d6,_⟩:=HT.out;clear c0 c1 c2 c3 c4 c5 c6 fz;refine Au (v:= .tuple #[.agg #[.int .u8 0,.string ⟨#[]⟩,.int .u8 0,.int .i64 0,.string ⟨#[]⟩,.int .i64 0,.int .i64 0],.int .i64 0,.int .i64 4]) vV rfl ?_;rw[Hsig.out];exact⟨HB3.out,⟨0,[],(0,0,[])⟩,0,rfl⟩
 |false=>
  have hx0:¬x<0:=fun h=>absurd (Hneg.out.1 h) (of_decide_eq_false hb)
  have hsig:Es (dl s)= .ok (⟨7,(dl s).take 1,v0⟩,1):=by
   unfold Es;rw[Ao hnt,Ap (hon.2 rfl)]
  have i3:decide (x<0)=false:=by simpa using hx0
  have Hsig:=Ax hsig;clear hsig hx0 hb hon hnt hno hq Hix Hone Hneg;go_wp2_with fail;refine Hib.out.mono ?_;rintro e V ⟨rfl,rfl⟩;clear Hib;obtain⟨c0,c1,c2,c3,c4,c5,c6,fz⟩:=Ht0.out;have hT:=Bl.set7 (w:=V) (b:=w.heap.size) ⟨c0,c1,c2,c3,c4,c5,c6,fz⟩ 7 (s.extract 0 1) 0 0 ⟨#[]⟩ 0 0;have hB2:=A6 Hb0.out (Ak _) 7 (s.extract 0 1) 0 0 ⟨#[]⟩ 0 0;obtain⟨Z,hZ⟩:∃Z,set7 V w.heap.size 7 (s.extract 0 1) 0 0 ⟨#[]⟩ 0 0=Z:=⟨_,rfl⟩;rw[hZ] at hT hB2;unfold set7 at hZ;have HT:=Ax hT;have HB3:=Ax hB2;have HZ:=Ax hZ;clear hT hB2 hZ;go_wp2_with fail;rw[HZ.out];obtain⟨d0,d1,d2,d3,d4,d5,d6,_⟩:=HT.out;clear c0 c1 c2 c3 c4 c5 c6 fz;refine Au (v:= .tuple #[.agg #[.int .u8 7,.string (s.extract 0 1),.int .u8 0,.int .i64 0,.string ⟨#[]⟩,.int .i64 0,.int .i64 0],.int .i64 1,.int .i64 0]) vV rfl ?_;rw[Hsig.out];exact⟨HB3.out,by rw[←He1.out];rfl⟩
open Go Go.RowKit Go.Lib Go.Sort Go.Shelf
theorem gR (s:ByteArray)(w:World)(h0:0<s.size)(hs:s.size<=65536)(hR:Rd w):
 Calls Tryz.prog 64 #[.string s] w (Rr w (Bh (dl s))):=by
 obtain⟨W0,hW0⟩:∃W0,w.alloc (.cells Dw 63)=W0:=⟨_,rfl⟩;have hb0:Below w.heap.size w W0:=by rw[←hW0];exact(Aq w.heap.size w).alloc (Ak _) _
 have ht0:=Bl.new w;rw[hW0] at ht0;unfold Dw at hW0;have hmk:=dG s W0 tE;have hlet:=Ov s[0] W0;have hdig:=Lb s[0] W0
 have hdc:∃q,dl s=s[0]::q:=by
  have l1:0<(dl s).length:=by rw[A4];exact h0
  have:=List.drop_eq_getElem_cons l1
  rw[List.drop_zero] at this;exact⟨_,this⟩
 obtain⟨q,hq⟩:=hdc;have hql:q.length+1=s.size:=by rw[←A4,hq];rfl
 have hw:Bh (dl s)=if Dm s[0] then Cx ⟨1,(dl s).take (A5 Cg (dl s)),v0⟩ (A5 Cg (dl s))
  else if Bb s[0] then Jk (dl s)
  else if s[0]=34 then Pr (dl s)
  else if s[0]=63 then(if Dt (dl s) then Cx ⟨2,q.take (A5 Cg q),v0⟩ (1+A5 Cg q) else .ok (⟨3,[],v0⟩,1))
  else if s[0]=35/\Dt (dl s)=true then Cx ⟨6,q.take (A5 Cg q),(5,0,q.take (A5 Cg q))⟩ (1+A5 Cg q)
  else Es (dl s):=by rw[hq];rfl
 have htl:(dl s).tail=q:=by rw[hq];rfl
 rw[htl] at hmk;have hsz:A5 Cg q<=q.length:=Cm _ _;obtain⟨own,hown⟩:∃own:ByteArray,(⟨(q.take (A5 Cg q)).toArray⟩:ByteArray)=own:=⟨_,rfl⟩;have hod:dl own=q.take (A5 Cg q):=by rw[←hown]
 have hos:own.size=A5 Cg q:=by rw[←A4,hod,List.length_take];omega
 have hmk2:Calls Tryz.prog 109 #[.string s] W0 fun e w'=>e= .returned (.tuple #[.string (if Dt (dl s) then own else⟨#[]⟩),.bool (Dt (dl s))])/\W0=w':=by
  refine hmk.mono ?_;rintro e w' ⟨rfl,rfl⟩;refine⟨?_,rfl⟩;rw[←hown];cases Dt (dl s)<;>rfl
 have hne:∀d:UInt8,s[0]≠d->((s[0].toNat:Int)==(d.toNat:Int))=false:=fun d hd=>by
  have:s[0].toNat≠d.toNat:=fun e=>hd (UInt8.toNat_inj.1 e)
  simp;omega
 obtain⟨mk,hm⟩:∃mk,Dt (dl s)=mk:=⟨_,rfl⟩;rw[hm] at hw hmk2;have i0:(0:Int)<(s.size:Int):=by omega
 obtain⟨N,hN⟩:∃N,A5 Cg q=N:=⟨_,rfl⟩;have HW0:=Ax hW0;have Hb0:=Ax hb0;have Ht0:=Ax ht0;have Hmk:=Ax hmk2;have Hod:=Ax hod;clear hW0 hb0 ht0 hmk hmk2 hm htl hown hod;by_cases h1:Dm s[0]=true
 ·have hwh:=J2 s 111 Cg (fun args w=>by kernel_rfl) tE 0 W0 tE fun c V=>Vh c V
  rw[List.drop_zero,show((0:Nat):Int)=0 from rfl] at hwh;rw[Ap h1] at hw;rw[h1] at hlet;have hle:=Cm Cg (dl s);rw[A4] at hle;have hex:(⟨((dl s).take (A5 Cg (dl s))).toArray⟩:ByteArray)=s.extract 0 (A5 Cg (dl s)):=Cn (by rw[Dj,Fg,List.drop_zero,Nat.sub_zero]);obtain⟨n,hn⟩:∃n,A5 Cg (dl s)=n:=⟨_,rfl⟩;rw[hn] at hwh hw hle hex;have hlt:((dl s).take n).length=n:=by rw[List.length_take,A4];omega
  have i1:(n:Int)<=(s.size:Int):=by omega
  have Hw:=Ax hwh;have HW:=Ax hw;have Hlet:=Ax hlet;have Hex:=Ax hex;have Hlt:=Ax hlt;clear hwh hw hlet hdig hne hos hsz hN hn hlt hex hR h1 hq;cases mk
  all_goals
   go_enter Tryz.func64,Tryz.ntmps64;go_upto_region 1 with fail
   rw[HW0.out];clear HW0;go_wp2_with fail;refine Hmk.out.mono ?_;rintro e V ⟨rfl,rfl⟩;clear Hmk;go_wp2_with fail;refine Hlet.out.mono ?_;rintro e V ⟨rfl,rfl⟩;clear Hlet;go_wp2_with fail;refine Hw.out.mono ?_;rintro e V ⟨rfl,rfl⟩;clear Hw;obtain⟨c0,c1,c2,c3,c4,c5,c6,fz⟩:=Ht0.out;by_cases hlong:12<n
   ·have k1:decide ((12:Int)<(n:Int))=true:=by simp;omega
    have hT:=(Bl.set7 (w:=W0) (b:=w.heap.size) ⟨c0,c1,c2,c3,c4,c5,c6,fz⟩ 1 (s.extract 0 n) 0 0 ⟨#[]⟩ 0 0).set7 1 (s.extract 0 n) 0 0 ⟨#[]⟩ 0 0;have hB2:=A6 (A6 Hb0.out (Ak _) 1 (s.extract 0 n) 0 0 ⟨#[]⟩ 0 0) (Ak _) 1 (s.extract 0 n) 0 0 ⟨#[]⟩ 0 0;obtain⟨Z,hZ⟩:∃Z,set7 (set7 W0 w.heap.size 1 (s.extract 0 n) 0 0 ⟨#[]⟩ 0 0) w.heap.size 1 (s.extract 0 n) 0 0 ⟨#[]⟩ 0 0=Z:=⟨_,rfl⟩;rw[hZ] at hT hB2;unfold set7 at hZ;have HT:=Ax hT;have HB3:=Ax hB2;have HZ:=Ax hZ;clear hT hB2 hZ;go_wp2_with fail;rw[HZ.out];obtain⟨d0,d1,d2,d3,d4,d5,d6,_⟩:=HT.out;clear c0 c1 c2 c3 c4 c5 c6 fz;refine Au (v:= .tuple #[.agg #[.int .u8 1,.string (s.extract 0 n),.int .u8 0,.int .i64 0,.string ⟨#[]⟩,.int .i64 0,.int .i64 0],.int .i64 (n:Int),.int .i64 4]) tM rfl ?_;rw[HW.out];unfold Cx;rw[Ap uW];exact⟨HB3.out,⟨1,(dl s).take n,v0⟩,_,by rw[←Hex.out];rfl⟩
   have k1:decide ((12:Int)<(n:Int))=false:=by simp;omega
   have hT:=(Bl.set7 (w:=W0) (b:=w.heap.size) ⟨c0,c1,c2,c3,c4,c5,c6,fz⟩ 1 (s.extract 0 n) 0 0 ⟨#[]⟩ 0 0).set7 1 (s.extract 0 n) 0 0 ⟨#[]⟩ 0 0;have hB2:=A6 (A6 Hb0.out (Ak _) 1 (s.extract 0 n) 0 0 ⟨#[]⟩ 0 0) (Ak _) 1 (s.extract 0 n) 0 0 ⟨#[]⟩ 0 0;obtain⟨Z,hZ⟩:∃Z,set7 (set7 W0 w.heap.size 1 (s.extract 0 n) 0 0 ⟨#[]⟩ 0 0) w.heap.size 1 (s.extract 0 n) 0 0 ⟨#[]⟩ 0 0=Z:=⟨_,rfl⟩;rw[hZ] at hT hB2;unfold set7 at hZ;have HT:=Ax hT;have HB3:=Ax hB2;have HZ:=Ax hZ;clear hT hB2 hZ;go_wp2_with fail;rw[HZ.out];obtain⟨d0,d1,d2,d3,d4,d5,d6,_⟩:=HT.out;clear c0 c1 c2 c3 c4 c5 c6 fz;refine Au (v:= .tuple #[.agg #[.int .u8 1,.string (s.extract 0 n),.int .u8 0,.int .i64 0,.string ⟨#[]⟩,.int .i64 0,.int .i64 0],.int .i64 (n:Int),.int .i64 0]) tM rfl ?_;rw[HW.out];unfold Cx;rw[Ao uW];exact⟨HB3.out,by rw[←Hex.out];rfl⟩
 rw[Ao h1] at hw;have hb1:Dm s[0]=false:=by simpa using h1
 rw[hb1] at hlet;by_cases h2:Bb s[0]=true
 ·rw[Ap h2] at hw;rw[h2] at hdig;have hcl:=Zo s W0 h0 h2 hs (hR.below Hb0.out);obtain⟨r,hr⟩:∃r,Jk (dl s)=r:=⟨_,rfl⟩;rw[hr] at hcl hw;have Hcl:=Ax hcl;have HW:=Ax hw;have Hlet:=Ax hlet;have Hdig:=Ax hdig;clear hcl hw hlet hdig hne hos hsz hN hR h1 hq hr h2 hb1;cases mk
  all_goals
   go_enter Tryz.func64,Tryz.ntmps64;go_upto_region 1 with fail
   rw[HW0.out];clear HW0;go_wp2_with fail;refine Hmk.out.mono ?_;rintro e V ⟨rfl,rfl⟩;clear Hmk;go_wp2_with fail;refine Hlet.out.mono ?_;rintro e V ⟨rfl,rfl⟩;clear Hlet;go_wp2_with fail;refine Hdig.out.mono ?_;rintro e V ⟨rfl,rfl⟩;clear Hdig;go_wp2_with fail;refine Hcl.out.mono ?_;rintro e V ⟨hb,he⟩;obtain⟨c0,c1,c2,c3,c4,c5,c6,fz⟩:=Ht0.out.below hb;have HBV:=Ax (Hb0.out.trans (hb.mono Hb0.out.size));clear Ht0 hb Hcl;cases r with
   |ok p=>
    exact zz2
   |error q=>
    exact zz3
 rw[Ao h2] at hw;have hb2:Bb s[0]=false:=by simpa using h2
 rw[hb2] at hdig;by_cases h3:s[0]=34
 ·rw[Ap h3] at hw;have hcl:=iY s W0 h0 hs (hR.below Hb0.out);obtain⟨r,hr⟩:∃r,Pr (dl s)=r:=⟨_,rfl⟩;rw[hr] at hcl hw;have j1:((s[0].toNat:Int)==34)=true:=by rw[h3];rfl
  have Hcl:=Ax hcl;have HW:=Ax hw;have Hlet:=Ax hlet;have Hdig:=Ax hdig;clear hcl hw hlet hdig hne hos hsz hN hR h1 hq hr h2 hb1 hb2 h3;cases mk
  all_goals
   go_enter Tryz.func64,Tryz.ntmps64;go_upto_region 1 with fail
   rw[HW0.out];clear HW0;go_wp2_with fail;refine Hmk.out.mono ?_;rintro e V ⟨rfl,rfl⟩;clear Hmk;go_wp2_with fail;refine Hlet.out.mono ?_;rintro e V ⟨rfl,rfl⟩;clear Hlet;go_wp2_with fail;refine Hdig.out.mono ?_;rintro e V ⟨rfl,rfl⟩;clear Hdig;go_wp2_with fail;refine Hcl.out.mono ?_;rintro e V ⟨hb,he⟩;obtain⟨c0,c1,c2,c3,c4,c5,c6,fz⟩:=Ht0.out.below hb;have HBV:=Ax (Hb0.out.trans (hb.mono Hb0.out.size));clear Ht0 hb Hcl;cases r with
   |ok p=>
    exact zz2
   |error q=>
    exact zz3
 rw[Ao h3] at hw;have j1:((s[0].toNat:Int)==34)=false:=hne 34 h3;by_cases h4:s[0]=63
 ·rw[Ap h4] at hw;have j2:((s[0].toNat:Int)==63)=true:=by rw[h4];rfl
  have Hlet:=Ax hlet;have Hdig:=Ax hdig;cases mk with
  |true=>
   rw[Ap rfl] at hw;rw[hN] at hw hos hsz Hod;have hlt:(q.take N).length=N:=by rw[List.length_take];omega
   have HW:=Ax hw;have Hlt:=Ax hlt;have hj:(own.size:Int)=(N:Int):=by omega
   have Hj:=Ax hj;have Hos:=Ax hos;have i2:(own.size:Int)<=65536:=by omega
   clear hw hlet hdig hne hN hlt hR h1 hq h2 hb1 hb2 h3 h4 hj hos;go_enter Tryz.func64,Tryz.ntmps64;go_upto_region 1 with fail
   rw[HW0.out];clear HW0;go_wp2_with fail;refine Hmk.out.mono ?_;rintro e V ⟨rfl,rfl⟩;clear Hmk;go_wp2_with fail;refine Hlet.out.mono ?_;rintro e V ⟨rfl,rfl⟩;clear Hlet;go_wp2_with fail;refine Hdig.out.mono ?_;rintro e V ⟨rfl,rfl⟩;clear Hdig;obtain⟨c0,c1,c2,c3,c4,c5,c6,fz⟩:=Ht0.out;by_cases hlong:12<N
   ·have k1:decide ((12:Int)<(own.size:Int))=true:=by have:=Hj.out;simp;omega
    have hT:=(Bl.set7 (w:=W0) (b:=w.heap.size) ⟨c0,c1,c2,c3,c4,c5,c6,fz⟩ 2 own 0 0 ⟨#[]⟩ 0 0).set7 2 own 0 0 ⟨#[]⟩ 0 0;have hB2:=A6 (A6 Hb0.out (Ak _) 2 own 0 0 ⟨#[]⟩ 0 0) (Ak _) 2 own 0 0 ⟨#[]⟩ 0 0;obtain⟨Z,hZ⟩:∃Z,set7 (set7 W0 w.heap.size 2 own 0 0 ⟨#[]⟩ 0 0) w.heap.size 2 own 0 0 ⟨#[]⟩ 0 0=Z:=⟨_,rfl⟩;rw[hZ] at hT hB2;unfold set7 at hZ;have HT:=Ax hT;have HB3:=Ax hB2;have HZ:=Ax hZ;clear hT hB2 hZ;go_wp2_with fail;rw[HZ.out];obtain⟨d0,d1,d2,d3,d4,d5,d6,_⟩:=HT.out;clear c0 c1 c2 c3 c4 c5 c6 fz;refine Au (v:= .tuple #[.agg #[.int .u8 2,.string own,.int .u8 0,.int .i64 0,.string ⟨#[]⟩,.int .i64 0,.int .i64 0],.int .i64 (1+(own.size:Int)),.int .i64 4]) tM rfl ?_;rw[HW.out];unfold Cx;rw[Ap uW];exact⟨HB3.out,⟨2,q.take N,v0⟩,_,by rw[←Lj own,Hod.out];rfl⟩
   have k1:decide ((12:Int)<(own.size:Int))=false:=by have:=Hj.out;simp;omega
   have hT:=(Bl.set7 (w:=W0) (b:=w.heap.size) ⟨c0,c1,c2,c3,c4,c5,c6,fz⟩ 2 own 0 0 ⟨#[]⟩ 0 0).set7 2 own 0 0 ⟨#[]⟩ 0 0;have hB2:=A6 (A6 Hb0.out (Ak _) 2 own 0 0 ⟨#[]⟩ 0 0) (Ak _) 2 own 0 0 ⟨#[]⟩ 0 0;obtain⟨Z,hZ⟩:∃Z,set7 (set7 W0 w.heap.size 2 own 0 0 ⟨#[]⟩ 0 0) w.heap.size 2 own 0 0 ⟨#[]⟩ 0 0=Z:=⟨_,rfl⟩;rw[hZ] at hT hB2;unfold set7 at hZ;have HT:=Ax hT;have HB3:=Ax hB2;have HZ:=Ax hZ;clear hT hB2 hZ;go_wp2_with fail;rw[HZ.out];obtain⟨d0,d1,d2,d3,d4,d5,d6,_⟩:=HT.out;clear c0 c1 c2 c3 c4 c5 c6 fz;refine Au (v:= .tuple #[.agg #[.int .u8 2,.string own,.int .u8 0,.int .i64 0,.string ⟨#[]⟩,.int .i64 0,.int .i64 0],.int .i64 (1+(own.size:Int)),.int .i64 0]) tM rfl ?_;exact zw4
  |false=>
   rw[Ao tH] at hw;have HW:=Ax hw;clear hw hlet hdig hne hN hR h1 hq h2 hb1 hb2 h3 h4 hos hsz;go_enter Tryz.func64,Tryz.ntmps64;go_upto_region 1 with fail
   rw[HW0.out];clear HW0;go_wp2_with fail;refine Hmk.out.mono ?_;rintro e V ⟨rfl,rfl⟩;clear Hmk;go_wp2_with fail;refine Hlet.out.mono ?_;rintro e V ⟨rfl,rfl⟩;clear Hlet;go_wp2_with fail;refine Hdig.out.mono ?_;rintro e V ⟨rfl,rfl⟩;clear Hdig;obtain⟨c0,c1,c2,c3,c4,c5,c6,fz⟩:=Ht0.out;have hT:=Bl.set7 (w:=W0) (b:=w.heap.size) ⟨c0,c1,c2,c3,c4,c5,c6,fz⟩ 3 ⟨#[]⟩ 0 0 ⟨#[]⟩ 0 0;have hB2:=A6 Hb0.out (Ak _) 3 ⟨#[]⟩ 0 0 ⟨#[]⟩ 0 0;obtain⟨Z,hZ⟩:∃Z,set7 W0 w.heap.size 3 ⟨#[]⟩ 0 0 ⟨#[]⟩ 0 0=Z:=⟨_,rfl⟩;rw[hZ] at hT hB2;unfold set7 at hZ;have HT:=Ax hT;have HB3:=Ax hB2;have HZ:=Ax hZ;clear hT hB2 hZ;go_wp2_with fail;rw[HZ.out];obtain⟨d0,d1,d2,d3,d4,d5,d6,_⟩:=HT.out;clear c0 c1 c2 c3 c4 c5 c6 fz;refine Au (v:= .tuple #[.agg #[.int .u8 3,.string ⟨#[]⟩,.int .u8 0,.int .i64 0,.string ⟨#[]⟩,.int .i64 0,.int .i64 0],.int .i64 1,.int .i64 0]) tM rfl ?_;rw[HW.out];exact⟨HB3.out,rfl⟩
 rw[Ao h4] at hw;have j2:((s[0].toNat:Int)==63)=false:=hne 63 h4;by_cases h5:s[0]=35/\mk=true
 ·rw[Ap h5] at hw;obtain⟨h5,rfl⟩:=h5;have j3:((s[0].toNat:Int)==35)=true:=by rw[h5];rfl
  have Hlet:=Ax hlet;have Hdig:=Ax hdig;rw[hN] at hw hos hsz Hod;have hlt:(q.take N).length=N:=by rw[List.length_take];omega
  have HW:=Ax hw;have Hlt:=Ax hlt;have hj:(own.size:Int)=(N:Int):=by omega
  have Hj:=Ax hj;have Hos:=Ax hos;have i2:(own.size:Int)<=65536:=by omega
  clear hw hlet hdig hne hN hlt hR h1 hq h2 hb1 hb2 h3 h4 hj hos h5;go_enter Tryz.func64,Tryz.ntmps64;go_upto_region 1 with fail
  rw[HW0.out];clear HW0;go_wp2_with fail;refine Hmk.out.mono ?_;rintro e V ⟨rfl,rfl⟩;clear Hmk;go_wp2_with fail;refine Hlet.out.mono ?_;rintro e V ⟨rfl,rfl⟩;clear Hlet;go_wp2_with fail;refine Hdig.out.mono ?_;rintro e V ⟨rfl,rfl⟩;clear Hdig;obtain⟨c0,c1,c2,c3,c4,c5,c6,fz⟩:=Ht0.out;by_cases hlong:12<N
  ·have k1:decide ((12:Int)<(own.size:Int))=true:=by have:=Hj.out;simp;omega
   have hT:=(Bl.set7 (w:=W0) (b:=w.heap.size) ⟨c0,c1,c2,c3,c4,c5,c6,fz⟩ 6 own 5 0 own 0 0).set7 6 own 5 0 own 0 0;have hB2:=A6 (A6 Hb0.out (Ak _) 6 own 5 0 own 0 0) (Ak _) 6 own 5 0 own 0 0;obtain⟨Z,hZ⟩:∃Z,set7 (set7 W0 w.heap.size 6 own 5 0 own 0 0) w.heap.size 6 own 5 0 own 0 0=Z:=⟨_,rfl⟩;rw[hZ] at hT hB2;unfold set7 at hZ;have HT:=Ax hT;have HB3:=Ax hB2;have HZ:=Ax hZ;clear hT hB2 hZ;go_wp2_with fail;rw[HZ.out];obtain⟨d0,d1,d2,d3,d4,d5,d6,_⟩:=HT.out;clear c0 c1 c2 c3 c4 c5 c6 fz;refine Au (v:= .tuple #[.agg #[.int .u8 6,.string own,.int .u8 5,.int .i64 0,.string own,.int .i64 0,.int .i64 0],.int .i64 (1+(own.size:Int)),.int .i64 4]) tM rfl ?_;rw[HW.out];unfold Cx;rw[Ap uW];exact⟨HB3.out,⟨6,q.take N,(5,0,q.take N)⟩,_,by rw[←Lj own,Hod.out];rfl⟩
  have k1:decide ((12:Int)<(own.size:Int))=false:=by have:=Hj.out;simp;omega
  have hT:=(Bl.set7 (w:=W0) (b:=w.heap.size) ⟨c0,c1,c2,c3,c4,c5,c6,fz⟩ 6 own 5 0 own 0 0).set7 6 own 5 0 own 0 0;have hB2:=A6 (A6 Hb0.out (Ak _) 6 own 5 0 own 0 0) (Ak _) 6 own 5 0 own 0 0;obtain⟨Z,hZ⟩:∃Z,set7 (set7 W0 w.heap.size 6 own 5 0 own 0 0) w.heap.size 6 own 5 0 own 0 0=Z:=⟨_,rfl⟩;rw[hZ] at hT hB2;unfold set7 at hZ;have HT:=Ax hT;have HB3:=Ax hB2;have HZ:=Ax hZ;clear hT hB2 hZ;go_wp2_with fail;rw[HZ.out];obtain⟨d0,d1,d2,d3,d4,d5,d6,_⟩:=HT.out;clear c0 c1 c2 c3 c4 c5 c6 fz;refine Au (v:= .tuple #[.agg #[.int .u8 6,.string own,.int .u8 5,.int .i64 0,.string own,.int .i64 0,.int .i64 0],.int .i64 (1+(own.size:Int)),.int .i64 0]) tM rfl ?_;exact zw4
 rw[Ao h5] at hw;have hcl:=gZ s W0 h0 hs;obtain⟨r,hr⟩:∃r,Es (dl s)=r:=⟨_,rfl⟩;rw[hr] at hcl hw;have Hcl:=Ax hcl;have HW:=Ax hw;have Hlet:=Ax hlet;have Hdig:=Ax hdig;cases mk with
 |true=>
  have j3:((s[0].toNat:Int)==35)=false:=hne 35 fun e=>h5 ⟨e,rfl⟩
  clear hcl hw hlet hdig hne hos hsz hN hR h1 hq hr h2 hb1 hb2 h3 h4 h5;go_enter Tryz.func64,Tryz.ntmps64;go_upto_region 1 with fail
  rw[HW0.out];clear HW0;go_wp2_with fail;refine Hmk.out.mono ?_;rintro e V ⟨rfl,rfl⟩;clear Hmk;go_wp2_with fail;refine Hlet.out.mono ?_;rintro e V ⟨rfl,rfl⟩;clear Hlet;go_wp2_with fail;refine Hdig.out.mono ?_;rintro e V ⟨rfl,rfl⟩;clear Hdig;go_wp2_with fail;refine Hcl.out.mono ?_;rintro e V ⟨hb,he⟩;obtain⟨c0,c1,c2,c3,c4,c5,c6,fz⟩:=Ht0.out.below hb;have HBV:=Ax (Hb0.out.trans (hb.mono Hb0.out.size));clear Ht0 hb Hcl;cases r with
  |ok p=>
   exact zz2
  |error q=>
   exact zz3
 |false=>
  clear hcl hw hlet hdig hos hsz hN hR h1 hq hr h2 hb1 hb2 h3 h4 h5;by_cases h6:s[0]=35
  ·have j3:((s[0].toNat:Int)==35)=true:=by rw[h6];rfl
   clear h6 hne;go_enter Tryz.func64,Tryz.ntmps64;go_upto_region 1 with fail
   rw[HW0.out];clear HW0;go_wp2_with fail;refine Hmk.out.mono ?_;rintro e V ⟨rfl,rfl⟩;clear Hmk;go_wp2_with fail;refine Hlet.out.mono ?_;rintro e V ⟨rfl,rfl⟩;clear Hlet;go_wp2_with fail;refine Hdig.out.mono ?_;rintro e V ⟨rfl,rfl⟩;clear Hdig;go_wp2_with fail;refine Hcl.out.mono ?_;rintro e V ⟨hb,he⟩;obtain⟨c0,c1,c2,c3,c4,c5,c6,fz⟩:=Ht0.out.below hb;have HBV:=Ax (Hb0.out.trans (hb.mono Hb0.out.size));clear Ht0 hb Hcl;cases r with
   |ok p=>
    exact zz2
   |error q=>
    exact zz3
  have j3:((s[0].toNat:Int)==35)=false:=hne 35 h6;clear h6 hne;go_enter Tryz.func64,Tryz.ntmps64;go_upto_region 1 with fail
  rw[HW0.out];clear HW0;go_wp2_with fail;refine Hmk.out.mono ?_;rintro e V ⟨rfl,rfl⟩;clear Hmk;go_wp2_with fail;refine Hlet.out.mono ?_;rintro e V ⟨rfl,rfl⟩;clear Hlet;go_wp2_with fail;refine Hdig.out.mono ?_;rintro e V ⟨rfl,rfl⟩;clear Hdig;go_wp2_with fail;refine Hcl.out.mono ?_;rintro e V ⟨hb,he⟩;obtain⟨c0,c1,c2,c3,c4,c5,c6,fz⟩:=Ht0.out.below hb;have HBV:=Ax (Hb0.out.trans (hb.mono Hb0.out.size));clear Ht0 hb Hcl;cases r with
  |ok p=>
   exact zz2
  |error q=>
   exact zz3
end Go.Proofs.YtmpfilddeglgbaaGreatDoor
