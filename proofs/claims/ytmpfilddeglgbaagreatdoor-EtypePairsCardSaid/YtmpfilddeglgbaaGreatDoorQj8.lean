import Derived.Lib.ReplaceLaws
import Derived.Test.YtmpfilddeglgbaaGreatDoorQj6
set_option maxRecDepth 100000
set_option maxHeartbeats 16000000
namespace Go.Proofs.YtmpfilddeglgbaaGreatDoor
open Go Go.RowKit Go.Lib Go.Sort Go.Shelf
theorem Qb {B:Nat}{a w:World}(h:Below B a w)(n:Nat):Below B a (w.drewN n):=⟨h.os,h.tape,h.output,h.size,h.block⟩
theorem Z3 (n:Int)(w:World)(h0: -9223372036854775808<=n)(h1:n<=9223372036854775807)(hR:Rd w):
 Calls Tryz.prog 173 #[.int .i64 n] w fun e w'=>e= .returned (.string ⟨(Rb n).toArray⟩)/\Below w.heap.size w w':=by
 have hf:=Tryz.strconv_FormatInt_10 n h0 h1 w hR.tab;have Hf:=Ax hf;clear hf hR;go_enter Tryz.func173,Tryz.ntmps173;go_wp2_with fail;refine Hf.out.mono ?_;rintro e W ⟨rfl,k,os,hW⟩;have hbW:Below w.heap.size w W:=by rw[hW];exact Ti w k os
 clear hW;obtain⟨S,hS⟩:∃S:ByteArray,(⟨(itoa n).toArray⟩:ByteArray)=S:=⟨_,rfl⟩;have hSd:dl S=itoa n:=by rw[←hS]
 rw[hS];clear hS;have hsz:S.size<=21:=by rw[←A4,hSd];exact itoa_length_le n h0 h1
 obtain⟨d,hd⟩:∃d,decDigits n.natAbs=d:=⟨_,rfl⟩;have hd1:1<=d.length:=by rw[←hd];exact List.length_pos_iff.2 (Lw _)
 have hit:itoa n=if n<0 then 45::d else d:=by
  rw[←hd];unfold itoa;by_cases h:n<0
  ·rw[Ap h,Ap h]
  rw[Ao h,Ao h];congr 1;omega
 have hsg:∃sg:ByteArray,∃T:ByteArray,dl T=d/\T.size<=21/\dl sg=(if n<0 then[45] else[])/\((n<0/\sg=⟨#[45]⟩/\T=S.extract 1 S.size/\1<=S.size)\/(¬n<0/\sg=⟨#[]⟩/\T=S)):=by
  by_cases h:n<0
  ·have e:dl S=45::d:=by rw[hSd,hit,Ap h]
   refine⟨⟨#[45]⟩,S.extract 1 S.size,by rw[Gd,e];rfl,?_,by rw[Ap h],.inl ⟨h,rfl,rfl,?_⟩⟩
   ·rw[←A4,Gd,List.length_drop,A4];omega
   rw[←A4,e];simp
  exact⟨⟨#[]⟩,S,by rw[hSd,hit,Ao h],hsz,by rw[Ao h],.inr ⟨h,rfl,rfl⟩⟩
 obtain⟨sg,T,hT,hTl,hsgd,hcase⟩:=hsg;have hT1:1<=T.size:=by rw[←A4,hT];exact hd1
 have Hd:=Ax hd;have HT:=Ax hT;have Hsg:=Ax hsgd;have HB:=Ax hbW;clear hSd hit hd hT hsgd hbW hsz hd1 Hf
 have fin:∀T2:ByteArray,(∃j,dl T2=List.replicate j 48++d/\(j=0\/T2.size<=5))->¬T2.size<5->dl T2=Oh d:=fun T2 ⟨j,e,hj⟩ hlt=>by
  have hl:=Ar List.length e;rw[A4,Ab,List.length_replicate] at hl;have hj5:j=5 - d.length:=by omega
  rw[e,hj5];rfl
 have Hfin:=Ax fin;clear fin;rcases hcase with ⟨hn,rfl,rfl,hS1⟩|⟨hn,rfl,rfl⟩
 ·have i1:(1:Int)<=(S.size:Int):=by omega
  go_wp2
  go_quiet (fail)
  go_wp2
  go_loop [3] (fun v3=>∃T2:ByteArray,v3= .string T2/\T2.size<=21/\1<=T2.size/\Hid (∃j,dl T2=List.replicate j 48++d/\(j=0\/T2.size<=5))) (fun v3=>match v3 with| .string s=>5 - s.size|_=>0)
  case atStart=>exact⟨_,rfl,hTl,hT1,0,HT.out,.inl rfl⟩
  obtain⟨T2,rfl,hl21,hl1,hq⟩:=hrel;by_cases hlt:T2.size<5
  ·exact zy8
  have hp:=Hfin.out T2 hq.out hlt;have i2:5<=(T2.size:Int):=by omega
  have hT5:5<=T2.size:=by omega
  have i3:4<=(T2.size:Int):=by omega
  have Hp:=Ax hp;clear hq hp hlt;go_wp2_with fail;refine(Tryz.strings_TrimRight_one _ 48 tG _ ?hs).mono ?_
  case hs=>rw[ByteArray.size_extract];omega
  rintro e w' ⟨rfl,rfl⟩;obtain⟨R,hR⟩:∃R:ByteArray,(⟨(trimRightB (T2.extract (T2.size - 4) T2.size).data.toList 48).toArray⟩:ByteArray)=R:=⟨_,rfl⟩;rw[hR]
  have hRd:dl R=trimRightB ((dl T2).drop (T2.size - 4)) 48:=by
   rw[←hR];show trimRightB (dl (T2.extract (T2.size - 4) T2.size)) 48=_;rw[Gd]
  obtain⟨q,hq⟩:∃q,decide (R.size=0)=q:=⟨_,rfl⟩;obtain⟨he1,he2,he3⟩:=El R hq
  have hfr:Mq ((dl T2).drop (T2.size - 4))=if q then[48] else dl R:=by
   exact zx1
  have HF:Hid (Rb n=dl ⟨#[45]⟩++((dl T2).take (T2.size - 4)++46::(if q then[48] else dl R))):=Ax (by
   unfold Rb
   rw[Hd.out,←Hp.out,A4,hfr,←Hsg.out])
  have hRl:R.size<=21:=by
   exact zwr
  clear hR hRd hq hfr Hp;cases q
  ·have he:=he3 rfl;clear he2 he3
   go_wp2
   go_ret;exact⟨Ep wE,Qb HB.out _⟩
  have he:=he2 rfl;clear he2 he3
  go_wp2
  go_ret;exact⟨Ep wE,Qb HB.out _⟩
 have hn':0<=n:=by omega
 go_wp2
 go_loop [3] (fun v3=>∃T2:ByteArray,v3= .string T2/\T2.size<=21/\1<=T2.size/\Hid (∃j,dl T2=List.replicate j 48++d/\(j=0\/T2.size<=5))) (fun v3=>match v3 with| .string s=>5 - s.size|_=>0)
 case atStart=>exact⟨_,rfl,hTl,hT1,0,HT.out,.inl rfl⟩
 obtain⟨T2,rfl,hl21,hl1,hq⟩:=hrel;by_cases hlt:T2.size<5
 ·exact zy8
 have hp:=Hfin.out T2 hq.out hlt;have i2:5<=(T2.size:Int):=by omega
 have hT5:5<=T2.size:=by omega
 have i3:4<=(T2.size:Int):=by omega
 have Hp:=Ax hp;clear hq hp hlt;go_wp2_with fail;refine(Tryz.strings_TrimRight_one _ 48 tG _ ?hs).mono ?_
 case hs=>rw[ByteArray.size_extract];omega
 rintro e w' ⟨rfl,rfl⟩;obtain⟨R,hR⟩:∃R:ByteArray,(⟨(trimRightB (T2.extract (T2.size - 4) T2.size).data.toList 48).toArray⟩:ByteArray)=R:=⟨_,rfl⟩;rw[hR]
 have hRd:dl R=trimRightB ((dl T2).drop (T2.size - 4)) 48:=by
  rw[←hR];show trimRightB (dl (T2.extract (T2.size - 4) T2.size)) 48=_;rw[Gd]
 obtain⟨q,hq⟩:∃q,decide (R.size=0)=q:=⟨_,rfl⟩;obtain⟨he1,he2,he3⟩:=El R hq
 have hfr:Mq ((dl T2).drop (T2.size - 4))=if q then[48] else dl R:=by
  exact zx1
 have HF:Hid (Rb n=dl ⟨#[]⟩++((dl T2).take (T2.size - 4)++46::(if q then[48] else dl R))):=Ax (by
  unfold Rb
  rw[Hd.out,←Hp.out,A4,hfr,←Hsg.out])
 have hRl:R.size<=21:=by
  exact zwr
 clear hR hRd hq hfr Hp;cases q
 ·have he:=he3 rfl;clear he2 he3
  go_wp2
  go_ret;exact⟨Ep wE,HB.out⟩
 have he:=he2 rfl;clear he2 he3
 go_wp2
 go_ret;exact⟨Ep wE,HB.out⟩
open Go Go.RowKit Go.Lib Go.Sort Go.Shelf
theorem bP (s:ByteArray)(w:World)(hs:s.size<=200)(hR:Rd w):
 Calls Tryz.prog 174 #[.string s] w fun e w'=>e= .returned (.string ⟨(rZ (dl s)).toArray⟩)/\Below w.heap.size w w':=by
 obtain⟨m,hm⟩:=hR.ml;have c1:=countB_mul_le ⟨#[92]⟩ tG s.size s (Ak _)
 have hf:=Tryz.strings_ReplaceAll s ⟨#[92]⟩ ⟨#[92,92]⟩ m w tE hm tG (by
  have e1:(⟨#[92]⟩:ByteArray).size=1:=rfl;have e2:(⟨#[92,92]⟩:ByteArray).size=2:=rfl;rw[e1] at c1;rw[e2]
  omega)
 have er:replaceAll (dl s) [92] [92,92]=P5 92 [92,92] (dl s):=J7 92 [92,92] _ tG;obtain⟨S,hS⟩:∃S:ByteArray,(⟨(replaceAll (dl s) [92] [92,92]).toArray⟩:ByteArray)=S:=⟨_,rfl⟩;have hSd:dl S=P5 92 [92,92] (dl s):=by rw[←hS,Dj,er]
 have hSl:S.size<=400:=by
  rw[←A4,hSd,←A4] at*
  unfold P5;rw[List.length_flatMap]
  have:∀l:List UInt8,(l.map fun b=>(if b=92 then[92,92] else[b]).length).sum<=2*l.length:=fun l=>by
   induction l with
   |nil=>simp
   |cons b l ih=>
    rw[List.map_cons,List.sum_cons,Aa]
    have:(if b=92 then[92,92] else[b]).length<=2:=by split<;>simp
    omega
  have:=this (dl s)
  omega
 have e0:(⟨((replaceAll s.data.toList (⟨#[92]⟩:ByteArray).data.toList (⟨#[92,92]⟩:ByteArray).data.toList)).toArray⟩:ByteArray)=S:=hS;rw[e0] at hf;have c2:=countB_mul_le ⟨#[34]⟩ tG S.size S (Ak _)
 have hg:=fun V (hV:Below w.heap.size w V)=>Tryz.strings_ReplaceAll S ⟨#[34]⟩ ⟨#[92,34]⟩ m V tE (Ba hV hm) tG (by
  have e1:(⟨#[34]⟩:ByteArray).size=1:=rfl;have e2:(⟨#[92,34]⟩:ByteArray).size=2:=rfl;rw[e1] at c2;rw[e2]
  omega)
 obtain⟨T,hT⟩:∃T:ByteArray,(⟨(replaceAll (dl S) [34] [92,34]).toArray⟩:ByteArray)=T:=⟨_,rfl⟩;have e3:(⟨((replaceAll S.data.toList (⟨#[34]⟩:ByteArray).data.toList (⟨#[92,34]⟩:ByteArray).data.toList)).toArray⟩:ByteArray)=T:=hT;simp only[e3] at hg;have hTd:dl T=Me (dl s):=by rw[←hT,Dj,J7 34 [92,34] _ tG,hSd];rfl
 have hTl:T.size<=800:=by
  rw[←A4,←hT,Dj,J7 34 [92,34] _ tG];unfold P5;rw[List.length_flatMap]
  have:∀l:List UInt8,(l.map fun b=>(if b=34 then[92,34] else[b]).length).sum<=2*l.length:=fun l=>by
   induction l with
   |nil=>simp
   |cons b l ih=>
    rw[List.map_cons,List.sum_cons,Aa]
    have:(if b=34 then[92,34] else[b]).length<=2:=by split<;>simp
    omega
  have:=this (dl S)
  rw[A4] at this;omega
 have Hf:=Ax hf;have Hg:=Ax hg;have HT:=Ax hTd;clear hf hg hTd hT e3 e0 hS hSd er c1 c2 hR hm;go_enter Tryz.func174,Tryz.ntmps174;go_wp2_with fail;refine Hf.out.mono ?_;rintro e W ⟨rfl,hb⟩;go_wp2_with fail;refine(Hg.out W hb).mono ?_;rintro e W2 ⟨rfl,hb2⟩;have HB:=Ax (hb.trans (hb2.mono hb.size));clear hb hb2
 go_wp2
 go_ret;exact⟨Ep (by rw[Ef,Ef,HT.out,Dj];rfl),HB.out⟩
theorem qY (s:ByteArray):Ih s=I1 (dl s):=by
 unfold Ih I1;have hl:=A4 s;cases h:s.data.toList with
 |nil=>simp [dl,h]
 |cons c r=>
  have e:dl s=c::r:=h;rw[e] at hl ⊢;simp only[Aa] at hl
  have h1:decide (s.size<=12)=decide (r.length<12):=by
   rw[←hl];exact decide_eq_decide.2 tE
  have h2:Et c.toNat=Dm c:=by simp [Et,Dm]
  have h3:(!r.any fun b=>I9 b.toNat)=r.all fun b=>Dm b||Bb b:=by
   rw[List.not_any_eq_all_not];congr 1;funext b;simp [I9,Et,J9,Dm,Bb]
  simp only[h1,h2,h3]
theorem qQ (s:ByteArray):L9 s=eE (dl s):=by
 unfold L9 eE;rw[A4];congr 1;rw[List.not_any_eq_all_not];congr 1;funext b;simp only[Js,G7];by_cases h1:b.toNat<32\/126<b.toNat
 ·rw[Am h1];by_cases h2:32<=b.toNat
  ·have h3:¬b.toNat<=126:=by omega
   simp [h3]
  simp [h2]
 have h2:32<=b.toNat:=by omega
 have h3:b.toNat<=126:=by omega
 rw[An h1];simp [h2,h3]
theorem L0 (v:Vl):eZ v=Gi v.k v.n (dl v.s):=by
 have he:decide (v.s.size=0)=(dl v.s).isEmpty:=by
  rw[←A4];cases dl v.s<;>simp
 unfold eZ Gi;rw[he,qY,qQ]
def O1 (v:Vl):ByteArray:=⟨(Da v.k v.n (dl v.s)).toArray⟩
def Vl.fit (v:Vl):Prop:=v.s.size<=9223372036854775807/\ -9223372036854775808<=v.n/\v.n<=9223372036854775807
theorem Sq (v:Vl)(w:World)(hv:v.fit)(hR:Rd w):
 Calls Tryz.prog 130 #[.agg #[.int .u8 v.k,.int .i64 v.n,.string v.s]] w fun e w'=>e= .returned (.string (O1 v))/\Below w.heap.size w w':=by
 obtain⟨h1,h2,h3⟩:=hv;have hbA:Below w.heap.size w (w.alloc (.cells #[.int .u8 v.k,.int .i64 v.n,.string v.s] 35)):=(Aq w.heap.size w).alloc (Ak _) _;have hm:=oQ v h1 (w.alloc (.cells #[.int .u8 v.k,.int .i64 v.n,.string v.s] 35));have hbx:=(MapKept.heap_alloc w (.cells #[.int .u8 v.k,.int .i64 v.n,.string v.s] 35)).1;rw[L0] at hm;unfold O1 Da;obtain⟨k,n,s⟩:=v;simp only at*
 have hbb:∀V,Below (w.heap.size+1) (w.alloc (.cells #[.int .u8 k,.int .i64 n,.string s] 35)) V->V.cell? ⟨w.heap.size,0,none⟩=some (.int .u8 k)/\V.cell? ⟨w.heap.size,1,none⟩=some (.int .i64 n)/\V.cell? ⟨w.heap.size,2,none⟩=some (.string s)/\Below w.heap.size w V/\Rd V:=fun V hV=>by
  have hz:(w.alloc (.cells #[.int .u8 k,.int .i64 n,.string s] 35)).heap.size=w.heap.size+1:=by simp
  have hb:=(hV.block w.heap.size tE).trans hbx;have hbe:=hbA.trans (hV.mono tE);exact⟨by simp [World.cell?,hb],by simp [World.cell?,hb],by simp [World.cell?,hb],hbe,hR.below hbe⟩
 have Hbb:=Ax hbb;have hz:(w.alloc (.cells #[.int .u8 k,.int .i64 n,.string s] 35)).heap.size=w.heap.size+1:=by simp
 rw[hz] at hm;have Hm:=Ax hm;obtain⟨c0,c1,c2,_,_⟩:=hbb (w.alloc (.cells #[.int .u8 k,.int .i64 n,.string s] 35)) (Aq _ _);cases hmy:Gi k n (dl s) with
 |false=>
  rw[hmy] at Hm;simp only[Bool.false_eq_true,if_false];clear hm hbx hbA hbb hR hz hmy;go_enter Tryz.func130,Tryz.ntmps130;go_wp2_with fail;refine Hm.out.mono ?_;rintro e W ⟨rfl,hb⟩;have HB:=Ax (Hbb.out W hb).2.2.2.1;clear hb;exact zzh
 |true=>
  rw[hmy] at Hm;simp only[if_true];have Hmy:=Ax (O2 hmy);clear hm hbx hbA hbb hR hz hmy;go_enter Tryz.func130,Tryz.ntmps130;go_wp2_with fail;refine Hm.out.mono ?_;rintro e W ⟨rfl,hb⟩;obtain⟨d0,d1,d2,hbW,hRW⟩:=Hbb.out W hb;clear hb c0 c1 c2 Hm Hbb;have HbW:=Ax hbW;rcases Hmy.out with ⟨rfl,rfl,hs⟩|⟨rfl,hs⟩|⟨rfl,hs⟩|⟨rfl,rfl,hl,hp⟩|⟨rfl,hs,hn⟩|⟨rfl,rfl,hn⟩
  ·clear hbW hRW hs
   go_wp2
   go_ret;exact⟨rfl,HbW.out⟩
  ·have Hf:=Ax (Tryz.strconv_FormatInt_10 n h2 h3 W hRW.tab);clear hbW hRW hs;go_wp2_with fail;refine Hf.out.mono ?_;rintro e W2 ⟨rfl,q,os,hW⟩;have HB:=Ax (HbW.out.trans ((by rw[hW];exact Ti W q os:Below W.heap.size W W2).mono HbW.out.size));clear hW;exact zzh
  ·have Hf:=Ax (Z3 n W h2 h3 hRW);clear hbW hRW hs;go_wp2_with fail;refine Hf.out.mono ?_;rintro e W2 ⟨rfl,hb2⟩;have HB:=Ax (HbW.out.trans (hb2.mono HbW.out.size));clear hb2;exact zzh
  ·rw[A4] at hl;have Hf:=Ax (bP s W hl hRW);clear hbW hRW hp hl;go_wp2_with fail;refine Hf.out.mono ?_;rintro e W2 ⟨rfl,hb2⟩;have HB:=Ax (HbW.out.trans (hb2.mono HbW.out.size));clear hb2;exact zzh
  ·clear hbW hRW hs;rcases hn with rfl|rfl
   ·have Hf:=Ax (Tryz.strconv_FormatBool false W);go_wp2_with fail;refine Hf.out.mono ?_;rintro e W2 ⟨rfl,rfl⟩
    go_wp2
    go_ret;exact⟨rfl,HbW.out⟩
   have Hf:=Ax (Tryz.strconv_FormatBool true W);go_wp2_with fail;refine Hf.out.mono ?_;rintro e W2 ⟨rfl,rfl⟩
   go_wp2
   go_ret;exact⟨rfl,HbW.out⟩
  have hs12:s.size<=12:=by rw[←A4];exact(Fm hn).2.1
  clear hbW hRW hn
  go_wp2
  go_ret;exact⟨Ep (by rw[Ef];rfl),HbW.out⟩
open Go Go.RowKit Go.Lib Go.Sort Go.Shelf
def R6 (n:Nat):Bool:=decide (n<48\/57<n)
theorem pH (r:Nat)(h:128<=r):R6 r=true:=by
 have h1:r<48\/57<r:=by omega
 simp [R6,h1]
theorem pC (x:Nat)(W:World)(hx:x<=1114111):Calls Tryz.prog 239 #[.int .i32 (x:Int)] W fun e w'=>e= .returned (.bool (R6 x))/\w'=W:=by
 by_cases h1:x<48
 ·have d1:decide ((x:Int)<48)=true:=by simp;omega
  go_enter Tryz.func239,Tryz.ntmps239
  go_wp2
  go_ret;exact⟨by simp [R6,h1],rfl⟩
 have d1:decide ((x:Int)<48)=false:=by simp;omega
 by_cases h2:57<x
 ·have d2:decide ((57:Int)<(x:Int))=true:=by simp;omega
  go_enter Tryz.func239,Tryz.ntmps239
  go_wp2
  go_ret;exact⟨by simp [R6,h2],rfl⟩
 have d2:decide ((57:Int)<(x:Int))=false:=by simp;omega
 go_enter Tryz.func239,Tryz.ntmps239
 go_wp2
 go_ret;exact⟨by simp [R6,h1,h2],rfl⟩
theorem iX (s:ByteArray)(w:World):Calls Tryz.prog 218 #[.string s,.func (.func 239) #[] #[]] w fun e w'=>e= .returned (.bool (s.data.toList.any fun b=>R6 b.toNat))/\Below w.heap.size w w':=by
 rw[←Q7 R6 pH];exact Tryz.strings_ContainsFunc_runes 239 #[] (enters_of Tryz.func239 tF rfl) R6 s w fun W x hx _=>(pC x W hx).mono fun e w' ⟨he,hw⟩=>⟨he,0,hw⟩
theorem pD (s:ByteArray):Gn (dl s)=(!decide (s.size=0) && !(s.data.toList.any fun b=>R6 b.toNat)):=by
 unfold Gn
 have he:decide (s.size=0)=(dl s).isEmpty:=by
  rw[←A4];cases dl s<;>simp
 rw[he];congr 1;rw[List.not_any_eq_all_not];congr 1;funext b;simp only[R6,Bb];by_cases h1:b.toNat<48\/57<b.toNat
 ·rw[Am h1];by_cases h2:48<=b.toNat
  ·have h3:¬b.toNat<=57:=by omega
   simp [h3]
  simp [h2]
 have h2:48<=b.toNat:=by omega
 have h3:b.toNat<=57:=by omega
 rw[An h1];simp [h2,h3]
theorem Tb (s:ByteArray)(w:World):Calls Tryz.prog 215 #[.string s] w fun e w'=>e= .returned (.bool (Gn (dl s)))/\Below w.heap.size w w':=by
 rw[pD];obtain⟨q,hq⟩:∃q,decide (s.size=0)=q:=⟨_,rfl⟩;obtain⟨he1,he2,he3⟩:=El s hq;rw[hq];clear hq;have hcc:=iX s w;obtain⟨b,hb⟩:∃b,(s.data.toList.any fun b=>R6 b.toNat)=b:=⟨_,rfl⟩;rw[hb] at hcc ⊢;have Hc:=Ax hcc;clear hcc hb;cases q
 ·have he:=he3 rfl;clear he2 he3;go_enter Tryz.func215,Tryz.ntmps215;exact zxp
 have he:=he2 rfl;clear he2 he3;go_enter Tryz.func215,Tryz.ntmps215
 go_wp2
 go_ret;exact⟨Ju tH,Aq _ _⟩
def qB (w:World)(r:Except Int (Int×Int))(e:Ending)(w':World):Prop:=
 Below w.heap.size w w'/\match r with
  | .ok p=>e= .returned (.tuple #[.agg #[.int .u8 p.1,.int .i64 p.2,.string ⟨#[]⟩],.int .i64 0])
  | .error q=>∃k n s,e= .returned (.tuple #[.agg #[.int .u8 k,.int .i64 n,.string s],.int .i64 q])
theorem sQ (s:ByteArray):Lib.trimPrefix (dl s) [45]=(if(dl s).head? =some 45 then(dl s).tail else dl s):=by
 unfold Lib.trimPrefix Lib.hasPrefix;cases dl s with
 |nil=>rfl
 |cons c r=>
  exact zws
theorem sZ (s:ByteArray):Lib.hasPrefix (dl s) [45]=decide ((dl s).head? =some 45):=by
 unfold Lib.hasPrefix;cases dl s with
 |nil=>rfl
 |cons c r=>
  exact zws
def rX (V:World)(n:Int)(e:Ending)(w':World):Prop:=e= .returned (.tuple #[.int .i64 n,.nilIface])/\Below V.heap.size V w'
def sC (V:World)(e:Ending)(w':World):Prop:=∃z t N,e= .returned (.tuple #[.int .i64 z,.iface t (.pointer (some ⟨N,0,none⟩))])/\Below V.heap.size V w'
theorem qL (D:ByteArray)(hD:D.size<=10000)(V:World)(hR:Rd V):Calls Tryz.prog 216 #[.string D,.int .i64 10,.int .i64 64] V (fun e w'=>match parseIntB 64 (dl D) with
 | .ok n=>rX V n e w'
 |_=>sC V e w'):=by
 cases h:parseIntB 64 (dl D)
 case ok n=>
  refine(Tryz.strconv_ParseInt_10_at64_ok D tE n h V).mono ?_;rintro e w' ⟨he,hw⟩;refine⟨he,?_⟩;rcases hw with rfl|⟨t,rfl⟩
  ·exact Aq _ _
  exact Lib.bytesWorld_below _ _ _
 case range=>
  obtain⟨ev,h1,h2⟩:=hR.rng;refine(Tryz.strconv_ParseInt_10_at64_range D tE h ev V h1 h2).mono ?_;rintro e w' ⟨N,he,_,_,hb⟩;exact⟨_,_,N,he,hb⟩
 obtain⟨ev,h1,h2⟩:=hR.syn;refine(Any.strconv_ParseInt_10_at64_syntax Tryz.laysC174 D tE h ev V h1 h2).mono ?_;rintro e w' ⟨N,he,_,_,hb⟩;exact⟨_,_,N,he,hb⟩
structure NSt (w V:World)(k n:Int):Prop where
 res:V.heap[w.heap.size]? =some (.cells #[.int .u8 0,.int .i64 0,.string ⟨#[]⟩] 35 (0,0))
 v:V.heap[w.heap.size+1]? =some (.cells #[.int .u8 k,.int .i64 n,.string ⟨#[]⟩] 35 (0,0))
 low:Below w.heap.size w V
 rd0:Rd w
theorem NSt.rd {w V:World}{k n:Int}(h:NSt w V k n):Rd V:=h.rd0.below h.low
theorem NSt.below {w V V':World}{k n:Int}(h:NSt w V k n)(hb:Below V.heap.size V V'):NSt w V' k n:=
 ⟨(hb.block _ (lt_of_block h.res)).trans h.res,(hb.block _ (lt_of_block h.v)).trans h.v,h.low.trans (hb.mono h.low.size),h.rd0⟩
theorem NSt.cells {w V:World}{k n:Int}(h:NSt w V k n):V.cell? ⟨w.heap.size,0,none⟩=some (.int .u8 0)/\V.cell? ⟨w.heap.size,1,none⟩=some (.int .i64 0)/\V.cell? ⟨w.heap.size,2,none⟩=some (.string ⟨#[]⟩)/\
 V.cell? ⟨w.heap.size+1,0,none⟩=some (.int .u8 k)/\V.cell? ⟨w.heap.size+1,1,none⟩=some (.int .i64 n)/\V.cell? ⟨w.heap.size+1,2,none⟩=some (.string ⟨#[]⟩)/\
 (∀i,V.frozen? ⟨w.heap.size,i,none⟩=false)/\(∀i,V.frozen? ⟨w.heap.size+1,i,none⟩=false)/\w.heap.size+1<V.heap.size:=
 ⟨by simp [World.cell?,h.res],by simp [World.cell?,h.res],by simp [World.cell?,h.res],by simp [World.cell?,h.v],by simp [World.cell?,h.v],by simp [World.cell?,h.v],
  fun i=>by simp [World.frozen?,h.res],fun i=>by simp [World.frozen?,h.v],lt_of_block h.v⟩
theorem NSt.two {w V:World}{k n:Int}(h:NSt w V k n):NSt w (V.setCell ⟨w.heap.size+1,0,none⟩ (.int .u8 2)) 2 n:=
 ⟨((Bc.refl [w.heap.size+1] V).setCell (.inl tH) _|>.block _ (lt_of_block h.res) tH).trans h.res,by rw[A2 h.v];rfl,h.low.setCell tH _,h.rd0⟩
theorem aI (s:ByteArray)(w:World)(hs:s.size<=402)(hR:Rd w):
 Calls Tryz.prog 190 #[.string s] w (qB w (Pa (dl s))):=by
 obtain⟨m,hm⟩:=hR.ml;have h1:=fun V:World=>Tryz.strings_TrimPrefix s ⟨#[45]⟩ V
 obtain⟨T,hT⟩:∃T:ByteArray,(⟨(Lib.trimPrefix (dl s) [45]).toArray⟩:ByteArray)=T:=⟨_,rfl⟩;have e1:(⟨(Lib.trimPrefix s.data.toList (⟨#[45]⟩:ByteArray).data.toList).toArray⟩:ByteArray)=T:=hT;simp only[e1] at h1;have hTd:dl T=if(dl s).head? =some 45 then(dl s).tail else dl s:=by rw[←hT,Dj,sQ]
 have hTl:T.size<=402:=by
  rw[←A4,hTd]
  have:=A4 s
  split
  ·rw[List.length_tail];omega
  omega
 have h2:=fun V (hV:Below w.heap.size w V)=>Tryz.strings_Cut T ⟨#[46]⟩ m V tE (Ba hV hm)
 obtain⟨c,hc⟩:∃c,Lib.cut (dl T) [46]=c:=⟨_,rfl⟩;have e2:Lib.cut T.data.toList (⟨#[46]⟩:ByteArray).data.toList=c:=hc;simp only[e2] at h2
 have hcl:c.1.length<=402/\c.2.1.length<=402:=by
  rw[←hc]
  have:=A4 T
  unfold Lib.cut
  split
  ·simp only[List.length_take,List.length_drop];omega
  simp;omega
 obtain⟨cw,cr,cp⟩:=c;obtain⟨X,hX⟩:∃X:ByteArray,(⟨cw.toArray⟩:ByteArray)=X:=⟨_,rfl⟩;obtain⟨Y,hY⟩:∃Y:ByteArray,(⟨cr.toArray⟩:ByteArray)=Y:=⟨_,rfl⟩;have hXd:dl X=cw:=by rw[←hX]
 have hYd:dl Y=cr:=by rw[←hY]
 simp only at h2 hcl;rw[hX,hY] at h2;have hXl:X.size<=402:=by rw[←A4,hXd];exact hcl.1
 have hYl:Y.size<=402:=by rw[←A4,hYd];exact hcl.2
 obtain⟨ng,hng⟩:∃ng,decide ((dl s).head? =some 45)=ng:=⟨_,rfl⟩;have h3:=fun V:World=>Tryz.strings_HasPrefix s ⟨#[45]⟩ V
 have e3:Lib.hasPrefix s.data.toList (⟨#[45]⟩:ByteArray).data.toList=ng:=(sZ s).trans hng;simp only[e3] at h3
 have HN:Hid (Pa (dl s)=if(!Gn (dl X)||(decide (1<(dl X).length) && (dl X).head? ==some 48))||(cp && (!Gn (dl Y)||decide (4<(dl Y).length))) then .error 4
  else match parseIntB 64 (if ng then 45::(if cp then dl X++(dl Y++[48,48,48,48]).take 4 else dl X) else(if cp then dl X++(dl Y++[48,48,48,48]).take 4 else dl X)) with
   | .ok n=> .ok (if cp then 2 else 1,n)
   |_=> .error 9):=Ax (by
  unfold Pa;rw[←hTd,hc,hXd,hYd,←hng];simp only[decide_eq_true_eq]
  rfl)
 have H1:=Ax h1;have H2:=Ax h2;have H3:=Ax h3;have HR:=Ax hR;clear h1 h2 h3 hR hm hT hTd hc hX hY hXd hYd hng e1 e2 e3 hcl;obtain⟨W0,hW0⟩:∃W0,w.alloc (.cells #[.int .u8 0,.int .i64 0,.string ⟨#[]⟩] 35)=W0:=⟨_,rfl⟩;have hb0:Below w.heap.size w W0:=by rw[←hW0];exact(Aq w.heap.size w).alloc (Ak _) _
 have hbx:=(MapKept.heap_alloc w (.cells #[.int .u8 0,.int .i64 0,.string ⟨#[]⟩] 35)).1;have hz0:W0.heap.size=w.heap.size+1:=by rw[←hW0];simp
 rw[hW0] at hbx;have HW0:=Ax hW0;have Hz0:=Ax hz0;have H2':=Ax (H2.out W0 hb0);have Hb0:=Ax hb0;have Hbx:=Ax hbx;clear hW0 hb0 hbx hz0;go_enter Tryz.func190,Tryz.ntmps190;go_upto_region 1 with fail
 rw[HW0.out];go_wp2_with fail;refine(H1.out _).mono ?_;rintro e V ⟨rfl,hV⟩;obtain rfl:=hV.symm;clear hV;go_wp2_with fail;refine H2'.out.mono ?_;rintro e V ⟨rfl,nd,hV⟩;have hbV:Below W0.heap.size W0 V:=by rw[hV];exact⟨rfl,rfl,rfl,Ak _,fun _ _=>rfl⟩
 have hzV:V.heap.size=w.heap.size+1:=by rw[hV,←Hz0.out];rfl
 have hbx:=(hbV.block w.heap.size vL).trans Hbx.out;clear hV;obtain⟨W1,hW1⟩:∃W1,V.alloc (.cells #[.int .u8 1,.int .i64 0,.string ⟨#[]⟩] 35)=W1:=⟨_,rfl⟩;have hb1:Below V.heap.size V W1:=by rw[←hW1];exact(Aq V.heap.size V).alloc (Ak _) _
 have hz1:W1.heap.size=w.heap.size+2:=by rw[←hW1,World.size_alloc,hzV]
 have hby:=(MapKept.heap_alloc V (.cells #[.int .u8 1,.int .i64 0,.string ⟨#[]⟩] 35)).1;rw[hW1,hzV] at hby;have hbx1:=(hb1.block w.heap.size tE).trans hbx;have hbw1:Below w.heap.size w W1:=Hb0.out.trans ((hbV.trans (hb1.mono (by rw[hzV,Hz0.out];omega))).mono vL);have hR1:=HR.out;have HS:=Ax (And.intro hbx1 (And.intro hby (And.intro hbw1 hR1)));have HW1:=Ax hW1;have HzV:=Ax hzV;have Hz1:=Ax hz1;clear hbV hbx hb1 hz1 hby hbx1 hbw1 hR1 hW1 H2 H2' HW0 Hb0 Hbx Hz0 HR;go_upto_region 3 with fail
 rw[HW1.out];clear hzV;have hst:NSt w W1 1 0:=⟨HS.out.1,HS.out.2.1,HS.out.2.2.1,HS.out.2.2.2⟩;have Hst:=Ax hst;have Hd:=Ax (Tb X W1);clear hst HS HW1;obtain⟨dx,hdx⟩:∃dx,Gn (dl X)=dx:=⟨_,rfl⟩;rw[hdx] at HN Hd;cases dx with
 |false=>
  simp only[Bool.not_false,Bool.true_or,if_true] at HN;go_wp2_with fail;refine Hd.out.mono ?_;rintro e V ⟨rfl,hb⟩;have h1:=Hst.out.below hb;obtain⟨a0,a1,a2,b0,b1,b2,f0,f1,hlt⟩:=h1.cells;have HB:=Ax h1.low;clear h1 hb Hd Hst
  go_wp2
  refine Au (v:= .tuple #[.agg #[.int .u8 1,.int .i64 0,.string ⟨#[]⟩],.int .i64 4]) tT rfl ?_;exact zy7
 |true=>
  have hx0:0<X.size:=by
   rw[←A4];cases h:dl X with
   |nil=>rw[h] at hdx;cases hdx
   |cons=>simp
  have i0:(0:Int)<(X.size:Int):=by omega
  have hh:=Lp hx0;rw[A4,hh] at HN;have Hdy:=Ax fun V=>Tb Y V
  by_cases hz:1<X.size/\X[0].toNat=48
  ·have d1:decide ((1:Int)<(X.size:Int))=true:=by simp;omega
   have d2:((X[0].toNat:Int)==48)=true:=by simp;omega
   have hb48:X[0]=48:=UInt8.toNat_inj.1 hz.2;rw[Am hz.1,hb48] at HN;simp only[beq_self_eq_true,Bool.and_self,Bool.or_true,Bool.true_or,if_true] at HN;clear hz hb48 hh hdx;go_wp2_with fail;refine Hd.out.mono ?_;rintro e V ⟨rfl,hb⟩;have h1:=Hst.out.below hb;obtain⟨a0,a1,a2,b0,b1,b2,f0,f1,hlt⟩:=h1.cells;have HB:=Ax h1.low;clear h1 hb Hd Hst
   go_wp2
   refine Au (v:= .tuple #[.agg #[.int .u8 1,.int .i64 0,.string ⟨#[]⟩],.int .i64 4]) tT rfl ?_;exact zy7
  have hzz:(decide (1<X.size) && (some X[0]==some 48))=false:=by
   by_cases h1:1<X.size
   ·have:X[0]≠48:=fun e=>hz ⟨h1,by rw[e];rfl⟩
    simp [this]
   simp [h1]
  rw[hzz] at HN;simp only[Bool.not_true,Bool.or_false,Bool.false_or] at HN
  have d1:(decide ((1:Int)<(X.size:Int))=true/\((X[0].toNat:Int)==48)=false)\/decide ((1:Int)<(X.size:Int))=false:=by
   by_cases h1:1<X.size
   ·have:X[0].toNat≠48:=fun e=>hz ⟨h1,e⟩
    exact .inl ⟨by simp;omega,by simp;omega⟩
   exact .inr tL
  clear hz hzz hh hdx;rcases d1 with ⟨d1,d2⟩|d1
  all_goals
   cases cp with
   |false=>
    simp only[Bool.false_and,Bool.false_eq_true,if_false] at HN;go_wp2_with fail;refine Hd.out.mono ?_;rintro e V ⟨rfl,hb⟩;have h1:=Hst.out.below hb;obtain⟨a0,a1,a2,b0,b1,b2,f0,f1,hlt⟩:=h1.cells;have Hs1:=Ax h1;clear h1 hb Hd Hst;go_wp2_with fail;refine(H3.out _).mono ?_;rintro e V' ⟨rfl,hV⟩;obtain rfl:=hV.symm;clear hV;cases ng with
    |false=>
     have hDd:dl (X)=dl X:=by rfl
     have hDl:(X).size<=10000:=by omega
     have hp:=qL (X) hDl V (Hs1.out.rd);obtain⟨r,hr⟩:∃r,parseIntB 64 (dl (X))=r:=⟨_,rfl⟩;rw[hr] at hp;rw[hDd] at hr;simp only[Bool.false_eq_true,if_false] at HN;exact zzd
    |true=>
     have hDd:dl (⟨#[45]⟩++X)=45::dl X:=by rw[Ef];rfl
     have hDl:(⟨#[45]⟩++X).size<=10000:=by have e:(⟨#[45]⟩:ByteArray).size=1:=rfl;rw[ByteArray.size_append,e];omega
     have hp:=qL (⟨#[45]⟩++X) hDl V (Hs1.out.rd);obtain⟨r,hr⟩:∃r,parseIntB 64 (dl (⟨#[45]⟩++X))=r:=⟨_,rfl⟩;rw[hr] at hp;rw[hDd] at hr;simp only[if_true] at HN;exact zzd
   |true=>
    simp only[Bool.true_and,if_true] at HN;go_wp2_with fail;refine Hd.out.mono ?_;rintro e V1 ⟨rfl,hb⟩;have h1:=Hst.out.below hb;have Hst:=Ax h1;have Hdy':=Ax (Hdy.out V1);clear h1 hb Hd Hdy;obtain⟨dy,hdy⟩:∃dy,Gn (dl Y)=dy:=⟨_,rfl⟩;rw[hdy] at HN Hdy';clear hdy;cases dy with
    |false=>
     simp only[Bool.not_false,Bool.true_or,if_true] at HN;go_wp2_with fail;refine Hdy'.out.mono ?_;rintro e V ⟨rfl,hb⟩;have h1:=Hst.out.below hb;obtain⟨a0,a1,a2,b0,b1,b2,f0,f1,hlt⟩:=h1.cells;have HB:=Ax h1.low;clear h1 hb Hdy' Hst
     go_wp2
     refine Au (v:= .tuple #[.agg #[.int .u8 1,.int .i64 0,.string ⟨#[]⟩],.int .i64 4]) tT rfl ?_;exact zy7
    |true=>
     rw[A4] at HN;by_cases hy4:4<Y.size
     ·have d4:decide ((4:Int)<(Y.size:Int))=true:=by simp;omega
      rw[Am hy4] at HN;simp only[Bool.or_true,if_true] at HN;go_wp2_with fail;refine Hdy'.out.mono ?_;rintro e V ⟨rfl,hb⟩;have h1:=Hst.out.below hb;obtain⟨a0,a1,a2,b0,b1,b2,f0,f1,hlt⟩:=h1.cells;have HB:=Ax h1.low;clear h1 hb Hdy' Hst
      go_wp2
      refine Au (v:= .tuple #[.agg #[.int .u8 1,.int .i64 0,.string ⟨#[]⟩],.int .i64 4]) tT rfl ?_;exact zy7
     have d4:decide ((4:Int)<(Y.size:Int))=false:=by simp;omega
     rw[An hy4] at HN;simp only[Bool.not_true,Bool.or_false,Bool.false_eq_true,if_false] at HN
     have e4:(Y++⟨#[48,48,48,48]⟩:ByteArray).size=Y.size+4:=by
      have e:(⟨#[48,48,48,48]⟩:ByteArray).size=4:=rfl;rw[ByteArray.size_append,e]
     have i4:(4:Int)<=((Y++⟨#[48,48,48,48]⟩:ByteArray).size:Int):=by omega
     have i5:4<=(Y++⟨#[48,48,48,48]⟩:ByteArray).size:=by omega
     have hexd:dl ((Y++⟨#[48,48,48,48]⟩:ByteArray).extract 0 4)=(dl Y++[48,48,48,48]).take 4:=by
      rw[Fg,Ef];rfl
     have hexl:((Y++⟨#[48,48,48,48]⟩:ByteArray).extract 0 4).size<=4:=by
      rw[←A4,hexd,List.length_take];omega
     have Hexd:=Ax hexd;clear e4 hexd;go_wp2_with fail;refine Hdy'.out.mono ?_;rintro e V1 ⟨rfl,hb⟩;have h1:=Hst.out.below hb;obtain⟨a0,a1,a2,b0,b1,b2,f0,f1,hlt⟩:=h1.cells;obtain⟨V,hV⟩:∃V,V1.setCell ⟨w.heap.size+1,0,none⟩ (.int .u8 2)=V:=⟨_,rfl⟩;have h2:NSt w V 2 0:=by rw[←hV];exact h1.two
     have Hs1:=Ax h2;have HV:=Ax hV;clear h1 h2 hb Hdy' Hst hV;go_upto_region 7 with fail
     rw[HV.out];clear HV a0 a1 a2 b0 b1 b2 f0 f1;go_wp2_with fail;refine(H3.out _).mono ?_;rintro e V' ⟨rfl,hV⟩;obtain rfl:=hV.symm;clear hV;cases ng with
     |false=>
      have hDd:dl (X++(Y++⟨#[48,48,48,48]⟩).extract 0 4)=dl X++(dl Y++[48,48,48,48]).take 4:=by rw[Ef,Hexd.out]
      have hDl:(X++(Y++⟨#[48,48,48,48]⟩).extract 0 4).size<=10000:=by(rw[ByteArray.size_append];omega)
      have hp:=qL (X++(Y++⟨#[48,48,48,48]⟩).extract 0 4) hDl V (Hs1.out.rd);obtain⟨r,hr⟩:∃r,parseIntB 64 (dl (X++(Y++⟨#[48,48,48,48]⟩).extract 0 4))=r:=⟨_,rfl⟩;rw[hr] at hp;rw[hDd] at hr;simp only[Bool.false_eq_true,if_false] at HN;exact zzc
     |true=>
      have hDd:dl (⟨#[45]⟩++(X++(Y++⟨#[48,48,48,48]⟩).extract 0 4))=45::(dl X++(dl Y++[48,48,48,48]).take 4):=by rw[Ef,Ef,Hexd.out];rfl
      have hDl:(⟨#[45]⟩++(X++(Y++⟨#[48,48,48,48]⟩).extract 0 4)).size<=10000:=by(have e0:(⟨#[45]⟩:ByteArray).size=1:=rfl;rw[ByteArray.size_append,ByteArray.size_append,e0];omega)
      have hp:=qL (⟨#[45]⟩++(X++(Y++⟨#[48,48,48,48]⟩).extract 0 4)) hDl V (Hs1.out.rd);obtain⟨r,hr⟩:∃r,parseIntB 64 (dl (⟨#[45]⟩++(X++(Y++⟨#[48,48,48,48]⟩).extract 0 4)))=r:=⟨_,rfl⟩;rw[hr] at hp;rw[hDd] at hr;simp only[if_true] at HN;exact zzc
open Go Go.RowKit Go.Lib Go.Sort Go.Shelf
theorem Xv {l:List UInt8}(h:l.length<=1):Cb l=[]:=by
 match l,h with
 |[],_=>rfl
 |[_],_=>rfl
 |_::_::_,h=>simp at h
theorem Mv (l:List UInt8)(c:UInt8):byteCells l++[.int .u8 (c.toNat:Int)]=byteCells (l++[c]):=by simp [byteCells]
theorem Ob (l:List UInt8):(byteCells l).length=l.length:=by simp [byteCells]
theorem dD (s:ByteArray)(w:World)(h1:1<=s.size)(hs:s.size<=402):
 Calls Tryz.prog 211 #[.string s] w fun e w'=>e= .returned (.tuple #[.agg #[.int .u8 3,.int .i64 0,.string ⟨(Cb (dl s).tail).toArray⟩],.int .i64 0])/\Below w.heap.size w w':=by
 obtain⟨W0,hW0⟩:∃W0,w.alloc (.cells #[.int .u8 0,.int .i64 0,.string ⟨#[]⟩] 35)=W0:=⟨_,rfl⟩;have hb0:Below w.heap.size w W0:=by rw[←hW0];exact(Aq w.heap.size w).alloc (Ak _) _
 have hbx:=(MapKept.heap_alloc w (.cells #[.int .u8 0,.int .i64 0,.string ⟨#[]⟩] 35)).1;have hz0:W0.heap.size=w.heap.size+1:=by rw[←hW0];simp
 rw[hW0] at hbx;obtain⟨W1,hW1⟩:∃W1,W0.alloc (.cells #[.pointer none,.slice none 0 0] 128)=W1:=⟨_,rfl⟩;have hb1:Below (w.heap.size+1) W0 W1:=by rw[←hW1,←hz0];exact(Aq W0.heap.size W0).alloc (Ak _) _
 have hB:=fresh_isBuilder 128 5 W0;rw[hW1,hz0] at hB;have hz1:w.heap.size+1<W1.heap.size:=by rw[←hW1,World.size_alloc];omega
 have HW0:=Ax hW0;have HW1:=Ax hW1;have Hz0:=Ax hz0;have HI:Hid (IsBuilder 128 5 (w.heap.size+1) (w.heap.size+1) (byteCells []) W1/\Below (w.heap.size+1) W0 W1):=Ax ⟨hB,hb1⟩;have Hb0:=Ax hb0;have Hbx:=Ax hbx;clear hW0 hb0 hbx hz0 hW1 hb1 hB;go_enter Tryz.func211,Tryz.ntmps211;go_upto_region 1 with fail
 rw[HW0.out];go_upto_region 2 with fail
 rw[HW1.out];rw[Hz0.out]
 go_wp2
 go_loopw [5] (fun v5 wr=>∃(i:Nat) (L:List UInt8),1<=i/\i<=s.size/\L.length+1<=i/\v5= .int .i64 i/\w.heap.size+1<wr.heap.size/\Hid (Cb (dl s).tail=L++Cb ((dl s).drop i))/\Hid (IsBuilder 128 5 (w.heap.size+1) (w.heap.size+1) (byteCells L) wr/\Below (w.heap.size+1) W0 wr)) (fun v5 _=>s.size - (intOf v5).toNat)
 case atStart=>exact⟨1,[],by omega,h1,by simp,rfl,hz1,by rw[List.drop_one];rfl,HI.out⟩
 clear HI hz1;obtain⟨i,L,hi1,his,hLi,rfl,hzr,hin,hq⟩:=hrel;by_cases hlt:i+1<s.size
 ·have l1:i<(dl s).length:=by rw[A4];omega
  have l2:i+1<(dl s).length:=by rw[A4];exact hlt
  have hdr:(dl s).drop i=s[i]::s[i+1]::(dl s).drop (i+2):=by
   rw[List.drop_eq_getElem_cons l1,List.drop_eq_getElem_cons l2];rfl
  rw[hdr] at hin;have i1:(i:Int)<(s.size:Int) - 1:=by omega
  have i2:(0:Int)<=(i:Int):=by omega
  have i3:(i:Int)<(s.size:Int):=by omega
  by_cases hc:s[i]=92
  ·have hc2:((s[i].toNat:Int)==92)=true:=by rw[hc];rfl
   have i4:(i:Int)+1<(s.size:Int):=by omega
   have hn:Cb (dl s).tail=(L++[s[i+1]])++Cb ((dl s).drop (i+2)):=by
    rw[hin.out,Cb,Ap hc,List.append_assoc];rfl
   have Hw:=Ax (Wc (w.heap.size+1) (w.heap.size+1) (byteCells L) (s[i+1].toNat:Int) wr hq.out.1 (by rw[Ob];omega) tE);have Hq:=Ax hq.out.2;have Hn:=Ax hn;clear hq hin hdr hc hn;go_wp2_with fail;refine Hw.out.mono ?_;rintro e V ⟨rfl,hB,hb⟩;rw[Mv] at hB;have hzV:w.heap.size+1<V.heap.size:=by have:=hb.size;omega
   have HN:=Ax (And.intro hB (Hq.out.trans hb));clear hB hb Hw Hq
   go_wp2
   go_roundw
   case rel=>exact⟨i+2,L++[s[i+1]],by omega,by omega,by simp;omega,by go_num,hzV,Hn.out,HN.out⟩
   case measure=>simp [intOf];omega
  have hc2:((s[i].toNat:Int)==92)=false:=by
   have:s[i].toNat≠92:=fun e=>hc (UInt8.toNat_inj.1 e)
   simp;omega
  have hn:Cb (dl s).tail=(L++[s[i]])++Cb ((dl s).drop (i+1)):=by
   rw[hin.out,Cb,Ao hc,List.append_assoc,List.drop_eq_getElem_cons l2];rfl
  have Hw:=Ax (Wc (w.heap.size+1) (w.heap.size+1) (byteCells L) (s[i].toNat:Int) wr hq.out.1 (by rw[Ob];omega) tE);have Hq:=Ax hq.out.2;have Hn:=Ax hn;clear hq hin hdr hc hn;go_wp2_with fail;refine Hw.out.mono ?_;rintro e V ⟨rfl,hB,hb⟩;rw[Mv] at hB;have hzV:w.heap.size+1<V.heap.size:=by have:=hb.size;omega
  have HN:=Ax (And.intro hB (Hq.out.trans hb));clear hB hb Hw Hq
  go_wp2
  go_roundw
  case rel=>exact⟨i+1,L++[s[i]],by omega,by omega,by simp;omega,by go_num,hzV,Hn.out,HN.out⟩
  case measure=>simp [intOf];omega
 have hn:Cb (dl s).tail=L:=by rw[hin.out,Xv vN,List.append_nil]
 have i1:¬(i:Int)<(s.size:Int) - 1:=by omega
 have i2:decide ((i:Int)<(s.size:Int) - 1)=false:=by simp;omega
 have Hs:=Ax (Tryz.Builder_String_any (w.heap.size+1) (w.heap.size+1) L wr hq.out.1 tE);have Hq:=Ax hq.out.2;have Hn:=Ax hn;clear hq hin hn;go_wp2_with fail;refine Hs.out.mono ?_;rintro e V ⟨rfl,hb⟩;have hbx:=((Hq.out.trans hb).block w.heap.size tE).trans Hbx.out;have a0:V.cell? ⟨w.heap.size,0,none⟩=some (.int .u8 0):=by simp [World.cell?,hbx]
 have a1:V.cell? ⟨w.heap.size,1,none⟩=some (.int .i64 0):=by simp [World.cell?,hbx]
 have a2:V.cell? ⟨w.heap.size,2,none⟩=some (.string ⟨#[]⟩):=by simp [World.cell?,hbx]
 have f0:∀i,V.frozen? ⟨w.heap.size,i,none⟩=false:=fun i=>by simp [World.frozen?,hbx]
 have HB:Hid (Below w.heap.size w V):=Ax (Hb0.out.trans ((Hq.out.trans hb).mono tE));clear hbx hb Hs Hq
 go_wp2
 refine Au (v:= .tuple #[.agg #[.int .u8 3,.int .i64 0,.string ⟨L.toArray⟩],.int .i64 0]) (by simp [results,Tryz.results211,go_sem, *]) rfl ?_;rw[Hn.out];exact⟨rfl,((HB.out.setCell tH _).setCell tH _).setCell tH _⟩
open Go Go.RowKit Go.Lib Go.Sort Go.Shelf
def kS (w:World)(r:Except Int (Int×Int×List UInt8))(e:Ending)(w':World):Prop:=
 Below w.heap.size w w'/\match r with
  | .ok p=>e= .returned (.tuple #[.agg #[.int .u8 p.1,.int .i64 p.2.1,.string ⟨p.2.2.toArray⟩],.int .i64 0])
  | .error q=>∃k n s,e= .returned (.tuple #[.agg #[.int .u8 k,.int .i64 n,.string s],.int .i64 q])
def Z4 (l:List UInt8):Except Int (Int×Int×List UInt8):=
 if l=[116,114,117,101] then .ok (4,1,[]) else if l=[102,97,108,115,101] then .ok (4,0,[]) else if l=[110,117,108,108] then .ok (0,0,[]) else .error 4
theorem Uu (b:Bool)(w:World):Calls Tryz.prog 236 #[.bool b] w fun e w'=>e= .returned (.agg #[.int .u8 4,.int .i64 (if b then 1 else 0),.string ⟨#[]⟩])/\Below w.heap.size w w':=by
 cases b
 all_goals
  go_enter Tryz.func236,Tryz.ntmps236
  go_wp2
 ·refine Au (v:= .agg #[.int .u8 4,.int .i64 0,.string ⟨#[]⟩]) (by simp [results,Tryz.results236,go_sem]) rfl ⟨rfl,?_⟩;exact(Aq _ _).alloc (Ak _) _
 refine Au (v:= .agg #[.int .u8 4,.int .i64 1,.string ⟨#[]⟩]) (by simp [results,Tryz.results236,go_sem]) rfl ⟨rfl,?_⟩;exact(Aq _ _).alloc (Ak _) _
theorem kJ (s:ByteArray)(w:World):Calls Tryz.prog 212 #[.string s] w (kS w (Z4 (dl s))):=by
 obtain⟨W0,hW0⟩:∃W0,w.alloc (.cells #[.int .u8 0,.int .i64 0,.string ⟨#[]⟩] 35)=W0:=⟨_,rfl⟩;have hb0:Below w.heap.size w W0:=by rw[←hW0];exact(Aq w.heap.size w).alloc (Ak _) _
 have hbx:=(MapKept.heap_alloc w (.cells #[.int .u8 0,.int .i64 0,.string ⟨#[]⟩] 35)).1;have hz0:W0.heap.size=w.heap.size+1:=by rw[←hW0];simp
 rw[hW0] at hbx
 have HC:Hid (∀V,Below W0.heap.size W0 V->V.cell? ⟨w.heap.size,0,none⟩=some (.int .u8 0)/\V.cell? ⟨w.heap.size,1,none⟩=some (.int .i64 0)/\V.cell? ⟨w.heap.size,2,none⟩=some (.string ⟨#[]⟩)/\(∀i,V.frozen? ⟨w.heap.size,i,none⟩=false)/\Below w.heap.size w V):=Ax fun V hV=>by
  have hb:=(hV.block w.heap.size tE).trans hbx;exact⟨by simp [World.cell?,hb],by simp [World.cell?,hb],by simp [World.cell?,hb],fun i=>by simp [World.frozen?,hb],hb0.trans (hV.mono tE)⟩
 have HW0:=Ax hW0;clear hW0 hb0 hbx hz0;have H0:=HC.out W0 (Aq _ _);by_cases h1:dl s=[116,114,117,101]
 ·have e:s=⟨#[116,114,117,101]⟩:=Cn h1;subst e;have Ht:=Ax (Uu true W0);clear h1 H0;go_enter Tryz.func212,Tryz.ntmps212;go_upto_region 1 with fail
  rw[HW0.out];go_wp2_with fail;refine Ht.out.mono ?_;rintro e V ⟨rfl,hb⟩;obtain⟨a0,a1,a2,f0,hB⟩:=HC.out V hb;have HB:=Ax hB;clear hb hB Ht HC
  go_wp2
  refine Au (v:= .tuple #[.agg #[.int .u8 4,.int .i64 1,.string ⟨#[]⟩],.int .i64 0]) uT rfl ?_;exact zy0
 by_cases h2:dl s=[102,97,108,115,101]
 ·have e:s=⟨#[102,97,108,115,101]⟩:=Cn h2;subst e;have Ht:=Ax (Uu false W0);clear h1 h2 H0;go_enter Tryz.func212,Tryz.ntmps212;go_upto_region 1 with fail
  rw[HW0.out];go_wp2_with fail;refine Ht.out.mono ?_;rintro e V ⟨rfl,hb⟩;obtain⟨a0,a1,a2,f0,hB⟩:=HC.out V hb;have HB:=Ax hB;clear hb hB Ht HC
  go_wp2
  refine Au (v:= .tuple #[.agg #[.int .u8 4,.int .i64 0,.string ⟨#[]⟩],.int .i64 0]) uT rfl ?_;exact zy0
 by_cases h3:dl s=[110,117,108,108]
 ·have e:s=⟨#[110,117,108,108]⟩:=Cn h3;subst e;obtain⟨a0,a1,a2,f0,hB⟩:=H0;have HB:=Ax hB;clear h1 h2 h3 hB HC;go_enter Tryz.func212,Tryz.ntmps212;go_upto_region 1 with fail
  rw[HW0.out]
  go_wp2
  refine Au (v:= .tuple #[.agg #[.int .u8 0,.int .i64 0,.string ⟨#[]⟩],.int .i64 0]) uT rfl ?_;exact zy0
 have hw:Z4 (dl s)= .error 4:=by unfold Z4;rw[Ao h1,Ao h2,Ao h3]
 have t1:(s.toList==[116,114,117,101])=false:=by rw[Az];simpa using h1
 have t2:(s.toList==[102,97,108,115,101])=false:=by rw[Az];simpa using h2
 have t3:(s.toList==[110,117,108,108])=false:=by rw[Az];simpa using h3
 obtain⟨a0,a1,a2,f0,hB⟩:=H0;have HB:=Ax hB;have Hw:=Ax hw;clear h1 h2 h3 hB HC hw;go_enter Tryz.func212,Tryz.ntmps212;go_upto_region 1 with fail
 rw[HW0.out]
 go_wp2
 refine Au (v:= .tuple #[.agg #[.int .u8 0,.int .i64 0,.string ⟨#[]⟩],.int .i64 4]) uT rfl ?_;rw[Hw.out];exact⟨((HB.out.setCell tH _).setCell tH _).setCell tH _,_,_,_,rfl⟩
theorem mU (s:ByteArray)(w:World)(h1:1<=s.size)(hs:s.size<=402):Calls Tryz.prog 210 #[.string s] w fun e w'=>e= .returned (.tuple #[.agg #[.int .u8 5,.int .i64 0,.string ⟨(dl s).tail.toArray⟩],.int .i64 0])/\Below w.heap.size w w':=by
 have i1:(1:Int)<=(s.size:Int):=by omega
 have he:(⟨(dl s).tail.toArray⟩:ByteArray)=s.extract 1 s.size:=Cn (by rw[Dj,Gd,List.drop_one]);rw[he];clear he;go_enter Tryz.func210,Tryz.ntmps210
 go_wp2
 refine Au (v:= .tuple #[.agg #[.int .u8 5,.int .i64 0,.string (s.extract 1 s.size)],.int .i64 0]) (by simp [results,Tryz.results210,go_sem]) rfl ⟨rfl,?_⟩;exact(Aq _ _).alloc (Ak _) _
def jA:List (Int×Value):=[(34,.agg #[.func (.func 211) #[] #[]]),(35,.agg #[.func (.func 210) #[] #[]]),(116,.agg #[.func (.func 212) #[] #[]]),(102,.agg #[.func (.func 212) #[] #[]]),(110,.agg #[.func (.func 212) #[] #[]])]
theorem Rx (w:World):Calls Tryz.prog 189 #[] w fun e w'=>∃b,e= .returned (.map (some b))/\Jn .u8 w' b jA/\Below w.heap.size w w':=by
 have hmm:= @run_makeMap Tryz.prog;have m0:Jn .u8 (w.alloc (.map #[] 0)) w.heap.size []:=Jn.new w;obtain⟨w1,r1,m1,o1,z1⟩:=Ck (P:=Tryz.prog) (t:=272) Tryz.underlying272 Tryz.underlying5 m0 34 (.agg #[.func (.func 211) #[] #[]]);obtain⟨w2,r2,m2,o2,z2⟩:=Ck (P:=Tryz.prog) (t:=272) Tryz.underlying272 Tryz.underlying5 m1 35 (.agg #[.func (.func 210) #[] #[]]);obtain⟨w3,r3,m3,o3,z3⟩:=Ck (P:=Tryz.prog) (t:=272) Tryz.underlying272 Tryz.underlying5 m2 116 (.agg #[.func (.func 212) #[] #[]]);obtain⟨w4,r4,m4,o4,z4⟩:=Ck (P:=Tryz.prog) (t:=272) Tryz.underlying272 Tryz.underlying5 m3 102 (.agg #[.func (.func 212) #[] #[]]);obtain⟨w5,r5,m5,o5,z5⟩:=Ck (P:=Tryz.prog) (t:=272) Tryz.underlying272 Tryz.underlying5 m4 110 (.agg #[.func (.func 212) #[] #[]]);have HM:Hid (Jn .u8 w5 w.heap.size jA):=Ax m5;have HB:Hid (Below w.heap.size w w5):=Ax (((((((Bc.refl [] w).alloc (.map #[] 0)).step o1 tH).step o2 tH).step o3 tH).step o4 tH).step o5 tH).below;clear m0 m1 m2 m3 m4 m5 o1 o2 o3 o4 o5 z1 z2 z3 z4 z5;go_enter Tryz.func189,Tryz.ntmps189
 go_wp2
 go_ret;exact⟨_,rfl,HM.out,HB.out⟩
open Go Go.RowKit Go.Lib Go.Sort Go.Shelf
theorem aZ {c:UInt8}{r:List UInt8}(h:c=116\/c=102\/c=110):Eu (c::r)=Z4 (c::r):=by
 unfold Z4;rcases h with rfl|rfl|rfl
 ·by_cases h:r=[114,117,101]
  ·subst h;rfl
  rw[Ao uB,Ao tH,Ao tH]
  show(if r=[114,117,101] then _ else _)=_
  rw[Ao h]
 ·by_cases h:r=[97,108,115,101]
  ·subst h;rfl
  rw[Ao tH,Ao uB,Ao tH]
  show(if r=[97,108,115,101] then _ else _)=_
  rw[Ao h]
 by_cases h:r=[117,108,108]
 ·subst h;rfl
 rw[Ao tH,Ao tH,Ao uB]
 show(if r=[117,108,108] then _ else _)=_
 rw[Ao h]
theorem Qj {l:List UInt8}{n:Int}(h:parseIntB 64 l= .ok n): -9223372036854775808<=n/\n<=9223372036854775807:=by
 have e63:(2:Nat)^(64 - 1)=9223372036854775808:=by decide
 cases l with
 |nil=>cases h
 |cons c r=>
  unfold parseIntB at h;simp only[e63] at h;generalize parseUintB 64 _=z at h;cases z
  case range=>cases h
  case ok u=>
   simp only at h
   split at h
   ·cases h
   split at h
   ·cases h
   injection h with h;subst h
   split<;>omega
  cases h
theorem Oz (l:List UInt8):(Cb l).length<=l.length:=by
 match l with
 |[]=>simp [Cb]
 |[_]=>simp [Cb]
 |c::y::r=>
  have h1:=Oz r;have h2:=Oz (y::r);rw[Cb]
  split<;>simp only[Aa] at* <;>omega
def oZ (m:Nat):Except Int (Int×Int×List UInt8)->Prop
 | .ok p=> -9223372036854775808<=p.2.1/\p.2.1<=9223372036854775807/\p.2.2.length<=m
 | .error q=>q=4\/q=9
theorem mT (m:Nat)(x:List UInt8):oZ m ((Pa x).map fun p=>(p.1,p.2,([]:List UInt8))):=by
 cases hx:Pa x with
 |error q=>exact Ve hx
 |ok p=>
  have hp: -9223372036854775808<=p.2/\p.2<=9223372036854775807:=by
   unfold Pa at hx;simp only at hx;generalize cut (if x.head? =some 45 then x.tail else x) [46]=c at hx;by_cases hc:((!Gn c.1||(decide (1<c.1.length) && c.1.head? ==some 48))||(c.2.2 && (!Gn c.2.1||decide (4<c.2.1.length))))=true
   ·rw[Ap hc] at hx;cases hx
   rw[Ao hc] at hx;generalize hz:parseIntB 64 _=z at hx;cases z
   case ok n=>
    injection hx with hx;subst hx;exact Qj hz
   all_goals cases hx
  exact⟨hp.1,hp.2,Nat.zero_le _⟩
theorem Wh (l:List UInt8):oZ l.length (Eu l):=by
 unfold Eu
 split
 ·rename_i r
  have:=Oz r
  refine⟨?_,?_,?_⟩
  ·show(-9223372036854775808:Int)<=0;omega
  ·show(0:Int)<=9223372036854775807;omega
  show(Cb r).length<=_
  rw[Aa];omega
 ·refine⟨?_,?_,?_⟩
  ·show(-9223372036854775808:Int)<=0;omega
  ·show(0:Int)<=9223372036854775807;omega
  exact Nat.le_succ _
 ·exact zwv
 ·exact zwv
 ·exact zwv
 exact mT _ _
def iD (c:UInt8):Nat:=if c=34 then 211 else if c=35 then 210 else if c=116\/c=102\/c=110 then 212 else 190
def fE (c:UInt8):Bool:=decide (c=34\/c=35\/c=116\/c=102\/c=110)
theorem fU (c:UInt8):aE jA (c.toNat:Int)=if fE c then some (.agg #[.func (.func (iD c)) #[] #[]]) else none:=by
 have key:∀c:UInt8,aE jA (c.toNat:Int)=if fE c then some (.agg #[.func (.func (iD c)) #[] #[]]) else none:=by
  intro c;by_cases h1:c=34
  ·subst h1;rfl
  by_cases h2:c=35
  ·subst h2;rfl
  by_cases h3:c=116
  ·subst h3;rfl
  by_cases h4:c=102
  ·subst h4;rfl
  by_cases h5:c=110
  ·subst h5;rfl
  have hn:fE c=false:=by simp [fE,h1,h2,h3,h4,h5]
  rw[hn]
  have e:∀k:UInt8,c≠k->(((k.toNat:Int))==(c.toNat:Int))=false:=fun k hk=>by
   have:k.toNat≠c.toNat:=fun q=>hk (UInt8.toNat_inj.1 q).symm
   simp;omega
  have e1:=e 34 h1;have e2:=e 35 h2;have e3:=e 116 h3;have e4:=e 102 h4;have e5:=e 110 h5;unfold aE jA;simp only[List.find?_cons];rw[show((34:Int)==(c.toNat:Int))=false from e1,show((35:Int)==(c.toNat:Int))=false from e2,show((116:Int)==(c.toNat:Int))=false from e3,show((102:Int)==(c.toNat:Int))=false from e4,show((110:Int)==(c.toNat:Int))=false from e5];rfl
 exact key c
theorem jK (s:ByteArray)(w:World)(h1:0<s.size)(hs:s.size<=402)(hR:Rd w):Calls Tryz.prog (iD s[0]) #[.string s] w (kS w (Eu (dl s))):=by
 have hd:∃r,dl s=s[0]::r:=by
  have l1:0<(dl s).length:=by rw[A4];omega
  refine⟨(dl s).drop 1,?_⟩;exact zw2
 obtain⟨r,hr⟩:=hd;obtain⟨c,hc⟩:∃c,s[0]=c:=⟨_,rfl⟩;rw[hc] at hr ⊢;unfold iD;by_cases a1:c=34
 ·subst a1;rw[Ap rfl];refine(dD s w tE hs).mono ?_;rintro e w' ⟨rfl,hb⟩;rw[hr];exact⟨hb,rfl⟩
 rw[Ao a1];by_cases a2:c=35
 ·subst a2;rw[Ap rfl];refine(mU s w tE hs).mono ?_;rintro e w' ⟨rfl,hb⟩;rw[hr];exact⟨hb,rfl⟩
 rw[Ao a2];by_cases a3:c=116\/c=102\/c=110
 ·rw[Ap a3,hr,aZ a3,←hr];exact kJ s w
 rw[Ao a3,hr,Wj ⟨a1,a2,fun e=>a3 (.inl e),fun e=>a3 (.inr (.inl e)),fun e=>a3 (.inr (.inr e))⟩,←hr];refine(aI s w hs hR).mono ?_;rintro e w' ⟨hb,he⟩;refine⟨hb,?_⟩;cases hn:Pa (dl s) with
 |ok p=>rw[hn] at he;exact he
 |error q=>rw[hn] at he;exact he
theorem lU {W w1:World}(hb:Below W.heap.size W w1):(∀b o,b<W.heap.size->w1.cell? ⟨b,o,none⟩=W.cell? ⟨b,o,none⟩)/\(∀b o,b<W.heap.size->w1.frozen? ⟨b,o,none⟩=W.frozen? ⟨b,o,none⟩):=
 ⟨fun b o h=>hb.cell (p:=⟨b,o,none⟩) h,fun b o h=>hb.frozen (p:=⟨b,o,none⟩) h⟩
structure PSt (w V:World)(p:Nat)(fv:Value):Prop where
 res:V.heap[w.heap.size]? =some (.cells #[.int .u8 0,.int .i64 0,.string ⟨#[]⟩] 35 (0,0))
 box:V.heap[p]? =some (.cells #[fv] 270 (0,0))
 lt:w.heap.size<p
 low:Below w.heap.size w V
theorem PSt.below {w V V':World}{p:Nat}{fv:Value}(h:PSt w V p fv)(hb:Below V.heap.size V V'):PSt w V' p fv:=
 ⟨(hb.block _ (lt_of_block h.res)).trans h.res,(hb.block _ (lt_of_block h.box)).trans h.box,h.lt,h.low.trans (hb.mono h.low.size)⟩
theorem PSt.cells {w V:World}{p:Nat}{fv:Value}(h:PSt w V p fv):V.cell? ⟨w.heap.size,0,none⟩=some (.int .u8 0)/\V.cell? ⟨w.heap.size,1,none⟩=some (.int .i64 0)/\V.cell? ⟨w.heap.size,2,none⟩=some (.string ⟨#[]⟩)/\
 (∀i,V.frozen? ⟨w.heap.size,i,none⟩=false)/\V.cell? ⟨p,0,none⟩=some fv/\V.frozen? ⟨p,0,none⟩=false/\w.heap.size<V.heap.size/\p<V.heap.size:=
 ⟨by simp [World.cell?,h.res],by simp [World.cell?,h.res],by simp [World.cell?,h.res],fun i=>by simp [World.frozen?,h.res],by simp [World.cell?,h.box],by simp [World.frozen?,h.box],lt_of_block h.res,lt_of_block h.box⟩
theorem PSt.store {w V:World}{p:Nat}{fv:Value}(h:PSt w V p fv)(u:Value):PSt w (V.setCell ⟨p,0,none⟩ u) p u:=
 ⟨((Bc.refl [p] V).setCell (.inl tH) _|>.block _ (lt_of_block h.res) (by simp;have:=h.lt;omega)).trans h.res,by rw[A2 h.box];rfl,h.lt,h.low.setCell (by have:=h.lt;simp;omega) _⟩
theorem PSt.after {w W0 V:World}(hbx:W0.heap[w.heap.size]? =some (.cells #[.int .u8 0,.int .i64 0,.string ⟨#[]⟩] 35 (0,0)))(hB:Below w.heap.size w W0)(hz:W0.heap.size=w.heap.size+1)(hb:Below W0.drew.heap.size W0.drew V)(fv:Value):
 PSt w (V.alloc (.cells #[fv] 270)) V.heap.size fv:=by
 have hs:W0.heap.size<=V.heap.size:=hb.size;have h1:=(hb.block w.heap.size (by show w.heap.size<W0.heap.size;omega)).trans hbx;have hbA:Below V.heap.size V (V.alloc (.cells #[fv] 270)):=(Aq V.heap.size V).alloc (Ak _) _;have hb':Below w.heap.size w V:=hB.trans (⟨hb.os,hb.tape,hb.output,hb.size,fun k hk=>hb.block k (by show k<W0.heap.size;omega)⟩:Below w.heap.size W0 V);exact⟨(hbA.block _ tE).trans h1,(MapKept.heap_alloc V _).1,by omega,hb'.trans (hbA.mono tE)⟩
theorem PSt.before {w W0 V:World}(hbx:W0.heap[w.heap.size]? =some (.cells #[.int .u8 0,.int .i64 0,.string ⟨#[]⟩] 35 (0,0)))(hB:Below w.heap.size w W0)(hz:W0.heap.size=w.heap.size+1)
 (hb:Below (W0.alloc (.cells #[.nilFunc] 270)).drew.heap.size (W0.alloc (.cells #[.nilFunc] 270)).drew V) (fv:Value):PSt w (V.setCell ⟨W0.heap.size,0,none⟩ fv) W0.heap.size fv:=by
 have hbA:Below W0.heap.size W0 (W0.alloc (.cells #[.nilFunc] 270)):=(Aq W0.heap.size W0).alloc (Ak _) _;have hzA:(W0.alloc (.cells #[.nilFunc] 270)).drew.heap.size=W0.heap.size+1:=by show(W0.alloc _).heap.size=_;simp
 have h1:=(hb.block w.heap.size (by rw[hzA];omega)).trans ((hbA.block _ tE).trans hbx);have h2:=(hb.block W0.heap.size (by rw[hzA];omega)).trans (MapKept.heap_alloc W0 (.cells #[.nilFunc] 270)).1;have hb':Below w.heap.size w V:=(hB.trans (hbA.mono tE)).trans (⟨hb.os,hb.tape,hb.output,hb.size,fun k hk=>hb.block k (by rw[hzA];omega)⟩:Below w.heap.size (W0.alloc (.cells #[.nilFunc] 270)) V);have h:PSt w V W0.heap.size .nilFunc:=⟨h1,h2,by omega,hb'⟩;exact h.store fv
def B9 (w:World)(r:Except Int (Int×Int×List UInt8))(e:Ending)(w':World):Prop:=
 Below w.heap.size w w'/\match r with
  | .ok p=>e= .returned (.tuple #[.agg #[.int .u8 p.1,.int .i64 p.2.1,.string ⟨p.2.2.toArray⟩],.int .i64 0])
  | .error q=>e= .returned (.tuple #[.agg #[.int .u8 0,.int .i64 0,.string ⟨#[]⟩],.int .i64 q])
theorem Vo (s:ByteArray)(w:World)(hs:s.size<=9223372036854775807)(hR:Rd w):
 Calls Tryz.prog 155 #[.string s] w (B9 w (D2 (dl s))):=by
 obtain⟨W0,hW0⟩:∃W0,w.alloc (.cells #[.int .u8 0,.int .i64 0,.string ⟨#[]⟩] 35)=W0:=⟨_,rfl⟩;have hb0:Below w.heap.size w W0:=by rw[←hW0];exact(Aq w.heap.size w).alloc (Ak _) _
 have hbx:=(MapKept.heap_alloc w (.cells #[.int .u8 0,.int .i64 0,.string ⟨#[]⟩] 35)).1;have hz0:W0.heap.size=w.heap.size+1:=by rw[←hW0];simp
 rw[hW0] at hbx;have HW0:=Ax hW0;have a0:W0.cell? ⟨w.heap.size,0,none⟩=some (.int .u8 0):=by simp [World.cell?,hbx]
 have a1:W0.cell? ⟨w.heap.size,1,none⟩=some (.int .i64 0):=by simp [World.cell?,hbx]
 have a2:W0.cell? ⟨w.heap.size,2,none⟩=some (.string ⟨#[]⟩):=by simp [World.cell?,hbx]
 have f0:∀i,W0.frozen? ⟨w.heap.size,i,none⟩=false:=fun i=>by simp [World.frozen?,hbx]
 have HB:=Ax hb0;have Hbx:=Ax hbx;have Hz0:=Ax hz0;clear hW0 hb0 hbx hz0;have hsz:=A4 s;by_cases h402:402<s.size
 ·have hp:D2 (dl s)= .error 3:=by unfold D2;rw[Ap tE]
  have i1:(402:Int)<(s.size:Int):=by omega
  have Hp:=Ax hp;clear hp hsz h402 hR;go_enter Tryz.func155,Tryz.ntmps155;go_upto_region 1 with fail
  rw[HW0.out]
  go_wp2
  refine Au (v:= .tuple #[.agg #[.int .u8 0,.int .i64 0,.string ⟨#[]⟩],.int .i64 3]) uA rfl ?_;rw[Hp.out];exact zy0
 have i1:(s.size:Int)<=402:=by omega
 by_cases h0:s.size=0
 ·have e:s=⟨#[]⟩:=Cn (List.eq_nil_of_length_eq_zero tE);subst e;clear hsz h402 hR h0 i1;go_enter Tryz.func155,Tryz.ntmps155;go_upto_region 1 with fail
  rw[HW0.out]
  go_wp2
  refine Au (v:= .tuple #[.agg #[.int .u8 0,.int .i64 0,.string ⟨#[]⟩],.int .i64 4]) uA rfl ?_;exact zy0
 have hpos:0<s.size:=by omega
 have i0:(0:Int)<(s.size:Int):=by omega
 have hne:=Ot hpos;have hne2:=Nl hpos
 have hP:D2 (dl s)=match Eu (dl s) with
  | .error e=> .error e
  | .ok v=>if Da v.1 v.2.1 v.2.2=dl s then .ok v else .error 4:=by
  unfold D2;rw[Ao tE,Ao (fun e=>by rw[e] at hsz;simp at hsz;omega)];cases Eu (dl s)<;>rfl
 have HP:=Ax hP;have HR0:=Ax hR;have hrd:=fun V (hV:Below w.heap.size w V)=>jK s V hpos tE (hR.below hV)
 have hlk:=fU s[0];have Hrd:=Ax hrd;have Hlk:=Ax hlk;have Hmap:=Ax fun(V:World) (b:Nat) (hm:Jn .u8 V b jA)=>T4 (P:=Tryz.prog) (t:=272) Tryz.underlying272 Tryz.underlying5 hm (Tryz.zeroValue270 V) (s[0].toNat:Int)
 clear hP hR hrd hlk hsz h402 h0;obtain⟨fn,hfn⟩:∃fn,iD s[0]=fn:=⟨_,rfl⟩;rw[hfn] at Hrd;obtain⟨ir,hir⟩:∃ir,fE s[0]=ir:=⟨_,rfl⟩;rw[hir,hfn] at Hlk
 have Hnum:Hid ((ir=false/\fn=190)\/(ir=true/\(fn=211\/fn=210\/fn=212))):=Ax (by
  rw[←hfn,←hir];unfold iD fE;by_cases h1:s[0]=34
  ·exact .inr ⟨by simp [h1],.inl (by rw[Ap h1])⟩
  rw[Ao h1];by_cases h2:s[0]=35
  ·exact .inr ⟨by simp [h2],.inr (.inl (by rw[Ap h2]))⟩
  rw[Ao h2];by_cases h3:s[0]=116\/s[0]=102\/s[0]=110
  ·exact .inr ⟨by simp [h3],.inr (.inr (by rw[Ap h3]))⟩
  exact .inl ⟨by simp [h1,h2,h3],by rw[Ao h3]⟩)
 clear hfn hir;go_enter Tryz.func155,Tryz.ntmps155;go_upto_region 1 with fail
 rw[HW0.out];go_upto_region 5 with fail
 go_cut [4,5] from 17 to 24 (fun u4 u5 wx=>∃p:Nat,u4= .pointer (some ⟨p,0,none⟩)/\u5= .bool ir/\Hid (PSt w wx p (if ir then .func (.func fn) #[] #[] else .nilFunc)))
 case first=>
  cases ir with
  |true=>
   simp only[if_true] at Hlk;go_region_with ((go_at_call 189;refine(Rx _).mono ?_;rintro e V ⟨b,rfl,hm,hb⟩;have hl:=Hmap.out V b hm;have hl2:=Hmap.out (V.alloc (.cells #[.nilFunc] 270)) b (hm.only ((Bc.refl [] V).alloc _) tH);rw[Hlk.out] at hl hl2;simp only[G1] at hl hl2;obtain⟨hc,hf⟩:=lU hb;have Hb:=Ax hb;clear hb hm))
   all_goals
    go_wp2
    go_meet
    case rel=>
     simp only[if_true]
     first
      |exact⟨_,rfl,trivial,PSt.after Hbx.out HB.out Hz0.out Hb.out _⟩
      |exact⟨_,rfl,trivial,PSt.before Hbx.out HB.out Hz0.out Hb.out _⟩
  |false=>
   simp only[Bool.false_eq_true,if_false] at Hlk;go_region_with ((go_at_call 189;refine(Rx _).mono ?_;rintro e V ⟨b,rfl,hm,hb⟩;have hl:=Hmap.out V b hm;have hl2:=Hmap.out (V.alloc (.cells #[.nilFunc] 270)) b (hm.only ((Bc.refl [] V).alloc _) tH);rw[Hlk.out] at hl hl2;simp only[G1] at hl hl2;obtain⟨hc,hf⟩:=lU hb;have Hb:=Ax hb;clear hb hm))
   all_goals
    go_wp2
    go_meet
    case rel=>
     simp only[Bool.false_eq_true,if_false]
     first
      |exact⟨_,rfl,trivial,PSt.after Hbx.out HB.out Hz0.out Hb.out _⟩
      |exact⟨_,rfl,trivial,PSt.before Hbx.out HB.out Hz0.out Hb.out _⟩
 case rest=>
  obtain⟨p,rfl,rfl,hq⟩:=hcut;obtain⟨r,hr⟩:∃r,Eu (dl s)=r:=⟨_,rfl⟩;have hf1:=Wh (dl s);rw[hr] at HP Hrd hf1;have Hf1:=Ax hf1;have Hr:=Ax hr;clear hr hf1 Hmap Hlk a0 a1 a2 f0 Hbx Hz0 HW0 HB
  obtain⟨V1,hV1,hh⟩:∃V1,(if ir then V1=wc else V1=wc.setCell ⟨p,0,none⟩ (.func (.func fn) #[] #[]))/\Hid (PSt w V1 p (.func (.func fn) #[] #[])):=by
   cases ir with
   |true=>exact⟨wc,rfl,by simpa using hq⟩
   |false=>exact⟨_,rfl,Ax (hq.out.store _)⟩
  have Hcall:=Ax (Hrd.out V1 hh.out.low);obtain⟨b0,b1,b2,bf,b3,bf3,_,_⟩:=hh.out.cells;obtain⟨c0,c1,c2,cf,c3,cf3,_,_⟩:=hq.out.cells;have HV1:=Ax hV1;clear Hrd hV1;rcases Hnum.out with ⟨rfl,rfl⟩|⟨rfl,rfl|rfl|rfl⟩
  case inl=>
   simp only[Bool.false_eq_true,if_false] at HV1 c3;go_upto_region 8 with fail
   rw[←HV1.out];clear HV1 c0 c1 c2 cf c3 cf3 hq;go_wp2_with fail;refine Hcall.out.mono ?_;rintro e V2 ⟨hb,he⟩;have h2:=hh.out.below hb;have hR2:=HR0.out.below h2.low;clear Hcall b0 b1 b2 bf b3 bf3 hb;obtain⟨b0,b1,b2,bf,_,_,hlt,_⟩:=h2.cells;cases r with
   |error q=>
    exact zyl
   |ok p2=>
    exact zzw
  all_goals
   simp only[if_true] at HV1 c3;have hv:=HV1.out;subst hv;clear HV1 c0 c1 c2 cf c3 cf3 hq;go_wp2_with fail;refine Hcall.out.mono ?_;rintro e V2 ⟨hb,he⟩;have h2:=hh.out.below hb;have hR2:=HR0.out.below h2.low;clear Hcall b0 b1 b2 bf b3 bf3 hb;obtain⟨b0,b1,b2,bf,_,_,hlt,_⟩:=h2.cells;cases r with
   |error q=>
    exact zyl
   |ok p2=>
    exact zzw
end Go.Proofs.YtmpfilddeglgbaaGreatDoor
