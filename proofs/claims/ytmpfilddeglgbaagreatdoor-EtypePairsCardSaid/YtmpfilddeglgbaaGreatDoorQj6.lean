import Derived.Shelf.Strings.Builder1
import Derived.Lib.Replace
import Derived.Lib.TrimByte
import Derived.Lib.ParseIntBCases
import Derived.Lib.ItoaMem
import Derived.Test.YtmpfilddeglgbaaGreatDoorQj5
set_option maxRecDepth 100000
set_option maxHeartbeats 16000000
namespace Go.Proofs.YtmpfilddeglgbaaGreatDoor
open Go Go.RowKit Go.Lib
def Et (n:Nat):Bool:=decide (97<=n/\n<=122)
def J9 (n:Nat):Bool:=decide (48<=n/\n<=57)
def I9 (n:Nat):Bool:=!Et n && !J9 n
def Js (n:Nat):Bool:=decide (n<32\/126<n)
def Ih (s:ByteArray):Bool:=match s.data.toList with
 |[]=>false
 |c::r=>decide (s.size<=12) && Et c.toNat && !(r.any fun b=>I9 b.toNat)
def L9 (s:ByteArray):Bool:=decide (s.size<=200) && !(s.data.toList.any fun b=>Js b.toNat)
def eZ (v:Vl):Bool:=
 if v.k=0 then decide (v.n=0) && decide (v.s.size=0) else if v.k=1\/v.k=2 then decide (v.s.size=0) else if v.k=3 then decide (v.n=0) && L9 v.s
 else if v.k=4 then decide (v.s.size=0) && decide (v.n=0\/v.n=1) else if v.k=5 then decide (v.n=0) && Ih v.s else false
theorem mR {s:ByteArray}{pos:Nat}(h:pos<s.size):s.data.toList.drop pos=s.get! pos::s.data.toList.drop (pos+1):=by
 have h':pos<s.data.toList.length:=by simpa using h
 rw[List.drop_eq_getElem_cons h'];congr 1;simp only[ByteArray.get!];rw[getElem!_pos s.data pos uB];simp
theorem Z9 (p:Nat->Bool)(hp:∀r,128<=r->p r=true)(s:ByteArray):∀(f pos:Nat),s.size<=pos+f->
 decide (0<=idxFuncFrom p true s f pos)=(s.data.toList.drop pos).any (fun b=>p b.toNat)
 |0,pos,h=>by
  rw[List.drop_eq_nil_of_le uB];rfl
 |f+1,pos,h=>by
  unfold idxFuncFrom;by_cases hlt:pos<s.size
  ·rw[Ap hlt,mR hlt,List.any_cons];rcases decodeN_cases (s.size - pos) (s.get! pos).toNat (s.get! (pos+1)).toNat (s.get! (pos+2)).toNat (s.get! (pos+3)).toNat with ⟨c,e⟩|e'
   ·rw[←decode_at] at e;rw[e];cases hq:p (s.get! pos).toNat
    ·simp only[Bool.false_eq_true,if_false,Bool.false_or];exact Z9 p hp s f (pos+1) tE
    simp
   have hr:128<=(Utf8.decode s pos).1:=by
    rw[decode_at];rcases e' with ⟨_,_,_,_,e⟩|⟨_,_,_,_,_,e⟩|⟨_,e⟩|e
    ·rw[e];assumption
    ·rw[e];simp only;omega
    ·omega
    rw[e];simp
   rw[hp _ hr,Ap rfl];by_cases hb:(s.get! pos).toNat<128
   ·exfalso
    have:decodeN (s.size - pos) (s.get! pos).toNat (s.get! (pos+1)).toNat (s.get! (pos+2)).toNat (s.get! (pos+3)).toNat=((s.get! pos).toNat,1):=by
     unfold decodeN;rw[Ap hb]
    rw[decode_at,this] at hr;simp only at hr;omega
   rw[hp _ tE];simp
  rw[Ao hlt,List.drop_eq_nil_of_le (by simpa using Nat.le_of_not_lt hlt)];rfl
theorem Q7 (p:Nat->Bool)(hp:∀r,128<=r->p r=true)(s:ByteArray):decide (0<=idxFunc p true s)=s.data.toList.any (fun b=>p b.toNat):=by
 have:=Z9 p hp s s.size 0 tE
 rw[List.drop_zero] at this;exact this
theorem pJ (r:Nat)(h:128<=r):I9 r=true:=by
 have h1:¬(97<=r/\r<=122):=by omega
 have h2:¬(48<=r/\r<=57):=by omega
 simp [I9,Et,J9,h1,h2]
theorem qU (r:Nat)(h:128<=r):Js r=true:=by
 have h1:r<32\/126<r:=by omega
 simp [Js,h1]
theorem oM (x:Nat)(W:World)(hx:x<=1114111):Calls Tryz.prog 220 #[.int .i32 (x:Int)] W fun e w'=>e= .returned (.bool (I9 x))/\w'=W:=by
 by_cases h1:x<97
 ·have d1:decide ((x:Int)<97)=true:=by simp;omega
  by_cases h3:x<48
  ·have d3:decide ((x:Int)<48)=true:=by simp;omega
   exact zyd
  have d3:decide ((x:Int)<48)=false:=by simp;omega
  by_cases h4:57<x
  ·have d4:decide ((57:Int)<(x:Int))=true:=by simp;omega
   exact zyd
  have d4:decide ((57:Int)<(x:Int))=false:=by simp;omega
  go_enter Tryz.func220,Tryz.ntmps220
  go_wp2
  go_ret;exact⟨by simp [I9,Et,J9,show ¬(97<=x/\x<=122) by omega,show(48<=x/\x<=57) by omega],rfl⟩
 have d1:decide ((x:Int)<97)=false:=by simp;omega
 by_cases h2:122<x
 ·have d2:decide ((122:Int)<(x:Int))=true:=by simp;omega
  have d3:decide ((x:Int)<48)=false:=by simp;omega
  have d4:decide ((57:Int)<(x:Int))=true:=by simp;omega
  exact zyd
 have d2:decide ((122:Int)<(x:Int))=false:=by simp;omega
 go_enter Tryz.func220,Tryz.ntmps220
 go_wp2
 go_ret;exact⟨by simp [I9,Et,J9,show(97<=x/\x<=122) by omega],rfl⟩
theorem oY (x:Nat)(W:World)(hx:x<=1114111):Calls Tryz.prog 219 #[.int .i32 (x:Int)] W fun e w'=>e= .returned (.bool (Js x))/\w'=W:=by
 by_cases h1:x<32
 ·have d1:decide ((x:Int)<32)=true:=by simp;omega
  go_enter Tryz.func219,Tryz.ntmps219
  go_wp2
  go_ret;exact⟨by simp [Js,h1],rfl⟩
 have d1:decide ((x:Int)<32)=false:=by simp;omega
 by_cases h2:126<x
 ·have d2:decide ((126:Int)<(x:Int))=true:=by simp;omega
  go_enter Tryz.func219,Tryz.ntmps219
  go_wp2
  go_ret;exact⟨by simp [Js,h2],rfl⟩
 have d2:decide ((126:Int)<(x:Int))=false:=by simp;omega
 go_enter Tryz.func219,Tryz.ntmps219
 go_wp2
 go_ret;exact⟨by simp [Js,h1,h2],rfl⟩
theorem fI (s:ByteArray)(w:World):Calls Tryz.prog 218 #[.string s,.func (.func 220) #[] #[]] w fun e w'=>e= .returned (.bool (s.data.toList.any fun b=>I9 b.toNat))/\Below w.heap.size w w':=by
 rw[←Q7 I9 pJ];exact Tryz.strings_ContainsFunc_runes 220 #[] (enters_of Tryz.func220 tF rfl) I9 s w fun W x hx _=>(oM x W hx).mono fun e w' ⟨he,hw⟩=>⟨he,0,hw⟩
theorem gN (s:ByteArray)(w:World):Calls Tryz.prog 218 #[.string s,.func (.func 219) #[] #[]] w fun e w'=>e= .returned (.bool (s.data.toList.any fun b=>Js b.toNat))/\Below w.heap.size w w':=by
 rw[←Q7 Js qU];exact Tryz.strings_ContainsFunc_runes 219 #[] (enters_of Tryz.func219 tF rfl) Js s w fun W x hx _=>(oY x W hx).mono fun e w' ⟨he,hw⟩=>⟨he,0,hw⟩
open Go Go.RowKit Go.Lib
theorem Ju {a b:Bool}(h:a=b):Ending.returned (.bool a)= .returned (.bool b):=by rw[h]
theorem O3 {s:ByteArray}(h:s.size=0):s.toList=[]:=by
 rw[ByteArray.toList_eq];exact List.eq_nil_of_length_eq_zero uB
theorem Nl {s:ByteArray}(h:0<s.size):¬s.toList=[]:=by
 rw[ByteArray.toList_eq];intro e;have hl:s.data.toList.length=s.size:=by simp
 rw[e] at hl;simp at hl;omega
theorem Ot {s:ByteArray}(h:0<s.size):s.toList.isEmpty=false:=by
 have:=Nl h
 cases hl:s.toList with
 |nil=>exact absurd hl this
 |cons=>rfl
theorem Tf {s:ByteArray}(h:s.size=0):s.toList.isEmpty=true:=by rw[O3 h];rfl
theorem jH {s:ByteArray}(h:0<s.size):∃r,s.data.toList=s[0]::r:=by
 have h':0<s.data.toList.length:=by simpa using h
 refine⟨s.data.toList.tail,?_⟩;cases hl:s.data.toList with
 |nil=>simp [hl] at h'
 |cons c r=>
  have:s.data.toList[0]=c:=by simp [hl]
  rw[List.tail_cons,←this];rfl
theorem Tk {s:ByteArray}(h:s.size=0):Ih s=false:=by
 have:s.data.toList=[]:=List.eq_nil_of_length_eq_zero uB
 simp [Ih,this]
theorem Qe {s:ByteArray}(h:0<s.size):Ih s=(decide (s.size<=12) && Et s[0].toNat && !(s.data.toList.any fun b=>I9 b.toNat)):=by
 obtain⟨r,hr⟩:=jH h;unfold Ih;rw[hr];simp only[List.any_cons];cases hl:Et s[0].toNat
 ·simp
 simp [I9,hl]
theorem bT (s:ByteArray)(hs:s.size<=9223372036854775807)(w:World):
 Calls Tryz.prog 196 #[.string s] w fun e w'=>e= .returned (.bool (Ih s))/\Below w.heap.size w w':=by
 by_cases h0:s.size=0
 ·have hq:=Tk h0;have h1:=O3 h0;have h2:=Tf h0;rw[hq];clear h0 hq;exact zxy
 have hp:0<s.size:=by omega
 have hq:=Qe hp;have h1:=Nl hp;have h2:=Ot hp;clear h0;by_cases h12:s.size<=12
 ·have d12:(s.size:Int)<=12:=by omega
  have e12:decide (12<(s.size:Int))=false:=by simp;omega
  rw[Am h12] at hq;obtain⟨c,hc⟩:∃c:UInt8,s[0]=c:=⟨_,rfl⟩;rw[hc] at hq;by_cases ha:c.toNat<97
  ·have hl:Et c.toNat=false:=by simp [Et];omega
   rw[hl] at hq;rw[hq];have da:(s[0].toNat:Int)<97:=by rw[hc];omega
   clear hq hc ha hl;exact zxy
  have da:97<=(s[0].toNat:Int):=by rw[hc];omega
  by_cases hz:122<c.toNat
  ·have hl:Et c.toNat=false:=by simp [Et];omega
   rw[hl] at hq;rw[hq];have dz:122<(s[0].toNat:Int):=by rw[hc];omega
   clear hq hc ha hl;exact zxy
  have hl:Et c.toNat=true:=by simp [Et];omega
  rw[hl] at hq;rw[hq];have dz:(s[0].toNat:Int)<=122:=by rw[hc];omega
  have hcc:=fI s w;obtain⟨b,hb⟩:∃b,(s.data.toList.any fun b=>I9 b.toNat)=b:=⟨_,rfl⟩;rw[hb] at hcc ⊢;have Hc:=Ax hcc;clear hq hc ha hl hb hcc hz;go_enter Tryz.func196,Tryz.ntmps196;exact zxp
 have hq':Ih s=false:=by rw[hq,An h12];rfl
 rw[hq'];have d12:12<(s.size:Int):=by omega
 clear hq hq' h12;exact zxy
theorem bZ (s:ByteArray)(hs:s.size<=9223372036854775807)(w:World):
 Calls Tryz.prog 195 #[.string s] w fun e w'=>e= .returned (.bool (L9 s))/\Below w.heap.size w w':=by
 unfold L9;by_cases h:s.size<=200
 ·have d:(s.size:Int)<=200:=by omega
  rw[Am h];have hcc:=gN s w;obtain⟨b,hb⟩:∃b,(s.data.toList.any fun b=>Js b.toNat)=b:=⟨_,rfl⟩;rw[hb] at hcc ⊢;have Hc:=Ax hcc;clear hb hcc h;go_enter Tryz.func195,Tryz.ntmps195;exact zxp
 have d:200<(s.size:Int):=by omega
 rw[An h];clear h;go_enter Tryz.func195,Tryz.ntmps195
 go_wp2
 go_ret;exact⟨rfl,Aq _ _⟩
theorem El (s:ByteArray){b:Bool}(hb:decide (s.size=0)=b):s.toList.isEmpty=b/\(b=true->s.toList=[])/\(b=false->¬s.toList=[]):=by
 cases b
 ·have:0<s.size:=Nat.pos_of_ne_zero (of_decide_eq_false hb)
  exact⟨Ot this,(fun h=>by cases h),fun _=>Nl this⟩
 have:s.size=0:=of_decide_eq_true hb
 exact⟨Tf this,fun _=>O3 this,(fun h=>by cases h)⟩
def F9 (w:World)(b:Bool)(e:Ending)(w':World):Prop:=e= .returned (.bool b)/\Below w.heap.size w w'
theorem nF (n:Int)(s:ByteArray)(w:World):Calls Tryz.prog 171 #[.agg #[.int .u8 0,.int .i64 n,.string s]] w (F9 w (decide (n=0) && decide (s.size=0))):=by
 have HB:=Ax ((Aq w.heap.size w).alloc (Ak _) (.cells #[.int .u8 0,.int .i64 n,.string s] 35));obtain⟨q,hq⟩:∃q,decide (s.size=0)=q:=⟨_,rfl⟩;obtain⟨he1,he2,he3⟩:=El s hq;rw[hq];clear hq;by_cases hn:n=0
 ·subst hn;cases q
  ·have he:=he3 rfl;clear he2 he3;go_enter Tryz.func171,Tryz.ntmps171;exact zzh
  have he:=he2 rfl;clear he2 he3;go_enter Tryz.func171,Tryz.ntmps171;exact zzh
 have h0:(n==0)=false:=by simpa using hn
 rw[An hn];cases q
 ·have he:=he3 rfl;clear he2 he3;go_enter Tryz.func171,Tryz.ntmps171;exact zzh
 have he:=he2 rfl;clear he2 he3;go_enter Tryz.func171,Tryz.ntmps171;exact zzh
theorem oL (k n:Int)(s:ByteArray)(w:World)(hk:k=1\/k=2):Calls Tryz.prog 171 #[.agg #[.int .u8 k,.int .i64 n,.string s]] w (F9 w (decide (s.size=0))):=by
 have HB:=Ax ((Aq w.heap.size w).alloc (Ak _) (.cells #[.int .u8 k,.int .i64 n,.string s] 35));obtain⟨q,hq⟩:∃q,decide (s.size=0)=q:=⟨_,rfl⟩;obtain⟨he1,he2,he3⟩:=El s hq;rw[hq];clear hq;rcases hk with rfl|rfl
 all_goals
  cases q
  ·have he:=he3 rfl;clear he2 he3;go_enter Tryz.func171,Tryz.ntmps171;exact zzh
  have he:=he2 rfl;clear he2 he3;go_enter Tryz.func171,Tryz.ntmps171;exact zzh
theorem qZ (n:Int)(s:ByteArray)(hs:s.size<=9223372036854775807)(w:World):Calls Tryz.prog 171 #[.agg #[.int .u8 3,.int .i64 n,.string s]] w (F9 w (decide (n=0) && L9 s)):=by
 have HB:=Ax ((Aq w.heap.size w).alloc (Ak _) (.cells #[.int .u8 3,.int .i64 n,.string s] 35));have hc:=bZ s hs (w.alloc (.cells #[.int .u8 3,.int .i64 n,.string s] 35));obtain⟨b,hb⟩:∃b,L9 s=b:=⟨_,rfl⟩;rw[hb] at hc ⊢;have Hc:=Ax hc;clear hc hb;by_cases hn:n=0
 ·exact zxx
 have h0:(n==0)=false:=by simpa using hn
 rw[An hn];clear hn;go_enter Tryz.func171,Tryz.ntmps171;exact zzh
theorem qA (n:Int)(s:ByteArray)(hs:s.size<=9223372036854775807)(w:World):Calls Tryz.prog 171 #[.agg #[.int .u8 5,.int .i64 n,.string s]] w (F9 w (decide (n=0) && Ih s)):=by
 have HB:=Ax ((Aq w.heap.size w).alloc (Ak _) (.cells #[.int .u8 5,.int .i64 n,.string s] 35));have hc:=bT s hs (w.alloc (.cells #[.int .u8 5,.int .i64 n,.string s] 35));obtain⟨b,hb⟩:∃b,Ih s=b:=⟨_,rfl⟩;rw[hb] at hc ⊢;have Hc:=Ax hc;clear hc hb;by_cases hn:n=0
 ·exact zxx
 have h0:(n==0)=false:=by simpa using hn
 rw[An hn];clear hn;go_enter Tryz.func171,Tryz.ntmps171;exact zzh
theorem mW (n:Int)(s:ByteArray)(w:World):Calls Tryz.prog 171 #[.agg #[.int .u8 4,.int .i64 n,.string s]] w (F9 w (decide (s.size=0) && decide (n=0\/n=1))):=by
 have HB:=Ax ((Aq w.heap.size w).alloc (Ak _) (.cells #[.int .u8 4,.int .i64 n,.string s] 35));obtain⟨q,hq⟩:∃q,decide (s.size=0)=q:=⟨_,rfl⟩;obtain⟨he1,he2,he3⟩:=El s hq;rw[hq];clear hq;cases q
 ·have he:=he3 rfl;clear he2 he3;go_enter Tryz.func171,Tryz.ntmps171;exact zzh
 have he:=he2 rfl;clear he2 he3;by_cases h0:n=0
 ·subst h0;go_enter Tryz.func171,Tryz.ntmps171;exact zzh
 by_cases h1:n=1
 ·subst h1;go_enter Tryz.func171,Tryz.ntmps171;exact zzh
 have e0:(n==0)=false:=by simpa using h0
 have e1:(n==1)=false:=by simpa using h1
 rw[An tE];clear h0 h1;go_enter Tryz.func171,Tryz.ntmps171;exact zzh
theorem iZ (k n:Int)(s:ByteArray)(w:World)(hk:k<0\/5<k):Calls Tryz.prog 171 #[.agg #[.int .u8 k,.int .i64 n,.string s]] w (F9 w false):=by
 have HB:=Ax ((Aq w.heap.size w).alloc (Ak _) (.cells #[.int .u8 k,.int .i64 n,.string s] 35));have e0:(k==0)=false:=by simp;omega
 have e1:(k==1)=false:=by simp;omega
 have e2:(k==2)=false:=by simp;omega
 have e3:(k==3)=false:=by simp;omega
 have e4:(k==4)=false:=by simp;omega
 have e5:(k==5)=false:=by simp;omega
 clear hk;go_enter Tryz.func171,Tryz.ntmps171;exact zzh
theorem oQ (v:Vl)(hv:v.s.size<=9223372036854775807)(w:World):
 Calls Tryz.prog 171 #[.agg #[.int .u8 v.k,.int .i64 v.n,.string v.s]] w fun e w'=>e= .returned (.bool (eZ v))/\Below w.heap.size w w':=by
 obtain⟨k,n,s⟩:=v;simp only at hv;unfold eZ;simp only;by_cases k0:k=0
 ·subst k0;rw[Ap rfl];exact nF n s w
 rw[Ao k0];by_cases k1:k=1\/k=2
 ·rw[Ap k1];exact oL k n s w k1
 rw[Ao k1];by_cases k3:k=3
 ·subst k3;rw[Ap rfl];exact qZ n s hv w
 rw[Ao k3];by_cases k4:k=4
 ·subst k4;rw[Ap rfl];exact mW n s w
 rw[Ao k4];by_cases k5:k=5
 ·subst k5;rw[Ap rfl];exact qA n s hv w
 rw[Ao k5];exact iZ k n s w tE
open Go Go.Shelf Go.RowKit
def mL:Go.Shelf.Ren:=⟨fun|167=>235|240=>96|276=>151|n=>n,
 fun|0=>0|4=>4|5=>5|9=>9|20=>20|37=>106|70=>126|72=>128|75=>131|80=>134|164=>226|n=>n,fun|n=>n⟩
theorem rA:Go.Proofs.Lays.n167 Tryz.prog mL:={
 mixed:=by kernel_rfl
 f167:=Tryz.func235.trans (Ar some tF)
 f240:=Tryz.func96.trans (Ar some tF)
 f276:=Tryz.func151.trans (Ar some tF)
 t0:=Tryz.underlying0
 a0:=Tryz.isAgg0
 z0:=Tryz.sizeOf0
 v0:=Tryz.zeroValue0
 t4:=Tryz.underlying4
 a4:=Tryz.isAgg4
 z4:=Tryz.sizeOf4
 v4:=Tryz.zeroValue4
 t5:=Tryz.underlying5
 a5:=Tryz.isAgg5
 z5:=Tryz.sizeOf5
 v5:=Tryz.zeroValue5
 t9:=Tryz.underlying9
 a9:=Tryz.isAgg9
 z9:=Tryz.sizeOf9
 v9:=Tryz.zeroValue9
 t20:=Tryz.underlying20
 a20:=Tryz.isAgg20
 z20:=Tryz.sizeOf20
 v20:=Tryz.zeroValue20
 t37:=Tryz.underlying106
 a37:=Tryz.isAgg106
 z37:=Tryz.sizeOf106
 v37:=Tryz.zeroValue106
 t70:=Tryz.underlying126
 a70:=Tryz.isAgg126
 z70:=Tryz.sizeOf126
 v70:=Tryz.zeroValue126
 t72:=Tryz.underlying128
 a72:=Tryz.isAgg128
 z72:=Tryz.sizeOf128
 v72:=Tryz.zeroValue128
 t75:=Tryz.underlying131
 a75:=Tryz.isAgg131
 z75:=Tryz.sizeOf131
 v75:=Tryz.zeroValue131
 t164:=Tryz.underlying226
 a164:=Tryz.isAgg226
 z164:=Tryz.sizeOf226
 v164:=Tryz.zeroValue226}
theorem jY:Builder.Extra Tryz.prog mL:={
 sizeBuilder:=by kernel_rfl
 liesBuilder:=by kernel_rfl
 t5:=Tryz.underlying5
 a5:=Tryz.isAgg5
 z5:=Tryz.sizeOf5
 v5:=Tryz.zeroValue5
 infoByte:=by kernel_rfl
 cellsByte:=by kernel_rfl
 sizeByte:=by kernel_rfl
 neB5:=by decide}
theorem Wc (B b:Nat)(bs:List Value)(c:Int)(w:World)(h:Lib.IsBuilder 128 5 B b bs w)(hlen:bs.length+1<=140737488355328)(hBw:B<=w.heap.size):
 Calls Tryz.prog 235 #[.pointer (some ⟨b,0,none⟩),.int .u8 c] w fun e w'=>e= .returned .nilIface/\(Lib.IsBuilder 128 5 B b (bs++[.int .u8 c]) w'/\Below B w w'):=
 (Any.Builder_WriteByte rA jY B b bs c w h hlen hBw).mono fun _ _ h=>⟨h.1,.inr h.2.1,h.2.2⟩
open Go Go.Lib
theorem T5 (c b:UInt8)(l:List UInt8):[c].isPrefixOf (b::l)=(c==b):=by
 simp [List.isPrefixOf]
theorem Jq (c b:UInt8)(l:List UInt8):index (b::l) [c]=if b=c then 0 else if index l [c]= -1 then -1 else index l [c]+1:=by
 rw[index,T5];by_cases h:b=c
 ·subst h;simp
 have:(c==b)=false:=by simpa using fun e:c=b=>h e.symm
 rw[this,Ao h];simp only[Bool.false_eq_true,if_false];by_cases h2:index l [c]= -1
 ·simp [h2]
 have:(index l [c]== -1)=false:=by simpa using h2
 rw[this,Ao h2];simp
theorem Gy {c:UInt8}{l:List UInt8}(h:c∉l):index l [c]= -1:=by
 induction l with
 |nil=>rfl
 |cons b l ih=>
  rw[Jq,Ao (fun e:b=c=>h (e▸Ai)),Ap (ih fun q=>h (Aj _ q))]
theorem Gu {c:UInt8}(a r:List UInt8)(h:c∉a):index (a++c::r) [c]=(a.length:Nat):=by
 induction a with
 |nil=>rw[List.nil_append,Jq,Ap rfl];rfl
 |cons b a ih=>
  rw[List.cons_append,Jq,Ao (fun e:b=c=>h (e▸Ai)),ih fun q=>h (Aj _ q),Ao tE];simp
theorem Lm {c:UInt8}{l:List UInt8}(h:c∉l):cut l [c]=(l,[],false):=by
 unfold cut;rw[Gy h];rfl
theorem I4 {c:UInt8}(a r:List UInt8)(h:c∉a):cut (a++c::r) [c]=(a,r,true):=by
 unfold cut;rw[Gu a r h,Ap tE];simp [List.drop_append]
theorem Nx (c:UInt8)(l:List UInt8):c∉l\/∃a r,l=a++c::r/\c∉a:=by
 by_cases h:c∈l
 ·refine .inr ?_
  induction l with
  |nil=>cases h
  |cons b l ih=>
   by_cases e:b=c
   ·exact⟨[],l,by rw[e];rfl,by simp⟩
   rcases List.mem_cons.1 h with q|q
   ·exact absurd q.symm e
   obtain⟨a,r,e1,hn⟩:=ih q;refine⟨b::a,r,by rw[e1];rfl,?_⟩;rw[List.mem_cons];rintro (q|q)
   ·exact e q.symm
   exact hn q
 exact .inl h
def P5 (c:UInt8)(new:List UInt8)(l:List UInt8):List UInt8:=l.flatMap fun b=>if b=c then new else[b]
theorem Qn {c:UInt8}{new l:List UInt8}(h:c∉l):P5 c new l=l:=by
 unfold P5
 induction l with
 |nil=>rfl
 |cons b l ih=>
  rw[List.flatMap_cons,Ao (fun e:b=c=>h (e▸Ai)),ih fun q=>h (Aj _ q)];rfl
theorem U6 (c:UInt8):∀(k:Nat) (l:List UInt8),l.length<=k->count l [c]=l.count c
 |0,l,h=>by
  obtain rfl:l=[]:=List.eq_nil_of_length_eq_zero tE;rfl
 |k+1,l,h=>by
  rcases Nx c l with hn|⟨a,r,rfl,hn⟩
  ·rw[count_miss (Gy hn),List.count_eq_zero.2 hn]
  rw[count_hit tH (Gu a r hn)];have hd:(a++c::r).drop (a.length+[c].length)=r:=by simp [List.drop_append]
  rw[hd,U6 c k r (by simp at h;omega),List.count_append,List.count_eq_zero.2 hn];simp;omega
theorem Pt (c:UInt8)(new:List UInt8):∀(k:Nat) (l:List UInt8),l.count c<=k->replaceK [c] new k l=P5 c new l
 |0,l,h=>by
  have hn:c∉l:=List.count_eq_zero.1 tE;rw[Qn hn];rfl
 |k+1,l,h=>by
  rcases Nx c l with hn|⟨a,r,rfl,hn⟩
  ·rw[Qn hn,replaceK,Gy hn];rfl
  rw[replaceK_hit [c] new k _ a.length (Gu a r hn)];have hd:(a++c::r).drop (a.length+[c].length)=r:=by simp [List.drop_append]
  have hc:(a++c::r).count c=r.count c+1:=by rw[List.count_append,List.count_eq_zero.2 hn];simp
  rw[hd,Pt c new k r tE];unfold P5;rw[List.flatMap_append,List.flatMap_cons,Ap rfl]
  have:=Qn (new:=new) hn
  unfold P5 at this;rw[this];simp
theorem J7 (c:UInt8)(new l:List UInt8)(h:[c]≠new):replaceAll l [c] new=P5 c new l:=by
 unfold replaceAll replace replaceNum
 have:([c]==new)=false:=by simpa using h
 rw[this,Ao tH,Ap (.inl tE),U6 c l.length l (Ak _)];exact Pt c new _ l (Ak _)
def Bb (c:UInt8):Bool:=decide (48<=c.toNat) && decide (c.toNat<=57)
def Gn (l:List UInt8):Bool:=!l.isEmpty && l.all Bb
def val (l:List UInt8)(acc:Nat):Nat:=l.foldl (fun a c=>a*10+(c.toNat - 48)) acc
theorem rY (l:List UInt8):∀acc,acc<=val l acc:=by
 induction l with
 |nil=>intro acc;exact Ak _
 |cons c l ih=>
  intro acc
  have:=ih (acc*10+(c.toNat - 48))
  show acc<=val l (acc*10+(c.toNat - 48));omega
theorem Vw (M:Nat)(hM:M<=18446744073709551615):∀(l:List UInt8) (acc:Nat),l.all Bb=true->val l acc<=M->parseUintM M acc l= .ok (val l acc)
 |[],acc,_,_=>rfl
 |c::l,acc,hd,hv=>by
  rw[List.all_cons,Bool.and_eq_true] at hd;obtain⟨h1,h2⟩:=hd;have hc:48<=c.toNat/\c.toNat<=57:=by simpa[Bb] using h1
  have hv':val l (acc*10+(c.toNat - 48))<=M:=hv;have hg:=rY l (acc*10+(c.toNat - 48));rw[parseUintM,Ap hc,Ao tE,Ao tE];exact Vw M hM l _ h2 hv'
theorem Vm (u:Nat)(h:u<10):(UInt8.ofNat (48+u)).toNat=48+u:=by
 rw[UInt8.toNat_ofNat'];omega
theorem dR (u:Nat)(h:u<10):Bb (UInt8.ofNat (48+u))=true:=by
 unfold Bb;rw[Vm u h];simp;omega
theorem Dv {u:Nat}(h:u<10):decDigits u=[UInt8.ofNat (48+u)]:=by rw[decDigits,dif_pos h]
theorem Ig {u:Nat}(h:¬u<10):decDigits u=decDigits (u/10)++[UInt8.ofNat (48+u % 10)]:=by rw[decDigits,dif_neg h]
theorem F6 (u:Nat):(decDigits u).all Bb=true:=by
 induction u using Nat.strongRecOn with
 |_ u ih=>
  by_cases h:u<10
  ·rw[Dv h];rw[List.all_cons,dR u h];rfl
  rw[Ig h,List.all_append,ih _ tE];rw[List.all_cons,dR (u % 10) tE];rfl
theorem Lw (u:Nat):decDigits u≠[]:=by
 by_cases h:u<10
 ·rw[Dv h];simp
 rw[Ig h];simp
theorem Sj {c:UInt8}{l:List UInt8}(h:l.all Bb=true)(hc:Bb c=false):c∉l:=fun q=>by
 have:=List.all_eq_true.1 h c q
 rw[hc] at this;cases this
def Oh (l:List UInt8):List UInt8:=List.replicate (5 - l.length) 48++l
theorem Sy (l:List UInt8):5<=(Oh l).length:=by
 unfold Oh;rw[Ab,List.length_replicate];omega
theorem gC (k:Nat):(List.replicate k (48:UInt8)).all Bb=true:=by
 rw[List.all_eq_true];intro c hc;rw[List.eq_of_mem_replicate hc];rfl
theorem Zf {l:List UInt8}(h:l.all Bb=true):(Oh l).all Bb=true:=by
 unfold Oh;rw[List.all_append,h,gC];rfl
def Mq (r:List UInt8):List UInt8:=if trimRightB r 48=[] then[48] else trimRightB r 48
theorem Rz (r:List UInt8):∃k,r=trimRightB r 48++List.replicate k 48:=by
 refine⟨(r.reverse.takeWhile (· ==48)).length,?_⟩
 have h1:r.reverse.takeWhile (· ==(48:UInt8))=List.replicate (r.reverse.takeWhile (· ==48)).length 48:=by
  refine List.eq_replicate_iff.2 ⟨rfl,fun b hb=>?_⟩
  have:=List.all_takeWhile (l:=r.reverse) (p:=(· ==(48:UInt8)))
  rw[List.all_eq_true] at this;simpa using this b hb
 have h2:=List.takeWhile_append_dropWhile (p:=(· ==(48:UInt8))) (l:=r.reverse);have h3:=Ar List.reverse h2;rw[List.reverse_append,List.reverse_reverse] at h3;unfold trimRightB;refine h3.symm.trans ?_;congr 1;rw[h1,List.reverse_replicate];simp
def Rb (n:Int):List UInt8:=(if n<0 then[45] else[])++((Oh (decDigits n.natAbs)).take ((Oh (decDigits n.natAbs)).length - 4)++46::Mq ((Oh (decDigits n.natAbs)).drop ((Oh (decDigits n.natAbs)).length - 4)))
def Me (l:List UInt8):List UInt8:=P5 34 [92,34] (P5 92 [92,92] l)
def rZ (l:List UInt8):List UInt8:=34::(Me l++[34])
def Po (k n:Int)(s:List UInt8):List UInt8:=
 if k=1 then itoa n else if k=2 then Rb n else if k=3 then rZ s else if k=4 then(if n=1 then[116,114,117,101] else[102,97,108,115,101]) else if k=5 then 35::s else[110,117,108,108]
def Pa (l:List UInt8):Except Int (Int×Int):=
 let c:=cut (if l.head? =some 45 then l.tail else l) [46]
 if(!Gn c.1||(decide (1<c.1.length) && c.1.head? ==some 48))||(c.2.2 && (!Gn c.2.1||decide (4<c.2.1.length))) then .error 4
 else
  let d:=if c.2.2 then c.1++(c.2.1++[48,48,48,48]).take 4 else c.1
  match parseIntB 64 (if l.head? =some 45 then 45::d else d) with
  | .ok n=> .ok (if c.2.2 then 2 else 1,n)
  |_=> .error 9
def Cb:List UInt8->List UInt8
 |c::y::r=>if c=92 then y::Cb r else c::Cb (y::r)
 |_=>[]
def Eu (l:List UInt8):Except Int (Int×Int×List UInt8):=
 match l with
 |34::r=> .ok (3,0,Cb r)
 |35::r=> .ok (5,0,r)
 |116::r=>if r=[114,117,101] then .ok (4,1,[]) else .error 4
 |102::r=>if r=[97,108,115,101] then .ok (4,0,[]) else .error 4
 |110::r=>if r=[117,108,108] then .ok (0,0,[]) else .error 4
 |l=>(Pa l).map fun p=>(p.1,p.2,[])
theorem Wj {c:UInt8}{r:List UInt8}(h:c≠34/\c≠35/\c≠116/\c≠102/\c≠110):Eu (c::r)=(Pa (c::r)).map fun p=>(p.1,p.2,[]):=by
 obtain⟨h1,h2,h3,h4,h5⟩:=h;unfold Eu
 split
 ·rename_i e;injection e with e;exact absurd e h1
 ·rename_i e;injection e with e;exact absurd e h2
 ·rename_i e;injection e with e;exact absurd e h3
 ·rename_i e;injection e with e;exact absurd e h4
 ·rename_i e;injection e with e;exact absurd e h5
 rfl
theorem Q9 (c:UInt8)(l:List UInt8):Me (c::l)=(if c=92 then[92,92] else if c=34 then[92,34] else[c])++Me l:=by
 unfold Me P5;rw[List.flatMap_cons,List.flatMap_append];congr 1;by_cases h:c=92
 ·subst h;rfl
 rw[Ao h,Ao h];simp
def Dm (c:UInt8):Bool:=decide (97<=c.toNat) && decide (c.toNat<=122)
def I1 (s:List UInt8):Bool:=match s with
 |[]=>false
 |c::r=>decide (r.length<12) && Dm c && r.all fun b=>Dm b||Bb b
def G7 (c:UInt8):Bool:=decide (32<=c.toNat) && decide (c.toNat<=126)
def eE (s:List UInt8):Bool:=decide (s.length<=200) && s.all G7
def Gi (k n:Int)(s:List UInt8):Bool:=
 if k=0 then decide (n=0) && s.isEmpty else if k=1\/k=2 then s.isEmpty else if k=3 then decide (n=0) && eE s
 else if k=4 then s.isEmpty && decide (n=0\/n=1) else if k=5 then decide (n=0) && I1 s else false
theorem O2 {k n:Int}{s:List UInt8}(h:Gi k n s=true):
 (k=0/\n=0/\s=[])\/(k=1/\s=[])\/(k=2/\s=[])\/(k=3/\n=0/\s.length<=200/\s.all G7=true)\/(k=4/\s=[]/\(n=0\/n=1))\/(k=5/\n=0/\I1 s=true):=by
 unfold Gi at h;by_cases k0:k=0
 ·rw[Ap k0,Bool.and_eq_true,decide_eq_true_eq,List.isEmpty_iff] at h;exact .inl ⟨k0,h.1,h.2⟩
 rw[Ao k0] at h;by_cases k12:k=1\/k=2
 ·rw[Ap k12,List.isEmpty_iff] at h;rcases k12 with e|e
  ·exact .inr (.inl ⟨e,h⟩)
  exact .inr (.inr (.inl ⟨e,h⟩))
 rw[Ao k12] at h;by_cases k3:k=3
 ·rw[Ap k3] at h;unfold eE at h;simp only[Bool.and_eq_true,decide_eq_true_eq] at h;exact .inr (.inr (.inr (.inl ⟨k3,h.1,h.2.1,h.2.2⟩)))
 rw[Ao k3] at h;by_cases k4:k=4
 ·rw[Ap k4,Bool.and_eq_true,decide_eq_true_eq,List.isEmpty_iff] at h;exact .inr (.inr (.inr (.inr (.inl ⟨k4,h.1,h.2⟩))))
 rw[Ao k4] at h;by_cases k5:k=5
 ·rw[Ap k5,Bool.and_eq_true,decide_eq_true_eq] at h;exact .inr (.inr (.inr (.inr (.inr ⟨k5,h.1,h.2⟩))))
 rw[Ao k5] at h;cases h
theorem eG {l:List UInt8}(hd:l.all Bb=true)(hne:l≠[])(r:List UInt8)(b:Bool):∃c q,(if b then 45::l else l)++r=c::q/\(c=45\/Bb c=true):=by
 cases b with
 |true=>exact⟨45,l++r,rfl,.inl rfl⟩
 |false=>
  obtain⟨c,q,rfl⟩:=List.exists_cons_of_ne_nil hne;rw[List.all_cons,Bool.and_eq_true] at hd;exact⟨c,q++r,rfl,.inr hd.1⟩
theorem jC (n:Int):∃c q,itoa n=c::q/\(c=45\/Bb c=true):=by
 have:=eG (F6 n.natAbs) (Lw _) [] (decide (n<0))
 rw[List.append_nil] at this
 have e:itoa n=if decide (n<0)=true then 45::decDigits n.natAbs else decDigits n.natAbs:=by
  unfold itoa;by_cases h:n<0
  ·simp [h]
  simp only[h,decide_false,if_false,Bool.false_eq_true];congr 1;omega
 rw[e];exact this
theorem fM (n:Int):∃c q,Rb n=c::q/\(c=45\/Bb c=true):=by
 have hd:=Zf (F6 n.natAbs);have hl5:=Sy (decDigits n.natAbs);unfold Rb;generalize Oh (decDigits n.natAbs)=p at hd hl5 ⊢;have hw:(p.take (p.length - 4)).all Bb=true:=List.all_eq_true.2 fun c hc=>List.all_eq_true.1 hd c (List.mem_of_mem_take hc)
 have hwne:p.take (p.length - 4)≠[]:=by
  intro e
  have:=Ar List.length e
  rw[List.length_take] at this;simp at this;omega
 have:=eG hw hwne (46::Mq (p.drop (p.length - 4))) (decide (n<0))
 obtain⟨c,q,e,h⟩:=this;refine⟨c,q,?_,h⟩;rw[←e];by_cases h:n<0
 ·simp [h]
 simp [h]
theorem fV {c:UInt8}(h:c=45\/Bb c=true):c≠34/\c≠35/\c≠116/\c≠102/\c≠110:=by
 rcases h with rfl|h
 ·decide
 refine⟨?_,?_,?_,?_,?_⟩<;>(rintro rfl;revert h;decide)
theorem Fm {s:List UInt8}(h:I1 s=true):1<=s.length/\s.length<=12/\s.all (fun b=>Dm b||Bb b)=true/\∃c r,s=c::r/\Dm c=true:=by
 cases s with
 |nil=>cases h
 |cons c r=>
  unfold I1 at h;simp only[Bool.and_eq_true,decide_eq_true_eq] at h;refine⟨by simp,by simp;omega,?_,c,r,rfl,h.1.2⟩;rw[List.all_cons,h.1.2,h.2];rfl
def Da (k n:Int)(s:List UInt8):List UInt8:=if Gi k n s=true then Po k n s else[]
def D2 (l:List UInt8):Except Int (Int×Int×List UInt8):=
 if 402<l.length then .error 3 else if l=[] then .error 4 else
  match Eu l with
  | .error e=> .error e
  | .ok v=>if Da v.1 v.2.1 v.2.2=l then .ok v else .error 4
theorem Xb {l:List UInt8}{k n:Int}{s:List UInt8}(h:D2 l= .ok (k,n,s)):Gi k n s=true/\Po k n s=l/\l≠[]/\l.length<=402:=by
 unfold D2 at h;by_cases h4:402<l.length
 ·rw[Ap h4] at h;cases h
 rw[Ao h4] at h;by_cases hl:l=[]
 ·rw[Ap hl] at h;cases h
 rw[Ao hl] at h;cases hr:Eu l with
 |error e=>rw[hr] at h;cases h
 |ok v=>
  rw[hr] at h;simp only at h;by_cases ht:Da v.1 v.2.1 v.2.2=l
  ·rw[Ap ht] at h;injection h with h;subst h;unfold Da at ht;by_cases hm:Gi k n s=true
   ·simp only[Ap hm] at ht;exact⟨hm,ht,hl,by omega⟩
   simp only[Ao hm] at ht;exact absurd ht.symm hl
  rw[Ao ht] at h;cases h
open Go Go.Lib
theorem Ve {l:List UInt8}{q:Int}(h:Pa l= .error q):q=4\/q=9:=by
 unfold Pa at h;simp only at h;generalize cut (if l.head? =some 45 then l.tail else l) [46]=c at h;by_cases hc:((!Gn c.1||(decide (1<c.1.length) && c.1.head? ==some 48))||(c.2.2 && (!Gn c.2.1||decide (4<c.2.1.length))))=true
 ·rw[Ap hc] at h;injection h with h;exact .inl h.symm
 rw[Ao hc] at h;generalize parseIntB 64 _=z at h;cases z
 case ok n=>cases h
 all_goals (injection h with h;exact .inr h.symm)
theorem Pu {l:List UInt8}{e:Int}(h:D2 l= .error e):e=3\/e=4\/e=9:=by
 unfold D2 at h;by_cases h4:402<l.length
 ·rw[Ap h4] at h;injection h with h;exact .inl h.symm
 rw[Ao h4] at h;by_cases hl:l=[]
 ·rw[Ap hl] at h;injection h with h;exact .inr (.inl h.symm)
 rw[Ao hl] at h;cases hr:Eu l with
 |ok v=>
  rw[hr] at h;simp only at h
  split at h
  ·cases h
  injection h with h;exact .inr (.inl h.symm)
 |error q=>
  rw[hr] at h;injection h with h;subst h;have hnum:∀x,Pa x= .error q->q=4\/q=9:=fun x hx=>Ve hx
  unfold Eu at hr
  split at hr
  ·cases hr
  ·cases hr
  ·exact zwz
  ·exact zwz
  ·exact zwz
  cases hq:Pa l with
  |ok p=>rw[hq] at hr;cases hr
  |error z=>
   rw[hq] at hr;injection hr with hr;subst hr;exact .inr (hnum l hq)
def Ym (l:List UInt8):Int:=
 if l.head? =some 34 then 3 else if l.head? =some 35 then 5 else if l=[110,117,108,108] then 0 else if l=[116,114,117,101]\/l=[102,97,108,115,101] then 4 else if contains l [46]=true then 2 else 1
theorem Xm (n:Int):contains (itoa n) [46]=false:=by
 have:(46:UInt8)∉itoa n:=by
  unfold itoa
  split
  ·rw[List.mem_cons];rintro (q|q)
   ·revert q;decide
   exact Sj (F6 _) rfl q
  exact Sj (F6 _) rfl
 unfold contains;rw[Gy this];rfl
theorem cS (n:Int):contains (Rb n) [46]=true:=by
 have hd:=Zf (F6 n.natAbs);unfold Rb;generalize Oh (decDigits n.natAbs)=p at hd ⊢;have hw:(p.take (p.length - 4)).all Bb=true:=List.all_eq_true.2 fun c hc=>List.all_eq_true.1 hd c (List.mem_of_mem_take hc)
 have hn:(46:UInt8)∉(if n<0 then[(45:UInt8)] else[])++p.take (p.length - 4):=by
  rw[List.mem_append];rintro (q|q)
  ·split at q
   ·simp at q
   simp at q
  exact Sj hw rfl q
 rw[←List.append_assoc];unfold contains;rw[Gu _ _ hn,decide_eq_true_eq];omega
theorem T9 {c:UInt8}{l q:List UInt8}(e:l=c::q)(hc:c=45\/Bb c=true):Ym l=if contains l [46]=true then 2 else 1:=by
 obtain⟨h1,h2,h3,h4,h5⟩:=fV hc;subst e;unfold Ym;rw[Ao vY,Ao (by simpa using h2),Ao (by simp [h5]),Ao (by simp [h3,h4])]
theorem Vb {k n:Int}{s:List UInt8}(h:Gi k n s=true):Ym (Po k n s)=k:=by
 rcases O2 h with ⟨rfl,rfl,rfl⟩|⟨rfl,rfl⟩|⟨rfl,rfl⟩|⟨rfl,rfl,hl,hp⟩|⟨rfl,rfl,hn⟩|⟨rfl,rfl,hn⟩
 ·rfl
 ·show Ym (itoa n)=1;obtain⟨c,q,e,hc⟩:=jC n;rw[T9 e hc,Xm];rfl
 ·show Ym (Rb n)=2;obtain⟨c,q,e,hc⟩:=fM n;rw[T9 e hc,cS];rfl
 ·rfl
 ·rcases hn with rfl|rfl
  ·rfl
  rfl
 rfl
open Go Go.RowKit Go.Lib
abbrev dl (s:ByteArray):List UInt8:=s.data.toList
theorem Dj (l:List UInt8):dl ⟨l.toArray⟩=l:=rfl
theorem Cn {s t:ByteArray}(h:dl s=dl t):s=t:=by
 obtain⟨⟨a⟩⟩:=s;obtain⟨⟨b⟩⟩:=t;simp only[dl] at h;rw[h]
theorem A4 (s:ByteArray):(dl s).length=s.size:=by simp [dl]
theorem Ef (s t:ByteArray):dl (s++t)=dl s++dl t:=by
 show(s++t).data.toList=s.data.toList++t.data.toList
 simp
theorem Fg (s:ByteArray)(a b:Nat):dl (s.extract a b)=((dl s).drop a).take (b - a):=extract_data s a b
theorem Gd (s:ByteArray)(a:Nat):dl (s.extract a s.size)=(dl s).drop a:=extract_to_end s a
theorem Lj (s:ByteArray):(⟨(dl s).toArray⟩:ByteArray)=s:=by
 obtain⟨⟨l⟩⟩:=s;rfl
theorem Az (s:ByteArray):s.toList=dl s:=ByteArray.toList_eq s
theorem Gw {s:ByteArray}{i:Nat}(h:i<s.size):(dl s)[i]? =some s[i]:=by
 have h':i<(dl s).length:=by rw[A4];exact h
 rw[Ag h'];rfl
theorem Lp {s:ByteArray}(h:0<s.size):(dl s).head? =some s[0]:=by
 rw[List.head?_eq_getElem?];exact Gw h
theorem Ep {s t:ByteArray}(h:dl s=dl t):Ending.returned (.string s)= .returned (.string t):=by rw[Cn h]
def tD:Value->ByteArray
 | .string s=>s
 |_=>ByteArray.empty
open Go Go.RowKit Go.Lib Go.Sort Go.Shelf
theorem iC {w w':World}{P:Program}{n:String}{cs:Array Value}(h:w.var? P n=some cs)(hb:Below w.heap.size w w'):w'.var? P n=some cs:=by
 unfold World.var? at*
 cases hg:P.globalNamed n with
 |none=>rw[hg] at h;cases h
 |some g=>
  rw[hg] at h;simp only[Option.bind_some] at h ⊢;cases ho:w.heap[g]? with
  |none=>rw[ho] at h;cases h
  |some o=>
   rw[(hb.block g (lt_of_block ho)).trans ho];rw[ho] at h;exact h
structure Rd (w:World):Prop where
 ml:∃m,w.cell? ⟨1,0,none⟩=some (.int .i64 m)
 tab:Lib.TabIs Tryz.prog w "internal/strconv.uint64pow10" .u64 Lib.pow10Tab
 rng:∃ev,w.cell? ⟨7,0,none⟩=some ev/\(ev= .nilIface\/∃te pe,ev= .iface te pe)
 syn:∃ev,w.cell? ⟨6,0,none⟩=some ev/\(ev= .nilIface\/∃te pe,ev= .iface te pe)
theorem Rd.below {w w':World}(h:Rd w)(hb:Below w.heap.size w w'):Rd w':=
 ⟨h.ml.imp fun _ hm=>Ba hb hm,iC h.tab hb,h.rng.imp fun _ hm=>⟨Ba hb hm.1,hm.2⟩,h.syn.imp fun _ hm=>⟨Ba hb hm.1,hm.2⟩⟩
theorem Ti (w:World)(k:Nat)(os:Array Obj):Below w.heap.size w (grow (w.drewN k) os):=
 ⟨rfl,rfl,rfl,by simp [grow,World.drewN],fun i hi=>by
  have:i<(w.drewN k).heap.size:=hi
  rw[heap_grow_old _ _ this]
  rfl⟩
open Go Go.RowKit Go.Lib Go.Sort Go.Shelf
theorem nN (c:UInt8):Dm c=(decide (97<=(c.toNat:Int)) && decide ((c.toNat:Int)<=122)):=by
 unfold Dm;congr 1
 ·exact decide_eq_decide.2 tE
 exact decide_eq_decide.2 tE
theorem lW (c:UInt8):Bb c=(decide (48<=(c.toNat:Int)) && decide ((c.toNat:Int)<=57)):=by
 unfold Bb;congr 1
 ·exact decide_eq_decide.2 tE
 exact decide_eq_decide.2 tE
theorem Ov (c:UInt8)(w:World):Calls Tryz.prog 110 #[.int .u8 (c.toNat:Int)] w fun e w'=>e= .returned (.bool (Dm c))/\w=w':=by
 rw[nN];obtain⟨p,hp⟩:∃p,decide (97<=(c.toNat:Int))=p:=⟨_,rfl⟩;obtain⟨q,hq⟩:∃q,decide ((c.toNat:Int)<=122)=q:=⟨_,rfl⟩;cases p<;>cases q
 all_goals
  go_enter Tryz.func110,Tryz.ntmps110
  go_wp2
  go_ret;exact⟨by simp [hp,hq],rfl⟩
theorem Lb (c:UInt8)(w:World):Calls Tryz.prog 112 #[.int .u8 (c.toNat:Int)] w fun e w'=>e= .returned (.bool (Bb c))/\w=w':=by
 rw[lW];obtain⟨p,hp⟩:∃p,decide (48<=(c.toNat:Int))=p:=⟨_,rfl⟩;obtain⟨q,hq⟩:∃q,decide ((c.toNat:Int)<=57)=q:=⟨_,rfl⟩;cases p<;>cases q
 all_goals
  go_enter Tryz.func112,Tryz.ntmps112
  go_wp2
  go_ret;exact⟨by simp [hp,hq],rfl⟩
def Cg (c:UInt8):Bool:=Dm c||Bb c
theorem Vh (c:UInt8)(w:World):Calls Tryz.prog 111 #[.int .u8 (c.toNat:Int)] w fun e w'=>e= .returned (.bool (Cg c))/\w=w':=by
 unfold Cg;have h1:=Ov c w;have h2:=Lb c w;obtain⟨p,hp⟩:∃p,Dm c=p:=⟨_,rfl⟩;obtain⟨q,hq⟩:∃q,Bb c=q:=⟨_,rfl⟩;rw[hp] at h1 ⊢;rw[hq] at h2 ⊢;have H1:=Ax h1;have H2:=Ax h2;clear h1 h2 hp hq;cases p
 ·go_enter Tryz.func111,Tryz.ntmps111;go_wp2_with fail;refine H1.out.mono ?_;rintro e w' ⟨rfl,rfl⟩;go_wp2_with fail;refine H2.out.mono ?_;rintro e w' ⟨rfl,rfl⟩
  go_wp2
  go_ret;exact⟨by simp,rfl⟩
 go_enter Tryz.func111,Tryz.ntmps111;go_wp2_with fail;refine H1.out.mono ?_;rintro e w' ⟨rfl,rfl⟩
 go_wp2
 go_ret;exact⟨by simp,rfl⟩
theorem kI (c:UInt8)(w:World):Calls Tryz.prog 108 #[.int .u8 (c.toNat:Int)] w fun e w'=>e= .returned (.bool (c !=10))/\w=w':=by
 have h:(c !=10)=((c.toNat:Int) !=10):=by
  by_cases e:c=10
  ·subst e;rfl
  have h1:(c !=10)=true:=by simpa using e
  have h2:c.toNat≠10:=fun q=>e (UInt8.toNat_inj.1 q)
  have h3:((c.toNat:Int) !=10)=true:=by simp;omega
  rw[h1,h3]
 rw[h];go_enter Tryz.func108,Tryz.ntmps108
 go_wp2
 go_ret;exact⟨by simp,rfl⟩
theorem Vg (s:ByteArray)(fn:Nat)(caps:Array Value)(p:Nat->Bool)(I:Nat->World->Prop)(eg:∀args w,(callFunc fn args).run Tryz.prog w= .ok (.enter fn args) w)
 (hs:s.size<=9223372036854775806) (a n:Nat) (w:World) (han:a<=n) (hn:n<=s.size) (hlt:∀i,a<=i->i<n->p i=true) (hend:n<s.size->p n=false)
 (hI:I a w) (hstep:∀i V (h:i<s.size),a<=i->I i V->Calls Tryz.prog fn (#[.int .u8 (s[i].toNat:Int)]++caps) V fun e V'=>e= .returned (.bool (p i))/\I (i+1) V'):
 Calls Tryz.prog 107 #[.string s,.int .i64 a,.func (.func fn) #[] caps] w fun e w'=>e= .returned (.int .i64 ((n:Int) - (a:Int)))/\∃k,I k w':=by
 have Hlt:=Ax hlt;have Hend:=Ax hend;have Hst:=Ax hstep;have HI:=Ax hI;clear hlt hend hstep hI;go_enter Tryz.func107,Tryz.ntmps107
 go_wp2
 go_loopw [7] (fun v7 wr=>∃i:Nat,a<=i/\i<=n/\v7= .int .i64 i/\Hid (I i wr)) (fun v7 _=>n - (intOf v7).toNat)
 case atStart=>exact⟨a,Ak _,han,rfl,HI.out⟩
 obtain⟨i,hai,hin,rfl,hq⟩:=hrel;by_cases hi:i<s.size
 ·have hc:=Hst.out i wr hi hai hq.out;have j1:(i:Int)<(s.size:Int):=by omega
  have j0:(0:Int)<=(i:Int):=by omega
  by_cases hlt:i<n
  ·rw[Hlt.out i hai hlt] at hc;have Hc:=Ax hc;clear hc hq;go_wp2_with fail;refine Hc.out.mono ?_;rintro e V ⟨rfl,hV⟩;have HV:=Ax hV;clear hV Hc
   go_wp2
   go_roundw
   case rel=>exact⟨i+1,by omega,by omega,by go_num,HV.out⟩
   case measure=>simp [intOf];omega
  obtain rfl:i=n:=by omega
  rw[Hend.out hi] at hc;have Hc:=Ax hc;clear hc hq;go_wp2_with fail;refine Hc.out.mono ?_;rintro e V ⟨rfl,hV⟩;have HV:=Ax hV;clear hV Hc
  go_wp2
  go_ret;exact⟨rfl,_,HV.out⟩
 obtain rfl:i=n:=by omega
 have j1:¬(i:Int)<(s.size:Int):=by omega
 go_wp2
 go_ret;exact⟨rfl,_,hq.out⟩
def A5 (q:UInt8->Bool)(l:List UInt8):Nat:=(l.takeWhile q).length
theorem Cm (q:UInt8->Bool)(l:List UInt8):A5 q l<=l.length:=by
 unfold A5
 have:=Ar List.length (List.takeWhile_append_dropWhile (p:=q) (l:=l))
 rw[Ab] at this;omega
theorem Z5 (q:UInt8->Bool):∀(l:List UInt8) (i:Nat),i<A5 q l->∃c,l[i]? =some c/\q c=true
 |[],i,h=>by simp [A5] at h
 |c::l,i,h=>by
  unfold A5 at h;rw[List.takeWhile_cons] at h;by_cases hc:q c=true
  ·rw[Ap hc] at h;cases i with
   |zero=>exact⟨c,rfl,hc⟩
   |succ i=>
    obtain⟨d,h1,h2⟩:=Z5 q l i (by simpa[A5] using h);exact⟨d,h1,h2⟩
  rw[Ao hc] at h;simp at h
theorem Vq (q:UInt8->Bool):∀(l:List UInt8),A5 q l<l.length->∃c,l[A5 q l]? =some c/\q c=false
 |[],h=>by simp [A5] at h
 |c::l,h=>by
  unfold A5 at h ⊢;rw[List.takeWhile_cons] at h ⊢;by_cases hc:q c=true
  ·rw[Ap hc] at h ⊢;obtain⟨d,h1,h2⟩:=Vq q l (by simpa[A5] using h);exact⟨d,by simpa[A5] using h1,h2⟩
  rw[Ao hc];exact⟨c,rfl,by simpa using hc⟩
theorem J2 (s:ByteArray)(fn:Nat)(q:UInt8->Bool)(eg:∀args w,(callFunc fn args).run Tryz.prog w= .ok (.enter fn args) w)(hs:s.size<=9223372036854775806)(a:Nat)(w:World)(ha:a<=s.size)
 (hq:∀(c:UInt8) (V:World),Calls Tryz.prog fn #[.int .u8 (c.toNat:Int)] V fun e V'=>e= .returned (.bool (q c))/\V=V'):
 Calls Tryz.prog 107 #[.string s,.int .i64 a,.func (.func fn) #[] #[]] w fun e w'=>e= .returned (.int .i64 (A5 q ((dl s).drop a):Nat))/\w=w':=by
 have hle:=Cm q ((dl s).drop a);rw[List.length_drop,A4] at hle;have hget:∀i (h:i<s.size),(dl s)[i]? =some s[i]:=fun i h=>Gw h
 refine(Vg s fn #[] (fun i=>((dl s)[i]?.map q).getD false) (fun _ V=>w=V) eg hs a (a+A5 q ((dl s).drop a)) w tE tE (fun i h1 h2=>?_) (fun h=>?_) rfl (fun i V h _ hV=>?_)).mono ?_
 ·obtain⟨c,h3,h4⟩:=Z5 q ((dl s).drop a) (i - a) tE;rw[List.getElem?_drop,show a+(i - a)=i by omega] at h3;simp [h3,h4]
 ·obtain⟨c,h3,h4⟩:=Vq q ((dl s).drop a) vN;rw[List.getElem?_drop] at h3;simp [h3,h4]
 ·refine(hq s[i] V).mono ?_;rintro e V' ⟨rfl,rfl⟩;exact⟨by rw[hget i h];rfl,hV⟩
 rintro e w' ⟨rfl,k,hk⟩;exact⟨by congr 2;omega,hk⟩
end Go.Proofs.YtmpfilddeglgbaaGreatDoor
