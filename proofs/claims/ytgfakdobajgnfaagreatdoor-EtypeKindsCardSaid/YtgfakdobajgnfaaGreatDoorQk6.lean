import Derived.Shelf.Strings.Builder1
import Derived.Lib.Replace
import Derived.Lib.TrimByte
import Derived.Lib.ParseIntBCases
import Derived.Lib.ItoaMem
import Derived.Test.YtgfakdobajgnfaaGreatDoorQk5
set_option maxRecDepth 100000
set_option maxHeartbeats 16000000
namespace Go.Proofs.YtgfakdobajgnfaaGreatDoor
open Go Go.RowKit Go.Lib
def Ef (n:Nat):Bool:=decide (97<=n/\n<=122)
def Jd (n:Nat):Bool:=decide (48<=n/\n<=57)
def Ij (n:Nat):Bool:=!Ef n && !Jd n
def I8 (n:Nat):Bool:=decide (n<32\/126<n)
def G9 (s:ByteArray):Bool:=match s.data.toList with
 |[]=>false
 |c::r=>decide (s.size<=12) && Ef c.toNat && !(r.any fun b=>Ij b.toNat)
def K4 (s:ByteArray):Bool:=decide (s.size<=200) && !(s.data.toList.any fun b=>I8 b.toNat)
def cZ (v:Vl):Bool:=
 if v.k=0 then decide (v.n=0) && decide (v.s.size=0) else if v.k=1\/v.k=2 then decide (v.s.size=0) else if v.k=3 then decide (v.n=0) && K4 v.s
 else if v.k=4 then decide (v.s.size=0) && decide (v.n=0\/v.n=1) else if v.k=5 then decide (v.n=0) && G9 v.s else false
theorem lA {s:ByteArray}{c:Nat}(h:c<s.size):s.data.toList.drop c=s.get! c::s.data.toList.drop (c+1):=by
 have d:c<s.data.toList.length:=by simpa using h
 rw[List.drop_eq_getElem_cons d];congr 1;simp only[ByteArray.get!];rw[getElem!_pos s.data c sD];simp
theorem Wq (p:Nat->Bool)(g:∀r,128<=r->p r=true)(s:ByteArray):∀(f d:Nat),s.size<=d+f->
 decide (0<=idxFuncFrom p true s f d)=(s.data.toList.drop d).any (fun b=>p b.toNat)
 |0,d,h=>by
  rw[List.drop_eq_nil_of_le sD];rfl
 |f+1,d,h=>by
  unfold idxFuncFrom;by_cases hlt:d<s.size
  ·rw[Ap hlt,lA hlt,List.any_cons];rcases decodeN_cases (s.size - d) (s.get! d).toNat (s.get! (d+1)).toNat (s.get! (d+2)).toNat (s.get! (d+3)).toNat with ⟨c,e⟩|j
   ·rw[←decode_at] at e;rw[e];cases hq:p (s.get! d).toNat
    ·simp only[Bool.false_eq_true,if_false,Bool.false_or];exact Wq p g s f (d+1) rF
    simp
   have i:128<=(Utf8.decode s d).1:=by
    rw[decode_at];rcases j with ⟨_,_,_,_,e⟩|⟨_,_,_,_,_,e⟩|⟨_,e⟩|e
    ·rw[e];assumption
    ·rw[e];simp only;omega
    ·omega
    rw[e];simp
   rw[g _ i,Ap rfl];by_cases hb:(s.get! d).toNat<128
   ·exfalso
    have:decodeN (s.size - d) (s.get! d).toNat (s.get! (d+1)).toNat (s.get! (d+2)).toNat (s.get! (d+3)).toNat=((s.get! d).toNat,1):=by
     unfold decodeN;rw[Ap hb]
    rw[decode_at,this] at i;simp only at i;omega
   rw[g _ rF];simp
  rw[Ao hlt,List.drop_eq_nil_of_le (by simpa using Nat.le_of_not_lt hlt)];rfl
theorem Pw (p:Nat->Bool)(c:∀r,128<=r->p r=true)(s:ByteArray):decide (0<=idxFunc p true s)=s.data.toList.any (fun b=>p b.toNat):=by
 have:=Wq p c s s.size 0 rF
 rw[List.drop_zero] at this;exact this
theorem oP (r:Nat)(h:128<=r):Ij r=true:=by
 have c:¬(97<=r/\r<=122):=by omega
 have d:¬(48<=r/\r<=57):=by omega
 simp [Ij,Ef,Jd,c,d]
theorem mN (r:Nat)(h:128<=r):I8 r=true:=by
 have c:r<32\/126<r:=by omega
 simp [I8,c]
theorem mW (x:Nat)(W:World)(h:x<=1114111):Calls Tryz.prog 115 #[.int .i32 (x:Int)] W fun e w'=>e= .returned (.bool (Ij x))/\w'=W:=by
 by_cases h1:x<97
 ·have f:decide ((x:Int)<97)=true:=by simp;omega
  by_cases h3:x<48
  ·have c:decide ((x:Int)<48)=true:=by simp;omega
   exact zxw
  have c:decide ((x:Int)<48)=false:=by simp;omega
  by_cases h4:57<x
  ·have d:decide ((57:Int)<(x:Int))=true:=by simp;omega
   exact zxw
  have d:decide ((57:Int)<(x:Int))=false:=by simp;omega
  go_enter Tryz.func115,Tryz.ntmps115
  go_wp2
  go_ret;exact⟨by simp [Ij,Ef,Jd,show ¬(97<=x/\x<=122) by omega,show(48<=x/\x<=57) by omega],rfl⟩
 have f:decide ((x:Int)<97)=false:=by simp;omega
 by_cases h2:122<x
 ·have g:decide ((122:Int)<(x:Int))=true:=by simp;omega
  have c:decide ((x:Int)<48)=false:=by simp;omega
  have d:decide ((57:Int)<(x:Int))=true:=by simp;omega
  exact zxw
 have g:decide ((122:Int)<(x:Int))=false:=by simp;omega
 go_enter Tryz.func115,Tryz.ntmps115
 go_wp2
 go_ret;exact⟨by simp [Ij,Ef,Jd,show(97<=x/\x<=122) by omega],rfl⟩
theorem nE (x:Nat)(W:World)(f:x<=1114111):Calls Tryz.prog 114 #[.int .i32 (x:Int)] W fun e w'=>e= .returned (.bool (I8 x))/\w'=W:=by
 by_cases h1:x<32
 ·have c:decide ((x:Int)<32)=true:=by simp;omega
  go_enter Tryz.func114,Tryz.ntmps114
  go_wp2
  go_ret;exact⟨by simp [I8,h1],rfl⟩
 have c:decide ((x:Int)<32)=false:=by simp;omega
 by_cases h2:126<x
 ·have d:decide ((126:Int)<(x:Int))=true:=by simp;omega
  go_enter Tryz.func114,Tryz.ntmps114
  go_wp2
  go_ret;exact⟨by simp [I8,h2],rfl⟩
 have d:decide ((126:Int)<(x:Int))=false:=by simp;omega
 go_enter Tryz.func114,Tryz.ntmps114
 go_wp2
 go_ret;exact⟨by simp [I8,h1,h2],rfl⟩
theorem fK (s:ByteArray)(w:World):Calls Tryz.prog 113 #[.string s,.func (.func 115) #[] #[]] w fun e w'=>e= .returned (.bool (s.data.toList.any fun b=>Ij b.toNat))/\Below w.heap.size w w':=by
 rw[←Pw Ij oP];exact Tryz.strings_ContainsFunc_runes 115 #[] (enters_of Tryz.func115 rG rfl) Ij s w fun W x c _=>(mW x W c).mono fun e w' ⟨d,f⟩=>⟨d,0,f⟩
theorem eH (s:ByteArray)(w:World):Calls Tryz.prog 113 #[.string s,.func (.func 114) #[] #[]] w fun e w'=>e= .returned (.bool (s.data.toList.any fun b=>I8 b.toNat))/\Below w.heap.size w w':=by
 rw[←Pw I8 mN];exact Tryz.strings_ContainsFunc_runes 114 #[] (enters_of Tryz.func114 rG rfl) I8 s w fun W x c _=>(nE x W c).mono fun e w' ⟨d,f⟩=>⟨d,0,f⟩
open Go Go.RowKit Go.Lib
theorem Iz {a b:Bool}(h:a=b):Ending.returned (.bool a)= .returned (.bool b):=by rw[h]
theorem Mx {s:ByteArray}(h:s.size=0):s.toList=[]:=by
 rw[ByteArray.toList_eq];exact List.eq_nil_of_length_eq_zero sD
theorem L9 {s:ByteArray}(h:0<s.size):¬s.toList=[]:=by
 rw[ByteArray.toList_eq];intro e;have c:s.data.toList.length=s.size:=by simp
 rw[e] at c;simp at c;omega
theorem Mv {s:ByteArray}(h:0<s.size):s.toList.isEmpty=false:=by
 have:=L9 h
 cases hl:s.toList with
 |nil=>exact absurd hl this
 |cons=>rfl
theorem Su {s:ByteArray}(h:s.size=0):s.toList.isEmpty=true:=by rw[Mx h];rfl
theorem dL {s:ByteArray}(h:0<s.size):∃r,s.data.toList=s[0]::r:=by
 have d:0<s.data.toList.length:=by simpa using h
 refine⟨s.data.toList.tail,?_⟩;cases hl:s.data.toList with
 |nil=>simp [hl] at d
 |cons c r=>
  have:s.data.toList[0]=c:=by simp [hl]
  rw[List.tail_cons,←this];rfl
theorem Rp {s:ByteArray}(h:s.size=0):G9 s=false:=by
 have:s.data.toList=[]:=List.eq_nil_of_length_eq_zero sD
 simp [G9,this]
theorem Oy {s:ByteArray}(h:0<s.size):G9 s=(decide (s.size<=12) && Ef s[0].toNat && !(s.data.toList.any fun b=>Ij b.toNat)):=by
 obtain⟨r,c⟩:=dL h;unfold G9;rw[c];simp only[List.any_cons];cases hl:Ef s[0].toNat
 ·simp
 simp [Ij,hl]
theorem Y5 (s:ByteArray)(u:s.size<=9223372036854775807)(w:World):
 Calls Tryz.prog 72 #[.string s] w fun e w'=>e= .returned (.bool (G9 s))/\Below w.heap.size w w':=by
 by_cases h0:s.size=0
 ·have d:=Rp h0;have n:=Mx h0;have o:=Su h0;rw[d];clear h0 d;exact zxh
 have j:0<s.size:=by omega
 have d:=Oy j;have n:=L9 j;have o:=Mv j;clear h0;by_cases h12:s.size<=12
 ·have k:(s.size:Int)<=12:=by omega
  have p:decide (12<(s.size:Int))=false:=by simp;omega
  rw[Am h12] at d;obtain⟨c,f⟩:∃c:UInt8,s[0]=c:=⟨_,rfl⟩;rw[f] at d;by_cases ha:c.toNat<97
  ·have g:Ef c.toNat=false:=by simp [Ef];omega
   rw[g] at d;rw[d];have q:(s[0].toNat:Int)<97:=by rw[f];omega
   clear d f ha g;exact zxh
  have q:97<=(s[0].toNat:Int):=by rw[f];omega
  by_cases hz:122<c.toNat
  ·have g:Ef c.toNat=false:=by simp [Ef];omega
   rw[g] at d;rw[d];have r:122<(s[0].toNat:Int):=by rw[f];omega
   clear d f ha g;exact zxh
  have g:Ef c.toNat=true:=by simp [Ef];omega
  rw[g] at d;rw[d];have r:(s[0].toNat:Int)<=122:=by rw[f];omega
  have h:=fK s w;obtain⟨b,m⟩:∃b,(s.data.toList.any fun b=>Ij b.toNat)=b:=⟨_,rfl⟩;rw[m] at h ⊢;have Hc:=Ax h;clear d f ha g m h hz;go_enter Tryz.func72,Tryz.ntmps72;exact zw9
 have i:G9 s=false:=by rw[d,An h12];rfl
 rw[i];have k:12<(s.size:Int):=by omega
 clear d i h12;exact zxh
theorem Y9 (s:ByteArray)(g:s.size<=9223372036854775807)(w:World):
 Calls Tryz.prog 71 #[.string s] w fun e w'=>e= .returned (.bool (K4 s))/\Below w.heap.size w w':=by
 unfold K4;by_cases h:s.size<=200
 ·have d:(s.size:Int)<=200:=by omega
  rw[Am h];have c:=eH s w;obtain⟨b,f⟩:∃b,(s.data.toList.any fun b=>I8 b.toNat)=b:=⟨_,rfl⟩;rw[f] at c ⊢;have Hc:=Ax c;clear f c h;go_enter Tryz.func71,Tryz.ntmps71;exact zw9
 have d:200<(s.size:Int):=by omega
 rw[An h];clear h;go_enter Tryz.func71,Tryz.ntmps71
 go_wp2
 go_ret;exact⟨rfl,Aq _ _⟩
theorem D9 (s:ByteArray){b:Bool}(c:decide (s.size=0)=b):s.toList.isEmpty=b/\(b=true->s.toList=[])/\(b=false->¬s.toList=[]):=by
 cases b
 ·have:0<s.size:=Nat.pos_of_ne_zero (of_decide_eq_false c)
  exact⟨Mv this,(fun h=>by cases h),fun _=>L9 this⟩
 have:s.size=0:=of_decide_eq_true c
 exact⟨Su this,fun _=>Mx this,(fun h=>by cases h)⟩
def Fp (w:World)(b:Bool)(e:Ending)(w':World):Prop:=e= .returned (.bool b)/\Below w.heap.size w w'
theorem lY (n:Int)(s:ByteArray)(w:World):Calls Tryz.prog 42 #[.agg #[.int .u8 0,.int .i64 n,.string s]] w (Fp w (decide (n=0) && decide (s.size=0))):=by
 have HB:=Ax ((Aq w.heap.size w).alloc (Ak _) (.cells #[.int .u8 0,.int .i64 n,.string s] 23));obtain⟨q,e⟩:∃q,decide (s.size=0)=q:=⟨_,rfl⟩;obtain⟨g,c,d⟩:=D9 s e;rw[e];clear e;by_cases hn:n=0
 ·subst hn;cases q
  ·have f:=d rfl;clear c d;go_enter Tryz.func42,Tryz.ntmps42;exact zzf
  have f:=c rfl;clear c d;go_enter Tryz.func42,Tryz.ntmps42;exact zzf
 have h:(n==0)=false:=by simpa using hn
 rw[An hn];cases q
 ·have f:=d rfl;clear c d;go_enter Tryz.func42,Tryz.ntmps42;exact zzf
 have f:=c rfl;clear c d;go_enter Tryz.func42,Tryz.ntmps42;exact zzf
theorem oG (k n:Int)(s:ByteArray)(w:World)(f:k=1\/k=2):Calls Tryz.prog 42 #[.agg #[.int .u8 k,.int .i64 n,.string s]] w (Fp w (decide (s.size=0))):=by
 have HB:=Ax ((Aq w.heap.size w).alloc (Ak _) (.cells #[.int .u8 k,.int .i64 n,.string s] 23));obtain⟨q,e⟩:∃q,decide (s.size=0)=q:=⟨_,rfl⟩;obtain⟨g,c,d⟩:=D9 s e;rw[e];clear e;rcases f with rfl|rfl
 all_goals
  cases q
  ·have h:=d rfl;clear c d;go_enter Tryz.func42,Tryz.ntmps42;exact zzf
  have h:=c rfl;clear c d;go_enter Tryz.func42,Tryz.ntmps42;exact zzf
theorem nM (n:Int)(s:ByteArray)(f:s.size<=9223372036854775807)(w:World):Calls Tryz.prog 42 #[.agg #[.int .u8 3,.int .i64 n,.string s]] w (Fp w (decide (n=0) && K4 s)):=by
 have HB:=Ax ((Aq w.heap.size w).alloc (Ak _) (.cells #[.int .u8 3,.int .i64 n,.string s] 23));have c:=Y9 s f (w.alloc (.cells #[.int .u8 3,.int .i64 n,.string s] 23));obtain⟨b,d⟩:∃b,K4 s=b:=⟨_,rfl⟩;rw[d] at c ⊢;have Hc:=Ax c;clear c d;by_cases hn:n=0
 ·exact zxg
 have g:(n==0)=false:=by simpa using hn
 rw[An hn];clear hn;go_enter Tryz.func42,Tryz.ntmps42;exact zzf
theorem oA (n:Int)(s:ByteArray)(f:s.size<=9223372036854775807)(w:World):Calls Tryz.prog 42 #[.agg #[.int .u8 5,.int .i64 n,.string s]] w (Fp w (decide (n=0) && G9 s)):=by
 have HB:=Ax ((Aq w.heap.size w).alloc (Ak _) (.cells #[.int .u8 5,.int .i64 n,.string s] 23));have c:=Y5 s f (w.alloc (.cells #[.int .u8 5,.int .i64 n,.string s] 23));obtain⟨b,d⟩:∃b,G9 s=b:=⟨_,rfl⟩;rw[d] at c ⊢;have Hc:=Ax c;clear c d;by_cases hn:n=0
 ·exact zxg
 have g:(n==0)=false:=by simpa using hn
 rw[An hn];clear hn;go_enter Tryz.func42,Tryz.ntmps42;exact zzf
theorem jV (n:Int)(s:ByteArray)(w:World):Calls Tryz.prog 42 #[.agg #[.int .u8 4,.int .i64 n,.string s]] w (Fp w (decide (s.size=0) && decide (n=0\/n=1))):=by
 have HB:=Ax ((Aq w.heap.size w).alloc (Ak _) (.cells #[.int .u8 4,.int .i64 n,.string s] 23));obtain⟨q,e⟩:∃q,decide (s.size=0)=q:=⟨_,rfl⟩;obtain⟨f,c,d⟩:=D9 s e;rw[e];clear e;cases q
 ·have g:=d rfl;clear c d;go_enter Tryz.func42,Tryz.ntmps42;exact zzf
 have g:=c rfl;clear c d;by_cases h0:n=0
 ·subst h0;go_enter Tryz.func42,Tryz.ntmps42;exact zzf
 by_cases h1:n=1
 ·subst h1;go_enter Tryz.func42,Tryz.ntmps42;exact zzf
 have h:(n==0)=false:=by simpa using h0
 have i:(n==1)=false:=by simpa using h1
 rw[An rF];clear h0 h1;go_enter Tryz.func42,Tryz.ntmps42;exact zzf
theorem dC (k n:Int)(s:ByteArray)(w:World)(c:k<0\/5<k):Calls Tryz.prog 42 #[.agg #[.int .u8 k,.int .i64 n,.string s]] w (Fp w false):=by
 have HB:=Ax ((Aq w.heap.size w).alloc (Ak _) (.cells #[.int .u8 k,.int .i64 n,.string s] 23));have d:(k==0)=false:=by simp;omega
 have e:(k==1)=false:=by simp;omega
 have f:(k==2)=false:=by simp;omega
 have g:(k==3)=false:=by simp;omega
 have h:(k==4)=false:=by simp;omega
 have i:(k==5)=false:=by simp;omega
 clear c;go_enter Tryz.func42,Tryz.ntmps42;exact zzf
theorem oU (v:Vl)(c:v.s.size<=9223372036854775807)(w:World):
 Calls Tryz.prog 42 #[.agg #[.int .u8 v.k,.int .i64 v.n,.string v.s]] w fun e w'=>e= .returned (.bool (cZ v))/\Below w.heap.size w w':=by
 obtain⟨k,n,s⟩:=v;simp only at c;unfold cZ;simp only;by_cases k0:k=0
 ·subst k0;rw[Ap rfl];exact lY n s w
 rw[Ao k0];by_cases k1:k=1\/k=2
 ·rw[Ap k1];exact oG k n s w k1
 rw[Ao k1];by_cases k3:k=3
 ·subst k3;rw[Ap rfl];exact nM n s c w
 rw[Ao k3];by_cases k4:k=4
 ·subst k4;rw[Ap rfl];exact jV n s w
 rw[Ao k4];by_cases k5:k=5
 ·subst k5;rw[Ap rfl];exact oA n s c w
 rw[Ao k5];exact dC k n s w rF
open Go Go.Shelf Go.RowKit
def iG:Go.Shelf.Ren:=⟨fun|167=>129|240=>193|276=>232|n=>n,
 fun|0=>0|4=>4|5=>5|9=>9|20=>20|37=>40|70=>179|72=>181|75=>119|80=>183|164=>254|n=>n,fun|n=>n⟩
theorem nC:Go.Proofs.Lays.n167 Tryz.prog iG:={
 mixed:=by kernel_rfl
 f167:=Tryz.func129.trans (Ar some rG)
 f240:=Tryz.func193.trans (Ar some rG)
 f276:=Tryz.func232.trans (Ar some rG)
 t0:=Tryz.underlying0
 a0:=Tryz.isAgg0
 z0:=Tryz.sizeOf0
 v0:=Tryz.zeroValue0
 t4:=Tryz.underlying4
 a4:=Tryz.isAgg4
 z4:=Tryz.sizeOf4
 v4:=Tryz.zeroValue4
 t5:=Tryz.underlying5
 a5:=Tryz.isAgg5
 z5:=Tryz.sizeOf5
 v5:=Tryz.zeroValue5
 t9:=Tryz.underlying9
 a9:=Tryz.isAgg9
 z9:=Tryz.sizeOf9
 v9:=Tryz.zeroValue9
 t20:=Tryz.underlying20
 a20:=Tryz.isAgg20
 z20:=Tryz.sizeOf20
 v20:=Tryz.zeroValue20
 t37:=Tryz.underlying40
 a37:=Tryz.isAgg40
 z37:=Tryz.sizeOf40
 v37:=Tryz.zeroValue40
 t70:=Tryz.underlying179
 a70:=Tryz.isAgg179
 z70:=Tryz.sizeOf179
 v70:=Tryz.zeroValue179
 t72:=Tryz.underlying181
 a72:=Tryz.isAgg181
 z72:=Tryz.sizeOf181
 v72:=Tryz.zeroValue181
 t75:=Tryz.underlying119
 a75:=Tryz.isAgg119
 z75:=Tryz.sizeOf119
 v75:=Tryz.zeroValue119
 t164:=Tryz.underlying254
 a164:=Tryz.isAgg254
 z164:=Tryz.sizeOf254
 v164:=Tryz.zeroValue254}
theorem gO:Builder.Extra Tryz.prog iG:={
 sizeBuilder:=by kernel_rfl
 liesBuilder:=by kernel_rfl
 t5:=Tryz.underlying5
 a5:=Tryz.isAgg5
 z5:=Tryz.sizeOf5
 v5:=Tryz.zeroValue5
 infoByte:=by kernel_rfl
 cellsByte:=by kernel_rfl
 sizeByte:=by kernel_rfl
 neB5:=by decide}
theorem Tc (B b:Nat)(f:List Value)(c:Int)(w:World)(h:Lib.IsBuilder 181 5 B b f w)(d:f.length+1<=140737488355328)(g:B<=w.heap.size):
 Calls Tryz.prog 129 #[.pointer (some ⟨b,0,none⟩),.int .u8 c] w fun e w'=>e= .returned .nilIface/\(Lib.IsBuilder 181 5 B b (f++[.int .u8 c]) w'/\Below B w w'):=
 (Any.Builder_WriteByte nC gO B b f c w h d g).mono fun _ _ h=>⟨h.1,.inr h.2.1,h.2.2⟩
open Go Go.Lib
theorem Sj (c b:UInt8)(l:List UInt8):[c].isPrefixOf (b::l)=(c==b):=by
 simp [List.isPrefixOf]
theorem I6 (c b:UInt8)(l:List UInt8):index (b::l) [c]=if b=c then 0 else if index l [c]= -1 then -1 else index l [c]+1:=by
 rw[index,Sj];by_cases h:b=c
 ·subst h;simp
 have:(c==b)=false:=by simpa using fun e:c=b=>h e.symm
 rw[this,Ao h];simp only[Bool.false_eq_true,if_false];by_cases h2:index l [c]= -1
 ·simp [h2]
 have:(index l [c]== -1)=false:=by simpa using h2
 rw[this,Ao h2];simp
theorem F8 {c:UInt8}{l:List UInt8}(h:c∉l):index l [c]= -1:=by
 induction l with
 |nil=>rfl
 |cons b l ih=>
  rw[I6,Ao (fun e:b=c=>h (e▸Ai)),Ap (ih fun q=>h (Aj _ q))]
theorem Ga {c:UInt8}(a r:List UInt8)(h:c∉a):index (a++c::r) [c]=(a.length:Nat):=by
 induction a with
 |nil=>rw[List.nil_append,I6,Ap rfl];rfl
 |cons b a ih=>
  rw[List.cons_append,I6,Ao (fun e:b=c=>h (e▸Ai)),ih fun q=>h (Aj _ q),Ao rF];simp
theorem Kv {c:UInt8}{l:List UInt8}(h:c∉l):cut l [c]=(l,[],false):=by
 unfold cut;rw[F8 h];rfl
theorem Ik {c:UInt8}(a r:List UInt8)(h:c∉a):cut (a++c::r) [c]=(a,r,true):=by
 unfold cut;rw[Ga a r h,Ap rF];simp [List.drop_append]
theorem Mb (c:UInt8)(l:List UInt8):c∉l\/∃a r,l=a++c::r/\c∉a:=by
 by_cases h:c∈l
 ·refine .inr ?_
  induction l with
  |nil=>cases h
  |cons b l ih=>
   by_cases e:b=c
   ·exact⟨[],l,by rw[e];rfl,by simp⟩
   rcases List.mem_cons.1 h with q|q
   ·exact absurd q.symm e
   obtain⟨a,r,d,f⟩:=ih q;refine⟨b::a,r,by rw[d];rfl,?_⟩;rw[List.mem_cons];rintro (q|q)
   ·exact e q.symm
   exact f q
 exact .inl h
def N7 (c:UInt8)(new:List UInt8)(l:List UInt8):List UInt8:=l.flatMap fun b=>if b=c then new else[b]
theorem Pn {c:UInt8}{new l:List UInt8}(h:c∉l):N7 c new l=l:=by
 unfold N7
 induction l with
 |nil=>rfl
 |cons b l ih=>
  rw[List.flatMap_cons,Ao (fun e:b=c=>h (e▸Ai)),ih fun q=>h (Aj _ q)];rfl
theorem Uc (c:UInt8):∀(k:Nat) (l:List UInt8),l.length<=k->count l [c]=l.count c
 |0,l,h=>by
  obtain rfl:l=[]:=List.eq_nil_of_length_eq_zero rF;rfl
 |k+1,l,h=>by
  rcases Mb c l with d|⟨a,r,rfl,d⟩
  ·rw[count_miss (F8 d),List.count_eq_zero.2 d]
  rw[count_hit rI (Ga a r d)];have hd:(a++c::r).drop (a.length+[c].length)=r:=by simp [List.drop_append]
  rw[hd,Uc c k r (by simp at h;omega),List.count_append,List.count_eq_zero.2 d];simp;omega
theorem Om (c:UInt8)(new:List UInt8):∀(k:Nat) (l:List UInt8),l.count c<=k->replaceK [c] new k l=N7 c new l
 |0,l,h=>by
  have d:c∉l:=List.count_eq_zero.1 rF;rw[Pn d];rfl
 |k+1,l,h=>by
  rcases Mb c l with d|⟨a,r,rfl,d⟩
  ·rw[Pn d,replaceK,F8 d];rfl
  rw[replaceK_hit [c] new k _ a.length (Ga a r d)];have hd:(a++c::r).drop (a.length+[c].length)=r:=by simp [List.drop_append]
  have e:(a++c::r).count c=r.count c+1:=by rw[List.count_append,List.count_eq_zero.2 d];simp
  rw[hd,Om c new k r rF];unfold N7;rw[List.flatMap_append,List.flatMap_cons,Ap rfl]
  have:=Pn (new:=new) d
  unfold N7 at this;rw[this];simp
theorem I9 (c:UInt8)(new l:List UInt8)(h:[c]≠new):replaceAll l [c] new=N7 c new l:=by
 unfold replaceAll replace replaceNum
 have:([c]==new)=false:=by simpa using h
 rw[this,Ao rI,Ap (.inl rF),Uc c l.length l (Ak _)];exact Om c new _ l (Ak _)
def Bg (c:UInt8):Bool:=decide (48<=c.toNat) && decide (c.toNat<=57)
def F3 (l:List UInt8):Bool:=!l.isEmpty && l.all Bg
def val (l:List UInt8)(d:Nat):Nat:=l.foldl (fun a c=>a*10+(c.toNat - 48)) d
theorem qD (l:List UInt8):∀d,d<=val l d:=by
 induction l with
 |nil=>intro d;exact Ak _
 |cons c l ih=>
  intro d
  have:=ih (d*10+(c.toNat - 48))
  show d<=val l (d*10+(c.toNat - 48));omega
theorem Ue (M:Nat)(f:M<=18446744073709551615):∀(l:List UInt8) (d:Nat),l.all Bg=true->val l d<=M->parseUintM M d l= .ok (val l d)
 |[],d,_,_=>rfl
 |c::l,d,hd,hv=>by
  rw[List.all_cons,Bool.and_eq_true] at hd;obtain⟨g,h⟩:=hd;have i:48<=c.toNat/\c.toNat<=57:=by simpa[Bg] using g
  have e:val l (d*10+(c.toNat - 48))<=M:=hv;have j:=qD l (d*10+(c.toNat - 48));rw[parseUintM,Ap i,Ao rF,Ao rF];exact Ue M f l _ h e
theorem Uu (u:Nat)(h:u<10):(UInt8.ofNat (48+u)).toNat=48+u:=by
 rw[UInt8.toNat_ofNat'];omega
theorem cD (u:Nat)(h:u<10):Bg (UInt8.ofNat (48+u))=true:=by
 unfold Bg;rw[Uu u h];simp;omega
theorem Dr {u:Nat}(h:u<10):decDigits u=[UInt8.ofNat (48+u)]:=by rw[decDigits,dif_pos h]
theorem G0 {u:Nat}(h:¬u<10):decDigits u=decDigits (u/10)++[UInt8.ofNat (48+u % 10)]:=by rw[decDigits,dif_neg h]
theorem Dv (u:Nat):(decDigits u).all Bg=true:=by
 induction u using Nat.strongRecOn with
 |_ u ih=>
  by_cases h:u<10
  ·rw[Dr h];rw[List.all_cons,cD u h];rfl
  rw[G0 h,List.all_append,ih _ rF];rw[List.all_cons,cD (u % 10) rF];rfl
theorem Kr (u:Nat):decDigits u≠[]:=by
 by_cases h:u<10
 ·rw[Dr h];simp
 rw[G0 h];simp
theorem Q6 {c:UInt8}{l:List UInt8}(h:l.all Bg=true)(d:Bg c=false):c∉l:=fun q=>by
 have:=List.all_eq_true.1 h c q
 rw[d] at this;cases this
def Ky (l:List UInt8):List UInt8:=List.replicate (5 - l.length) 48++l
theorem O0 (l:List UInt8):5<=(Ky l).length:=by
 unfold Ky;rw[Ab,List.length_replicate];omega
theorem gL (k:Nat):(List.replicate k (48:UInt8)).all Bg=true:=by
 rw[List.all_eq_true];intro c d;rw[List.eq_of_mem_replicate d];rfl
theorem Se {l:List UInt8}(h:l.all Bg=true):(Ky l).all Bg=true:=by
 unfold Ky;rw[List.all_append,h,gL];rfl
def G8 (r:List UInt8):List UInt8:=if trimRightB r 48=[] then[48] else trimRightB r 48
theorem Jn (r:List UInt8):∃k,r=trimRightB r 48++List.replicate k 48:=by
 refine⟨(r.reverse.takeWhile (· ==48)).length,?_⟩
 have d:r.reverse.takeWhile (· ==(48:UInt8))=List.replicate (r.reverse.takeWhile (· ==48)).length 48:=by
  refine List.eq_replicate_iff.2 ⟨rfl,fun b e=>?_⟩
  have:=List.all_takeWhile (l:=r.reverse) (p:=(· ==(48:UInt8)))
  rw[List.all_eq_true] at this;simpa using this b e
 have f:=List.takeWhile_append_dropWhile (p:=(· ==(48:UInt8))) (l:=r.reverse);have c:=Ar List.reverse f;rw[List.reverse_append,List.reverse_reverse] at c;unfold trimRightB;refine c.symm.trans ?_;congr 1;rw[d,List.reverse_replicate];simp
theorem gB {r:List UInt8}:∀c∈G8 r,c=48\/c∈r:=by
 intro c d;unfold G8 at d
 split at d
 ·exact .inl (by simpa using d)
 obtain⟨k,e⟩:=Jn r;rw[e];exact .inr (List.mem_append_left _ d)
theorem eU {r:List UInt8}(e:r.length=4):1<=(G8 r).length/\(G8 r).length<=4:=by
 unfold G8;obtain⟨k,c⟩:=Jn r
 have:=Ar List.length c
 rw[Ab] at this
 split
 ·simp
 rename_i d
 have:=List.length_pos_iff.2 d
 omega
theorem dD {r:List UInt8}(h:r.all Bg=true):(G8 r).all Bg=true:=by
 rw[List.all_eq_true];intro c d;rcases gB c d with rfl|q
 ·rfl
 exact List.all_eq_true.1 h c q
def K8 (n:Int):List UInt8:=(if n<0 then[45] else[])++((Ky (decDigits n.natAbs)).take ((Ky (decDigits n.natAbs)).length - 4)++46::G8 ((Ky (decDigits n.natAbs)).drop ((Ky (decDigits n.natAbs)).length - 4)))
def Kc (l:List UInt8):List UInt8:=N7 34 [92,34] (N7 92 [92,92] l)
def Z2 (l:List UInt8):List UInt8:=34::(Kc l++[34])
def Nc (k n:Int)(s:List UInt8):List UInt8:=
 if k=1 then itoa n else if k=2 then K8 n else if k=3 then Z2 s else if k=4 then(if n=1 then[116,114,117,101] else[102,97,108,115,101]) else if k=5 then 35::s else[110,117,108,108]
def Nt (l:List UInt8):Except Int (Int×Int):=
 let c:=cut (if l.head? =some 45 then l.tail else l) [46]
 if(!F3 c.1||(decide (1<c.1.length) && c.1.head? ==some 48))||(c.2.2 && (!F3 c.2.1||decide (4<c.2.1.length))) then .error 4
 else
  let d:=if c.2.2 then c.1++(c.2.1++[48,48,48,48]).take 4 else c.1
  match parseIntB 64 (if l.head? =some 45 then 45::d else d) with
  | .ok n=> .ok (if c.2.2 then 2 else 1,n)
  |_=> .error 9
def B8:List UInt8->List UInt8
 |c::y::r=>if c=92 then y::B8 r else c::B8 (y::r)
 |_=>[]
def Eg (l:List UInt8):Except Int (Int×Int×List UInt8):=
 match l with
 |34::r=> .ok (3,0,B8 r)
 |35::r=> .ok (5,0,r)
 |116::r=>if r=[114,117,101] then .ok (4,1,[]) else .error 4
 |102::r=>if r=[97,108,115,101] then .ok (4,0,[]) else .error 4
 |110::r=>if r=[117,108,108] then .ok (0,0,[]) else .error 4
 |l=>(Nt l).map fun p=>(p.1,p.2,[])
theorem Tq {c:UInt8}{r:List UInt8}(h:c≠34/\c≠35/\c≠116/\c≠102/\c≠110):Eg (c::r)=(Nt (c::r)).map fun p=>(p.1,p.2,[]):=by
 obtain⟨d,f,g,i,j⟩:=h;unfold Eg
 split
 ·rename_i e;injection e with e;exact absurd e d
 ·rename_i e;injection e with e;exact absurd e f
 ·rename_i e;injection e with e;exact absurd e g
 ·rename_i e;injection e with e;exact absurd e i
 ·rename_i e;injection e with e;exact absurd e j
 rfl
theorem Ma (c:UInt8)(l:List UInt8):Kc (c::l)=(if c=92 then[92,92] else if c=34 then[92,34] else[c])++Kc l:=by
 unfold Kc N7;rw[List.flatMap_cons,List.flatMap_append];congr 1;by_cases h:c=92
 ·subst h;rfl
 rw[Ao h,Ao h];simp
def D7 (c:UInt8):Bool:=decide (97<=c.toNat) && decide (c.toNat<=122)
def Jh (s:List UInt8):Bool:=match s with
 |[]=>false
 |c::r=>decide (r.length<12) && D7 c && r.all fun b=>D7 b||Bg b
def El (c:UInt8):Bool:=decide (32<=c.toNat) && decide (c.toNat<=126)
def cN (s:List UInt8):Bool:=decide (s.length<=200) && s.all El
def Fl (k n:Int)(s:List UInt8):Bool:=
 if k=0 then decide (n=0) && s.isEmpty else if k=1\/k=2 then s.isEmpty else if k=3 then decide (n=0) && cN s
 else if k=4 then s.isEmpty && decide (n=0\/n=1) else if k=5 then decide (n=0) && Jh s else false
theorem Kl {k n:Int}{s:List UInt8}(h:Fl k n s=true):
 (k=0/\n=0/\s=[])\/(k=1/\s=[])\/(k=2/\s=[])\/(k=3/\n=0/\s.length<=200/\s.all El=true)\/(k=4/\s=[]/\(n=0\/n=1))\/(k=5/\n=0/\Jh s=true):=by
 unfold Fl at h;by_cases k0:k=0
 ·rw[Ap k0,Bool.and_eq_true,decide_eq_true_eq,List.isEmpty_iff] at h;exact .inl ⟨k0,h.1,h.2⟩
 rw[Ao k0] at h;by_cases k12:k=1\/k=2
 ·rw[Ap k12,List.isEmpty_iff] at h;rcases k12 with e|e
  ·exact .inr (.inl ⟨e,h⟩)
  exact .inr (.inr (.inl ⟨e,h⟩))
 rw[Ao k12] at h;by_cases k3:k=3
 ·rw[Ap k3] at h;unfold cN at h;simp only[Bool.and_eq_true,decide_eq_true_eq] at h;exact .inr (.inr (.inr (.inl ⟨k3,h.1,h.2.1,h.2.2⟩)))
 rw[Ao k3] at h;by_cases k4:k=4
 ·rw[Ap k4,Bool.and_eq_true,decide_eq_true_eq,List.isEmpty_iff] at h;exact .inr (.inr (.inr (.inr (.inl ⟨k4,h.1,h.2⟩))))
 rw[Ao k4] at h;by_cases k5:k=5
 ·rw[Ap k5,Bool.and_eq_true,decide_eq_true_eq] at h;exact .inr (.inr (.inr (.inr (.inr ⟨k5,h.1,h.2⟩))))
 rw[Ao k5] at h;cases h
theorem bO {l:List UInt8}(hd:l.all Bg=true)(d:l≠[])(r:List UInt8)(b:Bool):∃c q,(if b then 45::l else l)++r=c::q/\(c=45\/Bg c=true):=by
 cases b with
 |true=>exact⟨45,l++r,rfl,.inl rfl⟩
 |false=>
  obtain⟨c,q,rfl⟩:=List.exists_cons_of_ne_nil d;rw[List.all_cons,Bool.and_eq_true] at hd;exact⟨c,q++r,rfl,.inr hd.1⟩
theorem Tm (n:Int):∃c q,itoa n=c::q/\(c=45\/Bg c=true):=by
 have:=bO (Dv n.natAbs) (Kr _) [] (decide (n<0))
 rw[List.append_nil] at this
 have e:itoa n=if decide (n<0)=true then 45::decDigits n.natAbs else decDigits n.natAbs:=by
  unfold itoa;by_cases h:n<0
  ·simp [h]
  simp only[h,decide_false,if_false,Bool.false_eq_true];congr 1;omega
 rw[e];exact this
theorem Tu (n:Int):∃c q,K8 n=c::q/\(c=45\/Bg c=true):=by
 have hd:=Se (Dv n.natAbs);have f:=O0 (decDigits n.natAbs);unfold K8;generalize Ky (decDigits n.natAbs)=p at hd f ⊢;have g:(p.take (p.length - 4)).all Bg=true:=List.all_eq_true.2 fun c i=>List.all_eq_true.1 hd c (List.mem_of_mem_take i)
 have d:p.take (p.length - 4)≠[]:=by
  intro e
  have:=Ar List.length e
  rw[List.length_take] at this;simp at this;omega
 have:=bO g d (46::G8 (p.drop (p.length - 4))) (decide (n<0))
 obtain⟨c,q,e,h⟩:=this;refine⟨c,q,?_,h⟩;rw[←e];by_cases h:n<0
 ·simp [h]
 simp [h]
theorem eW {c:UInt8}(h:c=45\/Bg c=true):c≠34/\c≠35/\c≠116/\c≠102/\c≠110:=by
 rcases h with rfl|h
 ·decide
 refine⟨?_,?_,?_,?_,?_⟩<;>(rintro rfl;revert h;decide)
theorem bQ {c:UInt8}(h:Bg c=true):El c=true:=by
 simp only[Bg,El,Bool.and_eq_true,decide_eq_true_eq] at*
 omega
theorem nV {c:UInt8}(h:D7 c=true):El c=true:=by
 simp only[D7,El,Bool.and_eq_true,decide_eq_true_eq] at*
 omega
theorem Qz {l:List UInt8}(h:l.all Bg=true):l.all El=true:=List.all_eq_true.2 fun c d=>bQ (List.all_eq_true.1 h c d)
theorem Sa:∀(s:List UInt8),s.all El=true->(Kc s).length<=2*s.length/\(Kc s).all El=true
 |[],_=>⟨by decide,rfl⟩
 |c::s,h=>by
  rw[List.all_cons,Bool.and_eq_true] at h;obtain⟨e,d⟩:=Sa s h.2;rw[Ma,Ab,List.all_append,d,Aa];by_cases h1:c=92
  ·rw[Ap h1];exact⟨by simp;omega,rfl⟩
  rw[Ao h1];by_cases h2:c=34
  ·rw[Ap h2];exact⟨by simp;omega,rfl⟩
  rw[Ao h2];exact⟨by simp;omega,by rw[List.all_cons,h.1];rfl⟩
theorem E8 {s:List UInt8}(h:Jh s=true):1<=s.length/\s.length<=12/\s.all (fun b=>D7 b||Bg b)=true/\∃c r,s=c::r/\D7 c=true:=by
 cases s with
 |nil=>cases h
 |cons c r=>
  unfold Jh at h;simp only[Bool.and_eq_true,decide_eq_true_eq] at h;refine⟨by simp,by simp;omega,?_,c,r,rfl,h.1.2⟩;rw[List.all_cons,h.1.2,h.2];rfl
theorem eT {k n:Int}{s:List UInt8}(h:Fl k n s=true)(u: -9223372036854775808<=n)(v:n<=9223372036854775807):1<=(Nc k n s).length/\(Nc k n s).length<=402/\(Nc k n s).all El=true:=by
 rcases Kl h with ⟨rfl,rfl,rfl⟩|⟨rfl,rfl⟩|⟨rfl,rfl⟩|⟨rfl,rfl,x,y⟩|⟨rfl,rfl,i⟩|⟨rfl,rfl,i⟩
 ·decide
 ·show 1<=(itoa n).length/\(itoa n).length<=402/\(itoa n).all El=true;have x:=itoa_length_le n u v;obtain⟨c,q,e,_⟩:=Tm n;refine⟨by rw[e];simp,by omega,?_⟩;unfold itoa
  split
  ·rw[List.all_cons,Qz (Dv _)];rfl
  exact Qz (Dv _)
 ·show 1<=(K8 n).length/\(K8 n).length<=402/\(K8 n).all El=true;obtain⟨c,q,e,_⟩:=Tu n;have hd:=Se (Dv n.natAbs);have d:=O0 (decDigits n.natAbs)
  have j:(decDigits n.natAbs).length<=20:=by
   rw[decDigits_length];exact nDigits_le20 _ rF
  have f:(Ky (decDigits n.natAbs)).length<=25:=by
   unfold Ky;rw[Ab,List.length_replicate];omega
  refine⟨by rw[e];simp,?_,?_⟩
  ·unfold K8;generalize Ky (decDigits n.natAbs)=p at hd d f ⊢;have m:=(eU (r:=p.drop (p.length - 4)) sF).2;simp only[Ab,Aa,List.length_take]
   have:(if n<0 then[(45:UInt8)] else[]).length<=1:=by split<;>simp
   omega
  unfold K8;generalize Ky (decDigits n.natAbs)=p at hd d f ⊢;have A:(p.take (p.length - 4)).all Bg=true:=List.all_eq_true.2 fun c g=>List.all_eq_true.1 hd c (List.mem_of_mem_take g)
  have m:(p.drop (p.length - 4)).all Bg=true:=List.all_eq_true.2 fun c g=>List.all_eq_true.1 hd c (List.mem_of_mem_drop g)
  rw[List.all_append,List.all_append,List.all_cons,Qz A,Qz (dD m)]
  have:(if n<0 then[(45:UInt8)] else[]).all El=true:=by split<;>rfl
  rw[this];rfl
 ·show 1<=(Z2 s).length/\(Z2 s).length<=402/\(Z2 s).all El=true;obtain⟨C,o⟩:=Sa s y;unfold Z2;rw[List.all_cons,List.all_append,o];exact⟨by simp,by simp;omega,rfl⟩
 ·rcases i with rfl|rfl
  ·decide
  decide
 show 1<=(35::s).length/\(35::s).length<=402/\(35::s).all El=true;obtain⟨C,o,D,_⟩:=E8 i;refine⟨by simp,by simp;omega,?_⟩;rw[List.all_cons]
 have:s.all El=true:=List.all_eq_true.2 fun c g=>by
  have:=List.all_eq_true.1 D c g
  rw[Bool.or_eq_true] at this;rcases this with q|q
  ·exact nV q
  exact bQ q
 rw[this];rfl
def C3 (k n:Int)(s:List UInt8):List UInt8:=if Fl k n s=true then Nc k n s else[]
def Dy (l:List UInt8):Except Int (Int×Int×List UInt8):=
 if 402<l.length then .error 3 else if l=[] then .error 4 else
  match Eg l with
  | .error e=> .error e
  | .ok v=>if C3 v.1 v.2.1 v.2.2=l then .ok v else .error 4
theorem U1 {l:List UInt8}{k n:Int}{s:List UInt8}(h:Dy l= .ok (k,n,s)):Fl k n s=true/\Nc k n s=l/\l≠[]/\l.length<=402:=by
 unfold Dy at h;by_cases h4:402<l.length
 ·rw[Ap h4] at h;cases h
 rw[Ao h4] at h;by_cases hl:l=[]
 ·rw[Ap hl] at h;cases h
 rw[Ao hl] at h;cases hr:Eg l with
 |error e=>rw[hr] at h;cases h
 |ok v=>
  rw[hr] at h;simp only at h;by_cases ht:C3 v.1 v.2.1 v.2.2=l
  ·rw[Ap ht] at h;injection h with h;subst h;unfold C3 at ht;by_cases hm:Fl k n s=true
   ·simp only[Ap hm] at ht;exact⟨hm,ht,hl,by omega⟩
   simp only[Ao hm] at ht;exact absurd ht.symm hl
  rw[Ao ht] at h;cases h
open Go Go.Lib
theorem Up {l:List UInt8}{q:Int}(h:Nt l= .error q):q=4\/q=9:=by
 unfold Nt at h;simp only at h;generalize cut (if l.head? =some 45 then l.tail else l) [46]=c at h;by_cases hc:((!F3 c.1||(decide (1<c.1.length) && c.1.head? ==some 48))||(c.2.2 && (!F3 c.2.1||decide (4<c.2.1.length))))=true
 ·rw[Ap hc] at h;injection h with h;exact .inl h.symm
 rw[Ao hc] at h;generalize parseIntB 64 _=z at h;cases z
 case ok n=>cases h
 all_goals (injection h with h;exact .inr h.symm)
theorem O1 {l:List UInt8}{e:Int}(h:Dy l= .error e):e=3\/e=4\/e=9:=by
 unfold Dy at h;by_cases h4:402<l.length
 ·rw[Ap h4] at h;injection h with h;exact .inl h.symm
 rw[Ao h4] at h;by_cases hl:l=[]
 ·rw[Ap hl] at h;injection h with h;exact .inr (.inl h.symm)
 rw[Ao hl] at h;cases hr:Eg l with
 |ok v=>
  rw[hr] at h;simp only at h
  split at h
  ·cases h
  injection h with h;exact .inr (.inl h.symm)
 |error q=>
  rw[hr] at h;injection h with h;subst h;have c:∀x,Nt x= .error q->q=4\/q=9:=fun x d=>Up d
  unfold Eg at hr
  split at hr
  ·cases hr
  ·cases hr
  ·exact zwc
  ·exact zwc
  ·exact zwc
  cases hq:Nt l with
  |ok p=>rw[hq] at hr;cases hr
  |error z=>
   rw[hq] at hr;injection hr with hr;subst hr;exact .inr (c l hq)
def Yk (l:List UInt8):Int:=
 if l.head? =some 34 then 3 else if l.head? =some 35 then 5 else if l=[110,117,108,108] then 0 else if l=[116,114,117,101]\/l=[102,97,108,115,101] then 4 else if contains l [46]=true then 2 else 1
theorem U4 (n:Int):contains (itoa n) [46]=false:=by
 have:(46:UInt8)∉itoa n:=by
  unfold itoa
  split
  ·rw[List.mem_cons];rintro (q|q)
   ·revert q;decide
   exact Q6 (Dv _) rfl q
  exact Q6 (Dv _) rfl
 unfold contains;rw[F8 this];rfl
theorem Zr (n:Int):contains (K8 n) [46]=true:=by
 have hd:=Se (Dv n.natAbs);unfold K8;generalize Ky (decDigits n.natAbs)=p at hd ⊢;have d:(p.take (p.length - 4)).all Bg=true:=List.all_eq_true.2 fun c e=>List.all_eq_true.1 hd c (List.mem_of_mem_take e)
 have f:(46:UInt8)∉(if n<0 then[(45:UInt8)] else[])++p.take (p.length - 4):=by
  rw[List.mem_append];rintro (q|q)
  ·split at q
   ·simp at q
   simp at q
  exact Q6 d rfl q
 rw[←List.append_assoc];unfold contains;rw[Ga _ _ f,decide_eq_true_eq];omega
theorem R3 {c:UInt8}{l q:List UInt8}(e:l=c::q)(d:c=45\/Bg c=true):Yk l=if contains l [46]=true then 2 else 1:=by
 obtain⟨h1,h2,f,g,h⟩:=eW d;subst e;unfold Yk;rw[Ao sU,Ao uD,Ao (by simp [h]),Ao (by simp [f,g])]
theorem T5 {k n:Int}{s:List UInt8}(h:Fl k n s=true):Yk (Nc k n s)=k:=by
 rcases Kl h with ⟨rfl,rfl,rfl⟩|⟨rfl,rfl⟩|⟨rfl,rfl⟩|⟨rfl,rfl,g,i⟩|⟨rfl,rfl,f⟩|⟨rfl,rfl,f⟩
 ·rfl
 ·show Yk (itoa n)=1;obtain⟨c,q,e,d⟩:=Tm n;rw[R3 e d,U4];rfl
 ·show Yk (K8 n)=2;obtain⟨c,q,e,d⟩:=Tu n;rw[R3 e d,Zr];rfl
 ·rfl
 ·rcases f with rfl|rfl
  ·rfl
  rfl
 rfl
open Go Go.RowKit Go.Lib
abbrev dl (s:ByteArray):List UInt8:=s.data.toList
theorem Da (l:List UInt8):dl ⟨l.toArray⟩=l:=rfl
theorem Ch {s t:ByteArray}(h:dl s=dl t):s=t:=by
 obtain⟨⟨a⟩⟩:=s;obtain⟨⟨b⟩⟩:=t;simp only[dl] at h;rw[h]
theorem A5 (s:ByteArray):(dl s).length=s.size:=by simp [dl]
theorem Dz (s t:ByteArray):dl (s++t)=dl s++dl t:=by
 show(s++t).data.toList=s.data.toList++t.data.toList
 simp
theorem Ep (s:ByteArray)(a b:Nat):dl (s.extract a b)=((dl s).drop a).take (b - a):=extract_data s a b
theorem Ft (s:ByteArray)(a:Nat):dl (s.extract a s.size)=(dl s).drop a:=extract_to_end s a
theorem J9 (s:ByteArray):(⟨(dl s).toArray⟩:ByteArray)=s:=by
 obtain⟨⟨l⟩⟩:=s;rfl
theorem A0 (s:ByteArray):s.toList=dl s:=ByteArray.toList_eq s
theorem Gc {s:ByteArray}{i:Nat}(h:i<s.size):(dl s)[i]? =some s[i]:=by
 have c:i<(dl s).length:=by rw[A5];exact h
 rw[Ag c];rfl
theorem Ku {s:ByteArray}(h:0<s.size):(dl s).head? =some s[0]:=by
 rw[List.head?_eq_getElem?];exact Gc h
theorem Ee {s t:ByteArray}(h:dl s=dl t):Ending.returned (.string s)= .returned (.string t):=by rw[Ch h]
def rD:Value->ByteArray
 | .string s=>s
 |_=>ByteArray.empty
open Go Go.RowKit Go.Lib Go.Sort Go.Shelf
theorem gD {w w':World}{P:Program}{n:String}{cs:Array Value}(h:w.var? P n=some cs)(c:Below w.heap.size w w'):w'.var? P n=some cs:=by
 unfold World.var? at*
 cases hg:P.globalNamed n with
 |none=>rw[hg] at h;cases h
 |some g=>
  rw[hg] at h;simp only[Option.bind_some] at h ⊢;cases ho:w.heap[g]? with
  |none=>rw[ho] at h;cases h
  |some o=>
   rw[(c.block g (lt_of_block ho)).trans ho];rw[ho] at h;exact h
structure Rd (w:World):Prop where
 ml:∃m,w.cell? ⟨0,0,none⟩=some (.int .i64 m)
 tab:Lib.TabIs Tryz.prog w "internal/strconv.uint64pow10" .u64 Lib.pow10Tab
 rng:∃ev,w.cell? ⟨3,0,none⟩=some ev/\(ev= .nilIface\/∃te pe,ev= .iface te pe)
 syn:∃ev,w.cell? ⟨2,0,none⟩=some ev/\(ev= .nilIface\/∃te pe,ev= .iface te pe)
theorem Rd.below {w w':World}(h:Rd w)(d:Below w.heap.size w w'):Rd w':=
 ⟨h.ml.imp fun _ c=>A4 d c,gD h.tab d,h.rng.imp fun _ c=>⟨A4 d c.1,c.2⟩,h.syn.imp fun _ c=>⟨A4 d c.1,c.2⟩⟩
theorem Ru (w:World)(k:Nat)(os:Array Obj):Below w.heap.size w (grow (w.drewN k) os):=
 ⟨rfl,rfl,rfl,by simp [grow,World.drewN],fun i c=>by
  have:i<(w.drewN k).heap.size:=c
  rw[heap_grow_old _ _ this]
  rfl⟩
open Go Go.RowKit Go.Lib Go.Sort Go.Shelf
theorem kZ (c:UInt8):D7 c=(decide (97<=(c.toNat:Int)) && decide ((c.toNat:Int)<=122)):=by
 unfold D7;congr 1
 ·exact decide_eq_decide.2 rF
 exact decide_eq_decide.2 rF
theorem kW (c:UInt8):Bg c=(decide (48<=(c.toNat:Int)) && decide ((c.toNat:Int)<=57)):=by
 unfold Bg;congr 1
 ·exact decide_eq_decide.2 rF
 exact decide_eq_decide.2 rF
theorem Nn (c:UInt8)(w:World):Calls Tryz.prog 142 #[.int .u8 (c.toNat:Int)] w fun e w'=>e= .returned (.bool (D7 c))/\w=w':=by
 rw[kZ];obtain⟨p,d⟩:∃p,decide (97<=(c.toNat:Int))=p:=⟨_,rfl⟩;obtain⟨q,f⟩:∃q,decide ((c.toNat:Int)<=122)=q:=⟨_,rfl⟩;cases p<;>cases q
 all_goals
  go_enter Tryz.func142,Tryz.ntmps142
  go_wp2
  go_ret;exact⟨by simp [d,f],rfl⟩
theorem Kh (c:UInt8)(w:World):Calls Tryz.prog 144 #[.int .u8 (c.toNat:Int)] w fun e w'=>e= .returned (.bool (Bg c))/\w=w':=by
 rw[kW];obtain⟨p,d⟩:∃p,decide (48<=(c.toNat:Int))=p:=⟨_,rfl⟩;obtain⟨q,f⟩:∃q,decide ((c.toNat:Int)<=57)=q:=⟨_,rfl⟩;cases p<;>cases q
 all_goals
  go_enter Tryz.func144,Tryz.ntmps144
  go_wp2
  go_ret;exact⟨by simp [d,f],rfl⟩
def Cv (c:UInt8):Bool:=D7 c||Bg c
theorem T6 (c:UInt8)(w:World):Calls Tryz.prog 143 #[.int .u8 (c.toNat:Int)] w fun e w'=>e= .returned (.bool (Cv c))/\w=w':=by
 unfold Cv;have d:=Nn c w;have f:=Kh c w;obtain⟨p,g⟩:∃p,D7 c=p:=⟨_,rfl⟩;obtain⟨q,h⟩:∃q,Bg c=q:=⟨_,rfl⟩;rw[g] at d ⊢;rw[h] at f ⊢;have i:=Ax d;have j:=Ax f;clear d f g h;cases p
 ·go_enter Tryz.func143,Tryz.ntmps143;go_wp2_with fail;refine i.out.mono ?_;rintro e w' ⟨rfl,rfl⟩;go_wp2_with fail;refine j.out.mono ?_;rintro e w' ⟨rfl,rfl⟩
  go_wp2
  go_ret;exact⟨by simp,rfl⟩
 go_enter Tryz.func143,Tryz.ntmps143;go_wp2_with fail;refine i.out.mono ?_;rintro e w' ⟨rfl,rfl⟩
 go_wp2
 go_ret;exact⟨by simp,rfl⟩
theorem lI (c:UInt8)(w:World):Calls Tryz.prog 140 #[.int .u8 (c.toNat:Int)] w fun e w'=>e= .returned (.bool (c !=10))/\w=w':=by
 have h:(c !=10)=((c.toNat:Int) !=10):=by
  by_cases e:c=10
  ·subst e;rfl
  have d:(c !=10)=true:=by simpa using e
  have g:c.toNat≠10:=fun q=>e (UInt8.toNat_inj.1 q)
  have f:((c.toNat:Int) !=10)=true:=by simp;omega
  rw[d,f]
 rw[h];go_enter Tryz.func140,Tryz.ntmps140
 go_wp2
 go_ret;exact⟨by simp,rfl⟩
theorem Ua (s:ByteArray)(fn:Nat)(f:Array Value)(p:Nat->Bool)(I:Nat->World->Prop)(G:∀args w,(callFunc fn args).run Tryz.prog w= .ok (.enter fn args) w)
 (L:s.size<=9223372036854775806) (a n:Nat) (w:World) (v:a<=n) (M:n<=s.size) (d:∀i,a<=i->i<n->p i=true) (g:n<s.size->p n=false)
 (C:I a w) (c:∀i V (h:i<s.size),a<=i->I i V->Calls Tryz.prog fn (#[.int .u8 (s[i].toNat:Int)]++f) V fun e V'=>e= .returned (.bool (p i))/\I (i+1) V'):
 Calls Tryz.prog 139 #[.string s,.int .i64 a,.func (.func fn) #[] f] w fun e w'=>e= .returned (.int .i64 ((n:Int) - (a:Int)))/\∃k,I k w':=by
 have x:=Ax d;have m:=Ax g;have y:=Ax c;have D:=Ax C;clear d g c C;go_enter Tryz.func139,Tryz.ntmps139
 go_wp2
 go_loopw [7] (fun v7 wr=>∃i:Nat,a<=i/\i<=n/\v7= .int .i64 i/\Hid (I i wr)) (fun v7 _=>n - (intOf v7).toNat)
 case atStart=>exact⟨a,Ak _,v,rfl,D.out⟩
 obtain⟨i,o,E,rfl,u⟩:=hrel;by_cases hi:i<s.size
 ·have j:=y.out i wr hi o u.out;have F:(i:Int)<(s.size:Int):=by omega
  have N:(0:Int)<=(i:Int):=by omega
  by_cases d:i<n
  ·rw[x.out i o d] at j;have q:=Ax j;clear j u;go_wp2_with fail;refine q.out.mono ?_;rintro e V ⟨rfl,r⟩;have A:=Ax r;clear r q
   go_wp2
   go_roundw
   case rel=>exact⟨i+1,by omega,by omega,by go_num,A.out⟩
   case measure=>simp [intOf];omega
  obtain rfl:i=n:=by omega
  rw[m.out hi] at j;have q:=Ax j;clear j u;go_wp2_with fail;refine q.out.mono ?_;rintro e V ⟨rfl,r⟩;have A:=Ax r;clear r q
  go_wp2
  go_ret;exact⟨rfl,_,A.out⟩
 obtain rfl:i=n:=by omega
 have F:¬(i:Int)<(s.size:Int):=by omega
 go_wp2
 go_ret;exact⟨rfl,_,u.out⟩
def Ba (q:UInt8->Bool)(l:List UInt8):Nat:=(l.takeWhile q).length
theorem Ds (q:UInt8->Bool)(l:List UInt8):Ba q l<=l.length:=by
 unfold Ba
 have:=Ar List.length (List.takeWhile_append_dropWhile (p:=q) (l:=l))
 rw[Ab] at this;omega
theorem Xn (q:UInt8->Bool):∀(l:List UInt8) (i:Nat),i<Ba q l->∃c,l[i]? =some c/\q c=true
 |[],i,h=>by simp [Ba] at h
 |c::l,i,h=>by
  unfold Ba at h;rw[List.takeWhile_cons] at h;by_cases hc:q c=true
  ·rw[Ap hc] at h;cases i with
   |zero=>exact⟨c,rfl,hc⟩
   |succ i=>
    obtain⟨d,e,f⟩:=Xn q l i (by simpa[Ba] using h);exact⟨d,e,f⟩
  rw[Ao hc] at h;simp at h
theorem Tr (q:UInt8->Bool):∀(l:List UInt8),Ba q l<l.length->∃c,l[Ba q l]? =some c/\q c=false
 |[],h=>by simp [Ba] at h
 |c::l,h=>by
  unfold Ba at h ⊢;rw[List.takeWhile_cons] at h ⊢;by_cases hc:q c=true
  ·rw[Ap hc] at h ⊢;obtain⟨d,e,f⟩:=Tr q l (by simpa[Ba] using h);exact⟨d,by simpa[Ba] using e,f⟩
  rw[Ao hc];exact⟨c,rfl,by simpa using hc⟩
theorem I7 (s:ByteArray)(fn:Nat)(q:UInt8->Bool)(n:∀args w,(callFunc fn args).run Tryz.prog w= .ok (.enter fn args) w)(o:s.size<=9223372036854775806)(a:Nat)(w:World)(v:a<=s.size)
 (p:∀(c:UInt8) (V:World),Calls Tryz.prog fn #[.int .u8 (c.toNat:Int)] V fun e m=>e= .returned (.bool (q c))/\V=m):
 Calls Tryz.prog 139 #[.string s,.int .i64 a,.func (.func fn) #[] #[]] w fun e w'=>e= .returned (.int .i64 (Ba q ((dl s).drop a):Nat))/\w=w':=by
 have g:=Ds q ((dl s).drop a);rw[List.length_drop,A5] at g;have d:∀i (h:i<s.size),(dl s)[i]? =some s[i]:=fun i h=>Gc h
 refine(Ua s fn #[] (fun i=>((dl s)[i]?.map q).getD false) (fun _ V=>w=V) n o a (a+Ba q ((dl s).drop a)) w rF rF (fun i x y=>?_) (fun h=>?_) rfl (fun i V h _ r=>?_)).mono ?_
 ·obtain⟨c,f,j⟩:=Xn q ((dl s).drop a) (i - a) rF;rw[List.getElem?_drop,show a+(i - a)=i by omega] at f;simp [f,j]
 ·obtain⟨c,f,j⟩:=Tr q ((dl s).drop a) tR;rw[List.getElem?_drop] at f;simp [f,j]
 ·refine(p s[i] V).mono ?_;rintro e m ⟨rfl,rfl⟩;exact⟨by rw[d i h];rfl,r⟩
 rintro e w' ⟨rfl,k,u⟩;exact⟨by congr 2;omega,u⟩
end Go.Proofs.YtgfakdobajgnfaaGreatDoor
