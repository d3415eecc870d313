import Derived.Lib.Replace
import Derived.Lib.TrimByte
import Derived.Lib.ParseIntBCases
import Derived.Lib.ItoaMem
import Derived.Lib.ItoaLen
import Derived.Lib.SmallJoins
import Derived.Lib.IndexBytes
import Derived.Test.YtgfakdobajgnfaaGreatDoorQr4
import Derived.Test.YtgfakdobajgnfaaGreatDoorQr0
namespace Go.Proofs.YtgfakdobajgnfaaGreatDoor
open Go Go.RowKit Go.Lib
def byAt (s:ByteArray)(k:Nat):Nat:=(s.data.toList.getD k 0).toNat
theorem byAt_eq {s:ByteArray}{k:Nat}(h:k<s.size):byAt s k=s[k].toNat:=by
 have h':k<s.data.toList.length:=by simpa using h
 unfold byAt
 rw[List.getD_eq_getElem?_getD,List.getElem?_eq_getElem h']
 rfl
theorem any_byAt (p:Nat→Bool)(s:ByteArray):(s.data.toList.any fun b=>p b.toNat)=false↔ ∀k,k<s.size→p (byAt s k)=false:=by
 rw[List.any_eq_false]
 constructor
 ·intro h k hk
  have h':k<s.data.toList.length:=by simpa using hk
  have:=h _ (List.getElem_mem h')
  unfold byAt
  rw[List.getD_eq_getElem?_getD,List.getElem?_eq_getElem h']
  simpa using this
 ·intro h b hb
  obtain⟨k,hk,rfl⟩:=List.getElem_of_mem hb
  have:=h k (by simpa using hk)
  unfold byAt at this
  rw[List.getD_eq_getElem?_getD,List.getElem?_eq_getElem hk] at this
  simpa using this
def okAt (s:ByteArray)(k:Nat):Bool:=isLow (byAt s k)||(decide (0<k) && isDig (byAt s k))
theorem nameB_all {s:ByteArray}(h0:0<s.size)(h1:s.size≤12)(h:∀k,k<s.size→okAt s k=true):nameB s=true:=by
 rw[nameB_eq h0,decide_eq_true h1]
 have hl:=h 0 h0
 simp only[okAt,Nat.lt_irrefl,decide_false,Bool.false_and,Bool.or_false,byAt_eq h0] at hl
 rw[hl]
 have:(s.data.toList.any fun b=>badN b.toNat)=false:=(any_byAt badN s).2 fun k hk=>by
  have:=h k hk
  simp only[okAt,Bool.or_eq_true,Bool.and_eq_true] at this
  unfold badN
  rcases this with q|⟨_,q⟩<;>simp [q]
 rw[this]
 rfl
theorem nameB_not {s:ByteArray}{k:Nat}(hk:k<s.size)(h:okAt s k=false):nameB s=false:=by
 have h0:0<s.size:=by omega
 rw[nameB_eq h0]
 simp only[okAt,Bool.or_eq_false_iff,Bool.and_eq_false_iff] at h
 obtain⟨h1,h2⟩:=h
 by_cases hz:k=0
 ·subst hz
  rw[byAt_eq h0] at h1
  rw[h1]
  simp
 ·have hd:isDig (byAt s k)=false:=by
   rcases h2 with q|q
   ·simp at q;omega
   ·exact q
  have:(s.data.toList.any fun b=>badN b.toNat)=true:=by
   cases hq:(s.data.toList.any fun b=>badN b.toNat)
   ·have:=(any_byAt badN s).1 hq k hk
    simp [badN,h1,hd] at this
   ·rfl
  rw[this]
  simp
set_option maxRecDepth 100000 in
set_option maxHeartbeats 1000000 in
theorem rname_any (s:ByteArray)(hs:s.size≤9223372036854775807)(w:World):
 Calls Tryz.prog 49 #[.string s] w fun e w'=>e= .returned (.bool (nameB s))∧w=w':=by
 by_cases h0:s.size=0
 ·have d0:(s.size:Int)<1:=by omega
  rw[nameB_zero h0]
  clear h0
  go_enter Tryz.func49,Tryz.ntmps49
  go_wp2
  go_ret
  exact⟨rfl,rfl⟩
 ·have d0:1≤(s.size:Int):=by omega
  by_cases h12:12<s.size
  ·have d12:12<(s.size:Int):=by omega
   have hq:nameB s=false:=by rw[nameB_eq (by omega),decide_eq_false (by omega)];rfl
   rw[hq]
   clear h12 h0 hq
   go_enter Tryz.func49,Tryz.ntmps49
   go_wp2
   go_ret
   exact⟨rfl,rfl⟩
  ·have d12:(s.size:Int)≤12:=by omega
   clear h12 h0
   go_enter Tryz.func49,Tryz.ntmps49
   go_wp2
   go_loop [3] (fun vi=>∃k:Nat,k≤s.size∧vi= .int .i64 k∧Hid (∀j,j<k→okAt s j=true)) (fun i=>s.size - (intOf i).toNat)
   case atStart=>exact⟨0,Nat.zero_le _,rfl,fun j hj=>absurd hj (by omega)⟩
   case round=>
    obtain⟨k,hk,rfl,hq⟩:=hrel
    by_cases hlk:k<s.size
    ·have hby:=byAt_eq hlk
     obtain⟨c,hc⟩:∃c,byAt s k=c:=⟨_,rfl⟩
     have hok:okAt s k=(isLow c||(decide (0<k) && isDig c)):=by unfold okAt;rw[hc]
     rw[hc] at hby
     have Hok:=hide hok
     clear hok hc
     have yes:okAt s k=true→∀j,j<k+1→okAt s j=true:=fun h j hj=>by
      rcases Nat.lt_or_ge j k with q|q
      ·exact hq.out j q
      ·obtain rfl:j=k:=by omega
       exact h
     have Yes:=hide yes
     clear yes
     by_cases hlo:c<97
     ·have d1:(s[k].toNat:Int)<97:=by omega
      by_cases hk0:k=0
      ·have hno:=nameB_not hlk (by rw[Hok.out];simp [isLow,hk0];omega)
       have Hno:=hide hno
       subst hk0
       clear hno hby hlo
       go_wp2
       go_ret
       exact⟨by rw[Hno.out];rfl,rfl⟩
      ·have e0:((k:Int)==0)=false:=by simp;omega
       by_cases h48:c<48
       ·have d2:(s[k].toNat:Int)<48:=by omega
        have hno:=nameB_not hlk (by rw[Hok.out];simp [isLow,isDig];omega)
        have Hno:=hide hno
        clear hno hby hlo h48 hk0
        go_wp2
        go_ret
        exact⟨by rw[Hno.out];rfl,rfl⟩
       ·have d2:48≤(s[k].toNat:Int):=by omega
        by_cases h57:57<c
        ·have d3:57<(s[k].toNat:Int):=by omega
         have hno:=nameB_not hlk (by rw[Hok.out];simp [isLow,isDig];omega)
         have Hno:=hide hno
         clear hno hby hlo h48 hk0 h57
         go_wp2
         go_ret
         exact⟨by rw[Hno.out];rfl,rfl⟩
        ·have d3:(s[k].toNat:Int)≤57:=by omega
         have hyes:=Yes.out (by rw[Hok.out];simp [isLow,isDig];omega)
         have Hyes:=hide hyes
         clear hyes hby hlo h48 hk0 h57
         go_wp2
         go_round
         case rel=>exact⟨k+1,by omega,by go_num,Hyes.out⟩
         case measure=>simp [intOf];omega
     ·have d1:97≤(s[k].toNat:Int):=by omega
      by_cases hhi:122<c
      ·have d2:122<(s[k].toNat:Int):=by omega
       have d5:decide ((s[k].toNat:Int)≤122)=false:=by simp;omega
       have hno:=nameB_not hlk (by rw[Hok.out];simp [isLow,isDig];omega)
       have Hno:=hide hno
       have d3:48≤(s[k].toNat:Int):=by omega
       have d4:57<(s[k].toNat:Int):=by omega
       by_cases hk0:k=0
       ·subst hk0
        clear hno hby hlo hhi
        go_wp2
        go_ret
        exact⟨by rw[Hno.out];rfl,rfl⟩
       ·have e0:((k:Int)==0)=false:=by simp;omega
        clear hno hby hlo hhi hk0
        go_wp2
        go_ret
        exact⟨by rw[Hno.out];rfl,rfl⟩
      ·have d2:(s[k].toNat:Int)≤122:=by omega
       have hyes:=Yes.out (by rw[Hok.out];simp [isLow];omega)
       have Hyes:=hide hyes
       clear hyes hby hlo hhi
       go_wp2
       go_round
       case rel=>exact⟨k+1,by omega,by go_num,Hyes.out⟩
       case measure=>simp [intOf];omega
    ·obtain rfl:k=s.size:=by omega
     go_wp2
     go_ret
     exact⟨by rw[nameB_all (by omega) (by omega) hq.out];rfl,rfl⟩
theorem textB_not {s:ByteArray}{k:Nat}(hk:k<s.size)(h:badT (byAt s k)=true):textB s=false:=by
 have:(s.data.toList.any fun b=>badT b.toNat)=true:=by
  cases hq:(s.data.toList.any fun b=>badT b.toNat)
  ·have:=(any_byAt badT s).1 hq k hk
   rw[h] at this
   cases this
  ·rfl
 unfold textB
 rw[this]
 simp
theorem textB_all {s:ByteArray}(h:∀k,k<s.size→badT (byAt s k)=false):textB s=decide (s.size≤200):=by
 unfold textB
 rw[(any_byAt badT s).2 h]
 simp
set_option maxRecDepth 100000 in
set_option maxHeartbeats 1000000 in
theorem rmay_str (n:Int)(s:ByteArray)(hs:s.size≤9223372036854775807)(w:World):Calls Tryz.prog 17 #[.agg #[.int .u8 3,.int .i64 n,.string s]] w (MayPost w (decide (n=0) && textB s)):=by
 have HB:=hide ((Below.refl w.heap.size w).alloc (Nat.le_refl _) (.cells #[.int .u8 3,.int .i64 n,.string s] 23))
 go_enter Tryz.func17,Tryz.ntmps17
 go_wp2
 go_loop [3] (fun vi=>∃k:Nat,k≤s.size∧vi= .int .i64 k∧Hid (∀j,j<k→badT (byAt s j)=false)) (fun i=>s.size - (intOf i).toNat)
 case atStart=>exact⟨0,Nat.zero_le _,rfl,fun j hj=>absurd hj (by omega)⟩
 case round=>
  obtain⟨k,hk,rfl,hq⟩:=hrel
  by_cases hlk:k<s.size
  ·have hby:=byAt_eq hlk
   obtain⟨c,hc⟩:∃c,byAt s k=c:=⟨_,rfl⟩
   rw[hc] at hby
   by_cases h32:c<32
   ·have d1:(s[k].toNat:Int)<32:=by omega
    have Hno:=hide (textB_not hlk (by rw[hc];simp [badT];omega))
    clear hby hc h32
    go_wp2
    go_ret
    exact⟨by rw[Hno.out,Bool.and_false];rfl,HB.out⟩
   ·have d1:32≤(s[k].toNat:Int):=by omega
    by_cases h126:126<c
    ·have d2:126<(s[k].toNat:Int):=by omega
     have Hno:=hide (textB_not hlk (by rw[hc];simp [badT];omega))
     clear hby hc h32 h126
     go_wp2
     go_ret
     exact⟨by rw[Hno.out,Bool.and_false];rfl,HB.out⟩
    ·have d2:(s[k].toNat:Int)≤126:=by omega
     have Hyes:Hid (∀j,j<k+1→badT (byAt s j)=false):=fun j hj=>by
      rcases Nat.lt_or_ge j k with q|q
      ·exact hq.out j q
      ·obtain rfl:j=k:=by omega
       rw[hc]
       simp [badT]
       omega
     clear hby hc h32 h126
     go_wp2
     go_round
     case rel=>exact⟨k+1,by omega,by go_num,Hyes.out⟩
     case measure=>simp [intOf];omega
  ·obtain rfl:k=s.size:=by omega
   have Ht:=hide (textB_all hq.out)
   by_cases hn:n=0
   ·subst hn
    by_cases h200:s.size≤200
    ·have d1:(s.size:Int)≤200:=by omega
     have Hd:=hide (decide_eq_true h200)
     clear h200
     go_wp2
     go_ret
     exact⟨by rw[Ht.out,Hd.out];rfl,HB.out⟩
    ·have d1:200<(s.size:Int):=by omega
     have d2:decide ((s.size:Int)≤200)=false:=by simp;omega
     have Hd:=hide (decide_eq_false h200)
     clear h200
     go_wp2
     go_ret
     exact⟨by rw[Ht.out,Hd.out];rfl,HB.out⟩
   ·have h0:(n==0)=false:=by simpa using hn
    have Hd:=hide (decide_eq_false hn)
    clear hn
    go_wp2
    go_ret
    exact⟨by rw[Hd.out];rfl,HB.out⟩
set_option maxRecDepth 100000 in
theorem rmay_null (n:Int)(s:ByteArray)(w:World):Calls Tryz.prog 17 #[.agg #[.int .u8 0,.int .i64 n,.string s]] w (MayPost w (decide (n=0) && decide (s.size=0))):=by
 have HB:=hide ((Below.refl w.heap.size w).alloc (Nat.le_refl _) (.cells #[.int .u8 0,.int .i64 n,.string s] 23))
 obtain⟨q,hq⟩:∃q,decide (s.size=0)=q:=⟨_,rfl⟩
 obtain⟨he1,he2,he3⟩:=empty_cases s hq
 rw[hq]
 clear hq
 by_cases hn:n=0
 ·subst hn
  cases q
  ·have he:=he3 rfl
   clear he2 he3
   go_enter Tryz.func17,Tryz.ntmps17
   go_wp2
   go_ret
   exact⟨rfl,HB.out⟩
  ·have he:=he2 rfl
   clear he2 he3
   go_enter Tryz.func17,Tryz.ntmps17
   go_wp2
   go_ret
   exact⟨rfl,HB.out⟩
 ·have h0:(n==0)=false:=by simpa using hn
  rw[decide_eq_false hn]
  cases q
  ·have he:=he3 rfl
   clear he2 he3
   go_enter Tryz.func17,Tryz.ntmps17
   go_wp2
   go_ret
   exact⟨rfl,HB.out⟩
  ·have he:=he2 rfl
   clear he2 he3
   go_enter Tryz.func17,Tryz.ntmps17
   go_wp2
   go_ret
   exact⟨rfl,HB.out⟩
set_option maxRecDepth 100000 in
theorem rmay_num (k n:Int)(s:ByteArray)(w:World)(hk:k=1∨k=2):Calls Tryz.prog 17 #[.agg #[.int .u8 k,.int .i64 n,.string s]] w (MayPost w (decide (s.size=0))):=by
 have HB:=hide ((Below.refl w.heap.size w).alloc (Nat.le_refl _) (.cells #[.int .u8 k,.int .i64 n,.string s] 23))
 obtain⟨q,hq⟩:∃q,decide (s.size=0)=q:=⟨_,rfl⟩
 obtain⟨he1,he2,he3⟩:=empty_cases s hq
 rw[hq]
 clear hq
 rcases hk with rfl|rfl
 all_goals
  cases q
  ·have he:=he3 rfl
   clear he2 he3
   go_enter Tryz.func17,Tryz.ntmps17
   go_wp2
   go_ret
   exact⟨rfl,HB.out⟩
  ·have he:=he2 rfl
   clear he2 he3
   go_enter Tryz.func17,Tryz.ntmps17
   go_wp2
   go_ret
   exact⟨rfl,HB.out⟩
set_option maxRecDepth 100000 in
theorem rmay_sym (n:Int)(s:ByteArray)(hs:s.size≤9223372036854775807)(w:World):Calls Tryz.prog 17 #[.agg #[.int .u8 5,.int .i64 n,.string s]] w (MayPost w (decide (n=0) && nameB s)):=by
 have HB:=hide ((Below.refl w.heap.size w).alloc (Nat.le_refl _) (.cells #[.int .u8 5,.int .i64 n,.string s] 23))
 have hc:=rname_any s hs (w.alloc (.cells #[.int .u8 5,.int .i64 n,.string s] 23))
 obtain⟨b,hb⟩:∃b,nameB s=b:=⟨_,rfl⟩
 rw[hb] at hc ⊢
 have Hc:=hide hc
 clear hc hb
 by_cases hn:n=0
 ·subst hn
  go_enter Tryz.func17,Tryz.ntmps17
  go_wp2_with fail
  (with_reducible refine Hc.out.mono ?_)
  rintro e w1 ⟨rfl,rfl⟩
  go_wp2
  go_ret
  exact⟨ret_bool (by simp),HB.out⟩
 ·have h0:(n==0)=false:=by simpa using hn
  rw[decide_eq_false hn]
  clear hn
  go_enter Tryz.func17,Tryz.ntmps17
  go_wp2
  go_ret
  exact⟨rfl,HB.out⟩
set_option maxRecDepth 100000 in
theorem rmay_bool (n:Int)(s:ByteArray)(w:World):Calls Tryz.prog 17 #[.agg #[.int .u8 4,.int .i64 n,.string s]] w (MayPost w (decide (s.size=0) && decide (n=0∨n=1))):=by
 have HB:=hide ((Below.refl w.heap.size w).alloc (Nat.le_refl _) (.cells #[.int .u8 4,.int .i64 n,.string s] 23))
 obtain⟨q,hq⟩:∃q,decide (s.size=0)=q:=⟨_,rfl⟩
 obtain⟨he1,he2,he3⟩:=empty_cases s hq
 rw[hq]
 clear hq
 cases q
 ·have he:=he3 rfl
  clear he2 he3
  go_enter Tryz.func17,Tryz.ntmps17
  go_wp2
  go_ret
  exact⟨rfl,HB.out⟩
 ·have he:=he2 rfl
  clear he2 he3
  by_cases h0:n=0
  ·subst h0
   go_enter Tryz.func17,Tryz.ntmps17
   go_wp2
   go_ret
   exact⟨rfl,HB.out⟩
  ·by_cases h1:n=1
   ·subst h1
    go_enter Tryz.func17,Tryz.ntmps17
    go_wp2
    go_ret
    exact⟨rfl,HB.out⟩
   ·have e0:(n==0)=false:=by simpa using h0
    have e1:(n==1)=false:=by simpa using h1
    rw[decide_eq_false (by omega)]
    clear h0 h1
    go_enter Tryz.func17,Tryz.ntmps17
    go_wp2
    go_ret
    exact⟨rfl,HB.out⟩
set_option maxRecDepth 100000 in
theorem rmay_other (k n:Int)(s:ByteArray)(w:World)(hk:k<0∨5<k):Calls Tryz.prog 17 #[.agg #[.int .u8 k,.int .i64 n,.string s]] w (MayPost w false):=by
 have HB:=hide ((Below.refl w.heap.size w).alloc (Nat.le_refl _) (.cells #[.int .u8 k,.int .i64 n,.string s] 23))
 have e0:(k==0)=false:=by simp;omega
 have e1:(k==1)=false:=by simp;omega
 have e2:(k==2)=false:=by simp;omega
 have e3:(k==3)=false:=by simp;omega
 have e4:(k==4)=false:=by simp;omega
 have e5:(k==5)=false:=by simp;omega
 clear hk
 go_enter Tryz.func17,Tryz.ntmps17
 go_wp2
 go_ret
 exact⟨rfl,HB.out⟩
theorem rmay_any (v:Vl)(hv:v.s.size≤9223372036854775807)(w:World):
 Calls Tryz.prog 17 #[.agg #[.int .u8 v.k,.int .i64 v.n,.string v.s]] w fun e w'=>e= .returned (.bool (mayB v))∧Below w.heap.size w w':=by
 obtain⟨k,n,s⟩:=v
 simp only at hv
 unfold mayB
 simp only
 by_cases k0:k=0
 ·subst k0
  rw[if_pos rfl]
  exact rmay_null n s w
 ·rw[if_neg k0]
  by_cases k1:k=1∨k=2
  ·rw[if_pos k1]
   exact rmay_num k n s w k1
  ·rw[if_neg k1]
   by_cases k3:k=3
   ·subst k3
    rw[if_pos rfl]
    exact rmay_str n s hv w
   ·rw[if_neg k3]
    by_cases k4:k=4
    ·subst k4
     rw[if_pos rfl]
     exact rmay_bool n s w
    ·rw[if_neg k4]
     by_cases k5:k=5
     ·subst k5
      rw[if_pos rfl]
      exact rmay_sym n s hv w
     ·rw[if_neg k5]
      exact rmay_other k n s w (by omega)
open Go Go.Lib
theorem isPrefixOf_one (c b:UInt8)(l:List UInt8):[c].isPrefixOf (b::l)=(c==b):=by
 simp [List.isPrefixOf]
theorem index_one_cons (c b:UInt8)(l:List UInt8):index (b::l) [c]=if b=c then 0 else if index l [c]= -1 then -1 else index l [c]+1:=by
 rw[index,isPrefixOf_one]
 by_cases h:b=c
 ·subst h;simp
 ·have:(c==b)=false:=by simpa using fun e:c=b=>h e.symm
  rw[this,if_neg h]
  simp only[Bool.false_eq_true,if_false]
  by_cases h2:index l [c]= -1
  ·simp [h2]
  ·have:(index l [c]== -1)=false:=by simpa using h2
   rw[this,if_neg h2]
   simp
theorem index_one_none {c:UInt8}{l:List UInt8}(h:c∉l):index l [c]= -1:=by
 induction l with
 |nil=>rfl
 |cons b l ih=>
  rw[index_one_cons,if_neg (fun e:b=c=>h (e▸List.mem_cons_self)),if_pos (ih fun q=>h (List.mem_cons_of_mem _ q))]
theorem index_one_some {c:UInt8}(a r:List UInt8)(h:c∉a):index (a++c::r) [c]=(a.length:Nat):=by
 induction a with
 |nil=>rw[List.nil_append,index_one_cons,if_pos rfl];rfl
 |cons b a ih=>
  rw[List.cons_append,index_one_cons,if_neg (fun e:b=c=>h (e▸List.mem_cons_self)),ih fun q=>h (List.mem_cons_of_mem _ q),if_neg (by omega)]
  simp
theorem cut_one_none {c:UInt8}{l:List UInt8}(h:c∉l):cut l [c]=(l,[],false):=by
 unfold cut
 rw[index_one_none h]
 rfl
theorem cut_one_some {c:UInt8}(a r:List UInt8)(h:c∉a):cut (a++c::r) [c]=(a,r,true):=by
 unfold cut
 rw[index_one_some a r h,if_pos (by omega)]
 simp [List.drop_append]
theorem split_one (c:UInt8)(l:List UInt8):c∉l∨∃a r,l=a++c::r∧c∉a:=by
 by_cases h:c∈l
 ·refine .inr ?_
  induction l with
  |nil=>cases h
  |cons b l ih=>
   by_cases e:b=c
   ·exact⟨[],l,by rw[e];rfl,by simp⟩
   ·rcases List.mem_cons.1 h with q|q
    ·exact absurd q.symm e
    ·obtain⟨a,r,e1,hn⟩:=ih q
     refine⟨b::a,r,by rw[e1];rfl,?_⟩
     rw[List.mem_cons]
     rintro (q|q)
     ·exact e q.symm
     ·exact hn q
 ·exact .inl h
def repB (c:UInt8)(new:List UInt8)(l:List UInt8):List UInt8:=l.flatMap fun b=>if b=c then new else[b]
theorem repB_none {c:UInt8}{new l:List UInt8}(h:c∉l):repB c new l=l:=by
 unfold repB
 induction l with
 |nil=>rfl
 |cons b l ih=>
  rw[List.flatMap_cons,if_neg (fun e:b=c=>h (e▸List.mem_cons_self)),ih fun q=>h (List.mem_cons_of_mem _ q)]
  rfl
theorem count_one (c:UInt8):∀(k:Nat) (l:List UInt8),l.length≤k→count l [c]=l.count c
 |0,l,h=>by
  obtain rfl:l=[]:=List.eq_nil_of_length_eq_zero (by omega)
  rfl
 |k+1,l,h=>by
  rcases split_one c l with hn|⟨a,r,rfl,hn⟩
  ·rw[count_miss (index_one_none hn),List.count_eq_zero.2 hn]
  ·rw[count_hit (by simp) (index_one_some a r hn)]
   have hd:(a++c::r).drop (a.length+[c].length)=r:=by simp [List.drop_append]
   rw[hd,count_one c k r (by simp at h;omega),List.count_append,List.count_eq_zero.2 hn]
   simp
   omega
theorem replaceK_one (c:UInt8)(new:List UInt8):∀(k:Nat) (l:List UInt8),l.count c≤k→replaceK [c] new k l=repB c new l
 |0,l,h=>by
  have hn:c∉l:=List.count_eq_zero.1 (by omega)
  rw[repB_none hn]
  rfl
 |k+1,l,h=>by
  rcases split_one c l with hn|⟨a,r,rfl,hn⟩
  ·rw[repB_none hn,replaceK,index_one_none hn]
   rfl
  ·rw[replaceK_hit [c] new k _ a.length (index_one_some a r hn)]
   have hd:(a++c::r).drop (a.length+[c].length)=r:=by simp [List.drop_append]
   have hc:(a++c::r).count c=r.count c+1:=by rw[List.count_append,List.count_eq_zero.2 hn];simp
   rw[hd,replaceK_one c new k r (by omega)]
   unfold repB
   rw[List.flatMap_append,List.flatMap_cons,if_pos rfl]
   have:=repB_none (new:=new) hn
   unfold repB at this
   rw[this]
   simp
theorem replaceAll_one (c:UInt8)(new l:List UInt8)(h:[c]≠new):replaceAll l [c] new=repB c new l:=by
 unfold replaceAll replace replaceNum
 have:([c]==new)=false:=by simpa using h
 rw[this,if_neg (by simp),if_pos (.inl (by omega)),count_one c l.length l (Nat.le_refl _)]
 exact replaceK_one c new _ l (Nat.le_refl _)
def digC (c:UInt8):Bool:=decide (48≤c.toNat) && decide (c.toNat≤57)
def digL (l:List UInt8):Bool:=!l.isEmpty && l.all digC
def val (l:List UInt8)(acc:Nat):Nat:=l.foldl (fun a c=>a*10+(c.toNat - 48)) acc
theorem val_ge (l:List UInt8):∀acc,acc≤val l acc:=by
 induction l with
 |nil=>intro acc;exact Nat.le_refl _
 |cons c l ih=>
  intro acc
  have:=ih (acc*10+(c.toNat - 48))
  show acc≤val l (acc*10+(c.toNat - 48))
  omega
theorem parse_val (M:Nat)(hM:M≤18446744073709551615):∀(l:List UInt8) (acc:Nat),l.all digC=true→val l acc≤M→parseUintM M acc l= .ok (val l acc)
 |[],acc,_,_=>rfl
 |c::l,acc,hd,hv=>by
  rw[List.all_cons,Bool.and_eq_true] at hd
  obtain⟨h1,h2⟩:=hd
  have hc:48≤c.toNat∧c.toNat≤57:=by simpa[digC] using h1
  have hv':val l (acc*10+(c.toNat - 48))≤M:=hv
  have hg:=val_ge l (acc*10+(c.toNat - 48))
  rw[parseUintM,if_pos hc,if_neg (by omega),if_neg (by omega)]
  exact parse_val M hM l _ h2 hv'
theorem toNat_dig (u:Nat)(h:u<10):(UInt8.ofNat (48+u)).toNat=48+u:=by
 rw[UInt8.toNat_ofNat']
 omega
theorem decDigits_small {u:Nat}(h:u<10):decDigits u=[UInt8.ofNat (48+u)]:=by rw[decDigits,dif_pos h]
theorem decDigits_big {u:Nat}(h:¬u<10):decDigits u=decDigits (u/10)++[UInt8.ofNat (48+u % 10)]:=by rw[decDigits,dif_neg h]
theorem decDigits_ne (u:Nat):decDigits u≠[]:=by
 by_cases h:u<10
 ·rw[decDigits_small h];simp
 ·rw[decDigits_big h];simp
theorem not_dig {c:UInt8}{l:List UInt8}(h:l.all digC=true)(hc:digC c=false):c∉l:=fun q=>by
 have:=List.all_eq_true.1 h c q
 rw[hc] at this
 cases this
def pad5 (l:List UInt8):List UInt8:=List.replicate (5 - l.length) 48++l
theorem pad5_len (l:List UInt8):5≤(pad5 l).length:=by
 unfold pad5
 rw[List.length_append,List.length_replicate]
 omega
def fracT (r:List UInt8):List UInt8:=if trimRightB r 48=[] then[48] else trimRightB r 48
theorem trimR_parts (r:List UInt8):∃k,r=trimRightB r 48++List.replicate k 48:=by
 refine⟨(r.reverse.takeWhile (· ==48)).length,?_⟩
 have h1:r.reverse.takeWhile (· ==(48:UInt8))=List.replicate (r.reverse.takeWhile (· ==48)).length 48:=by
  refine List.eq_replicate_iff.2 ⟨rfl,fun b hb=>?_⟩
  have:=List.all_takeWhile (l:=r.reverse) (p:=(· ==(48:UInt8)))
  rw[List.all_eq_true] at this
  simpa using this b hb
 have h2:=List.takeWhile_append_dropWhile (p:=(· ==(48:UInt8))) (l:=r.reverse)
 have h3:=congrArg List.reverse h2
 rw[List.reverse_append,List.reverse_reverse] at h3
 unfold trimRightB
 refine h3.symm.trans ?_
 congr 1
 rw[h1,List.reverse_replicate]
 simp
def decT (n:Int):List UInt8:=(if n<0 then[45] else[])++((pad5 (decDigits n.natAbs)).take ((pad5 (decDigits n.natAbs)).length - 4)++46::fracT ((pad5 (decDigits n.natAbs)).drop ((pad5 (decDigits n.natAbs)).length - 4)))
def escT (l:List UInt8):List UInt8:=repB 34 [92,34] (repB 92 [92,92] l)
def quoT (l:List UInt8):List UInt8:=34::(escT l++[34])
def txtL (k n:Int)(s:List UInt8):List UInt8:=
 if k=1 then itoa n else if k=2 then decT n else if k=3 then quoT s else if k=4 then(if n=1 then[116,114,117,101] else[102,97,108,115,101]) else if k=5 then 35::s else[110,117,108,108]
def numP (l:List UInt8):Except Int (Int×Int):=
 let c:=cut (if l.head? =some 45 then l.tail else l) [46]
 if(!digL c.1||(decide (1<c.1.length) && c.1.head? ==some 48))||(c.2.2 && (!digL c.2.1||decide (4<c.2.1.length))) then .error 4
 else
  let d:=if c.2.2 then c.1++(c.2.1++[48,48,48,48]).take 4 else c.1
  match parseIntB 64 (if l.head? =some 45 then 45::d else d) with
  | .ok n=> .ok (if c.2.2 then 2 else 1,n)
  |_=> .error 9
def innerL:List UInt8→List UInt8
 |c::y::r=>if c=92 then y::innerL r else c::innerL (y::r)
 |_=>[]
def readP (l:List UInt8):Except Int (Int×Int×List UInt8):=
 match l with
 |34::r=> .ok (3,0,innerL r)
 |35::r=> .ok (5,0,r)
 |116::r=>if r=[114,117,101] then .ok (4,1,[]) else .error 4
 |102::r=>if r=[97,108,115,101] then .ok (4,0,[]) else .error 4
 |110::r=>if r=[117,108,108] then .ok (0,0,[]) else .error 4
 |l=>(numP l).map fun p=>(p.1,p.2,[])
theorem readP_num {c:UInt8}{r:List UInt8}(h:c≠34∧c≠35∧c≠116∧c≠102∧c≠110):readP (c::r)=(numP (c::r)).map fun p=>(p.1,p.2,[]):=by
 obtain⟨h1,h2,h3,h4,h5⟩:=h
 unfold readP
 split
 ·rename_i e;injection e with e;exact absurd e h1
 ·rename_i e;injection e with e;exact absurd e h2
 ·rename_i e;injection e with e;exact absurd e h3
 ·rename_i e;injection e with e;exact absurd e h4
 ·rename_i e;injection e with e;exact absurd e h5
 ·rfl
theorem escT_cons (c:UInt8)(l:List UInt8):escT (c::l)=(if c=92 then[92,92] else if c=34 then[92,34] else[c])++escT l:=by
 unfold escT repB
 rw[List.flatMap_cons,List.flatMap_append]
 congr 1
 by_cases h:c=92
 ·subst h;rfl
 ·rw[if_neg h,if_neg h]
  simp
def lowC (c:UInt8):Bool:=decide (97≤c.toNat) && decide (c.toNat≤122)
def nameL (s:List UInt8):Bool:=match s with
 |[]=>false
 |c::r=>decide (r.length<12) && lowC c && r.all fun b=>lowC b||digC b
def priC (c:UInt8):Bool:=decide (32≤c.toNat) && decide (c.toNat≤126)
def textL (s:List UInt8):Bool:=decide (s.length≤200) && s.all priC
def mayL (k n:Int)(s:List UInt8):Bool:=
 if k=0 then decide (n=0) && s.isEmpty else if k=1∨k=2 then s.isEmpty else if k=3 then decide (n=0) && textL s
 else if k=4 then s.isEmpty && decide (n=0∨n=1) else if k=5 then decide (n=0) && nameL s else false
theorem mayL_cases {k n:Int}{s:List UInt8}(h:mayL k n s=true):
 (k=0∧n=0∧s=[])∨(k=1∧s=[])∨(k=2∧s=[])∨(k=3∧n=0∧s.length≤200∧s.all priC=true)∨(k=4∧s=[]∧(n=0∨n=1))∨(k=5∧n=0∧nameL s=true):=by
 unfold mayL at h
 by_cases k0:k=0
 ·rw[if_pos k0,Bool.and_eq_true,decide_eq_true_eq,List.isEmpty_iff] at h
  exact .inl ⟨k0,h.1,h.2⟩
 rw[if_neg k0] at h
 by_cases k12:k=1∨k=2
 ·rw[if_pos k12,List.isEmpty_iff] at h
  rcases k12 with e|e
  ·exact .inr (.inl ⟨e,h⟩)
  ·exact .inr (.inr (.inl ⟨e,h⟩))
 rw[if_neg k12] at h
 by_cases k3:k=3
 ·rw[if_pos k3] at h
  unfold textL at h
  simp only[Bool.and_eq_true,decide_eq_true_eq] at h
  exact .inr (.inr (.inr (.inl ⟨k3,h.1,h.2.1,h.2.2⟩)))
 rw[if_neg k3] at h
 by_cases k4:k=4
 ·rw[if_pos k4,Bool.and_eq_true,decide_eq_true_eq,List.isEmpty_iff] at h
  exact .inr (.inr (.inr (.inr (.inl ⟨k4,h.1,h.2⟩))))
 rw[if_neg k4] at h
 by_cases k5:k=5
 ·rw[if_pos k5,Bool.and_eq_true,decide_eq_true_eq] at h
  exact .inr (.inr (.inr (.inr (.inr ⟨k5,h.1,h.2⟩))))
 rw[if_neg k5] at h
 cases h
theorem nameL_facts {s:List UInt8}(h:nameL s=true):1≤s.length∧s.length≤12∧s.all (fun b=>lowC b||digC b)=true∧∃c r,s=c::r∧lowC c=true:=by
 cases s with
 |nil=>cases h
 |cons c r=>
  unfold nameL at h
  simp only[Bool.and_eq_true,decide_eq_true_eq] at h
  refine⟨by simp,by simp;omega,?_,c,r,rfl,h.1.2⟩
  rw[List.all_cons,h.1.2,h.2]
  rfl
def txtM (k n:Int)(s:List UInt8):List UInt8:=if mayL k n s=true then txtL k n s else[]
def prsL (l:List UInt8):Except Int (Int×Int×List UInt8):=
 if 402<l.length then .error 3 else if l=[] then .error 4 else
  match readP l with
  | .error e=> .error e
  | .ok v=>if txtM v.1 v.2.1 v.2.2=l then .ok v else .error 4
open Go Go.Lib
theorem numP_errs {l:List UInt8}{q:Int}(h:numP l= .error q):q=4∨q=9:=by
 unfold numP at h
 simp only at h
 generalize cut (if l.head? =some 45 then l.tail else l) [46]=c at h
 by_cases hc:((!digL c.1||(decide (1<c.1.length) && c.1.head? ==some 48))||(c.2.2 && (!digL c.2.1||decide (4<c.2.1.length))))=true
 ·rw[if_pos hc] at h
  injection h with h
  exact .inl h.symm
 ·rw[if_neg hc] at h
  generalize parseIntB 64 _=z at h
  cases z
  case ok n=>cases h
  all_goals (injection h with h;exact .inr h.symm)
theorem prsL_err {l:List UInt8}{e:Int}(h:prsL l= .error e):e=3∨e=4∨e=9:=by
 unfold prsL at h
 by_cases h4:402<l.length
 ·rw[if_pos h4] at h;injection h with h;exact .inl h.symm
 rw[if_neg h4] at h
 by_cases hl:l=[]
 ·rw[if_pos hl] at h;injection h with h;exact .inr (.inl h.symm)
 rw[if_neg hl] at h
 cases hr:readP l with
 |ok v=>
  rw[hr] at h
  simp only at h
  split at h
  ·cases h
  ·injection h with h;exact .inr (.inl h.symm)
 |error q=>
  rw[hr] at h
  injection h with h
  subst h
  have hnum:∀x,numP x= .error q→q=4∨q=9:=fun x hx=>numP_errs hx
  unfold readP at hr
  split at hr
  ·cases hr
  ·cases hr
  ·split at hr
   ·cases hr
   ·injection hr with hr;exact .inr (.inl hr.symm)
  ·split at hr
   ·cases hr
   ·injection hr with hr;exact .inr (.inl hr.symm)
  ·split at hr
   ·cases hr
   ·injection hr with hr;exact .inr (.inl hr.symm)
  ·cases hq:numP l with
   |ok p=>rw[hq] at hr;cases hr
   |error z=>
    rw[hq] at hr
    injection hr with hr
    subst hr
    exact .inr (hnum l hq)
open Go Go.RowKit Go.Lib
abbrev dl (s:ByteArray):List UInt8:=s.data.toList
theorem dl_mk (l:List UInt8):dl ⟨l.toArray⟩=l:=rfl
theorem dl_inj {s t:ByteArray}(h:dl s=dl t):s=t:=by
 obtain⟨⟨a⟩⟩:=s
 obtain⟨⟨b⟩⟩:=t
 simp only[dl] at h
 rw[h]
theorem dl_size (s:ByteArray):(dl s).length=s.size:=by simp [dl]
theorem dl_app (s t:ByteArray):dl (s++t)=dl s++dl t:=by
 show(s++t).data.toList=s.data.toList++t.data.toList
 simp
theorem dl_ext (s:ByteArray)(a b:Nat):dl (s.extract a b)=((dl s).drop a).take (b - a):=extract_data s a b
theorem dl_ext_end (s:ByteArray)(a:Nat):dl (s.extract a s.size)=(dl s).drop a:=extract_to_end s a
theorem mk_dl (s:ByteArray):(⟨(dl s).toArray⟩:ByteArray)=s:=by
 obtain⟨⟨l⟩⟩:=s
 rfl
theorem toList_dl (s:ByteArray):s.toList=dl s:=ByteArray.toList_eq s
theorem dl_get {s:ByteArray}{i:Nat}(h:i<s.size):(dl s)[i]? =some s[i]:=by
 have h':i<(dl s).length:=by rw[dl_size];exact h
 rw[List.getElem?_eq_getElem h']
 rfl
theorem dl_head {s:ByteArray}(h:0<s.size):(dl s).head? =some s[0]:=by
 rw[List.head?_eq_getElem?]
 exact dl_get h
theorem ret_str {s t:ByteArray}(h:dl s=dl t):Ending.returned (.string s)= .returned (.string t):=by rw[dl_inj h]
def strV:Value→ByteArray
 | .string s=>s
 |_=>ByteArray.empty
open Go Go.RowKit Go.Lib Go.Sort Go.Shelf
theorem var_below {w w':World}{P:Program}{n:String}{cs:Array Value}(h:w.var? P n=some cs)(hb:Below w.heap.size w w'):w'.var? P n=some cs:=by
 unfold World.var? at*
 cases hg:P.globalNamed n with
 |none=>rw[hg] at h;cases h
 |some g=>
  rw[hg] at h
  simp only[Option.bind_some] at h ⊢
  cases ho:w.heap[g]? with
  |none=>rw[ho] at h;cases h
  |some o=>
   rw[(hb.block g (lt_of_block ho)).trans ho]
   rw[ho] at h
   exact h
structure Rd (w:World):Prop where
 ml:∃m,w.cell? ⟨0,0,none⟩=some (.int .i64 m)
 tab:Lib.TabIs Tryz.prog w "internal/strconv.uint64pow10" .u64 Lib.pow10Tab
 rng:∃ev,w.cell? ⟨3,0,none⟩=some ev∧(ev= .nilIface∨∃te pe,ev= .iface te pe)
 syn:∃ev,w.cell? ⟨2,0,none⟩=some ev∧(ev= .nilIface∨∃te pe,ev= .iface te pe)
theorem Rd.below {w w':World}(h:Rd w)(hb:Below w.heap.size w w'):Rd w':=
 ⟨h.ml.imp fun _ hm=>bcell hb hm,var_below h.tab hb,h.rng.imp fun _ hm=>⟨bcell hb hm.1,hm.2⟩,h.syn.imp fun _ hm=>⟨bcell hb hm.1,hm.2⟩⟩
theorem below_grow (w:World)(k:Nat)(os:Array Obj):Below w.heap.size w (grow (w.drewN k) os):=
 ⟨rfl,rfl,rfl,by simp [grow,World.drewN],fun i hi=>by
  have:i<(w.drewN k).heap.size:=hi
  rw[heap_grow_old _ _ this]
  rfl⟩
end Go.Proofs.YtgfakdobajgnfaaGreatDoor
