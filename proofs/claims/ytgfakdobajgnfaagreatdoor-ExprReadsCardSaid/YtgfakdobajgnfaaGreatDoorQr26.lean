import Derived.Recover
import Derived.BigQuiet
import Derived.Test.YtgfakdobajgnfaaGreatDoorQr24
import Derived.Test.YtgfakdobajgnfaaGreatDoorQr25
import Derived.Test.YtgfakdobajgnfaaGreatDoorQr1
import Derived.Test.YtgfakdobajgnfaaGreatDoorQr13
import Derived.Test.YtgfakdobajgnfaaGreatDoorQr18
namespace Go.Proofs.YtgfakdobajgnfaaGreatDoor
open Go Go.RowKit
theorem XPost.back {w W:World}{B b d:Nat}{X:List Nat}{vl vt:Value}{ts:List Tkn}{nds:List Nd}{x:ExR}{e:Ending}{w':World}(hb:Below w.heap.size w W)(h:XPost W B X b vl ts d vt nds x e w'):XPost w B X b vl ts d vt nds x e w':=by
 cases x with
 |error p=>exact⟨h.1,h.2.1,(Rch.of_below vt hb).err h.2.2⟩
 |ok p=>
  obtain⟨h1,v',h2,h3⟩:=h
  exact⟨h1,v',h2,(Rch.of_below vt hb).trans h3⟩
theorem Qw18{P:Prop}(h:P:=by
 obtain⟨a,q⟩:=p
 rw[hq] at hp
 have HE:=hide hp
 obtain⟨rfl,_⟩:=hp
 rw[←hq] at HE
 clear hq
 go_wp2_with fail
 go_ret
 exact HE.out):P:=h
theorem Qw19{P:Prop}(h:P:=by
 obtain⟨er,q⟩:=p
 rw[hq] at hp
 have HE:=hide hp
 obtain⟨rfl,_,_⟩:=hp
 clear hq
 go_wp2_with fail
 exact⟨rfl,HE.out⟩):P:=h
set_option maxRecDepth 100000 in
theorem or_any {k B b:Nat}{X:List Nat}{vl:Value}{ts:List Tkn}(ih:LvlIH k B b vl ts){d:Nat}{r:List Tkn}{w:World}{vt:Value}{nds:List Nd}(hk:rank (.lvl 0) r≤k)(h:RdAt w B X b vl ts r d vt nds)(hB:B≤w.heap.size):
 Calls Tryz.prog 148 #[.pointer (some ⟨b,0,none⟩)] w (XPost w B X b vl ts d vt nds (lvlE 0 d r)):=by
 have hb:Below w.heap.size w (w.alloc (.cells #[.string ⟨#[111,114]⟩,.int .u8 4] 228)):=(Below.refl _ w).alloc (Nat.le_refl _) _
 have hr:Calls Tryz.prog 201 #[.pointer (some ⟨b,0,none⟩),.int .i64 0,.bool true,.slice (some ⟨w.heap.size,0,none⟩) 1 1] (w.alloc (.cells #[.string ⟨#[111,114]⟩,.int .u8 4] 228)) _:=
  (row_any ih (n:=0) (by decide) (by decide) hk (h.below hb) (Nat.le_trans hB hb.size) (l:=[([111,114],4)]) (g:=w.heap.size) (m:=1) rfl rfl (by decide) (heap_alloc0 w _) true (by show _=_;rfl)).mono fun e w' q=>XPost.back hb q
 have HR:=hide hr
 clear hr hb h hk ih
 go_enter Tryz.func148,Tryz.ntmps148
 go_wp2_with fail
 (with_reducible refine HR.out.mono ?_)
 rintro e V hp
 cases hq:lvlE 0 d r with
 |error p=>
  exact Qw19
 |ok p=>
  exact Qw18
set_option maxRecDepth 100000 in
theorem and_any {k B b:Nat}{X:List Nat}{vl:Value}{ts:List Tkn}(ih:LvlIH k B b vl ts){d:Nat}{r:List Tkn}{w:World}{vt:Value}{nds:List Nd}(hk:rank (.lvl 1) r≤k)(h:RdAt w B X b vl ts r d vt nds)(hB:B≤w.heap.size):
 Calls Tryz.prog 149 #[.pointer (some ⟨b,0,none⟩)] w (XPost w B X b vl ts d vt nds (lvlE 1 d r)):=by
 have hb:Below w.heap.size w (w.alloc (.cells #[.string ⟨#[97,110,100]⟩,.int .u8 5] 228)):=(Below.refl _ w).alloc (Nat.le_refl _) _
 have hr:Calls Tryz.prog 201 #[.pointer (some ⟨b,0,none⟩),.int .i64 1,.bool true,.slice (some ⟨w.heap.size,0,none⟩) 1 1] (w.alloc (.cells #[.string ⟨#[97,110,100]⟩,.int .u8 5] 228)) _:=
  (row_any ih (n:=1) (by decide) (by decide) hk (h.below hb) (Nat.le_trans hB hb.size) (l:=[([97,110,100],5)]) (g:=w.heap.size) (m:=1) rfl rfl (by decide) (heap_alloc0 w _) true (by show _=_;rfl)).mono fun e w' q=>XPost.back hb q
 have HR:=hide hr
 clear hr hb h hk ih
 go_enter Tryz.func149,Tryz.ntmps149
 go_wp2_with fail
 (with_reducible refine HR.out.mono ?_)
 rintro e V hp
 cases hq:lvlE 1 d r with
 |error p=>
  exact Qw19
 |ok p=>
  exact Qw18
set_option maxRecDepth 100000 in
theorem cmp_any {k B b:Nat}{X:List Nat}{vl:Value}{ts:List Tkn}(ih:LvlIH k B b vl ts){d:Nat}{r:List Tkn}{w:World}{vt:Value}{nds:List Nd}(hk:rank (.lvl 3) r≤k)(h:RdAt w B X b vl ts r d vt nds)(hB:B≤w.heap.size):
 Calls Tryz.prog 151 #[.pointer (some ⟨b,0,none⟩)] w (XPost w B X b vl ts d vt nds (lvlE 3 d r)):=by
 have hb:Below w.heap.size w (w.alloc (.cells #[.string ⟨#[61]⟩,.int .u8 7,.string ⟨#[60,62]⟩,.int .u8 8,.string ⟨#[60]⟩,.int .u8 9,.string ⟨#[60,61]⟩,.int .u8 10,.string ⟨#[62]⟩,.int .u8 11,.string ⟨#[62,61]⟩,.int .u8 12] 228)):=(Below.refl _ w).alloc (Nat.le_refl _) _
 have hr:Calls Tryz.prog 201 #[.pointer (some ⟨b,0,none⟩),.int .i64 3,.bool false,.slice (some ⟨w.heap.size,0,none⟩) 6 6] (w.alloc (.cells #[.string ⟨#[61]⟩,.int .u8 7,.string ⟨#[60,62]⟩,.int .u8 8,.string ⟨#[60]⟩,.int .u8 9,.string ⟨#[60,61]⟩,.int .u8 10,.string ⟨#[62]⟩,.int .u8 11,.string ⟨#[62,61]⟩,.int .u8 12] 228)) _:=
  (row_any ih (n:=3) (by decide) (by decide) hk (h.below hb) (Nat.le_trans hB hb.size) (l:=[([61],7),([60,62],8),([60],9),([60,61],10),([62],11),([62,61],12)]) (g:=w.heap.size) (m:=6) rfl rfl (by decide) (heap_alloc0 w _) false (by show _=_;rfl)).mono fun e w' q=>XPost.back hb q
 have HR:=hide hr
 clear hr hb h hk ih
 go_enter Tryz.func151,Tryz.ntmps151
 go_wp2_with fail
 (with_reducible refine HR.out.mono ?_)
 rintro e V hp
 cases hq:lvlE 3 d r with
 |error p=>
  exact Qw19
 |ok p=>
  exact Qw18
set_option maxRecDepth 100000 in
theorem sum_any {k B b:Nat}{X:List Nat}{vl:Value}{ts:List Tkn}(ih:LvlIH k B b vl ts){d:Nat}{r:List Tkn}{w:World}{vt:Value}{nds:List Nd}(hk:rank (.lvl 4) r≤k)(h:RdAt w B X b vl ts r d vt nds)(hB:B≤w.heap.size):
 Calls Tryz.prog 152 #[.pointer (some ⟨b,0,none⟩)] w (XPost w B X b vl ts d vt nds (lvlE 4 d r)):=by
 have hb:Below w.heap.size w (w.alloc (.cells #[.string ⟨#[43]⟩,.int .u8 13,.string ⟨#[45]⟩,.int .u8 14] 228)):=(Below.refl _ w).alloc (Nat.le_refl _) _
 have hr:Calls Tryz.prog 201 #[.pointer (some ⟨b,0,none⟩),.int .i64 4,.bool true,.slice (some ⟨w.heap.size,0,none⟩) 2 2] (w.alloc (.cells #[.string ⟨#[43]⟩,.int .u8 13,.string ⟨#[45]⟩,.int .u8 14] 228)) _:=
  (row_any ih (n:=4) (by decide) (by decide) hk (h.below hb) (Nat.le_trans hB hb.size) (l:=[([43],13),([45],14)]) (g:=w.heap.size) (m:=2) rfl rfl (by decide) (heap_alloc0 w _) true (by show _=_;rfl)).mono fun e w' q=>XPost.back hb q
 have HR:=hide hr
 clear hr hb h hk ih
 go_enter Tryz.func152,Tryz.ntmps152
 go_wp2_with fail
 (with_reducible refine HR.out.mono ?_)
 rintro e V hp
 cases hq:lvlE 4 d r with
 |error p=>
  exact Qw19
 |ok p=>
  exact Qw18
set_option maxRecDepth 100000 in
theorem prod_any {k B b:Nat}{X:List Nat}{vl:Value}{ts:List Tkn}(ih:LvlIH k B b vl ts){d:Nat}{r:List Tkn}{w:World}{vt:Value}{nds:List Nd}(hk:rank (.lvl 5) r≤k)(h:RdAt w B X b vl ts r d vt nds)(hB:B≤w.heap.size):
 Calls Tryz.prog 153 #[.pointer (some ⟨b,0,none⟩)] w (XPost w B X b vl ts d vt nds (lvlE 5 d r)):=by
 have hb:Below w.heap.size w (w.alloc (.cells #[.string ⟨#[42]⟩,.int .u8 15,.string ⟨#[47]⟩,.int .u8 16] 228)):=(Below.refl _ w).alloc (Nat.le_refl _) _
 have hr:Calls Tryz.prog 201 #[.pointer (some ⟨b,0,none⟩),.int .i64 5,.bool true,.slice (some ⟨w.heap.size,0,none⟩) 2 2] (w.alloc (.cells #[.string ⟨#[42]⟩,.int .u8 15,.string ⟨#[47]⟩,.int .u8 16] 228)) _:=
  (row_any ih (n:=5) (by decide) (by decide) hk (h.below hb) (Nat.le_trans hB hb.size) (l:=[([42],15),([47],16)]) (g:=w.heap.size) (m:=2) rfl rfl (by decide) (heap_alloc0 w _) true (by show _=_;rfl)).mono fun e w' q=>XPost.back hb q
 have HR:=hide hr
 clear hr hb h hk ih
 go_enter Tryz.func153,Tryz.ntmps153
 go_wp2_with fail
 (with_reducible refine HR.out.mono ?_)
 rintro e V hp
 cases hq:lvlE 5 d r with
 |error p=>
  exact Qw19
 |ok p=>
  exact Qw18
set_option maxRecDepth 100000 in
theorem not_any {k B b:Nat}{X:List Nat}{vl:Value}{ts:List Tkn}(ih:LvlIH k B b vl ts){d:Nat}{r:List Tkn}{w:World}{vt:Value}{nds:List Nd}(hk:rank (.lvl 2) r≤k)(h:RdAt w B X b vl ts r d vt nds)(hB:B≤w.heap.size):
 Calls Tryz.prog 150 #[.pointer (some ⟨b,0,none⟩)] w (XPost w B X b vl ts d vt nds (lvlE 2 d r)):=by
 have hr:Calls Tryz.prog 202 #[.pointer (some ⟨b,0,none⟩),.int .i64 2,.string ⟨#[110,111,116]⟩,.int .u8 6] w _:=ahead_any ih (n:=2) (by decide) hk h hB [110,111,116] rfl 6 rfl
 have HR:=hide hr
 clear hr h hk ih
 go_enter Tryz.func150,Tryz.ntmps150
 go_wp2_with fail
 (with_reducible refine HR.out.mono ?_)
 rintro e V hp
 cases hq:lvlE 2 d r with
 |error p=>
  exact Qw19
 |ok p=>
  exact Qw18
set_option maxRecDepth 100000 in
theorem minus_any {k B b:Nat}{X:List Nat}{vl:Value}{ts:List Tkn}(ih:LvlIH k B b vl ts){d:Nat}{r:List Tkn}{w:World}{vt:Value}{nds:List Nd}(hk:rank (.lvl 6) r≤k)(h:RdAt w B X b vl ts r d vt nds)(hB:B≤w.heap.size):
 Calls Tryz.prog 154 #[.pointer (some ⟨b,0,none⟩)] w (XPost w B X b vl ts d vt nds (lvlE 6 d r)):=by
 have hr:Calls Tryz.prog 202 #[.pointer (some ⟨b,0,none⟩),.int .i64 6,.string ⟨#[45]⟩,.int .u8 17] w _:=ahead_any ih (n:=6) (by decide) hk h hB [45] rfl 17 rfl
 have HR:=hide hr
 clear hr h hk ih
 go_enter Tryz.func154,Tryz.ntmps154
 go_wp2_with fail
 (with_reducible refine HR.out.mono ?_)
 rintro e V hp
 cases hq:lvlE 6 d r with
 |error p=>
  exact Qw19
 |ok p=>
  exact Qw18
theorem index_lvl0 (x0 x1 x2 x3 x4 x5 x6 x7:Value)(w:World):(Instr.index 190 (.agg #[x0,x1,x2,x3,x4,x5,x6,x7]) (.int .i64 0)).run Tryz.prog w= .ok x0 w:=by kernel_rfl
theorem index_lvl1 (x0 x1 x2 x3 x4 x5 x6 x7:Value)(w:World):(Instr.index 190 (.agg #[x0,x1,x2,x3,x4,x5,x6,x7]) (.int .i64 1)).run Tryz.prog w= .ok x1 w:=by kernel_rfl
theorem index_lvl2 (x0 x1 x2 x3 x4 x5 x6 x7:Value)(w:World):(Instr.index 190 (.agg #[x0,x1,x2,x3,x4,x5,x6,x7]) (.int .i64 2)).run Tryz.prog w= .ok x2 w:=by kernel_rfl
theorem index_lvl3 (x0 x1 x2 x3 x4 x5 x6 x7:Value)(w:World):(Instr.index 190 (.agg #[x0,x1,x2,x3,x4,x5,x6,x7]) (.int .i64 3)).run Tryz.prog w= .ok x3 w:=by kernel_rfl
theorem index_lvl4 (x0 x1 x2 x3 x4 x5 x6 x7:Value)(w:World):(Instr.index 190 (.agg #[x0,x1,x2,x3,x4,x5,x6,x7]) (.int .i64 4)).run Tryz.prog w= .ok x4 w:=by kernel_rfl
theorem index_lvl5 (x0 x1 x2 x3 x4 x5 x6 x7:Value)(w:World):(Instr.index 190 (.agg #[x0,x1,x2,x3,x4,x5,x6,x7]) (.int .i64 5)).run Tryz.prog w= .ok x5 w:=by kernel_rfl
theorem index_lvl6 (x0 x1 x2 x3 x4 x5 x6 x7:Value)(w:World):(Instr.index 190 (.agg #[x0,x1,x2,x3,x4,x5,x6,x7]) (.int .i64 6)).run Tryz.prog w= .ok x6 w:=by kernel_rfl
theorem index_lvl7 (x0 x1 x2 x3 x4 x5 x6 x7:Value)(w:World):(Instr.index 190 (.agg #[x0,x1,x2,x3,x4,x5,x6,x7]) (.int .i64 7)).run Tryz.prog w= .ok x7 w:=by kernel_rfl
set_option maxRecDepth 100000 in
set_option maxHeartbeats 4000000 in
theorem level_any (B b:Nat)(vl:Value)(ts:List Tkn):∀k,LvlIH k B b vl ts:=by
 intro k
 induction k with
 |zero=>intro X n d r w vt nds _ h;exact absurd h (Nat.not_lt_zero _)
 |succ k ih=>
  intro X n d r w vt nds h7 hk h hB
  have hmf:∀(fn:Fn) (first cap:Array Value) (w:World),(Instr.makeFunc fn first cap).run Tryz.prog w= .ok (.func fn first cap) w:=fun _ _ _ _=>rfl
  have hk':rank (.lvl n) r≤k:=by omega
  obtain rfl|rfl|rfl|rfl|rfl|rfl|rfl|rfl:n=0∨n=1∨n=2∨n=3∨n=4∨n=5∨n=6∨n=7:=by omega
  ·have hix:=fun W=>index_lvl0 (.func (.func 148) #[.pointer (some ⟨b,0,none⟩)] #[]) (.func (.func 149) #[.pointer (some ⟨b,0,none⟩)] #[]) (.func (.func 150) #[.pointer (some ⟨b,0,none⟩)] #[]) (.func (.func 151) #[.pointer (some ⟨b,0,none⟩)] #[]) (.func (.func 152) #[.pointer (some ⟨b,0,none⟩)] #[]) (.func (.func 153) #[.pointer (some ⟨b,0,none⟩)] #[]) (.func (.func 154) #[.pointer (some ⟨b,0,none⟩)] #[]) (.func (.func 155) #[.pointer (some ⟨b,0,none⟩)] #[]) W
   have HR:=hide (or_any ih hk' h hB)
   clear h hk hk' ih h7
   go_enter Tryz.func89,Tryz.ntmps89
   go_wp2_with fail
   (with_reducible refine HR.out.mono ?_)
   rintro e V hp
   cases hq:lvlE 0 d r with
   |error p=>
    exact Qw19
   |ok p=>
    exact Qw18
  ·have hix:=fun W=>index_lvl1 (.func (.func 148) #[.pointer (some ⟨b,0,none⟩)] #[]) (.func (.func 149) #[.pointer (some ⟨b,0,none⟩)] #[]) (.func (.func 150) #[.pointer (some ⟨b,0,none⟩)] #[]) (.func (.func 151) #[.pointer (some ⟨b,0,none⟩)] #[]) (.func (.func 152) #[.pointer (some ⟨b,0,none⟩)] #[]) (.func (.func 153) #[.pointer (some ⟨b,0,none⟩)] #[]) (.func (.func 154) #[.pointer (some ⟨b,0,none⟩)] #[]) (.func (.func 155) #[.pointer (some ⟨b,0,none⟩)] #[]) W
   have HR:=hide (and_any ih hk' h hB)
   clear h hk hk' ih h7
   go_enter Tryz.func89,Tryz.ntmps89
   go_wp2_with fail
   (with_reducible refine HR.out.mono ?_)
   rintro e V hp
   cases hq:lvlE 1 d r with
   |error p=>
    exact Qw19
   |ok p=>
    exact Qw18
  ·have hix:=fun W=>index_lvl2 (.func (.func 148) #[.pointer (some ⟨b,0,none⟩)] #[]) (.func (.func 149) #[.pointer (some ⟨b,0,none⟩)] #[]) (.func (.func 150) #[.pointer (some ⟨b,0,none⟩)] #[]) (.func (.func 151) #[.pointer (some ⟨b,0,none⟩)] #[]) (.func (.func 152) #[.pointer (some ⟨b,0,none⟩)] #[]) (.func (.func 153) #[.pointer (some ⟨b,0,none⟩)] #[]) (.func (.func 154) #[.pointer (some ⟨b,0,none⟩)] #[]) (.func (.func 155) #[.pointer (some ⟨b,0,none⟩)] #[]) W
   have HR:=hide (not_any ih hk' h hB)
   clear h hk hk' ih h7
   go_enter Tryz.func89,Tryz.ntmps89
   go_wp2_with fail
   (with_reducible refine HR.out.mono ?_)
   rintro e V hp
   cases hq:lvlE 2 d r with
   |error p=>
    exact Qw19
   |ok p=>
    exact Qw18
  ·have hix:=fun W=>index_lvl3 (.func (.func 148) #[.pointer (some ⟨b,0,none⟩)] #[]) (.func (.func 149) #[.pointer (some ⟨b,0,none⟩)] #[]) (.func (.func 150) #[.pointer (some ⟨b,0,none⟩)] #[]) (.func (.func 151) #[.pointer (some ⟨b,0,none⟩)] #[]) (.func (.func 152) #[.pointer (some ⟨b,0,none⟩)] #[]) (.func (.func 153) #[.pointer (some ⟨b,0,none⟩)] #[]) (.func (.func 154) #[.pointer (some ⟨b,0,none⟩)] #[]) (.func (.func 155) #[.pointer (some ⟨b,0,none⟩)] #[]) W
   have HR:=hide (cmp_any ih hk' h hB)
   clear h hk hk' ih h7
   go_enter Tryz.func89,Tryz.ntmps89
   go_wp2_with fail
   (with_reducible refine HR.out.mono ?_)
   rintro e V hp
   cases hq:lvlE 3 d r with
   |error p=>
    exact Qw19
   |ok p=>
    exact Qw18
  ·have hix:=fun W=>index_lvl4 (.func (.func 148) #[.pointer (some ⟨b,0,none⟩)] #[]) (.func (.func 149) #[.pointer (some ⟨b,0,none⟩)] #[]) (.func (.func 150) #[.pointer (some ⟨b,0,none⟩)] #[]) (.func (.func 151) #[.pointer (some ⟨b,0,none⟩)] #[]) (.func (.func 152) #[.pointer (some ⟨b,0,none⟩)] #[]) (.func (.func 153) #[.pointer (some ⟨b,0,none⟩)] #[]) (.func (.func 154) #[.pointer (some ⟨b,0,none⟩)] #[]) (.func (.func 155) #[.pointer (some ⟨b,0,none⟩)] #[]) W
   have HR:=hide (sum_any ih hk' h hB)
   clear h hk hk' ih h7
   go_enter Tryz.func89,Tryz.ntmps89
   go_wp2_with fail
   (with_reducible refine HR.out.mono ?_)
   rintro e V hp
   cases hq:lvlE 4 d r with
   |error p=>
    exact Qw19
   |ok p=>
    exact Qw18
  ·have hix:=fun W=>index_lvl5 (.func (.func 148) #[.pointer (some ⟨b,0,none⟩)] #[]) (.func (.func 149) #[.pointer (some ⟨b,0,none⟩)] #[]) (.func (.func 150) #[.pointer (some ⟨b,0,none⟩)] #[]) (.func (.func 151) #[.pointer (some ⟨b,0,none⟩)] #[]) (.func (.func 152) #[.pointer (some ⟨b,0,none⟩)] #[]) (.func (.func 153) #[.pointer (some ⟨b,0,none⟩)] #[]) (.func (.func 154) #[.pointer (some ⟨b,0,none⟩)] #[]) (.func (.func 155) #[.pointer (some ⟨b,0,none⟩)] #[]) W
   have HR:=hide (prod_any ih hk' h hB)
   clear h hk hk' ih h7
   go_enter Tryz.func89,Tryz.ntmps89
   go_wp2_with fail
   (with_reducible refine HR.out.mono ?_)
   rintro e V hp
   cases hq:lvlE 5 d r with
   |error p=>
    exact Qw19
   |ok p=>
    exact Qw18
  ·have hix:=fun W=>index_lvl6 (.func (.func 148) #[.pointer (some ⟨b,0,none⟩)] #[]) (.func (.func 149) #[.pointer (some ⟨b,0,none⟩)] #[]) (.func (.func 150) #[.pointer (some ⟨b,0,none⟩)] #[]) (.func (.func 151) #[.pointer (some ⟨b,0,none⟩)] #[]) (.func (.func 152) #[.pointer (some ⟨b,0,none⟩)] #[]) (.func (.func 153) #[.pointer (some ⟨b,0,none⟩)] #[]) (.func (.func 154) #[.pointer (some ⟨b,0,none⟩)] #[]) (.func (.func 155) #[.pointer (some ⟨b,0,none⟩)] #[]) W
   have HR:=hide (minus_any ih hk' h hB)
   clear h hk hk' ih h7
   go_enter Tryz.func89,Tryz.ntmps89
   go_wp2_with fail
   (with_reducible refine HR.out.mono ?_)
   rintro e V hp
   cases hq:lvlE 6 d r with
   |error p=>
    exact Qw19
   |ok p=>
    exact Qw18
  ·have hix:=fun W=>index_lvl7 (.func (.func 148) #[.pointer (some ⟨b,0,none⟩)] #[]) (.func (.func 149) #[.pointer (some ⟨b,0,none⟩)] #[]) (.func (.func 150) #[.pointer (some ⟨b,0,none⟩)] #[]) (.func (.func 151) #[.pointer (some ⟨b,0,none⟩)] #[]) (.func (.func 152) #[.pointer (some ⟨b,0,none⟩)] #[]) (.func (.func 153) #[.pointer (some ⟨b,0,none⟩)] #[]) (.func (.func 154) #[.pointer (some ⟨b,0,none⟩)] #[]) (.func (.func 155) #[.pointer (some ⟨b,0,none⟩)] #[]) W
   have HR:=hide (atom_any ih hk' h hB)
   clear h hk hk' ih h7
   go_enter Tryz.func89,Tryz.ntmps89
   go_wp2_with fail
   (with_reducible refine HR.out.mono ?_)
   rintro e V hp
   cases hq:lvlE 7 d r with
   |error p=>
    exact Qw19
   |ok p=>
    exact Qw18
open Go Go.RowKit
theorem nil_same (w:World):(binOp BinOp.eql 20 .nilIface .nilIface).run Tryz.prog w= .ok (.bool true) w:=by kernel_rfl
theorem stop_other (er:Int)(w:World):(binOp BinOp.eql 20 (.iface 131 (.int .i64 er)) .nilIface).run Tryz.prog w= .ok (.bool false) w:=by kernel_rfl
theorem stop_is (er:Int)(w:World):(Instr.typeAssert (.iface 131 (.int .i64 er)) 20 131 true).run Tryz.prog w= .ok (.tuple #[.int .i64 er,.bool true]) w:=by kernel_rfl
theorem one_cell {w:World}{b:Nat}{x:Value}{t:TypeId}(h:w.heap[b]? =some (.cells #[x] t (0,0))):w.cell? ⟨b,0,none⟩=some x∧w.frozen? ⟨b,0,none⟩=false:=
 ⟨by simp only[World.cell?,h];rfl,by simp only[World.frozen?,h];simp⟩
theorem five_allocs (w:World)(o0 o1 o2 o3 o4:Obj):((((((w.alloc o0).alloc o1).alloc o2).alloc o3).alloc o4).heap[w.heap.size]? =some o0∧(((((w.alloc o0).alloc o1).alloc o2).alloc o3).alloc o4).heap[w.heap.size+1]? =some o1∧(((((w.alloc o0).alloc o1).alloc o2).alloc o3).alloc o4).heap[w.heap.size+1+1]? =some o2∧
 (((((w.alloc o0).alloc o1).alloc o2).alloc o3).alloc o4).heap[w.heap.size+1+1+1]? =some o3∧(((((w.alloc o0).alloc o1).alloc o2).alloc o3).alloc o4).heap[w.heap.size+1+1+1+1]? =some o4):=by
 have z1:(w.alloc o0).heap.size=w.heap.size+1:=by simp
 have z2:((w.alloc o0).alloc o1).heap.size=w.heap.size+1+1:=by simp
 have z3:(((w.alloc o0).alloc o1).alloc o2).heap.size=w.heap.size+1+1+1:=by simp
 have z4:((((w.alloc o0).alloc o1).alloc o2).alloc o3).heap.size=w.heap.size+1+1+1+1:=by simp
 have h0:=heap_alloc0 w o0
 have h1:=heap_alloc0 (w.alloc o0) o1
 have h2:=heap_alloc0 ((w.alloc o0).alloc o1) o2
 have h3:=heap_alloc0 (((w.alloc o0).alloc o1).alloc o2) o3
 have h4:=heap_alloc0 ((((w.alloc o0).alloc o1).alloc o2).alloc o3) o4
 rw[z1] at h1
 rw[z2] at h2
 rw[z3] at h3
 rw[z4] at h4
 refine⟨?_,?_,?_,?_,h4⟩
 ·rw[Below.heap_alloc _ _ _ (by omega),Below.heap_alloc _ _ _ (by omega),Below.heap_alloc _ _ _ (by omega),Below.heap_alloc _ _ _ (by omega)]
  exact h0
 ·rw[Below.heap_alloc _ _ _ (by omega),Below.heap_alloc _ _ _ (by omega),Below.heap_alloc _ _ _ (by omega)]
  exact h1
 ·rw[Below.heap_alloc _ _ _ (by omega),Below.heap_alloc _ _ _ (by omega)]
  exact h2
 ·rw[Below.heap_alloc _ _ _ (by omega)]
  exact h3
theorem frame18 (a b c d x:Value):(#[a,b,c,d]++(Array.replicate 14 undef).setIfInBounds 3 x)= #[a,b,c,d,undef,undef,undef,x,undef,undef,undef,undef,undef,undef,undef,undef,undef,undef]:=rfl
set_option maxRecDepth 100000 in
theorem catch_idle (a0 a1 a2 a3:Addr)(w:World):
 CallsD Tryz.prog 88 #[.pointer (some a0),.pointer (some a1),.pointer (some a2),.pointer (some a3)] .returning w fun e u' w'=>e= .returned (.tuple #[])∧u'= .returning∧w'=w:=by
 have hnil:=nil_same
 refine callsD_of_wpS Tryz.func88 rfl fun c₀ cs hu=>?_
 apply wpS_seq
 apply wpS_region
 simp [wpOpsS,go_sem,recoverD,hu,Tryz.ntmps88,Exit.thenS]
 refine wpS_of_wp ?_
 rw[frame18]
 go_wp2_with fail
 refine⟨rfl,.returning,?_,.tuple #[],?_,rfl,rfl,rfl⟩
 ·rw[←hu]
 ·simp [results,Tryz.results88,go_sem]
set_option maxRecDepth 100000 in
theorem catch_stop (b p1 p2 p3 p0:Nat)(er:Int)(older:List PanicEntry)(at':Int)(w:World)(h0:w.cell? ⟨p0,0,none⟩=some (.pointer (some ⟨b,0,none⟩)))(h1:w.cell? ⟨b,1,none⟩=some (.int .i64 at'))
 (x1 x2 x3:Value) (c1:w.cell? ⟨p1,0,none⟩=some x1) (c2:w.cell? ⟨p2,0,none⟩=some x2) (c3:w.cell? ⟨p3,0,none⟩=some x3) (f1:w.frozen? ⟨p1,0,none⟩=false) (f2:w.frozen? ⟨p2,0,none⟩=false) (f3:w.frozen? ⟨p3,0,none⟩=false)
 (d12:¬p1=p2) (d13:¬p1=p3) (d23:¬p2=p3):
 CallsD Tryz.prog 88 #[.pointer (some ⟨p0,0,none⟩),.pointer (some ⟨p1,0,none⟩),.pointer (some ⟨p2,0,none⟩),.pointer (some ⟨p3,0,none⟩)] (.panicking ({v:= .iface 131 (.int .i64 er),recovered:=false}::older)) w fun e u' w'=>
  e= .returned (.tuple #[])∧u'= .panicking ({v:= .iface 131 (.int .i64 er),recovered:=true}::older)∧w'=((w.setCell ⟨p1,0,none⟩ (.slice none 0 0)).setCell ⟨p2,0,none⟩ (.int .i64 at')).setCell ⟨p3,0,none⟩ (.int .i64 er):=by
 have hst:=stop_other er
 have hta:=stop_is er
 refine callsD_of_wpS Tryz.func88 rfl fun c₀ cs hu=>?_
 apply wpS_seq
 apply wpS_region
 simp [wpOpsS,go_sem,recoverD,hu,Tryz.ntmps88,Exit.thenS]
 refine wpS_of_wp ?_
 rw[frame18]
 go_wp2_with fail
 refine⟨rfl,_,rfl,.tuple #[],?_,rfl,rfl,rfl⟩
 simp [results,Tryz.results88,go_sem]
def PPost (w:World)(ts:List Tkn)(n:Nat)(x:ExR)(e:Ending)(w':World):Prop:=
 Below w.heap.size w w'∧match x with
  | .error p=>e= .returned (.tuple #[.slice none 0 0,.int .i64 ((ts.length - p.2.length:Nat):Int),.int .i64 p.1])
  | .ok p=>if 60<p.1.size then e= .returned (.tuple #[.slice none 0 0,.int .i64 (n:Int),.int .i64 7]) else
   ∃v,e= .returned (.tuple #[v,.int .i64 ((ts.length - p.2.length:Nat):Int),.int .i64 0])∧TrIs w' w.heap.size [] v (p.1.flat 0)
set_option maxRecDepth 100000 in
set_option maxHeartbeats 4000000 in
theorem xparse_any {w:World}{vl:Value}{ts:List Tkn}(ht:TkIs w vl ts)(hn:∀t∈ts,t.w.k=1→t.w.t≠[40])(hbig:ts.length≤1000000)(n:Nat)(hnl:n≤ts.length):
 Calls Tryz.prog 53 #[vl,.int .i64 (n:Int)] w (PPost w ts n (lvlE 0 0 (ts.drop n))):=by
 obtain⟨va,vc,rfl⟩:=ht.form
 have hmf:∀(fn:Fn) (first cap:Array Value) (w:World),(Instr.makeFunc fn first cap).run Tryz.prog w= .ok (.func fn first cap) w:=fun _ _ _ _=>rfl
 have i0:¬((n:Int)<0):=by omega
 have i1:¬((ts.length:Int)<(n:Int)):=by omega
 have i2:decide ((n:Int)<0)=false:=by simp
 have i3:decide ((ts.length:Int)<(n:Int))=false:=by simp;omega
 obtain⟨x,hx⟩:∃x,lvlE 0 0 (ts.drop n)=x:=⟨_,rfl⟩
 rw[hx]
 obtain⟨W5,hW5⟩:∃W5,((((w.alloc (.cells #[.slice none 0 0] 31)).alloc (.cells #[.int .i64 0] 3)).alloc (.cells #[.int .i64 0] 27)).alloc (.cells #[.slice va ts.length vc,.int .i64 (n:Int),.int .i64 0,.slice none 0 0] 130)).alloc (.cells #[.pointer (some ⟨w.heap.size+1+1+1,0,none⟩)] 128)=W5:=⟨_,rfl⟩
 have hb5:Below w.heap.size w W5:=by
  rw[←hW5]
  exact(((((Below.refl _ w).alloc (Nat.le_refl _) _).alloc (by simp) _).alloc (by simp;omega) _).alloc (by simp;omega) _).alloc (by simp;omega) _
 obtain⟨q0,q1,q2,q3,q4⟩:W5.heap[w.heap.size]? =some (.cells #[.slice none 0 0] 31 (0,0))∧W5.heap[w.heap.size+1]? =some (.cells #[.int .i64 0] 3 (0,0))∧W5.heap[w.heap.size+1+1]? =some (.cells #[.int .i64 0] 27 (0,0))∧
  W5.heap[w.heap.size+1+1+1]? =some (.cells #[.slice va ts.length vc,.int .i64 (n:Int),.int .i64 0,.slice none 0 0] 130 (0,0))∧W5.heap[w.heap.size+1+1+1+1]? =some (.cells #[.pointer (some ⟨w.heap.size+1+1+1,0,none⟩)] 128 (0,0)):=by
  rw[←hW5]
  exact five_allocs w _ _ _ _ _
 have hlen:ts.length - (ts.drop n).length=n:=by rw[List.length_drop];omega
 have hR:RdAt W5 w.heap.size [w.heap.size+1] (w.heap.size+1+1+1) (.slice va ts.length vc) ts (ts.drop n) 0 (.slice none 0 0) []:=
  ⟨⟨n,rfl⟩,ht.below hb5,hn,ht.lt,by omega,fun x h=>(by simp at h;subst h;have:=lt_of_heap q1;exact this),by omega,hbig,by simp only[List.length_nil,List.length_drop];omega,by rw[hlen];exact q3,[],World.ownsRow_nil _ _ _ _,trivial⟩
 have hc:=level_any w.heap.size (w.heap.size+1+1+1) (.slice va ts.length vc) ts _ [w.heap.size+1] 0 0 (ts.drop n) W5 (.slice none 0 0) [] (by omega) (Nat.lt_succ_self _) hR hb5.size
 rw[hx] at hc
 have Hc:Hid (Calls Tryz.prog 89 #[.pointer (some ⟨w.heap.size+1+1+1,0,none⟩),.int .i64 0] W5 (XPost W5 w.heap.size [w.heap.size+1] (w.heap.size+1+1+1) (.slice va ts.length vc) ts 0 (.slice none 0 0) [] x)):=hide hc
 have HB5:=hide hb5
 have hap:=fun{p:Nat} {cs:Array Value} {T:TypeId} (h:W5.heap[p]? =some (.cells cs T (0,0))) (h1:130≠T) (h2:43≠T)=>hR.apart h h1 h2
 have Q0:=hide (And.intro q0 (hap q0 (by decide) (by decide)))
 have Q1:=hide (And.intro q1 (hap q1 (by decide) (by decide)))
 have Q2:=hide (And.intro q2 (hap q2 (by decide) (by decide)))
 have Q4:=hide (And.intro q4 (hap q4 (by decide) (by decide)))
 clear hb5 q0 q1 q2 q3 q4 hR hc hlen hap
 subst hW5
 have hcl:=Hc.out
 clear hcl
 go_enter_defers Tryz.func53,Tryz.ntmps53
 go_wp2_with fail
 (with_reducible refine Hc.out.mono ?_)
 rintro e V1 hp
 cases x with
 |error p=>
  obtain⟨er,q⟩:=p
  obtain⟨rfl,⟨dd,vv,hrb⟩,ho⟩:=hp
  obtain⟨a0,af0⟩:=one_cell (ho.cells_of Q0.out.1 Q0.out.2)
  obtain⟨a1,af1⟩:=one_cell (ho.cells_of Q1.out.1 Q1.out.2)
  obtain⟨a2,af2⟩:=one_cell (ho.cells_of Q2.out.1 Q2.out.2)
  obtain⟨a4,_⟩:=one_cell (ho.cells_of Q4.out.1 Q4.out.2)
  obtain⟨_,b1,_⟩:=cells4 hrb
  have hbV:Below w.heap.size w V1:=below_only HB5.out ho (by simp [Value.ownBlock];omega) (by have:=HB5.out.size;exact this)
  have HBV:=hide hbV
  have hq:ts.length - q.length=ts.length - q.length:=rfl
  obtain⟨m,hm⟩:∃m,ts.length - q.length=m:=⟨_,rfl⟩
  rw[hm] at b1
  have Hm:=hide hm
  clear hrb ho hbV hq hm hx Q0 Q1 Q2 Q4
  go_wp2_with fail
  refine leaves_cons (f:=88) (args:= #[.pointer (some ⟨w.heap.size+1+1+1+1,0,none⟩),.pointer (some ⟨w.heap.size,0,none⟩),.pointer (some ⟨w.heap.size+1,0,none⟩),.pointer (some ⟨w.heap.size+1+1,0,none⟩)]) (by simp) (by simp [go_sem]) ?_
  refine(catch_stop (w.heap.size+1+1+1) w.heap.size (w.heap.size+1) (w.heap.size+1+1) (w.heap.size+1+1+1+1) er [] (m:Int) V1 a4 b1 _ _ _ a0 a1 a2 af0 af1 af2 (by omega) (by omega) (by omega)).mono ?_
  rintro e u' w'' ⟨rfl,rfl,rfl⟩
  refine⟨.tuple #[.slice none 0 0,.int .i64 (m:Int),.int .i64 er],?_,?_⟩
  ·simp [results,Tryz.results53,go_sem, *]
  ·refine⟨((HBV.out.setCell (Nat.le_refl _) _).setCell (by simp) _).setCell (by simp;omega) _,?_⟩
   rw[←Hm.out]
 |ok p=>
  obtain⟨a,q⟩:=p
  obtain⟨rfl,v1,hr1,hch⟩:=hp
  have ho:=hch.only
  obtain⟨a0,af0⟩:=one_cell (ho.cells_of Q0.out.1 Q0.out.2)
  obtain⟨a1,af1⟩:=one_cell (ho.cells_of Q1.out.1 Q1.out.2)
  obtain⟨a2,af2⟩:=one_cell (ho.cells_of Q2.out.1 Q2.out.2)
  obtain⟨a4,_⟩:=one_cell (ho.cells_of Q4.out.1 Q4.out.2)
  obtain⟨_,b1,_,b3,_⟩:=cells4 hr1.blk
  have hbV:Below w.heap.size w V1:=below_only HB5.out ho (by simp [Value.ownBlock];omega) (by have:=HB5.out.size;exact this)
  obtain⟨kvs,hk1,hk2⟩:=hr1.tree
  obtain⟨la,lc,rfl⟩:=row_form hk1
  simp only[List.nil_append,List.length_nil,Ex.flat_len] at b3 hk1 hr1 hk2
  have htr:TrIs V1 w.heap.size [w.heap.size+1] (.slice la a.size lc) (a.flat 0):=⟨kvs,by rw[Ex.flat_len];exact hk1,hk2⟩
  have hfew:=hr1.few
  rw[Ex.flat_len] at hfew
  have HBV:=hide hbV
  have HTR:=hide htr
  have HH0:=hide (ho.cells_of Q0.out.1 Q0.out.2)
  have HH1:=hide (ho.cells_of Q1.out.1 Q1.out.2)
  have HH2:=hide (ho.cells_of Q2.out.1 Q2.out.2)
  obtain⟨m,hm⟩:∃m,ts.length - q.length=m:=⟨_,rfl⟩
  rw[hm] at b1
  have Hm:=hide hm
  clear hr1 hch ho hbV hk1 hk2 htr hm hx Q0 Q1 Q2 Q4
  by_cases h60:60<a.size
  ·have j1:decide ((60:Int)<(a.size:Int))=true:=by simp;omega
   have j2:(60:Int)<(a.size:Int):=by omega
   have H60:=hide h60
   clear h60
   go_wp2_with fail
   refine leaves_cons (f:=88) (args:= #[.pointer (some ⟨w.heap.size+1+1+1+1,0,none⟩),.pointer (some ⟨w.heap.size,0,none⟩),.pointer (some ⟨w.heap.size+1,0,none⟩),.pointer (some ⟨w.heap.size+1+1,0,none⟩)]) (by simp) (by simp [go_sem]) ?_
   refine(catch_idle _ _ _ _ _).mono ?_
   rintro e u' w'' ⟨rfl,rfl,rfl⟩
   refine⟨.tuple #[.slice none 0 0,.int .i64 (n:Int),.int .i64 7],?_,?_⟩
   ·simp [results,Tryz.results53,go_sem, *]
   ·refine⟨((HBV.out.setCell (Nat.le_refl _) _).setCell (by simp) _).setCell (by simp;omega) _,?_⟩
    show(if 60<a.size then _ else _)
    rw[if_pos H60.out]
  ·have j1:decide ((60:Int)<(a.size:Int))=false:=by simp;omega
   have j2:(a.size:Int)≤60:=by omega
   have H60:=hide h60
   clear h60
   go_wp2_with fail
   go_region
   go_wp2_with fail
   refine leaves_cons (f:=88) (args:= #[.pointer (some ⟨w.heap.size+1+1+1+1,0,none⟩),.pointer (some ⟨w.heap.size,0,none⟩),.pointer (some ⟨w.heap.size+1,0,none⟩),.pointer (some ⟨w.heap.size+1+1,0,none⟩)]) (by simp) (by simp [go_sem]) ?_
   refine(catch_idle _ _ _ _ _).mono ?_
   rintro e u' w'' ⟨rfl,rfl,rfl⟩
   refine⟨.tuple #[.slice la a.size lc,.int .i64 (m:Int),.int .i64 0],?_,?_⟩
   ·simp [results,Tryz.results53,go_sem, *]
   ·have hO:Only [w.heap.size,w.heap.size+1,w.heap.size+1+1] V1 ((((V1.setCell ⟨w.heap.size,0,none⟩ (.slice la a.size lc)).setCell ⟨w.heap.size+1,0,none⟩ (.int .i64 (m:Int))).setCell ⟨w.heap.size+1+1,0,none⟩ (.int .i64 0)).drew):=
     Only.drew ((((Only.refl _ V1).setCell (.inl (by simp)) _).setCell (.inl (by simp)) _).setCell (.inl (by simp)) _)
    refine⟨below_only HBV.out hO (by simp;omega) HBV.out.size,?_⟩
    show(if 60<a.size then _ else _)
    rw[if_neg H60.out]
    refine⟨_,by rw[←Hm.out],HTR.out.imp (fun _ r=>owns_only r hO fun k e hm=>?_) fun v n xs hx r=>⟨owns_only r hO fun k e hm=>?_,fun _ _ hm=>(by cases hm)⟩⟩
    ·simp only[List.mem_cons,List.not_mem_nil,or_false] at hm
     rcases hm with rfl|rfl|rfl
     ·exact owns_not r HH0.out (by decide) e
     ·exact owns_not r HH1.out (by decide) e
     ·exact owns_not r HH2.out (by decide) e
    ·simp only[List.mem_cons,List.not_mem_nil,or_false] at hm
     rcases hm with rfl|rfl|rfl
     ·exact owns_not r HH0.out (by decide) e
     ·exact hx _ e (by simp)
     ·exact owns_not r HH2.out (by decide) e
open Go Go.RowKit Go.Lib
set_option maxRecDepth 100000 in
set_option maxHeartbeats 4000000 in
theorem rparse0 {w:World}{vl:Value}{ts:List Tkn}(ht:TkIs w vl ts)(hn:∀t∈ts,t.w.k=1→t.w.t≠[40])(hbig:ts.length≤1000000):
 Calls Tryz.prog 56 #[vl,.int .i64 0] w (PPost w ts 0 (lvlE 0 0 ts)):=by
 obtain⟨va,vc,rfl⟩:=ht.form
 have i3:decide ((ts.length:Int)<0)=false:=by simp
 have i4:¬((ts.length:Int)<0):=by omega
 obtain⟨W1,hW1⟩:∃W1,w.alloc (.cells #[.slice va ts.length vc,.int .i64 0,.int .i64 0,.slice none 0 0,.int .i64 0,.int .i64 0] 136)=W1:=⟨_,rfl⟩
 have hb1:Below w.heap.size w W1:=by rw[←hW1];exact(Below.refl _ w).alloc (Nat.le_refl _) _
 have q1:=heap_alloc0 w (.cells #[.slice va ts.length vc,.int .i64 0,.int .i64 0,.slice none 0 0,.int .i64 0,.int .i64 0] 136)
 rw[hW1] at q1
 have hR:RfAt W1 w.heap.size [] w.heap.size (.slice va ts.length vc) ts ts 0 (.slice none 0 0) []:=⟨Suf.refl _,ht.below hb1,hn,ht.lt,Nat.le_refl _,fun x h=>(by simp at h),by omega,hbig,by simp only[List.length_nil];omega,by simpa using q1,[],World.ownsRow_nil _ _ _ _,trivial⟩
 have hX:=rexpr_all w.heap.size w.heap.size (.slice va ts.length vc) ts _ [] 0 0 ts W1 (.slice none 0 0) [] (by omega) (Nat.lt_succ_self _) hR hb1.size
 have HX:Hid (Calls Tryz.prog 91 #[.pointer (some ⟨w.heap.size,0,none⟩),.int .i64 0] W1 _):=hide hX
 have HW1:=hide hW1
 have HB1:=hide hb1
 clear hb1 q1 hR hX hW1 ht hn
 go_enter Tryz.func56,Tryz.ntmps56
 go_upto_region 4 with fail
 rw[HW1.out]
 go_wp2_with fail
 (with_reducible refine HX.out.mono ?_)
 rintro e V ⟨z,v,rfl,hr,hm⟩
 have hBV:Below w.heap.size w V:=below_only HB1.out hr.only (by simp [Value.ownBlock]) HB1.out.size
 have HBV:=hide hBV
 clear hr hBV HX
 cases hq:lvlE 0 0 ts with
 |error p=>
  obtain⟨er,q⟩:=p
  rw[hq] at hm
  have hm:RxAt V w.heap.size w.heap.size (.slice va ts.length vc) ts v er (ts.length - q.length) (0+ts.length):=hm
  obtain⟨a0,dd,hkb⟩:=hm.blk
  obtain⟨k0,k1,k2,k3,k4,k5,_⟩:=cells6 hkb
  have e1:(er !=0)=true:=by rw[bne,beq_eq_false_iff_ne.2 hm.ne];rfl
  have hbw:=lt_of_heap hkb
  have hnq:=fun nq=>hide (show PPost w ts 0 (lvlE 0 0 ts) (.returned (.tuple #[.slice none 0 0,.int .i64 ((ts.length - q.length:Nat):Int),.int .i64 er])) (V.drewN nq) from⟨below_drewN HBV.out nq,by rw[hq]⟩)
  clear hm hkb hq
  go_wp2_with fail
  go_quiet (fail)
  have HF:=hnq nq
  clear hnq
  go_wp2_with fail
  refine bodyPost_ret (v:= .tuple #[.slice none 0 0,.int .i64 ((ts.length - q.length:Nat):Int),.int .i64 er]) (by simp [results,Tryz.results56,go_sem, *]) rfl HF.out
 |ok p=>
  obtain⟨a,q⟩:=p
  rw[hq] at hm
  obtain⟨_,hf⟩:=hm
  obtain⟨k0,k1,k2,k3,k4,k5,_⟩:=cells6 hf.blk
  have hbw:=lt_of_heap hf.blk
  obtain⟨kvs,hk1,hk2⟩:=hf.tree
  rw[List.nil_append,List.length_nil] at hk1 hk2
  rw[Ex.flat_len] at hk1
  obtain⟨la,lc,rfl⟩:=row_form hk1
  have htr:TrIs V w.heap.size [] (.slice la a.size lc) (a.flat 0):=⟨kvs,by rw[Ex.flat_len];exact hk1,hk2⟩
  by_cases h60:60<a.size
  ·have j1:decide ((60:Int)<(a.size:Int))=true:=by simp;omega
   have j2:(60:Int)<(a.size:Int):=by omega
   have HF:=hide (show PPost w ts 0 (lvlE 0 0 ts) (.returned (.tuple #[.slice none 0 0,.int .i64 0,.int .i64 7])) V from⟨HBV.out,by rw[hq];simp only;rw[if_pos h60];rfl⟩)
   clear hf hk1 hk2 hq h60 htr
   go_wp2_with fail
   refine bodyPost_ret (v:= .tuple #[.slice none 0 0,.int .i64 0,.int .i64 7]) (by simp [results,Tryz.results56,go_sem, *]) rfl HF.out
  ·have j1:decide ((60:Int)<(a.size:Int))=false:=by simp;omega
   have j2:¬(60:Int)<(a.size:Int):=by omega
   have hnq:=fun nq=>hide (show PPost w ts 0 (lvlE 0 0 ts) (.returned (.tuple #[.slice la a.size lc,.int .i64 ((ts.length - q.length:Nat):Int),.int .i64 0])) (V.drewN nq) from⟨below_drewN HBV.out nq,by rw[hq];simp only;rw[if_neg h60];exact⟨_,rfl,htr.below (below_drewN (Below.refl _ V) nq)⟩⟩)
   clear hf hk1 hk2 hq h60 htr
   go_wp2_with fail
   go_quiet (fail)
   have HF:=hnq nq
   clear hnq
   go_wp2_with fail
   refine bodyPost_ret (v:= .tuple #[.slice la a.size lc,.int .i64 ((ts.length - q.length:Nat):Int),.int .i64 0]) (by simp [results,Tryz.results56,go_sem, *]) rfl HF.out
open Go Go.Lib
inductive Form (w:Wd):Prop where
 |name (h:w.k=1) (t:nameL w.t=true) (v:w.v=v0)
 |var (h:w.k=2) (t:nameL w.t=true) (v:w.v=v0)
 |self (h:w.k=3) (t:w.t=[]) (v:w.v=v0)
 |num (h:w.k=4) (t:prsL w.t= .ok w.v) (m:∃c r,w.t=c::r∧digC c=true∧numLen w.t=w.t.length)
 |str (h:w.k=5) (t:prsL (34::w.t++[34])= .ok w.v) (m:∀c∈w.t,priC c=true) (s:txtSpan false (w.t++[34])=w.t.length)
 |sym (h:w.k=6) (t:nameL w.t=true) (v:w.v=(5,0,w.t))
 |sign (h:w.k=7) (t:w.t∈twos∨w.t∈ones.map fun c=>[c]) (v:w.v=v0)
theorem nameL_take {c:UInt8}{r:List UInt8}(hc:lowC c=true)(h:((c::r).take (spanL namC (c::r))).length≤12):nameL ((c::r).take (spanL namC (c::r)))=true:=by
 have hn:namC c=true:=by unfold namC;rw[hc];rfl
 rw[spanL_cons hn,Nat.add_comm,List.take_succ_cons] at h ⊢
 show(decide ((r.take (spanL namC r)).length<12) && lowC c && (r.take (spanL namC r)).all fun b=>lowC b||digC b)=true
 rw[hc,Bool.and_true,Bool.and_eq_true,decide_eq_true_eq]
 exact⟨by rw[List.length_cons] at h;omega,List.all_eq_true.2 (spanL_mem r)⟩
theorem word_form {l:List UInt8}{w:Wd}{n:Nat}(h:wordL l= .ok (w,n)):Form w:=by
 have hsh:∀{w':Wd} {m:Nat},shortW w' m= .ok (w,n)→w'=w∧w'.t.length≤12:=fun{w' m} hh=>by
  unfold shortW at hh
  split at hh
  ·cases hh
  ·rename_i hl
   injection hh with hh
   exact⟨congrArg Prod.fst hh,by omega⟩
 unfold wordL at h
 cases l with
 |nil=>cases h
 |cons c r=>
  simp only at h
  by_cases h1:lowC c=true
  ·rw[if_pos h1] at h
   obtain⟨rfl,hl⟩:=hsh h
   exact .name rfl (nameL_take h1 hl) rfl
  rw[if_neg h1] at h
  by_cases h2:digC c=true
  ·rw[if_pos h2] at h
   unfold numW at h
   have hp:=numLen_pos (r:=r) h2
   cases hv:prsL ((c::r).take (numLen (c::r))) with
   |error e=>rw[hv] at h;cases h
   |ok v=>
    rw[hv] at h
    injection h with h
    injection h with h _
    subst h
    refine .num rfl hv ⟨c,r.take (numLen (c::r) - 1),?_,h2,?_⟩
    ·show(c::r).take _=_
     obtain⟨m,hm⟩:∃m,numLen (c::r)=m+1:=⟨numLen (c::r) - 1,by omega⟩
     rw[hm]
     rfl
    ·show numLen ((c::r).take _)=((c::r).take _).length
     rw[numLen_take _ _ (Nat.le_refl _),List.length_take,Nat.min_eq_left hp.2]
  rw[if_neg h2] at h
  by_cases h3:c=34
  ·rw[if_pos h3,txtW_cons] at h
   by_cases hq:((c::r).drop (1+txtSpan false r)).head? =some 34
   ·rw[if_pos hq] at h
    cases hv:prsL ((c::r).take (txtSpan false r+2)) with
    |error e=>rw[hv] at h;cases h
    |ok v=>
     rw[hv] at h
     injection h with h
     injection h with h _
     subst h h3
     rw[Nat.add_comm,List.drop_succ_cons] at hq
     have ht:=take_head34 hq
     rw[List.take_succ_cons,ht] at hv
     refine .str rfl hv (txtSpan_mem false r) ?_
     show txtSpan false (r.take (txtSpan false r)++[34])=(r.take (txtSpan false r)).length
     rw[←ht,txtSpan_take false r _ (Nat.lt_succ_self _),List.length_take,Nat.min_eq_left (txtSpan_le false r)]
   ·rw[if_neg hq] at h
    cases h
  rw[if_neg h3] at h
  by_cases h4:c=63
  ·subst h4
   rw[if_pos rfl] at h
   by_cases hm:markB (63::r)=true
   ·rw[if_pos hm] at h
    obtain⟨rfl,hl⟩:=hsh h
    cases r with
    |nil=>cases hm
    |cons d r=>exact .var rfl (nameL_take hm hl) rfl
   ·rw[if_neg hm] at h
    injection h with h
    injection h with h _
    subst h
    exact .self rfl rfl rfl
  rw[if_neg h4] at h
  by_cases h5:c=35∧markB (c::r)=true
  ·rw[if_pos h5] at h
   obtain⟨rfl,hl⟩:=hsh h
   cases r with
   |nil=>cases h5.2
   |cons d r=>exact .sym rfl (nameL_take h5.2 hl) rfl
  rw[if_neg h5] at h
  unfold signW at h
  split at h
  ·rename_i h6
   injection h with h
   injection h with h _
   subst h
   exact .sign rfl (.inl h6) rfl
  ·split at h
   ·rename_i h6
    injection h with h
    injection h with h _
    subst h
    exact .sign rfl (.inr h6) rfl
   ·cases h
theorem lex_form {l:List UInt8}{ts:List Tkn}(h:lexL l= .ok ts):∀t∈ts,Form t.w:=fun t ht=>by
 obtain⟨c,r,n,_,hw⟩:=LX_was _ l 1 1 ts (Nat.le_refl _) h t ht
 exact word_form hw
theorem nameL_not40:nameL [40]=false:=by decide
theorem lex_names {l:List UInt8}{ts:List Tkn}(h:lexL l= .ok ts):∀t∈ts,t.w.k=1→t.w.t≠[40]:=fun t ht hk e=>by
 cases lex_form h t ht with
 |name _ ht' _=>rw[e,nameL_not40] at ht';cases ht'
 |var h _ _=>omega
 |self h _ _=>omega
 |num h _ _=>omega
 |str h _ _ _=>omega
 |sym h _ _=>omega
 |sign h _ _=>omega
theorem LX_cols:∀(k:Nat) (l:List UInt8) (a b:Int) (ts:List Tkn),l.length≤k→1≤a→1≤b→LX l a b= .ok ts→∀t∈ts,1≤t.line∧t.line≤a+(l.length:Nat)∧1≤t.col∧t.col≤b+(l.length:Nat)
 |k,l,a,b,ts,hk,ha,hb,h=>by
  refine lex_cases (P:=fun l=>l.length≤k→LX l a b= .ok ts→∀t∈ts,1≤t.line∧t.line≤a+(l.length:Nat)∧1≤t.col∧t.col≤b+(l.length:Nat)) l ?_ ?_ ?_ ?_ ?_ ?_ hk h
  ·rintro rfl _ h
   rw[LX_nil] at h
   injection h with h
   subst h
   intro t ht
   cases ht
  ·rintro r rfl hk h t ht
   obtain⟨k,rfl⟩:∃j,k=j+1:=⟨k - 1,by rw[List.length_cons] at hk;omega⟩
   rw[LX_line] at h
   have:=LX_cols k r (a+1) 1 ts (by rw[List.length_cons] at hk;omega) (by omega) (by decide) h t ht
   rw[List.length_cons]
   omega
  ·rintro r rfl hk h t ht
   obtain⟨k,rfl⟩:∃j,k=j+1:=⟨k - 1,by rw[List.length_cons] at hk;omega⟩
   rw[LX_blank] at h
   have:=LX_cols k r a (b+1) ts (by rw[List.length_cons] at hk;omega) ha (by omega) h t ht
   rw[List.length_cons]
   omega
  ·rintro r rfl hk h t ht
   obtain⟨k,rfl⟩:∃j,k=j+1:=⟨k - 1,by rw[List.length_cons] at hk;omega⟩
   have hp:=spanL_pos (q:=no10) (c:=59) (r:=r) (by decide)
   have hle:=spanL_le no10 (59::r)
   rw[LX_rem] at h
   have:=LX_cols k _ a _ ts (by rw[List.length_drop];omega) ha (by omega) h t ht
   rw[List.length_drop] at this
   omega
  ·rintro c r e rfl hc hw hk h
   rw[LX_err hc hw] at h
   cases h
  ·rintro c r w n rfl hc hw hk h t ht
   obtain⟨k,rfl⟩:∃j,k=j+1:=⟨k - 1,by rw[List.length_cons] at hk;omega⟩
   obtain⟨hn,hnl⟩:=wordL_len hw
   rw[LX_word hc hw] at h
   cases hx:LX ((c::r).drop n) a (b+n) with
   |error e=>rw[hx] at h;cases h
   |ok us=>
    rw[hx] at h
    injection h with h
    subst h
    rw[List.mem_cons] at ht
    rcases ht with rfl|ht
    ·simp only
     omega
    ·have:=LX_cols k _ a _ us (by rw[List.length_drop];omega) ha (by omega) hx t ht
     rw[List.length_drop] at this
     omega
theorem lex_places {l:List UInt8}{ts:List Tkn}(h:lexL l= .ok ts):∀t∈ts,1≤t.line∧t.line≤1+(l.length:Nat)∧1≤t.col∧t.col≤1+(l.length:Nat):=
 LX_cols _ l 1 1 ts (Nat.le_refl _) (by decide) (by decide) h
theorem sum_mem:∀{l:List Nat} {x:Nat},x∈l→x≤l.sum
 |y::l,x,h=>by
  rw[List.sum_cons]
  rcases List.mem_cons.1 h with rfl|h
  ·omega
  ·have:=sum_mem h
   omega
theorem lex_short {l:List UInt8}{ts:List Tkn}(h:lexL l= .ok ts):∀t∈ts,t.w.t.length≤2*l.length:=fun t ht=>by
 have h1:=(LX_bytes _ l 1 1 ts (Nat.le_refl _) h).1
 have h2:(spellW t.w).length≤(ts.map fun t=>(spellW t.w).length).sum:=sum_mem (List.mem_map.2 ⟨t,ht,rfl⟩)
 have h3:t.w.t.length≤(spellW t.w).length:=by
  unfold spellW
  repeat' split
  all_goals (simp;try omega)
 omega
theorem next_err {x:ExR}{g:Ex→List Tkn→ExR}{p:Int×List Tkn}(h:x.next g= .error p):x= .error p∨∃a q,x= .ok (a,q)∧g a q= .error p:=by
 cases x with
 |error e=>exact .inl h
 |ok y=>exact .inr ⟨y.1,y.2,rfl,h⟩
theorem shut_err {a:Ex}{q:List Tkn}{p:Int×List Tkn}(h:shutE a q= .error p):p.1=4:=by
 unfold shutE at h
 split at h
 ·cases h
 ·injection h with h
  rw[←h]
theorem open_err {d:Nat}{r:List Tkn}{g:List Tkn→ExR}{p:Int×List Tkn}(h:openE d r g= .error p):p.1=4∨p.1=12∨(isH [40] r=true∧d≠12∧g r.tail= .error p):=by
 unfold openE at h
 split at h
 ·rename_i hp
  split at h
  ·injection h with h
   rw[←h]
   exact .inr (.inl rfl)
  ·rename_i hd
   exact .inr (.inr ⟨hp,hd,h⟩)
 ·injection h with h
  rw[←h]
  exact .inl rfl
theorem exE_errs:∀td d r,td.ok→∀p,exE td d r= .error p→p.1=4∨p.1=12∨p.1=14:=by
 refine exE_ind (P:=fun td d r=>∀p,exE td d r= .error p→p.1=4∨p.1=12∨p.1=14) ?_ ?_ ?_ ?_ ?_
 ·intro n d r hn h1 h2 p h
  rw[show exE (.lvl n) d r=_ from lvlE_pre hn] at h
  by_cases hp:isH (preW n) r=true
  ·rw[if_pos hp] at h
   obtain⟨t,q0,rfl⟩:=isH_ne hp
   by_cases hd:d=12
   ·rw[if_pos hd] at h
    injection h with h
    rw[←h]
    exact .inr (.inl rfl)
   ·rw[if_neg hd] at h
    rcases next_err h with h3|⟨a,q,_,h3⟩
    ·exact h1 t q0 rfl hp hd p h3
    ·cases h3
  ·rw[if_neg hp] at h
   exact h2 (by simpa using hp) p h
 ·intro d r h1 h2 p h
  rw[show exE (.lvl 7) d r=_ from lvlE_atom d r] at h
  cases r with
  |nil=>
   injection h with h
   rw[←h]
   exact .inl rfl
  |cons t r=>
   simp only at h
   cases hl:leafH t with
   |some x=>rw[hl] at h;cases h
   |none=>
    cases hc:callH t with
    |some c=>
     rw[hl,hc] at h
     rcases open_err h with h3|h3|⟨h3,h4,h5⟩
     ·exact .inl h3
     ·exact .inr (.inl h3)
     ·obtain⟨t',q',rfl⟩:=isH_ne h3
      exact h1 t t' q' c rfl hl hc h3 h4 p h5
    |none=>
     rw[hl,hc] at h
     rcases open_err h with h3|h3|⟨h3,h4,h5⟩
     ·exact .inl h3
     ·exact .inr (.inl h3)
     ·rcases next_err h5 with h6|⟨a,q,_,h6⟩
      ·exact h2 t r rfl hl hc h3 h4 p h6
      ·exact .inl (shut_err h6)
 ·intro n d r h5 hn2 h1 h2 p h
  rw[show exE (.lvl n) d r=_ from lvlE_row h5 hn2] at h
  rcases next_err h with h3|⟨a,q,h3,h4⟩
  ·exact h1 p h3
  ·exact h2 a q h3 p h4
 ·intro n b d r h1 p h
  rw[show exE (.row n b) d r=_ from rowE_eq n b d r] at h
  by_cases hz:infixH r (opsL n)=0
  ·rw[if_pos hz] at h
   cases h
  ·rw[if_neg hz] at h
   obtain⟨t,r',rfl⟩:=infixH_ne hz
   obtain⟨h5,hn2⟩:=infix_le hz
   obtain⟨k1,k2⟩:=h1 t r' rfl hz h5 hn2
   rcases next_err h with h3|⟨a,q,h3,h4⟩
   ·exact k1 p h3
   ·by_cases h3n:n=3
    ·rw[if_pos h3n] at h4
     cases h4
    ·rw[if_neg h3n] at h4
     exact k2 a q h3 p h4
 ·intro c ks d r h1 h2 p h
  rw[show exE (.args c ks) d r=_ from argsE_eq c ks d r] at h
  rcases next_err h with h3|⟨a,q,h3,h4⟩
  ·exact h1 p h3
  ·by_cases hm:(isH [44] q && decide (ks.length+1=c.most)||isH [41] q && decide (ks.length+1<c.least))=true
   ·rw[if_pos hm] at h4
    injection h4 with h4
    rw[←h4]
    exact .inr (.inr rfl)
   ·rw[if_neg hm] at h4
    by_cases hcm:isH [44] q=true
    ·rw[if_pos hcm] at h4
     obtain⟨t',q',rfl⟩:=isH_ne hcm
     exact h2 a t' q' h3 hcm p h4
    ·rw[if_neg hcm] at h4
     exact .inl (shut_err h4)
def behindL (ts:List Tkn):Int×Int:=match ts.getLast? with
 |none=>(1,1)
 |some t=>(t.line,t.col+t.w.t.length+if t.w.k=2∨t.w.k=3∨t.w.k=6 then 1 else if t.w.k=5 then 2 else 0)
def placeE (ts q:List Tkn):Int×Int:=match q with
 |t::_=>(t.line,t.col)
 |[]=>behindL ts
def readL (l:List UInt8):Except ((Int×Int)×Int) Ex:=match lexL l with
 | .error (a,b,e)=> .error ((a,b),e)
 | .ok ts=>match lvlE 0 0 ts with
   | .error (e,q)=> .error (placeE ts q,e)
   | .ok (a,q)=>if 60<a.size then .error (placeE ts ts,7) else if q=[] then .ok a else .error (placeE ts q,4)
open Go Go.RowKit Go.Lib Go.Sort Go.Shelf
theorem lex_ok {s:ByteArray}(w:World)(hs:s.size≤65536)(hR:Rd w){ts:List Tkn}(h:lexL (dl s)= .ok ts):
 Calls Tryz.prog 52 #[.string s] w fun e w'=>∃v,e= .returned (.tuple #[v,.agg #[.int .i64 0,.int .i64 0],.int .i64 0])∧w'.ownsRow w.heap.size 94 7 v ts.length (tflat ts)∧Below w.heap.size w w':=by
 refine(lex_any s w hs hR).mono ?_
 rintro e w' ⟨hb,he⟩
 rw[h] at he
 obtain⟨v,h1,h2⟩:=he
 exact⟨v,h1,h2,hb⟩
theorem lex_er {s:ByteArray}(w:World)(hs:s.size≤65536)(hR:Rd w){a b q:Int}(h:lexL (dl s)= .error (a,b,q)):
 Calls Tryz.prog 52 #[.string s] w fun e w'=>e= .returned (.tuple #[.slice none 0 0,.agg #[.int .i64 a,.int .i64 b],.int .i64 q])∧Below w.heap.size w w':=by
 refine(lex_any s w hs hR).mono ?_
 rintro e w' ⟨hb,he⟩
 rw[h] at he
 exact⟨he,hb⟩
end Go.Proofs.YtgfakdobajgnfaaGreatDoor
