import Derived.Test.YtgfakdobajgnfaaGreatDoorQe32
set_option maxRecDepth 100000
set_option maxHeartbeats 16000000
namespace Go.Proofs.YtgfakdobajgnfaaGreatDoor
open Go Go.RowKit Go.Lib Go.Sort Go.Shelf
instance (op:Int):Decidable (Fw op):=by unfold Fw;infer_instance
theorem My {op:Int}(h:Fw op):Fe op=Cf op/\Cf op≠[]/\(Cf op).length<=3:=by
 rcases h with rfl|rfl|rfl|rfl|rfl|rfl|rfl|rfl|rfl|rfl|rfl|rfl<;>exact⟨rfl,by decide,by decide⟩
theorem Zc {op:Int}(h0:0<=op)(h:¬Fw op):Fe op=[]:=by
 have hc:op<=3\/op=6\/op=17\/Fq op\/26<op:=by unfold Fw Fq at*;omega
 have h8:∀l:List UInt8,(l,8)=Mj op->Fe op=[]:=fun l e=>by
  unfold Fe Az
  rw[←e]
  rfl
 rcases hc with h|rfl|rfl|h|h
 ·obtain rfl|rfl|rfl|rfl:op=0\/op=1\/op=2\/op=3:=by omega
  all_goals rfl
 ·rfl
 ·rfl
 ·rcases h with rfl|rfl|rfl|rfl|rfl|rfl|rfl|rfl|rfl<;>rfl
 ·refine h8 [] ?_
  unfold Mj
  repeat rw[if_neg rA]
theorem fQ {op other:Int}(h:Fw op)(h0:0<=other)(he:Fe other=Fe op):other=op:=by
 by_cases ho:Fw other
 ·have key:∀x∈([4,5,7,8,9,10,11,12,13,14,15,16]:List Int),∀y∈([4,5,7,8,9,10,11,12,13,14,15,16]:List Int),Fe y=Fe x->y=x:=by decide
  exact key op (by unfold Fw at h;simp;omega) other (by unfold Fw at ho;simp;omega) he
 ·rw[Zc h0 ho,(My h).1] at he
  exact absurd he.symm (My h).2.1
theorem cB {op:Int}(hi:Fw op){l m:List UInt8}{a b c:Ex}(ha:Bn l= .ok a)(hb:Bn m= .ok b)(hc:Bn (Ob l (Cf op) m)= .ok c):
 ∃n k,c.text=Ev n a++32::(Cf op++32::Ev k b):=by
 rcases aX (Xi hi) ha hb with ⟨p,q,e,_⟩|⟨a',b',y,z,e,e1,e2,_⟩
 ·rw[hc] at e;cases e
 ·rw[hc] at e
  injection e with e
  subst e
  refine⟨E9 (Az op),Az op+1,?_⟩
  rw[(Jb (h:=⟨op,v0,[],y,z⟩) hi a' b').1]
  unfold Ev
  rw[Qp e1,Qp e2,←Qb a',←Qb b',e1,e2,Qb,Qb]
def qA (x:ByteArray)(i:Nat):ByteArray:=if i=0 then x else⟨#[40]⟩++x++⟨#[41]⟩
theorem jT (n:Nat)(e:Ex):∃i,i<2/\(⟨(Ev n e).toArray⟩:ByteArray)=qA ⟨e.text.toArray⟩ i:=by
 unfold Ev
 split
 ·exact⟨1,by omega,(kQ e.text).symm⟩
 ·exact⟨0,by omega,rfl⟩
theorem Vz (x y:ByteArray){i:Nat}(h:i<2)(w:World):(Instr.index 51 (.agg #[.string x,.string y]) (.int .i64 (i:Int))).run Tryz.prog w= .ok (.string (if i=0 then x else y)) w:=by
 obtain rfl|rfl:i=0\/i=1:=by omega
 all_goals kernel_rfl
theorem lP (s t sg:ByteArray):dl (⟨#[40]⟩++s++⟨#[10,41,32]⟩++sg++⟨#[32,40]⟩++t++⟨#[10,41]⟩)=Ob (dl s) (dl sg) (dl t):=by
 rw[Cu,Cu,Cu,Cu,Cu,Cu]
 show[40]++dl s++[10,41,32]++dl sg++[32,40]++dl t++[10,41]=_
 unfold Ob
 simp
theorem Z9 (s t:ByteArray)(op ot:Int)(h0:0<=op)(h1:op<=255)(o0:0<=ot)(w:World)(hR:Rd w):Calls Tryz.prog 7 #[.string s,.string t,.int .u8 op,.int .u8 ot] w fun e w'=>e= .returned (.bool true)/\Below w.heap.size w w':=by
 by_cases hs:s.size<=200
 ·by_cases ht:t.size<=200
  ·obtain⟨X,hX⟩:∃X,Bn (dl s)=X:=⟨_,rfl⟩
   obtain⟨Y,hY⟩:∃Y,Bn (dl t)=Y:=⟨_,rfl⟩
   obtain⟨SG,hSG⟩:∃S:ByteArray,(⟨(Fe op).toArray⟩:ByteArray)=S:=⟨_,rfl⟩
   have hsgl:SG.size<=8:=by
    rw[←hSG,←Ax]
    show(Fe op).length<=8
    unfold Fe
    split
    ·exact(Ls op).1
    ·exact Nat.zero_le _
   obtain⟨J,hJ⟩:∃J:ByteArray,⟨#[40]⟩++s++⟨#[10,41,32]⟩++SG++⟨#[32,40]⟩++t++⟨#[10,41]⟩=J:=⟨_,rfl⟩
   have hJd:dl J=Ob (dl s) (Fe op) (dl t):=by rw[←hJ,lP,←hSG,C7]
   have hJs:J.size<=65536:=by
    rw[←Ax,hJd]
    unfold Ob
    have e1:(Fe op).length<=8:=by rw[←hSG,←Ax] at hsgl;exact hsgl
    simp only[Aa,Ab,List.length_nil,Ax]
    omega
   obtain⟨Z,hZ⟩:∃Z,Bn (dl J)=Z:=⟨_,rfl⟩
   have C0:∀W,Calls Tryz.prog 27 #[.int .u8 op] W fun e w'=>e= .returned (.string SG)/\Below W.heap.size W w':=fun W=>by
    have:=Lz op h0 W
    rwa [hSG] at this
   have C1:∀W,Below w.heap.size w W->Calls Tryz.prog 20 #[.string s] W (Lw W (zOf X) (pOf X).1.1 (pOf X).1.2 (pOf X).2):=fun W hb=>Ji W rA (hR.below hb) hX
   have C2:∀W,Below w.heap.size w W->Calls Tryz.prog 20 #[.string t] W (Lw W (zOf Y) (pOf Y).1.1 (pOf Y).1.2 (pOf Y).2):=fun W hb=>Ji W rA (hR.below hb) hY
   have C3:∀W,Below w.heap.size w W->Calls Tryz.prog 20 #[.string J] W (Lw W (zOf Z) (pOf Z).1.1 (pOf Z).1.2 (pOf Z).2):=fun W hb=>Ji W hJs (hR.below hb) hZ
   have i1:decide ((200:Int)<(s.size:Int))=false:=by simp;omega
   have i2:decide ((200:Int)<(t.size:Int))=false:=by simp;omega
   have hs':s.size<=200:=hs
   have ht':t.size<=200:=ht
   have D0:=Ao (C0 w)
   have D1:=Ao C1
   have D2:=Ao C2
   have D3:=Ao C3
   have HR:=Ao hR
   clear C0 C1 C2 C3 hs ht hR hJs
   by_cases hi:Fw op
   ·have ik1:decide ((4:Int)<=op)=true:=Am (by unfold Fw at hi;omega)
    have ik2:decide (op<=(16:Int))=true:=Am (by unfold Fw at hi;omega)
    have ik3:(op==6)=false:=by rw[Af];unfold Fw at hi;omega
    have ik4:(op !=6)=true:=by rw[bne_iff_ne];unfold Fw at hi;omega
    obtain⟨hw1,hw2,hw3⟩:=My hi
    have hSne:(SG.toList==[])=false:=by
     rw[Af,←hSG,Ap]
     show Fe op≠[]
     rw[hw1]
     exact hw2
    obtain⟨OG,hOG⟩:∃S:ByteArray,(⟨(Fe ot).toArray⟩:ByteArray)=S:=⟨_,rfl⟩
    have CO:∀W,Calls Tryz.prog 27 #[.int .u8 ot] W fun e w'=>e= .returned (.string OG)/\Below W.heap.size W w':=fun W=>by
     have:=Lz ot o0 W
     rwa [hOG] at this
    obtain⟨b,hb⟩:∃b,(ot==op)=b:=⟨_,rfl⟩
    have hOS:(OG.toList==SG.toList)=b:=by
     rw[←hb,←hOG,←hSG,Ap,Ap]
     show(Fe ot==Fe op)=_
     by_cases e:ot=op
     ·subst e
      rw[beq_self_eq_true,beq_self_eq_true]
     ·rw[show(ot==op)=false by simpa using e,Af]
      exact fun e2=>e (fQ hi o0 e2)
    have hbb:(b==b)=true:=by simp
    have hbn:(b !=b)=false:=by simp
    have CO:=Ao CO
    have HSG:=Ao hSG
    have HOG:=Ao hOG
    have HI:=Ao hi
    have HW:=Ao hw1
    have HJd:=Ao hJd
    have HX:=Ao hX
    have HY:=Ao hY
    have HZZ:=Ao hZ
    clear hSG hOG hi hw1 hw2 hw3 hJd hX hY hZ
    cases X with
    |error pX=>
     obtain⟨⟨pXx,pXy⟩,pXe⟩:=pX
     have hpe:=Ii HX.out
     have jX1:(pXe !=0)=true:=by simpa using hpe
     have jX2:(pXe==0)=false:=by simpa using hpe
     have hpX:pOf (.error ((pXx,pXy),pXe):Except ((Int×Int)×Int) Ex)=((pXx,pXy),pXe):=rfl
     clear hpe
     obtain⟨pYx,pYy,pYe,hpY⟩:∃x y e,pOf Y=((x,y),e):=⟨_,_,_,rfl⟩
     obtain⟨pZx,pZy,pZe,hpZ⟩:∃x y e,pOf Z=((x,y),e):=⟨_,_,_,rfl⟩
     go_enter Tryz.func7,Tryz.ntmps7
     go_wp2_with fail
     refine D0.out.mono ?_
     rintro e V0 ⟨rfl,hb0⟩
     have HB0:=Ao hb0
     clear hb0 D0
     have DO:=Ao (CO.out V0)
     go_wp2_with fail
     refine DO.out.mono ?_
     rintro e VO ⟨rfl,hbo⟩
     have HBO:=Ao (HB0.out.trans (hbo.mono HB0.out.size))
     clear hbo DO CO HB0
     have HB0:=HBO
     clear HBO
     have L1:=Ao (D1.out VO HB0.out)
     exact zz8
    |ok xa=>
     cases Y with
     |error pY=>
      obtain⟨pXx,pXy,pXe,hpX⟩:∃x y e,pOf (.ok xa:Except ((Int×Int)×Int) Ex)=((x,y),e):=⟨_,_,_,rfl⟩
      have jX1:(pXe !=0)=false:=by have:=congrArg Prod.snd hpX;simp [pOf] at this;simp [←this]
      have jX2:(pXe==0)=true:=by have:=congrArg Prod.snd hpX;simp [pOf] at this;simp [←this]
      obtain⟨⟨pYx,pYy⟩,pYe⟩:=pY
      have hpe:=Ii HY.out
      have jY1:(pYe !=0)=true:=by simpa using hpe
      have jY2:(pYe==0)=false:=by simpa using hpe
      have hpY:pOf (.error ((pYx,pYy),pYe):Except ((Int×Int)×Int) Ex)=((pYx,pYy),pYe):=rfl
      clear hpe
      obtain⟨pZx,pZy,pZe,hpZ⟩:∃x y e,pOf Z=((x,y),e):=⟨_,_,_,rfl⟩
      go_enter Tryz.func7,Tryz.ntmps7
      go_wp2_with fail
      refine D0.out.mono ?_
      rintro e V0 ⟨rfl,hb0⟩
      have HB0:=Ao hb0
      clear hb0 D0
      have DO:=Ao (CO.out V0)
      go_wp2_with fail
      refine DO.out.mono ?_
      rintro e VO ⟨rfl,hbo⟩
      have HBO:=Ao (HB0.out.trans (hbo.mono HB0.out.size))
      clear hbo DO CO HB0
      have HB0:=HBO
      clear HBO
      have L1:=Ao (D1.out VO HB0.out)
      exact zz8
     |ok ya=>
      cases Z with
      |error pZ=>
       obtain⟨pXx,pXy,pXe,hpX⟩:∃x y e,pOf (.ok xa:Except ((Int×Int)×Int) Ex)=((x,y),e):=⟨_,_,_,rfl⟩
       have jX1:(pXe !=0)=false:=by have:=congrArg Prod.snd hpX;simp [pOf] at this;simp [←this]
       have jX2:(pXe==0)=true:=by have:=congrArg Prod.snd hpX;simp [pOf] at this;simp [←this]
       obtain⟨pYx,pYy,pYe,hpY⟩:∃x y e,pOf (.ok ya:Except ((Int×Int)×Int) Ex)=((x,y),e):=⟨_,_,_,rfl⟩
       have jY1:(pYe !=0)=false:=by have:=congrArg Prod.snd hpY;simp [pOf] at this;simp [←this]
       have jY2:(pYe==0)=true:=by have:=congrArg Prod.snd hpY;simp [pOf] at this;simp [←this]
       obtain⟨⟨pZx,pZy⟩,pZe⟩:=pZ
       have hpe:=Ii HZZ.out
       have jZ1:(pZe !=0)=true:=by simpa using hpe
       have jZ2:(pZe==0)=false:=by simpa using hpe
       have hpZ:pOf (.error ((pZx,pZy),pZe):Except ((Int×Int)×Int) Ex)=((pZx,pZy),pZe):=rfl
       clear hpe
       go_enter Tryz.func7,Tryz.ntmps7
       go_wp2_with fail
       refine D0.out.mono ?_
       rintro e V0 ⟨rfl,hb0⟩
       have HB0:=Ao hb0
       clear hb0 D0
       have DO:=Ao (CO.out V0)
       go_wp2_with fail
       refine DO.out.mono ?_
       rintro e VO ⟨rfl,hbo⟩
       have HBO:=Ao (HB0.out.trans (hbo.mono HB0.out.size))
       clear hbo DO CO HB0
       have HB0:=HBO
       clear HBO
       have L1:=Ao (D1.out VO HB0.out)
       exact zz8
      |ok za=>
       obtain⟨pXx,pXy,pXe,hpX⟩:∃x y e,pOf (.ok xa:Except ((Int×Int)×Int) Ex)=((x,y),e):=⟨_,_,_,rfl⟩
       have jX1:(pXe !=0)=false:=by have:=congrArg Prod.snd hpX;simp [pOf] at this;simp [←this]
       have jX2:(pXe==0)=true:=by have:=congrArg Prod.snd hpX;simp [pOf] at this;simp [←this]
       obtain⟨pYx,pYy,pYe,hpY⟩:∃x y e,pOf (.ok ya:Except ((Int×Int)×Int) Ex)=((x,y),e):=⟨_,_,_,rfl⟩
       have jY1:(pYe !=0)=false:=by have:=congrArg Prod.snd hpY;simp [pOf] at this;simp [←this]
       have jY2:(pYe==0)=true:=by have:=congrArg Prod.snd hpY;simp [pOf] at this;simp [←this]
       obtain⟨pZx,pZy,pZe,hpZ⟩:∃x y e,pOf (.ok za:Except ((Int×Int)×Int) Ex)=((x,y),e):=⟨_,_,_,rfl⟩
       have jZ1:(pZe !=0)=false:=by have:=congrArg Prod.snd hpZ;simp [pOf] at this;simp [←this]
       have jZ2:(pZe==0)=true:=by have:=congrArg Prod.snd hpZ;simp [pOf] at this;simp [←this]
       have hzt:∃n k,za.text=Ev n xa++32::(Cf op++32::Ev k ya):=by
        have h9:=HZZ.out
        rw[HJd.out,HW.out] at h9
        exact cB HI.out HX.out HY.out h9
       obtain⟨S,hS⟩:∃S:ByteArray,(⟨xa.text.toArray⟩:ByteArray)=S:=⟨_,rfl⟩
       obtain⟨T,hT⟩:∃S:ByteArray,(⟨ya.text.toArray⟩:ByteArray)=S:=⟨_,rfl⟩
       obtain⟨U,hU⟩:∃S:ByteArray,(⟨za.text.toArray⟩:ByteArray)=S:=⟨_,rfl⟩
       have htw:∃i0 j0,i0<2/\j0<2/\U=qA S i0++⟨#[32]⟩++SG++⟨#[32]⟩++qA T j0:=by
        obtain⟨n,k,e⟩:=hzt
        obtain⟨i0,q1,q2⟩:=jT n xa
        obtain⟨j0,q3,q4⟩:=jT k ya
        refine⟨i0,j0,q1,q3,?_⟩
        rw[←hS,←hT,←q2,←q4,←HSG.out,HW.out,←hU,e]
        exact Z4 _ _ _
       obtain⟨i0,j0,hi0,hj0,hUU⟩:=htw
       have hsz:∀{l:List UInt8} {a:Ex},Bn l= .ok a->∀{B:ByteArray},(⟨a.text.toArray⟩:ByteArray)=B->B.size<=100000:=fun{l a} h {B} e=>by
        rw[←e,←Ax]
        have g:=Kg _ a (Ak _) (Ei h)
        obtain⟨_,_,_,h60⟩:=Dx h
        show a.text.length<=_
        omega
       have hS1:=hsz HX.out hS
       have hT1:=hsz HY.out hT
       have hU1:=hsz HZZ.out hU
       have E1:∀W v,Below w.heap.size w W->TrZ W v (zOf (.ok xa))->Calls Tryz.prog 25 #[v] W fun e w'=>e= .returned (.tuple #[.string S,.int .i64 0])/\Below W.heap.size W w':=fun W v hb ht=>by
        have:=Gl HX.out ht (HR.out.below hb)
        rw[hS] at this
        exact this
       have E2:∀W v,Below w.heap.size w W->TrZ W v (zOf (.ok ya))->Calls Tryz.prog 25 #[v] W fun e w'=>e= .returned (.tuple #[.string T,.int .i64 0])/\Below W.heap.size W w':=fun W v hb ht=>by
        have:=Gl HY.out ht (HR.out.below hb)
        rw[hT] at this
        exact this
       have E3:∀W v,Below w.heap.size w W->TrZ W v (zOf (.ok za))->Calls Tryz.prog 25 #[v] W fun e w'=>e= .returned (.tuple #[.string U,.int .i64 0])/\Below W.heap.size W w':=fun W v hb ht=>by
        have:=Gl HZZ.out ht (HR.out.below hb)
        rw[hU] at this
        exact this
       have E1:=Ao E1
       have E2:=Ao E2
       have E3:=Ao E3
       have HUU:=Ao hUU
       clear hsz hzt hS hT hU hUU
       go_enter Tryz.func7,Tryz.ntmps7
       go_wp2_with fail
       refine D0.out.mono ?_
       rintro e V0 ⟨rfl,hb0⟩
       have HB0:=Ao hb0
       clear hb0 D0
       have DO:=Ao (CO.out V0)
       go_wp2_with fail
       refine DO.out.mono ?_
       rintro e VO ⟨rfl,hbo⟩
       have HBO:=Ao (HB0.out.trans (hbo.mono HB0.out.size))
       clear hbo DO CO HB0
       have HB0:=HBO
       clear HBO
       have L1:=Ao (D1.out VO HB0.out)
       rw[hpX] at L1
       simp only at L1
       go_wp2_with fail
       refine L1.out.mono ?_
       rintro e V1 ⟨a1,k1,c1,rfl,hz1,hb1⟩
       obtain⟨W1,hW1⟩:∃W,V1.alloc (.cells #[.int .i64 pXx,.int .i64 pXy] 33)=W:=⟨_,rfl⟩
       have hb1':Below V1.heap.size V1 W1:=by rw[←hW1];exact(Below.refl _ V1).alloc (Ak _) _
       have HB1:=Ao (HB0.out.trans ((hb1.trans (hb1'.mono hb1.size)).mono HB0.out.size))
       have HZ1:=Ao (hz1.below hb1')
       clear hz1 hb1 hb1' L1
       subst hW1
       have L2:=Ao (D2.out (V1.alloc (.cells #[.int .i64 pXx,.int .i64 pXy] 33)) HB1.out)
       rw[hpY] at L2
       simp only at L2
       go_wp2_with fail
       refine L2.out.mono ?_
       rintro e V2 ⟨a2,k2,c2,rfl,hz2,hb2⟩
       obtain⟨W2,hW2⟩:∃W,V2.alloc (.cells #[.int .i64 pYx,.int .i64 pYy] 33)=W:=⟨_,rfl⟩
       have hb2':Below V2.heap.size V2 W2:=by rw[←hW2];exact(Below.refl _ V2).alloc (Ak _) _
       have HB2:=Ao (HB1.out.trans ((hb2.trans (hb2'.mono hb2.size)).mono HB1.out.size))
       have HZ2:=Ao (hz2.below hb2')
       have HZ1:=Ao ((HZ1.out.below hb2).below hb2')
       clear hz2 hb2 hb2' L2
       subst hW2
       have L3:=Ao (D3.out (V2.alloc (.cells #[.int .i64 pYx,.int .i64 pYy] 33)) HB2.out)
       rw[hpZ] at L3
       simp only at L3
       go_wp2_with fail
       refine L3.out.mono ?_
       rintro e V3 ⟨a3,k3,c3,rfl,hz3,hb3⟩
       obtain⟨W3,hW3⟩:∃W,V3.alloc (.cells #[.int .i64 pZx,.int .i64 pZy] 33)=W:=⟨_,rfl⟩
       have hb3':Below V3.heap.size V3 W3:=by rw[←hW3];exact(Below.refl _ V3).alloc (Ak _) _
       have HB3:=Ao (HB2.out.trans ((hb3.trans (hb3'.mono hb3.size)).mono HB2.out.size))
       have HZ3:=Ao (hz3.below hb3')
       have HZ1:=Ao ((HZ1.out.below hb3).below hb3')
       have HZ2:=Ao ((HZ2.out.below hb3).below hb3')
       clear hz3 hb3 hb3' L3
       subst hW3
       have L4:=Ao (E1.out _ _ HB3.out HZ1.out)
       go_wp2_with fail
       refine L4.out.mono ?_
       rintro e V4 ⟨rfl,hb4⟩
       have HB4:=Ao (HB3.out.trans (hb4.mono HB3.out.size))
       have HZ5:=Ao (HZ2.out.below hb4)
       have HZ6:=Ao (HZ3.out.below hb4)
       have L5:=Ao (E2.out _ _ HB4.out HZ5.out)
       clear hb4 L4 HB3 HZ1 HZ2 HZ3
       go_wp2_with fail
       refine L5.out.mono ?_
       rintro e V5 ⟨rfl,hb5⟩
       have HB5:=Ao (HB4.out.trans (hb5.mono HB4.out.size))
       have HZ7:=Ao (HZ6.out.below hb5)
       have L6:=Ao (E3.out _ _ HB5.out HZ7.out)
       clear hb5 L5 HB4 HZ5 HZ6
       go_wp2_with fail
       refine L6.out.mono ?_
       rintro e V6 ⟨rfl,hb6⟩
       have HB6:=Ao (HB5.out.trans (hb6.mono HB5.out.size))
       clear hb6 L6 HB5 HZ7
       have HX1:=fun(i:Nat) (h:i<2) W=>Vz S (⟨#[40]⟩++S++⟨#[41]⟩) h W
       have HX2:=fun(i:Nat) (h:i<2) W=>Vz T (⟨#[40]⟩++T++⟨#[41]⟩) h W
       have HX1:=Ao HX1
       have HX2:=Ao HX2
       go_wp2_with fail
       go_loopw [136] (fun v136 wr=>∃i:Nat,i<=i0/\v136= .int .i64 i/\Hid (Below w.heap.size w wr)) (fun v136 _=>2 - (intOf v136).toNat)
       case atStart=>exact⟨0,Nat.zero_le _,rfl,HB6⟩
       case round=>
        obtain⟨wo,rfl⟩:∃wo:World,wo=wr:=⟨_,rfl⟩
        obtain⟨i,hi,rfl,hq⟩:=hrel
        have m1:decide ((i:Int)<2)=true:=Am rA
        have hx1:=HX1.out i rA
        obtain⟨P,hP⟩:∃P:ByteArray,(if i=0 then S else⟨#[40]⟩++S++⟨#[41]⟩)=P:=⟨_,rfl⟩
        rw[hP] at hx1
        have hPs:P.size<=200000:=by
         rw[←hP]
         split
         ·omega
         ·rw[ByteArray.size_append,ByteArray.size_append]
          show 1+S.size+1<=_
          omega
        have HP:=Ao hP
        have HBo:=hq
        clear hP hq
        go_wp2_with fail
        go_loopw [144] (fun v144 wx=>∃j:Nat,j<=2/\(i=i0->j<=j0)/\v144= .int .i64 j/\Hid (Below w.heap.size w wx)) (fun v144 _=>2 - (intOf v144).toNat)
        case atStart=>exact⟨0,Nat.zero_le _,fun _=>Nat.zero_le _,rfl,HBo⟩
        case round=>
         obtain⟨j,hj,hij,rfl,hq⟩:=hrel
         by_cases hj2:j<2
         ·have m2:decide ((j:Int)<2)=true:=Am rA
          have hx2:=HX2.out j hj2
          obtain⟨Q,hQ⟩:∃P:ByteArray,(if j=0 then T else⟨#[40]⟩++T++⟨#[41]⟩)=P:=⟨_,rfl⟩
          rw[hQ] at hx2
          have hQs:Q.size<=200000:=by
           rw[←hQ]
           split
           ·omega
           ·rw[ByteArray.size_append,ByteArray.size_append]
            show 1+T.size+1<=_
            omega
          have hno:i=i0->j=j0->U=P++⟨#[32]⟩++SG++⟨#[32]⟩++Q:=fun e1 e2=>by
           subst e1 e2
           rw[HUU.out,←HP.out,←hQ]
           rfl
          have Hno:=Ao hno
          have Hij:=Ao hij
          have Hj2:=Ao hj2
          have jb:(j:Int)<=10:=by omega
          clear hno hQ hij hj hj2
          obtain⟨b3,hb3⟩:∃b,(U.toList==(P++⟨#[32]⟩++SG++⟨#[32]⟩++Q).toList)=b:=⟨_,rfl⟩
          cases b3 with
          |true=>
           have HBr:=hq
           clear hq
           have Hkn:=Ao (Ep wr (HR.out.below HBr.out))
           go_wp2_with fail
           refine Hkn.out.mono ?_
           rintro e V9 ⟨rfl,hb9⟩
           have HB9:=Ao (HBr.out.trans (hb9.mono HBr.out.size))
           exact zzj
          |false=>
           have hne:¬(i=i0/\j=j0):=fun⟨e1,e2⟩=>by
            have:=Hno.out e1 e2
            rw[←this,beq_self_eq_true] at hb3
            cases hb3
           have Hne:=Ao hne
           have HBr:=hq
           clear hq hne
           go_wp2_with fail
           go_roundw
           case rel=>exact⟨j+1,by have:=Hj2.out;omega,fun e=>by have h1:=Hij.out e;have h3:j≠j0:=fun q=>Hne.out ⟨e,q⟩;omega,by go_num,HBr⟩
           case measure=>have h9:=Hj2.out;simp [intOf];omega
         ·obtain rfl:j=2:=by omega
          have hii:i+1<=i0:=by
           by_cases e:i=i0
           ·have:=hij e;omega
           ·omega
          have HBr:=hq
          clear hq hij
          have m2:decide ((2:Int)<2)=false:=by decide
          go_wp2_with fail
          go_roundw
          case rel=>exact⟨i+1,hii,by go_num,HBr⟩
          case measure=>simp [intOf];omega
   ·have hSe:SG=⟨#[]⟩:=by rw[←hSG,Zc h0 hi]
    have hSG0:=hSG
    have hSne:(SG.toList==[])=true:=by rw[hSe,Ap];rfl
    clear hX hY hZ hJd hSG hSG0 hSe
    obtain⟨pXx,pXy,pXe,hpX⟩:∃x y e,pOf X=((x,y),e):=⟨_,_,_,rfl⟩
    obtain⟨pYx,pYy,pYe,hpY⟩:∃x y e,pOf Y=((x,y),e):=⟨_,_,_,rfl⟩
    obtain⟨pZx,pZy,pZe,hpZ⟩:∃x y e,pOf Z=((x,y),e):=⟨_,_,_,rfl⟩
    by_cases h4:4<=op
    ·have ik1:decide ((4:Int)<=op)=true:=Am h4
     by_cases h16:op<=16
     ·have ik2:decide (op<=(16:Int))=true:=Am h16
      obtain rfl:op=6:=by unfold Fw at hi;omega
      have ik3:((6:Int)==6)=true:=rfl
      clear h4 h16 hi
      go_enter Tryz.func7,Tryz.ntmps7
      go_wp2_with fail
      refine D0.out.mono ?_
      rintro e V0 ⟨rfl,hb0⟩
      have HB0:=Ao hb0
      clear hb0 D0
      have L1:=Ao (D1.out V0 HB0.out)
      exact zz8
     ·have ik2:decide (op<=(16:Int))=false:=An h16
      clear h4 h16 hi
      go_enter Tryz.func7,Tryz.ntmps7
      go_wp2_with fail
      refine D0.out.mono ?_
      rintro e V0 ⟨rfl,hb0⟩
      have HB0:=Ao hb0
      clear hb0 D0
      have L1:=Ao (D1.out V0 HB0.out)
      exact zz8
    ·have ik1:decide ((4:Int)<=op)=false:=An h4
     clear h4 hi
     go_enter Tryz.func7,Tryz.ntmps7
     go_wp2_with fail
     refine D0.out.mono ?_
     rintro e V0 ⟨rfl,hb0⟩
     have HB0:=Ao hb0
     clear hb0 D0
     have L1:=Ao (D1.out V0 HB0.out)
     exact zz8
  ·have i1:decide ((200:Int)<(s.size:Int))=false:=by simp;omega
   have i2:decide ((200:Int)<(t.size:Int))=true:=by simp;omega
   have Hkn:=Ao (Ep w hR)
   clear hR hs
   go_enter Tryz.func7,Tryz.ntmps7
   go_wp2_with fail
   refine Hkn.out.mono ?_
   rintro e V9 ⟨rfl,hb9⟩
   have HB9:=Ao hb9
   exact zzj
 ·have i1:decide ((200:Int)<(s.size:Int))=true:=by simp;omega
  have Hkn:=Ao (Ep w hR)
  clear hR hs
  go_enter Tryz.func7,Tryz.ntmps7
  go_wp2_with fail
  refine Hkn.out.mono ?_
  rintro e V9 ⟨rfl,hb9⟩
  have HB9:=Ao hb9
  exact zzj
end Go.Proofs.YtgfakdobajgnfaaGreatDoor
