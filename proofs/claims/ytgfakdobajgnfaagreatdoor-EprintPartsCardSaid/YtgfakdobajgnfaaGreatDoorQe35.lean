import Derived.Test.YtgfakdobajgnfaaGreatDoorQe32
set_option maxRecDepth 100000
set_option maxHeartbeats 16000000
namespace Go.Proofs.YtgfakdobajgnfaaGreatDoor
open Go Go.RowKit Go.Lib Go.Sort Go.Shelf
theorem Xt {a t:Ex}{pre post:List Nd}(h:a.flat 0=pre++(t.flat pre.length++post)){i:Nat}(hi:i<t.size):∃n,(t.flat 0)[i]? =some n/\((a.flat 0).map Nd.z)[pre.length+i]? =some (Nd.z (n.up pre.length)):=by
 obtain⟨n,h1,h2⟩:=Wl t pre.length i hi
 refine⟨n,h1,?_⟩
 rw[h,List.getElem?_map,List.getElem?_append_right rA,Nat.add_sub_cancel_left,List.getElem?_append_left (by rw[Ex.flat_len];exact hi),h2]
 rfl
theorem mA {a t:Ex}{pre post:List Nd}{g off cp k:Nat}(w:World)(ht:TrZ w (.slice (some ⟨g,off,none⟩) a.size cp) ((a.flat 0).map Nd.z))(hcp:a.size<=cp)(h60:a.size<=60)(hslim:qC (a.flat 0))
 (hfl:a.flat 0=pre++(t.flat pre.length++post)) (hk:pre.length+t.size=k+1):
 Calls Tryz.prog 32 #[.slice (some ⟨g,off,none⟩) a.size cp,.int .i64 (k:Int)] w fun e w'=>∃oa oc,e= .returned (.slice oa t.size oc)/\TrZ w' (.slice oa t.size oc) ((t.flat 0).map Nd.z)/\Below w.heap.size w w':=by
 obtain⟨b,hb⟩:∃b,pre.length=b:=⟨_,rfl⟩
 have hsz:b+t.size<=a.size:=by
  have:=congrArg List.length hfl
  rw[Ex.flat_len,Ab,Ab,Ex.flat_len] at this
  omega
 have hmid:∀i,i<t.size->∃n,(t.flat 0)[i]? =some n/\((a.flat 0).map Nd.z)[b+i]? =some (Nd.z (n.up b)):=fun i hi=>hb▸Xt hfl hi
 have hown:∀x,b<=x->x<k->∃i n,(t.flat 0)[i]? =some n/\x∈(n.up b).kids/\x<b+i:=fun x h1 h2=>by
  obtain⟨j,n,q1,q2,q3⟩:=bG t b x h1 rA
  have hj:j<t.size:=by have:=(List.getElem?_eq_some_iff.1 q1).1;rwa [Ex.flat_len] at this
  obtain⟨m,r1,r2⟩:=Wl t b j hj
  rw[q1] at r2
  injection r2 with r2
  exact⟨j,m,r1,r2▸q2,q3⟩
 have hrange:∀(i:Nat) (n:Nd),(t.flat 0)[i]? =some n->∀x∈(n.up b).kids,b<=x/\x<b+i:=fun i n hn x hx=>by
  have hi:i<t.size:=by have:=(List.getElem?_eq_some_iff.1 hn).1;rwa [Ex.flat_len] at this
  obtain⟨m,r1,r2⟩:=Wl t b i hi
  rw[hn] at r1
  injection r1 with r1
  subst r1
  exact(U3 t.size).1 t b i _ (Ak _) r2 x hx
 have hslt:∀(i:Nat) (n:Nd),(t.flat 0)[i]? =some n->n.kids.length<=1000000:=fun i n hn=>by
  have hi:i<t.size:=by have:=(List.getElem?_eq_some_iff.1 hn).1;rwa [Ex.flat_len] at this
  obtain⟨m,r1,r2⟩:=Wl t b i hi
  rw[hn] at r1
  injection r1 with r1
  subst r1
  have h1:Nd.up b n∈a.flat 0:=by
   rw[hfl,hb]
   exact List.mem_append_right _ (List.mem_append_left _ (List.mem_of_getElem? r2))
  have h2:=hslim _ h1
  simpa[Nd.up] using h2
 rw[hb] at hk
 have hkb:b<=k:=by have:=t.size_pos;omega
 have hts:=t.size_pos
 have HT:=Ao ht
 have Hmid:=Ao hmid
 have Hown:=Ao hown
 have Hrange:=Ao hrange
 have Hslt:=Ao hslt
 clear ht hmid hown hrange hslt hslim hfl hb
 go_enter Tryz.func32,Tryz.ntmps32
 go_wp2_with fail
 go_loopw [5,6] (fun v5 v6 wr=>∃(f m:Nat),b<=f/\f<=k/\b<=m/\m<=k+1/\v5= .int .i64 f/\v6= .int .i64 ((m:Int) - 1)/\Hid (Below w.heap.size w wr/\∀i n,m<=b+i->(t.flat 0)[i]? =some n->∀x∈(n.up b).kids,f<=x)) (fun _ v6 _=>(intOf v6+1).toNat)
 case atStart=>
  refine⟨k,k+1,hkb,Ak _,by omega,Ak _,rfl,?_,Ao ⟨Below.refl _ w,fun i n hi hn=>?_⟩⟩
  ·rw[show(((k+1:Nat):Int) - 1)=(k:Int) by omega]
  ·have:=(List.getElem?_eq_some_iff.1 hn).1
   rw[Ex.flat_len] at this
   omega
 case round=>
  obtain⟨wo,rfl⟩:∃wo:World,wo=wr:=⟨_,rfl⟩
  obtain⟨f,m,hbf,hfk,hbm,hmk,rfl,rfl,hq⟩:=hrel
  by_cases hc:f+1<=m
  ·obtain⟨q,rfl⟩:∃q,m=q+1:=⟨m - 1,by omega⟩
   obtain⟨i,hi⟩:∃i,q=b+i:=⟨q - b,by omega⟩
   have hil:i<t.size:=by omega
   obtain⟨⟨hd,kids⟩,hn1,hn2⟩:=Hmid.out i hil
   have hT:=HT.out.below hq.out.1
   rw[←hi] at hn2
   obtain⟨kv,hna,hki⟩:=hT.get hn2
   obtain⟨ka,kc,rfl,hkc⟩:=cV hki
   obtain⟨_,_,_,_,_,x5,_,_⟩:=hna
   have hrg:∀x∈kids,b<=x+b/\x+b<q:=fun x hx=>by
    have:=Hrange.out i _ hn1 (x+b) (List.mem_map_of_mem (f:=fun z=>z+b) hx)
    omega
   have hkl:=Hslt.out i _ hn1
   have hkl:kids.length<=1000000:=hkl
   have e1:(((q+1:Nat):Int) - 1)=(q:Int):=by omega
   rw[e1]
   have j0:(0:Int)<=(q:Int):=by omega
   have j1:(q:Int)<(a.size:Int):=by omega
   have j2:decide ((f:Int)<=(q:Int))=true:=Am rA
   have hgz:=Bz x5
   have Hq:=Ao hq.out
   have Hn1:=Ao hn1
   have Hi:=Ao hi
   have Hkc:=Ao hkc
   have Hrg:=Ao hrg
   have HI:Hid (Below wo.heap.size wo wo/\∀x∈kids.take 0,f<=x+b):=Ao ⟨Below.refl _ wo,fun x hx=>by cases hx⟩
   clear hq hn1 hn2 hT hki hkc hrg e1 hi
   go_wp2_with fail
   go_loopw [5,28] (fun v5 v28 wx=>∃(f' j:Nat),b<=f'/\f'<=f/\j<=kids.length/\v5= .int .i64 f'/\v28= .int .i64 j/\Hid (Below wo.heap.size wo wx/\∀x∈kids.take j,f'<=x+b)) (fun _ v28 _=>kids.length - (intOf v28).toNat)
   case atStart=>exact⟨f,0,hbf,Ak _,Nat.zero_le _,rfl,rfl,HI⟩
   case round=>
    obtain⟨f',j,hbf',hff',hj,rfl,rfl,hr⟩:=hrel
    by_cases hjl:j<kids.length
    ·obtain⟨bk,ok,ek,hkcell⟩:=Hkc.out j kids[j] (Ag hjl)
     subst ek
     have hkcell:=A5 hr.out.1 hkcell
     have htk:=List.take_succ_eq_append_getElem hjl
     have hv2:=Hrg.out kids[j] (List.getElem_mem hjl)
     obtain⟨v,hv⟩:∃v,kids[j]=v:=⟨_,rfl⟩
     rw[hv] at hkcell htk hv2
     have e3:(0:Int)<=(j:Int):=by omega
     have e4:(j:Int)<(kids.length:Int):=by omega
     have e9:decide ((j:Int)<(kids.length:Int))=true:=Am e4
     have Hr:=Ao hr.out
     have Htk:=Ao htk
     clear hr htk hv
     by_cases hlt:v+b<f'
     ·have l1:decide ((v:Int)+(b:Int)<(f':Int))=true:=Am rA
      have l2:decide ((f':Int)<=(v:Int)+(b:Int))=false:=An rA
      go_wp2_with fail
      go_roundw
      case rel=>
       refine⟨v+b,j+1,by omega,by omega,by omega,by congr 1;omega,by go_num,Ao ⟨Hr.out.1,fun x hx=>?_⟩⟩
       rw[Htk.out] at hx
       rcases List.mem_append.1 hx with hx|hx
       ·have:=Hr.out.2 x hx;omega
       ·rw[List.mem_singleton.1 hx];exact Ak _
      case measure=>simp [intOf];omega
     ·have l1:decide ((v:Int)+(b:Int)<(f':Int))=false:=An rA
      have l2:decide ((f':Int)<=(v:Int)+(b:Int))=true:=Am rA
      go_wp2_with fail
      go_roundw
      case rel=>
       refine⟨f',j+1,by omega,by omega,by omega,by congr 1;omega,by go_num,Ao ⟨Hr.out.1,fun x hx=>?_⟩⟩
       rw[Htk.out] at hx
       rcases List.mem_append.1 hx with hx|hx
       ·exact Hr.out.2 x hx
       ·rw[List.mem_singleton.1 hx];omega
      case measure=>simp [intOf];omega
    ·obtain rfl:j=kids.length:=by omega
     have e9:decide ((kids.length:Int)<(kids.length:Int))=false:=by simp
     have Hr:=Ao hr.out
     clear hr
     go_wp2_with fail
     go_roundw
     case rel=>
      refine⟨f',q,hbf',by omega,by omega,by omega,rfl,by go_num,Ao ⟨Hq.out.1.trans (Hr.out.1.mono Hq.out.1.size),?_⟩⟩
      intro i' n' h1 h2 x hx
      by_cases hii:i'=i
      ·subst hii
       rw[Hn1.out] at h2
       injection h2 with h2
       subst h2
       obtain⟨z,hz,rfl⟩:=List.mem_map.1 hx
       have:=Hr.out.2 z (by rw[List.take_length];exact hz)
       exact this
      ·have h4:=Hi.out
       have:=Hq.out.2 i' n' rA h2 x hx
       omega
     case measure=>simp [intOf]
  ·have hfb:f=b:=by
    by_cases e:f=b
    ·exact e
    ·obtain⟨i,n,q1,q2,q3⟩:=Hown.out (f - 1) rA rA
     have:=hq.out.2 i n rA q1 _ q2
     omega
   subst hfb
   have HBo:=Ao hq.out.1
   have j2:decide ((f:Int)<=((m:Int) - 1))=false:=An rA
   have y0:max (0:Int) (f:Int)=(f:Int):=by omega
   have y1:(0:Int)<=(f:Int):=by omega
   have y2:(f:Int)<=(k:Int)+1:=by omega
   have y3:(k:Int)+1<=(cp:Int):=by omega
   have y4:¬cp=f:=by omega
   have y5:((k:Int)+1).toNat - f=t.size:=by omega
   have y6:k+1 - f=t.size:=by omega
   clear hq hc
   obtain⟨V6,hV6⟩:∃V,wo=V:=⟨_,rfl⟩
   rw[hV6] at HBo ⊢
   have HT6v:=Ao (HT.out.below HBo.out)
   obtain⟨B,hBdef⟩:∃B,V6.heap.size=B:=⟨_,rfl⟩
   have HBd:=Ao hBdef
   have HL0:Hid (Gr V6 B [] (.slice none 0 0) ((t.flat 0).take 0)/\Below B V6 V6):=Ao ⟨Gr.nil _ _,Below.refl _ _⟩
   clear hBdef hV6
   have HB0:=HBo
   clear HBo
   go_upto_region 12 with fail
   go_loopw [9,43] (fun v9 v43 wr=>∃(i:Nat) (oa:Option Addr) (oc:Nat),i<=t.size/\v43= .int .i64 i/\v9= .slice oa i oc/\Hid (Gr wr B [] (.slice oa i oc) ((t.flat 0).take i)/\Below B V6 wr)) (fun _ v43 _=>t.size - (intOf v43).toNat)
   case atStart=>exact⟨0,none,0,Nat.zero_le _,rfl,rfl,HL0⟩
   case round=>
    obtain⟨wo,rfl⟩:∃wo:World,wo=wr:=⟨_,rfl⟩
    obtain⟨i,oa,oc,hi,rfl,rfl,hq⟩:=hrel
    obtain⟨hT,hBo⟩:=hq.out
    by_cases hil:i<t.size
    ·have hBo':Below V6.heap.size V6 wo:=by rw[HBd.out];exact hBo
     have hBs:B<=wo.heap.size:=by rw[←HBd.out];exact hBo'.size
     obtain⟨n,hn1,hn2⟩:=Hmid.out i hil
     obtain⟨kv,hna,hki⟩:=HT6v.out.get hn2
     rw[Nat.add_mul,←Nat.add_assoc] at hna
     have hna:=hna.below hBo'
     obtain⟨⟨op',⟨vk,vn,vs⟩,nm,ln,cl⟩,kids⟩:=n
     obtain⟨ka,kc,rfl,hkc⟩:=cV hki
     have hkl:kids.length<=1000000:=Hslt.out i _ hn1
     obtain⟨x0,x1,x2,x3,x4,x5,x6,x7⟩:=hna
     simp only[Nd.up,Nd.z] at x0 x1 x2 x3 x4 x5 x6 x7
     have Hkc:=Ao hkc
     have Hn1:=Ao hn1
     have HT:=Ao hT
     have HBo:=Ao hBo'
     have j0:(0:Int)<=(i:Int):=by omega
     have j1:(i:Int)<(t.size:Int):=by omega
     have j2:decide ((i:Int)<(t.size:Int))=true:=Am j1
     have hbx:=Bz x0
     obtain⟨W1,hW1⟩:∃W1,wo.alloc (.cells #[.int .u8 op',.int .u8 vk,.int .i64 vn,.string ⟨vs.toArray⟩,.string ⟨nm.toArray⟩,.slice ka kids.length kc,.int .i64 ln,.int .i64 cl] 43)=W1:=⟨_,rfl⟩
     have hp1:=Au wo (.cells #[.int .u8 op',.int .u8 vk,.int .i64 vn,.string ⟨vs.toArray⟩,.string ⟨nm.toArray⟩,.slice ka kids.length kc,.int .i64 ln,.int .i64 cl] 43)
     have hb1:Below wo.heap.size wo W1:=by rw[←hW1];exact(Below.refl _ wo).alloc (Ak _) _
     have hz1:W1.heap.size=wo.heap.size+1:=by rw[←hW1];simp
     rw[hW1] at hp1
     obtain⟨n0,n1,n2,n3,n4,n5,n6,n7,nf⟩:=Bt hp1
     have HP1:=Ao hp1
     have HB1:=Ao hb1
     have Hz1:=Ao hz1
     have HI:Hid (W1.ownsRow W1.heap.size 3 1 (.slice none 0 0) 0 (Eg (kids.take 0))/\Below W1.heap.size W1 W1):=Ao ⟨World.ownsRow_nil _ _ _ _,Below.refl _ _⟩
     clear hq hT hBo hBo' hkc hki hn1 hn2 hp1 hb1 hz1 nf HL0
     go_wp2_with fail
     go_loopw [12,50] (fun v12 v50 wx=>∃(m:Nat) (la:Option Addr) (lc:Nat),m<=kids.length/\v50= .int .i64 m/\v12= .slice la m lc/\Hid (wx.ownsRow W1.heap.size 3 1 (.slice la m lc) m (Eg (kids.take m))/\Below W1.heap.size W1 wx)) (fun _ v50 _=>kids.length - (intOf v50).toNat)
     case atStart=>exact⟨0,none,0,Nat.zero_le _,rfl,rfl,HI⟩
     case round=>
      obtain⟨m,la,lc,hm,rfl,rfl,hq⟩:=hrel
      obtain⟨hrow,hBx⟩:=hq.out
      clear n0 n1 n2 n3 n4 n5 n6 n7 x0 x1 x2 x3 x4 x5 x6 x7
      by_cases hml:m<kids.length
      ·obtain⟨bk,ok,ek,hkcell⟩:=Hkc.out m kids[m] (Ag hml)
       have hkcell:=A5 hBx (A5 HB1.out (A5 HBo.out hkcell))
       have htk:=List.take_succ_eq_append_getElem hml
       obtain⟨v,hv⟩:∃v,kids[m]=v:=⟨_,rfl⟩
       rw[hv] at hkcell htk
       subst ek
       have e5:=pQ Hn1.out (v:=v) (by rw[←hv];exact List.getElem_mem hml)
       have e6:(0:Int)<=(v:Int):=by omega
       have e7:(v:Int)<=60:=by omega
       have e3:(0:Int)<=(m:Int):=by omega
       have e4:(m:Int)<(kids.length:Int):=by omega
       have e9:decide ((m:Int)<(kids.length:Int))=true:=Am e4
       have Hrow1:=Ao (hrow.alloc (.cells #[.int .i64 (v:Int)] 3))
       have HN1:=Ao (Au wr (.cells #[.int .i64 (v:Int)] 3))
       have HZ:Hid ((wr.alloc (.cells #[.int .i64 (v:Int)] 3)).heap.size=wr.heap.size+1):=Ao rC
       have hsr:=hBx.size
       have Hown:=Ao (Cm hrow)
       have Htk:=Ao htk
       have Hrow:=Ao hrow
       have HBx:=Ao hBx
       obtain⟨i0,hi0,hz0,hz1,hz2⟩:=Iv
       have Hi0:=Ao hi0
       have Hy0:=Ao hz0
       have Hy1:=Ao hz1
       have Hy2:=Ao hz2
       clear hq hrow hBx htk hv hi0 hz0 hz1 hz2
       go_wp2_with ((refine wpList_append_lies _ rfl (.tmp 54) (.tmp 58) _ rfl W1.heap.size 3 i0 (.int .i64 0) 1 8 Tryz.underlying41 Hi0.out Hy0.out Hy1.out Hy2.out rfl rB (.slice la m lc) m (Eg (kids.take m)) rfl Hrow1.out ⟨wr.heap.size,0,none⟩ 1 1 [.int .i64 (v:Int)] rfl rfl (World.news_of_block (cs:= #[.int .i64 (v:Int)]) HN1.out) rM rB rL rA rO (wr.heap.size+1) HZ.out ?_;intro g6 cap w6 hown6 hgrow6 hat6 hlt6))
       have hB6:=Fy (v:= .slice la m lc) (HBx.out.alloc HBx.out.size (.cells #[.int .i64 (v:Int)] 3)) hgrow6 Hown.out rO
       rw[←Lh,←Htk.out] at hown6
       have HR6:Hid (w6.ownsRow W1.heap.size 3 1 (.slice (some ⟨g6,0,none⟩) (m+1) cap) (m+1) (Eg (kids.take (m+1)))/\Below W1.heap.size W1 w6):=Ao ⟨hown6,hB6⟩
       clear hown6 hgrow6 hat6 hlt6 hB6 Hrow1 HN1 HZ Hrow HBx hsr Hown
       go_wp2_with fail
       go_roundw
       case rel=>exact⟨m+1,some ⟨g6,0,none⟩,cap,by omega,by go_num,rfl,HR6⟩
       case measure=>simp [intOf];omega
      ·obtain rfl:m=kids.length:=by omega
       have hp2:=(hBx.block _ (Aq HP1.out)).trans HP1.out
       obtain⟨n0,n1,n2,n3,n4,n5,n6,n7,nf⟩:=Bt hp2
       have nf5:=nf 5
       have hpx:wo.heap.size<wr.heap.size:=Aq hp2
       have e9:decide ((kids.length:Int)<(kids.length:Int))=false:=by simp
       have hlen:((t.flat 0).take i).length=i:=by rw[List.length_take,Ex.flat_len];omega
       obtain⟨kvs,hk1,hk2⟩:=HT.out
       have hbwx:Below wo.heap.size wo wr:=HB1.out.trans (hBx.mono HB1.out.size)
       have hX1:Below wo.heap.size wo (wr.setCell ⟨wo.heap.size,5,none⟩ (.slice la kids.length lc)):=hbwx.setCell (Ak _) _
       have hX2:Below wo.heap.size wo ((wr.setCell ⟨wo.heap.size,5,none⟩ (.slice la kids.length lc)).alloc (.cells #[.int .u8 op',.int .u8 vk,.int .i64 vn,.string ⟨vs.toArray⟩,.string ⟨nm.toArray⟩,.slice la kids.length lc,.int .i64 ln,.int .i64 cl] 43)):=hX1.alloc hX1.size _
       have hkr:((wr.setCell ⟨wo.heap.size,5,none⟩ (.slice la kids.length lc)).alloc (.cells #[.int .u8 op',.int .u8 vk,.int .i64 vn,.string ⟨vs.toArray⟩,.string ⟨nm.toArray⟩,.slice la kids.length lc,.int .i64 ln,.int .i64 cl] 43)).ownsRow wo.heap.size 3 1 (.slice la kids.length lc) kids.length (Eg kids):=by
        rw[List.take_length] at hrow
        refine N1 ((A8 hrow (Aw wr wo.heap.size 5 _) fun g e hm=>?_).alloc _) (by rw[Hz1.out];omega)
        have:=Cm hrow g e
        rw[Hz1.out] at this
        simp at hm
        omega
       have Hrow2:=Ao (show((wr.setCell ⟨wo.heap.size,5,none⟩ (.slice la kids.length lc)).alloc (.cells #[.int .u8 op',.int .u8 vk,.int .i64 vn,.string ⟨vs.toArray⟩,.string ⟨nm.toArray⟩,.slice la kids.length lc,.int .i64 ln,.int .i64 cl] 43)).ownsRow B 43 8 (.slice oa i oc) i (Ee kvs ((t.flat 0).take i)) by
        have:=C8 hk1 hX2
        rw[hlen] at this
        exact this)
       have HN2:Hid (((wr.setCell ⟨wo.heap.size,5,none⟩ (.slice la kids.length lc)).alloc (.cells #[.int .u8 op',.int .u8 vk,.int .i64 vn,.string ⟨vs.toArray⟩,.string ⟨nm.toArray⟩,.slice la kids.length lc,.int .i64 ln,.int .i64 cl] 43)).heap[wr.heap.size]? =some (.cells #[.int .u8 op',.int .u8 vk,.int .i64 vn,.string ⟨vs.toArray⟩,.string ⟨nm.toArray⟩,.slice la kids.length lc,.int .i64 ln,.int .i64 cl] 43 (0,0))):=Ao (by
        have:=Au (wr.setCell ⟨wo.heap.size,5,none⟩ (.slice la kids.length lc)) (.cells #[.int .u8 op',.int .u8 vk,.int .i64 vn,.string ⟨vs.toArray⟩,.string ⟨nm.toArray⟩,.slice la kids.length lc,.int .i64 ln,.int .i64 cl] 43)
        simpa[World.setCell] using this)
       have HZ2:Hid (((wr.setCell ⟨wo.heap.size,5,none⟩ (.slice la kids.length lc)).alloc (.cells #[.int .u8 op',.int .u8 vk,.int .i64 vn,.string ⟨vs.toArray⟩,.string ⟨nm.toArray⟩,.slice la kids.length lc,.int .i64 ln,.int .i64 cl] 43)).heap.size=wr.heap.size+1):=Ao (by simp [World.setCell])
       have Hownb:=Ao (Cm Hrow2.out)
       have Hk1:=Ao hk1
       have Hk2:=Ao hk2
       have Hkr:=Ao hkr
       have HX2:=Ao hX2
       have Hlen:=Ao hlen
       have hsw:=hbwx.size
       obtain⟨i1',hi0,hz0,hz1,hz2⟩:=G6
       have Hi0:=Ao hi0
       have Hy0:=Ao hz0
       have Hy1:=Ao hz1
       have Hy2:=Ao hz2
       clear hq hrow hBx hp2 nf hlen hk1 hk2 hbwx hX1 hX2 hkr hi0 hz0 hz1 hz2 hml
       go_wp2_with ((refine wpList_append_lies _ rfl (.tmp 63) (.tmp 65) _ rfl B 43 i1' (.agg #[.int .u8 0,.int .u8 0,.int .i64 0,.string ⟨#[]⟩,.string ⟨#[]⟩,.slice none 0 0,.int .i64 0,.int .i64 0]) 8 96 Tryz.underlying31 Hi0.out Hy0.out Hy1.out Hy2.out rfl rB (.slice oa i oc) i (Ee kvs ((t.flat 0).take i)) rfl Hrow2.out ⟨wr.heap.size,0,none⟩ 1 1 [.int .u8 op',.int .u8 vk,.int .i64 vn,.string ⟨vs.toArray⟩,.string ⟨nm.toArray⟩,.slice la kids.length lc,.int .i64 ln,.int .i64 cl] rfl rfl (World.news_of_block (cs:= #[.int .u8 op',.int .u8 vk,.int .i64 vn,.string ⟨vs.toArray⟩,.string ⟨nm.toArray⟩,.slice la kids.length lc,.int .i64 ln,.int .i64 cl]) HN2.out) rM rB rL rA (by rw[HZ2.out];omega) (wr.heap.size+1) HZ2.out ?_;intro g6 cap w6 hown6 hgrow6 hat6 hlt6))
       have hT6:=lK (n:=⟨⟨op',(vk,vn,vs),nm,ln,cl⟩,kids⟩) Hk1.out Hk2.out HX2.out Hkr.out hBs hgrow6 (by rw[Hlen.out];exact hown6)
       have hB6:Below B V6 w6:=by
        have h7:Below B wo w6:=Fy (v:= .slice oa i oc) (HX2.out.mono hBs) hgrow6 Hownb.out (by rw[HZ2.out];omega)
        exact(HBd.out▸HBo.out).trans h7
       rw[show(t.flat 0).take i++[⟨⟨op',(vk,vn,vs),nm,ln,cl⟩,kids⟩]=(t.flat 0).take (i+1) by rw[List.take_add_one,Hn1.out];rfl] at hT6
       have HT6:Hid (Gr w6 B [] (.slice (some ⟨g6,0,none⟩) (i+1) cap) ((t.flat 0).take (i+1))/\Below B V6 w6):=Ao ⟨hT6,hB6⟩
       clear hown6 hgrow6 hat6 hlt6 hB6 hT6 Hrow2 HN2 HZ2 Hownb Hk1 Hk2 Hkr HX2 hsw n0 n1 n2 n3 n4 n5 n6 n7 nf5
       go_wp2_with fail
       go_roundw
       case rel=>exact⟨i+1,some ⟨g6,0,none⟩,cap,by omega,by go_num,rfl,HT6⟩
       case measure=>simp [intOf];omega
    ·obtain rfl:i=t.size:=by omega
     have hBo':Below V6.heap.size V6 wo:=by rw[HBd.out];exact hBo
     have hTz:TrZ wo (.slice oa t.size oc) ((t.flat 0).map Nd.z):=by
      have h1:=hT
      rw[List.take_of_length_le (by rw[Ex.flat_len];exact Ak _)] at h1
      exact h1.z sO (fun n hn=>by
       obtain⟨i,hi,rfl⟩:=List.mem_iff_getElem.1 hn
       exact Hslt.out i _ (Ag hi))
     have hB:=HB0.out.trans (hBo'.mono HB0.out.size)
     have HTZ:=Ao hTz
     have HBB:=Ao hB
     have e9:decide ((t.size:Int)<(t.size:Int))=false:=by simp
     clear hq hT hBo hBo' hTz hB hil
     go_wp2_with fail
     go_ret
     exact⟨oa,oc,rfl,HTZ.out,HBB.out⟩
open Go Go.RowKit Go.Lib Go.Sort Go.Shelf
theorem mL {l:List UInt8}{a t:Ex}{pre post:List Nd}(h:Bn l= .ok a)(hfl:a.flat 0=pre++(t.flat pre.length++post)):∀x∈(t.flat 0).map Nd.z,0<=x.h.op/\P9 x.h:=fun x hx=>by
 obtain⟨n,hn,rfl⟩:=List.mem_map.1 hx
 obtain⟨i,hi,rfl⟩:=List.mem_iff_getElem.1 hn
 rw[Ex.flat_len] at hi
 obtain⟨m,h1,h2⟩:=Xt hfl hi
 rw[Ag (by rw[Ex.flat_len];exact hi)] at h1
 injection h1 with h1
 subst h1
 have h3:=Rc h _ (List.mem_of_getElem? h2)
 exact h3
theorem lG (t A B:List UInt8):0<=index (A++(t++B)) t:=by
 rcases index_spec (A++(t++B)) t with ⟨_,h⟩|⟨i,e,_⟩
 ·have h1:=h A.length rC
  have h2:occAt (A++(t++B)) t A.length=true:=by
   unfold occAt
   rw[List.drop_left]
   simp
  rw[h2] at h1
  cases h1
 ·omega
theorem iR (s:ByteArray)(kk:Int)(w:World)(hR:Rd w)(hs:s.size<=600){a:Ex}(h:Bn (dl s)= .ok a):Calls Tryz.prog 9 #[.string s,.int .i64 kk] w fun e w'=>e= .returned (.bool true)/\Below w.heap.size w w':=by
 obtain⟨_,_,_,h60⟩:=Dx h
 have hap:=a.size_pos
 have hslim:=Qk h
 obtain⟨j,hj,hje⟩:=Yy kk a.size hap
 obtain⟨t,pre,post,hsub,hfl,hts,hlast⟩:=(pW a.size).1 a 0 j (Ak _) hj
 rw[Nat.zero_add] at hfl
 obtain⟨ht1,ht2,ht3⟩:=hH h hsub
 have hfit:=mL h hfl
 obtain⟨S,hS⟩:∃S:ByteArray,(⟨a.text.toArray⟩:ByteArray)=S:=⟨_,rfl⟩
 obtain⟨T,hT⟩:∃T:ByteArray,(⟨t.text.toArray⟩:ByteArray)=T:=⟨_,rfl⟩
 have hST:Lib.contains S.data.toList T.data.toList=true:=by
  obtain⟨A,B,e⟩:=ht2
  rw[←hS,←hT]
  show Lib.contains a.text t.text=true
  rw[e]
  exact Am (lG _ A B)
 have hTe:(T.toList==[])=false:=by
  rw[Af,←hT,Ap]
  exact ht3
 have hSs:S.size<4294967281:=by
  rw[←Ax,←hS]
  have:=Kg _ a (Ak _) (Ei h)
  show a.text.length<_
  omega
 have hor:j<a.size - 1\/S=T:=by
  by_cases e:j<a.size - 1
  ·exact .inl e
  ·refine .inr ?_
   rw[←hS,←hT,hlast rA]
 obtain⟨L,hL⟩:∃L,(a.flat 0).map Nd.z=L:=⟨_,rfl⟩
 obtain⟨M,hM⟩:∃M,(t.flat 0).map Nd.z=M:=⟨_,rfl⟩
 have C1:=pG w rA hR h
 have C2:∀W v,Below w.heap.size w W->TrZ W v L->Calls Tryz.prog 25 #[v] W fun e w'=>e= .returned (.tuple #[.string S,.int .i64 0])/\Below W.heap.size W w':=fun W v hb ht=>by
  have:=Gl h (hL▸ht) (hR.below hb)
  rw[hS] at this
  exact this
 have C4:∀W v,Below w.heap.size w W->TrZ W v M->Calls Tryz.prog 25 #[v] W fun e w'=>e= .returned (.tuple #[.string T,.int .i64 0])/\Below W.heap.size W w':=fun W v hb ht=>by
  subst hM
  have:=Q6 ht (fun x hx=>(hfit x hx).1) (fun x hx=>(hfit x hx).2) (hR.below hb)
  rw[ht1] at this
  simp only[Option.getD_some,hT] at this
  exact this
 have C5:∀W v,Below w.heap.size w W->TrZ W v M->Calls Tryz.prog 30 #[v] W fun e w'=>e= .returned (.bool true)/\Below W.heap.size W w':=fun W v hb ht=>by
  subst hM
  have:=jV ht (fun x hx=>(hfit x hx).1) (fun x hx=>(hfit x hx).2) (hR.below hb)
  rw[ht1] at this
  exact this
 have C3:∀W g cp,TrZ W (.slice (some ⟨g,0,none⟩) a.size cp) L->a.size<=cp->Calls Tryz.prog 32 #[.slice (some ⟨g,0,none⟩) a.size cp,.int .i64 (j:Int)] W fun e w'=>∃oa oc,e= .returned (.slice oa t.size oc)/\TrZ w' (.slice oa t.size oc) M/\Below W.heap.size W w':=fun W g cp ht hcp=>by
  subst hL hM
  exact mA W ht hcp h60 hslim hfl hts
 have L1:=Ao C1
 have D2:=Ao C2
 have D3:=Ao C3
 have D4:=Ao C4
 have D5:=Ao C5
 have HR:=Ao hR
 have HL:=Ao hL
 have HSL:=Ao hslim
 have HST:=Ao hST
 have HSs:=Ao hSs
 have Hor:=Ao hor
 have i1:decide ((600:Int)<(s.size:Int))=false:=by simp;omega
 have z0:((a.size:Int)==0)=false:=by rw[Af];omega
 have z0':(a.size==0)=false:=by rw[Af];omega
 clear hR hs h hslim hsub hfl hts hlast ht1 ht2 ht3 hfit hS hT hST hSs hor hL hM C1 C2 C3 C4 C5
 go_enter Tryz.func9,Tryz.ntmps9
 go_wp2_with fail
 refine L1.out.mono ?_
 rintro e V1 ⟨v1,rfl,ht1,hb1⟩
 obtain⟨g,cp,rfl,hcp,hgB⟩:=ht1.form (by rw[Ex.flat_len];exact hap)
 have hz1:=ht1.z sO HSL.out
 rw[HL.out] at hz1
 rw[Ex.flat_len] at hz1 hcp ⊢
 obtain⟨W1,hW1⟩:∃W,V1.alloc (.cells #[.int .i64 0,.int .i64 0] 33)=W:=⟨_,rfl⟩
 have hb1':Below V1.heap.size V1 W1:=by rw[←hW1];exact(Below.refl _ V1).alloc (Ak _) _
 have HZ1:=Ao (hz1.below hb1')
 have HB1:=Ao (hb1.trans (hb1'.mono hb1.size))
 have L2:=Ao (D2.out W1 _ HB1.out HZ1.out)
 clear hz1 hb1 hb1' L1 ht1 hgB
 subst hW1
 go_wp2_with fail
 refine L2.out.mono ?_
 rintro e V2 ⟨rfl,hb2⟩
 have HZ2:=Ao (HZ1.out.below hb2)
 have HB2:=Ao (HB1.out.trans (hb2.mono HB1.out.size))
 have L3:=Ao (D3.out V2 g cp HZ2.out hcp)
 clear hb2 L2 HZ1 HB1
 go_wp2_with fail
 refine L3.out.mono ?_
 rintro e V3 ⟨oa,oc,rfl,hz3,hb3⟩
 have HZ3:=Ao hz3
 have HB3:=Ao (HB2.out.trans (hb3.mono HB2.out.size))
 have L4:=Ao (D4.out V3 _ HB3.out HZ3.out)
 clear hz3 hb3 L3 HZ2 HB2
 go_wp2_with fail
 refine L4.out.mono ?_
 rintro e V4 ⟨rfl,hb4⟩
 have HZ4:=Ao (HZ3.out.below hb4)
 have HB4:=Ao (HB3.out.trans (hb4.mono HB3.out.size))
 obtain⟨ml,hml⟩:=(HR.out.below HB4.out).ml
 have L5:=Tryz.strings_Contains S T ml V4 HSs.out hml
 have L5:=Ao L5
 clear hb4 L4 HZ3 HB3 hml
 go_wp2_with fail
 refine L5.out.mono ?_
 rintro e V5 ⟨rfl,rfl⟩
 rw[HST.out]
 have L6:=Ao (D5.out V5 _ HB4.out HZ4.out)
 clear L5
 go_wp2_with fail
 refine L6.out.mono ?_
 rintro e V6 ⟨rfl,hb6⟩
 have HB6:=Ao (HB4.out.trans (hb6.mono HB4.out.size))
 have Hkn:=Ao (Ep V6 (HR.out.below HB6.out))
 clear hb6 L6 HZ4 HB4
 by_cases hlt:j<a.size - 1
 ·have k1:decide ((j:Int)<(a.size:Int) - 1)=true:=Am rA
  go_wp2_with fail
  refine Hkn.out.mono ?_
  rintro e V9 ⟨rfl,hb9⟩
  have HB9:=Ao (HB6.out.trans (hb9.mono HB6.out.size))
  exact zzj
 ·have k1:decide ((j:Int)<(a.size:Int) - 1)=false:=An rA
  have k2:(S.toList==T.toList)=true:=by rw[Hor.out.resolve_left hlt];exact beq_self_eq_true _
  go_wp2_with fail
  refine Hkn.out.mono ?_
  rintro e V9 ⟨rfl,hb9⟩
  have HB9:=Ao (HB6.out.trans (hb9.mono HB6.out.size))
  exact zzj
theorem Xv (s:ByteArray)(kk:Int)(w:World)(hR:Rd w):Calls Tryz.prog 9 #[.string s,.int .i64 kk] w fun e w'=>e= .returned (.bool true)/\Below w.heap.size w w':=by
 by_cases hs:s.size<=600
 ·cases h:Bn (dl s) with
  |ok a=>exact iR s kk w hR hs h
  |error p=>
   obtain⟨⟨px,py⟩,pe⟩:=p
   have hpe:=Ii h
   have L6:=Ao (Ji w rA hR h)
   have j1:(pe !=0)=true:=by simpa using hpe
   have j2:(pe==0)=false:=by simpa using hpe
   have i1:decide ((600:Int)<(s.size:Int))=false:=by simp;omega
   have HR:=Ao hR
   simp only[zOf,pOf] at L6
   clear h hpe hs hR
   go_enter Tryz.func9,Tryz.ntmps9
   go_wp2_with fail
   refine L6.out.mono ?_
   rintro e V7 ⟨a7,k7,c7,rfl,hz7,hb7⟩
   have hb8:=hb7.alloc hb7.size (.cells #[.int .i64 px,.int .i64 py] 33)
   have HB7:=Ao hb8
   have Hkn:=Ao (Ep _ (HR.out.below HB7.out))
   clear hz7 hb7 hb8 L6
   go_wp2_with fail
   refine Hkn.out.mono ?_
   rintro e V9 ⟨rfl,hb9⟩
   have HB9:=Ao (HB7.out.trans (hb9.mono HB7.out.size))
   exact zzj
 ·have Hkn:=Ao (Ep w hR)
  have i1:decide ((600:Int)<(s.size:Int))=true:=by simp;omega
  clear hR hs
  go_enter Tryz.func9,Tryz.ntmps9
  go_wp2_with fail
  refine Hkn.out.mono ?_
  rintro e V9 ⟨rfl,hb9⟩
  have HB9:=Ao hb9
  exact zzj
end Go.Proofs.YtgfakdobajgnfaaGreatDoor
