/- Ahead21 -/
import Derived.Test.YthhijgcfbjcgiaaGreatDoorS42
import Derived.Test.YthhijgcfbjcgiaaGreatDoorS46
namespace Go.Proofs.YthhijgcfbjcgiaaGreatDoor
open Go Go.RowKit
attribute [local go_sem] Oper.semAt_some
open Go.Lib renaming hid→zAA
open Nat renaming le_refl→zAB
open List renaming length_append→zAC,mem_singleton→zAD,map_singleton→zAE
open Go.IntKind renaming wrap_i64→zAF,i64→zAG
set_option maxRecDepth 100000 in
theorem vH (A:Option Addr) (n c:Nat) (l:List UInt8) (w:World) (hr:Sl w A (l.map af)) (hn:l.length=n) (hsz:n≤2 ^ 40):
  Calls Tryz.prog 27 #[.slice A n c] w (EQ l w):=by
 have Hn:=zAA hn
 clear hn
 have ho0:(w.alloc (.cells #[] 5)).ownsRow w.heap.size 5 1 (.slice (some ⟨w.heap.size,0,none⟩) 0 0) 0 []:=World.ownsRow_lit w #[] 0 (zAB _) (by decide) rfl
 have hr0:=hr.alloc (.cells #[] 5)
 have Ho0:=zAA ho0;have Hr0:=zAA hr0;clear ho0 hr0
 go_enter Tryz.func27,Tryz.ntmps27
 go_wp2_with (at_builtin;refine dK jn rfl rfl rfl Ho0.out rfl (by simp [Hn.out]) Hr0.out (mD _) (by omega) (by simp) ?_;intro v1 w1 ho1 hg1 _;rw [Nat.zero_add,List.nil_append] at ho1;have Ho1:=zAA ho1;have Hg1:=zAA hg1;clear ho1 hg1)
 obtain ⟨A2,c2,hv⟩:=bj Ho1.out
 subst hv
 go_ret
 exact ⟨⟨A2,c2,by rw [Hn.out];rfl,by rw [Hn.out];exact Ho1.out⟩,kt ((Below.refl w.heap.size w).alloc (zAB _) (.cells #[] 5)) Ho0.out Hg1.out (by simp) (zAB _)⟩
theorem FV {s:cS}:4≤(fi [s]).length:=by
 unfold fi
 rw [ct,bu,bu,List.append_nil]
 unfold dC jE
 have h1:=iq s.hd.sp
 simp only [zAC,cP,aJ]
 omega
theorem Df {M l:List UInt8} {i:Nat} (hM:4≤M.length) (hi:i<8*l.length):i+20≤8*(l++M).length:=by rw [zAC];omega
set_option maxRecDepth 100000 in
set_option maxHeartbeats 16000000 in
theorem zc (s:bh) (A:Option Addr) (n c:Nat) (l:List UInt8) (w:World) (hat:ek w s) (hL:rc s) (hA:Sl w A (l.map af)) (hn:l.length=n) (hT:Tz w) (hTs:Ts w):
  Calls Tryz.prog 7 #[eE s,.slice A n c] w fun e w'=>e= .returned (.bool true)∧Below w.heap.size w w':=by
 have HN:=zAA hn;have HAT:=zAA hat;have HL:=zAA hL;have HT:=zAA hT;have HS:=zAA hTs;have HA:=zAA hA
 unfold eE
 obtain ⟨g,hg⟩:∃g,w.heap.size=g:=⟨_,rfl⟩
 have hb0:Below w.heap.size w (w.alloc (.cells (ci s).toArray 35)):=(Below.refl _ _).alloc (zAB _) _
 have hc0:ab (w.alloc (.cells (ci s).toArray 35)) g 35 #[.int .i64 s.tm,.int .i64 s.ty,.slice s.sA s.sp.length s.sc,.slice s.A s.gs.length s.c]:=aD (ab.new _ _ _) hg
 have B0:=zAA hb0;have K0:=zAA hc0
 clear hn hat hL hT hTs hA hb0 hc0
 go_enter Tryz.func7,Tryz.ntmps7
 go_wp2_with fail
 refine (iT _ (HT.out.below B0.out) (HS.out.below B0.out)).mono ?_
 rintro e w1 ⟨rfl,hb⟩
 have B1:=zAA (B0.out.trans (hb.mono B0.out.size));have K1:=zAA (K0.out.below hb K0.out.lt)
 have y:=K1.out
 have y0:=y.cell 0;have y1:=y.cell 1;have y2:=y.cell 2;have y3:=y.cell 3
 (try dsimp only at y0 y1 y2 y3)
 clear hb B0 K0 y hg
 go_wp2_with fail
 have hb2:=B1.out.alloc B1.out.size (.cells (ci s).toArray 35)
 refine (si [s] _ 1 1 _ rfl (jf (HAT.out.below B1.out)) (iG HL.out)).mono ?_
 rintro e w2 ⟨⟨b,rfl,hlong⟩,hb⟩
 have B2:=zAA (hb2.trans (hb.mono hb2.size));have HLONG:=zAA hlong
 have K2:=zAA ((K1.out.alloc (.cells (ci s).toArray 35)).below hb (K1.out.alloc _).lt)
 clear hb hlong B1 K1 hb2 y0 y1 y2 y3
 cases b with
 |true=>
  go_wp2_with fail
  go_ret
  exact ⟨rfl,B2.out⟩
 |false=>
 cases h40:decide ((40:Int)<(n:Int)) with
 |true=>
  go_wp2_with fail
  go_ret
  exact ⟨rfl,B2.out⟩
 |false=>
 have HSS:=zAA (HLONG.out rfl (by decide) s (zAD.2 rfl));have H40:=zAA (show n≤40 by simp at h40;omega)
 have y:=K2.out
 have y0:=y.cell 0;have y1:=y.cell 1;have y2:=y.cell 2;have y3:=y.cell 3
 (try dsimp only at y0 y1 y2 y3)
 clear HLONG y
 have SH2:=zAA (jf (HAT.out.below B2.out))
 have B3:=zAA (B2.out.alloc B2.out.size (.cells (ci s).toArray 35));have K3:=zAA (K2.out.alloc (.cells (ci s).toArray 35))
 cases hok:bX s.s with
 |false=>
  have HOK:=zAA hok
  clear hok
  go_wp2_with fail
  refine (kM [s] _ 1 1 _ rfl SH2.out (iG HSS.out) (HT.out.below B3.out) (HS.out.below B3.out) (iI (by simp)) ⟨_,zAD.2 rfl,HOK.out⟩ (by decide)).mono ?_
  rintro e w4 ⟨rfl,hb⟩
  have B4:=zAA (B3.out.trans (hb.mono B3.out.size));have K4:=zAA (K3.out.below hb K3.out.lt)
  have z:=K4.out
  have z0:=z.cell 0;have z1:=z.cell 1;have z2:=z.cell 2;have z3:=z.cell 3
  (try dsimp only at z0 z1 z2 z3)
  clear hb B3 K3 y0 y1 y2 y3 z
  have CK:=fj s w4 (HAT.out.below B4.out) HSS.out
  rw [HOK.out] at CK
  simp only [Bool.false_eq_true,if_false] at CK
  unfold eE at CK
  have HCK:=zAA CK
  clear CK
  go_wp2_with (go_at_call 15;refine HCK.out.mono ?_;rintro e w5 ⟨rfl,hb⟩;have B5:=zAA (B4.out.trans (hb.mono B4.out.size));clear hb)
  go_ret
  exact ⟨rfl,B5.out⟩
 |true=>
  have HOK:=zAA hok
  clear hok
  go_wp2_with fail
  refine (ir [s] _ 1 1 _ rfl SH2.out (iG HSS.out) (HT.out.below B3.out) (HS.out.below B3.out) (iI (by simp)) (iG HOK.out) (by decide)).mono ?_
  rintro e w4 ⟨⟨A4,c4,rfl,ho⟩,hb⟩
  rw [zAE] at ho⊢
  have HP4:=zAA (@FV s.s)
  have hah:= @yk s.s HOK.out l
  have hml:(fi [s.s]).length≤2097152:=by
   have h1:=iI (ss:=[s]) (by simp) 1 (fun t ht=>by rw [zAD.1 ht];exact HOK.out)
   rw [List.take_of_length_le (by simp),zAE] at h1
   unfold fi
   rw [ct]
   omega
  generalize fi [s.s]=M at ho HP4 hah hml⊢
  obtain ⟨mn,hmn⟩:∃mn,M.length=mn:=⟨_,rfl⟩
  rw [hmn] at ho hml⊢
  have HMN:=zAA hmn;have HAH:=zAA hah;have HML:=zAA hml
  have H4:=zAA (dB ho);have B4:=zAA (B3.out.trans (hb.mono B3.out.size));have K4:=zAA (K3.out.below hb K3.out.lt)
  have hm4:¬((mn:Int)<4):=by have:=HP4.out;omega
  clear hb ho hmn hah hml B3 K3 y0 y1 y2 y3
  go_wp2_with fail
  refine (vH A n c l w4 (HA.out.below B4.out) HN.out (by have:=H40.out;omega)).mono ?_
  rintro e w5 ⟨⟨A5,c5,rfl,ho⟩,hb⟩
  have HO5:=zAA ho;have B5:=zAA (B4.out.trans (hb.mono B4.out.size));have K5:=zAA (K4.out.below hb K4.out.lt);have H5:=zAA (H4.out.below hb);have HB5:=zAA hb
  rw [HN.out] at HO5⊢
  clear ho hb hm4
  go_wp2_with (at_builtin;refine dK jn rfl rfl rfl HO5.out rfl (m:=mn) (news:=M.map af) (by rw [List.length_map,HMN.out];omega) H5.out (mD _) (by have:=HML.out;have:=H40.out;omega) HB5.out.size ?_;intro v6 w6 ho6 hg6 _;have HO6:=zAA ho6;have HG6:=zAA hg6;clear ho6 hg6)
  have hb6:Below w.heap.size w w6:=kt B5.out HO5.out HG6.out B5.out.size B4.out.size
  have hk6:=K5.out.grown HG6.out (bg HO5.out K5.out (by decide))
  have B6:=zAA hb6;have K6:=zAA hk6
  obtain ⟨A6,c6,hv⟩:=bj HO6.out
  subst hv
  have h6:=dB HO6.out
  rw [←List.map_append] at h6
  have H6:=zAA h6
  have hl6:(l++M).length=n+mn:=by rw [zAC,HN.out,HMN.out]
  have HL6:=zAA hl6
  have hw8:zAG.wrap (8*(n:Int))=8*(n:Int):=by have:=H40.out;rw [zAF];omega
  clear hb6 hk6 h6 hl6 HO5 HG6 HO6 B5 K5 H5 HB5
  go_loopg [9] (8*n) (fun gk i=>fun wr=>∃(j:Nat),j+gk=8*n∧i= .int .i64 (j:Int)∧wr=w6∧Hid (∀k,k<j→dx (l++M) k=false))
  case atStart=>exact ⟨0,by omega,rfl,rfl,zAA (fun k hk=>by omega)⟩
  case round=>
   obtain ⟨j,hj,rfl,rfl,HJ⟩:=hrel
   cases gk with
   |zero=>
    have hlt:¬((j:Int)<8*(n:Int)):=by omega
    have hpar:aZ (l++M)=([s].map (·.s),0):=HAH.out (fun k hk=>HJ.out k (by rw [HN.out] at hk;omega))
    have HPAR:=zAA hpar
    have y:=K6.out
    have y0:=y.cell 0;have y1:=y.cell 1;have y2:=y.cell 2;have y3:=y.cell 3
    (try dsimp only at y0 y1 y2 y3)
    clear hj hpar y
    go_wp2_with fail
    have SH7:=jf (HAT.out.below B6.out)
    have hb7:Below wr.heap.size wr (wr.alloc (.cells (ci s).toArray 35)):=(Below.refl _ _).alloc (zAB _) _
    have B7:=zAA (B6.out.trans (hb7.mono B6.out.size))
    refine (ij A6 (n+mn) c6 (l++M) 0 _ 1 1 [s] _ (fun W hb=>⟨HT.out.below (B7.out.trans (hb.mono B7.out.size)),HS.out.below (B7.out.trans (hb.mono B7.out.size)),(H6.out.below hb7).below hb⟩) HL6.out (by have:=HML.out;have:=H40.out;omega) rfl SH7 (iG HSS.out) HPAR.out).mono ?_
    rintro e w8 ⟨rfl,hb⟩
    have B8:=zAA (B7.out.trans (hb.mono B7.out.size))
    clear hb hb7 SH7
    go_wp2_with fail
    go_ret
    exact ⟨rfl,B8.out⟩
   |succ g2=>
    have hlt:((j:Int)<8*(n:Int)):=by omega
    have hw1:zAG.wrap ((j:Int)+1)=(j:Int)+1:=by have:=H40.out;rw [zAF];omega
    have hlow:=Df (M:=M) (l:=l) (i:=j) HP4.out (by rw [HN.out];omega)
    rw [HL6.out] at hlow
    have CS:=xo A6 (n+mn) c6 (l++M) j wr H6.out HL6.out (by have:=HML.out;have:=H40.out;omega) hlow
    obtain ⟨bb,hbb⟩:∃bb,dx (l++M) j=bb:=⟨_,rfl⟩
    rw [hbb] at CS
    have HCS:=zAA CS;have HBB:=zAA hbb;have HJJ:=zAA hj
    clear CS hbb hj hlow
    cases bb with
    |true=>
     go_wp2_with (go_at_call 28;refine HCS.out.mono ?_;rintro e w8 ⟨rfl,rfl⟩)
     go_ret
     exact ⟨rfl,B6.out⟩
    |false=>
     go_wp2_with (go_at_call 28;refine HCS.out.mono ?_;rintro e w8 ⟨rfl,rfl⟩)
     go_roundg g2
     case measure=>omega
     case rel=>
      refine ⟨j+1,by have:=HJJ.out;omega,rfl,rfl,zAA fun k hk=>?_⟩
      rcases Nat.lt_or_ge k j with h1|h1
      ·exact HJ.out k h1
      ·obtain rfl:k=j:=by omega
       exact HBB.out
end Go.Proofs.YthhijgcfbjcgiaaGreatDoor
