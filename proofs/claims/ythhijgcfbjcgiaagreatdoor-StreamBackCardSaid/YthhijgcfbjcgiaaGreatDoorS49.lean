/- Back21 -/
import Derived.Test.YthhijgcfbjcgiaaGreatDoorS42
import Derived.Test.YthhijgcfbjcgiaaGreatDoorS46
import Derived.Test.YthhijgcfbjcgiaaGreatDoorS47
import Derived.Test.YthhijgcfbjcgiaaGreatDoorS48
namespace Go.Proofs.YthhijgcfbjcgiaaGreatDoor
open Go Go.RowKit
attribute [local go_sem] Oper.semAt_some
open Go.Lib renaming hid→zAA
open List renaming replicate→zAB,getElem_mem→zAD
open Go.IntKind renaming wrap_i64→zAC,i64→zAE
set_option maxRecDepth 100000 in
set_option maxHeartbeats 16000000 in
theorem B9 (ss:List bh) (A:Option Addr) (n c:Nat) (behind:Int) (w:World) (hn:ss.length=n) (hat:dR w A ss) (hL:∀s∈ss,rc s) (hT:Tz w) (hTs:Ts w) (_hl: -9223372036854775808≤behind∧behind≤9223372036854775807):
  Calls Tryz.prog 6 #[.slice A n c,.int .i64 behind] w fun e w'=>e= .returned (.bool true)∧Below w.heap.size w w':=by
 have HN:=zAA hn;have HAT:=zAA hat;have HL:=zAA hL;have HT:=zAA hT;have HS:=zAA hTs
 have HP:=zAA (fun W=>xk behind 41 W (by decide) (by decide))
 obtain ⟨pk,hpk⟩:∃pk:Nat,behind % 41=(pk:Int):=⟨(behind % 41).toNat,by omega⟩
 have hpk41:pk≤40:=by omega
 rw [hpk] at HP
 have HPK:=zAA hpk41
 clear hn hat hL hT hTs hpk hpk41
 go_enter Tryz.func6,Tryz.ntmps6
 go_wp2_with fail
 refine (iT _ HT.out HS.out).mono ?_
 rintro e w1 ⟨rfl,hb⟩
 have B1:=zAA hb
 clear hb
 go_wp2_with fail
 refine (si ss A n c _ HN.out ⟨HAT.out.row.below B1.out,fun s hs=>(HAT.out.sh s hs).below B1.out⟩ HL.out).mono ?_
 rintro e w2 ⟨⟨b,rfl,hlong⟩,hb⟩
 have B2:=zAA (B1.out.trans (hb.mono B1.out.size));have HLONG:=zAA hlong
 clear hb hlong B1
 cases b with
 |true=>
  go_wp2_with fail
  go_ret
  exact ⟨rfl,B2.out⟩
 |false=>
 cases h4:decide ((4:Int)<(n:Int)) with
 |true=>
  go_wp2_with fail
  go_ret
  exact ⟨rfl,B2.out⟩
 |false=>
 have hn4:n≤4:=by simp at h4;omega
 have HSS:=zAA (HLONG.out rfl hn4);have H4:=zAA hn4
 have AT2:=zAA (show dR w2 A ss from ⟨HAT.out.row.below B2.out,fun s hs=>(HAT.out.sh s hs).below B2.out⟩)
 clear HLONG hn4
 by_cases hall:∀s∈ss,bX s.s=true
 ·have HALL:=zAA hall
  clear hall
  go_wp2_with fail
  refine (ir ss A n c _ HN.out AT2.out HSS.out (HT.out.below B2.out) (HS.out.below B2.out) (iI (by rw [HN.out];exact H4.out)) HALL.out (by have:=H4.out;omega)).mono ?_
  rintro e w3 ⟨⟨A3,c3,rfl,ho⟩,hb⟩
  obtain ⟨M,hM⟩:∃M,fi (ss.map (·.s))=M:=⟨_,rfl⟩
  rw [hM] at ho⊢
  have HM:=zAA hM
  obtain ⟨mn,hmn⟩:∃mn,M.length=mn:=⟨_,rfl⟩
  rw [hmn] at ho⊢
  have HMN:=zAA hmn
  have HO3:=zAA ho;have B3:=zAA (B2.out.trans (hb.mono B2.out.size));have W23:=zAA hb.size;have WSZ:=zAA B2.out.size
  clear ho hb hM hmn AT2 B2 h4
  go_wp2_with fail
  go_loopg [8] n (fun gk i=>fun wr=>∃(j:Nat),j+gk=n∧i= .int .i64 (j:Int)∧Hid (Below w3.heap.size w3 wr))
  case atStart=>exact ⟨0,by omega,rfl,zAA (Below.refl _ _)⟩
  case round=>
   obtain ⟨j,hj,rfl,HB⟩:=hrel
   have BW:=zAA (B3.out.trans (HB.out.mono B3.out.size))
   cases gk with
   |zero=>
    have hlt:¬((j:Int)<(n:Int)):=by omega
    clear hj
    have HOR:=zAA (cG HO3.out HB.out (Nat.le_refl _))
    have HBS:=zAA (Nat.le_trans W23.out HB.out.size)
    have hlen:mn≤2097152:=by
     have h1:=iI (ss:=ss) (by rw [HN.out];exact H4.out) ss.length (fun s hs=>HALL.out s (List.mem_of_mem_take hs))
     rw [List.take_length] at h1
     rw [←HMN.out,←HM.out]
     unfold fi
     rw [ct]
     omega
    have HLEN:=zAA hlen
    clear hlen
    go_wp2_with (first|(go_at_call 26;refine (HP.out _).mono ?_;rintro e w4 ⟨rfl,rfl⟩)|(at_builtin;refine Ad (k:=pk) (bytes:=1) (x:= .int .u8 0) Tryz.underlying25 Tryz.underlying3 (by kernel_rfl) rfl rfl (by decide) rfl rfl rfl HOR.out rfl (by have:=HLEN.out;have:=HPK.out;omega) HBS.out ?_;intro v5 w5 ho5 hg5;have HO5:=zAA ho5;have HG5:=zAA hg5;clear ho5 hg5))
    have hw2:w.heap.size≤w2.heap.size:=WSZ.out
    have hb5:Below w.heap.size w w5:=kt BW.out HOR.out HG5.out BW.out.size hw2
    have B5:=zAA hb5
    obtain ⟨A5,c5,hv⟩:=bj HO5.out
    subst hv
    have h5:=dB HO5.out
    rw [show zAB pk (Value.int .u8 0)=(zAB pk (0:UInt8)).map af by rw [List.map_replicate];rfl,←List.map_append] at h5
    have H5:=zAA h5
    have hl5:(M++zAB pk 0).length=mn+pk:=by rw [List.length_append,List.length_replicate,HMN.out]
    have hpar:aZ (M++zAB pk 0)=(ss.map (·.s),0):=by rw [←HM.out];exact qU (fun s hs=>by obtain ⟨t,ht,rfl⟩:=List.mem_map.1 hs;exact HALL.out t ht) pk
    have HL5:=zAA hl5;have HPAR:=zAA hpar
    clear hb5 h5 hl5 hpar hw2 HG5 HO5
    refine (ij A5 (mn+pk) c5 (M++zAB pk 0) 0 A n c ss w5 (fun W hb=>⟨HT.out.below (B5.out.trans (hb.mono B5.out.size)),HS.out.below (B5.out.trans (hb.mono B5.out.size)),H5.out.below hb⟩) HL5.out (by have:=HLEN.out;have:=HPK.out;omega) HN.out ⟨HAT.out.row.below B5.out,fun s hs=>(HAT.out.sh s hs).below B5.out⟩ HSS.out HPAR.out).mono ?_
    rintro e w6 ⟨rfl,hb⟩
    have B6:=zAA (B5.out.trans (hb.mono B5.out.size))
    clear hb
    go_wp2_with fail
    go_ret
    exact ⟨rfl,B6.out⟩
   |succ g=>
    have hlt:((j:Int)<(n:Int)):=by omega
    have hltz:¬((j:Int)<0):=by omega
    have hjl:j<ss.length:=by rw [HN.out];omega
    have hw1:zAE.wrap ((j:Int)+1)=(j:Int)+1:=by have:=H4.out;rw [zAC];omega
    obtain ⟨ad,rfl,_,c0,c1,c2,c3'⟩:=iU (HAT.out.row.below BW.out) j hjl
    have hmem:=zAD hjl
    obtain ⟨S,hSS⟩:∃S,ss[j]=S:=⟨_,rfl⟩
    rw [hSS] at hmem c0 c1 c2 c3'
    have CK:=fj S wr ((HAT.out.sh _ hmem).below BW.out) (HSS.out _ hmem)
    rw [HALL.out _ hmem] at CK
    simp only [if_true] at CK
    unfold eE at CK
    have HCK:=zAA CK;have HJ:=zAA hj
    clear CK hmem hSS hjl hj
    go_wp2_with (go_at_call 15;refine HCK.out.mono ?_;rintro e w4 ⟨rfl,hb⟩;have HB4:=zAA (HB.out.trans (hb.mono HB.out.size));clear hb)
    go_roundg g
    case measure=>omega
    case rel=>exact ⟨j+1,by have:=HJ.out;omega,rfl,HB4⟩
 ·have hbad:∃s∈ss,bX s.s=false:=by
   refine Classical.byContradiction fun h=>hall fun s hs=>?_
   cases hc:bX s.s with
   |true=>rfl
   |false=>exact absurd ⟨s,hs,hc⟩ h
  have HBAD:=zAA hbad
  clear hall hbad
  go_wp2_with fail
  refine (kM ss A n c _ HN.out AT2.out HSS.out (HT.out.below B2.out) (HS.out.below B2.out) (iI (by rw [HN.out];exact H4.out)) HBAD.out (by have:=H4.out;omega)).mono ?_
  rintro e w3 ⟨rfl,hb⟩
  have B3:=zAA (B2.out.trans (hb.mono B2.out.size))
  clear hb AT2 B2 h4
  go_wp2_with fail
  go_loopg [8] n (fun gk i=>fun wr=>∃(j:Nat),j+gk=n∧i= .int .i64 (j:Int)∧Hid (Below w.heap.size w wr)∧Hid (∀k (hk:k<ss.length),k<j→bX ss[k].s=true))
  case atStart=>exact ⟨0,by omega,rfl,B3,zAA (fun k hk h=>by omega)⟩
  case round=>
   obtain ⟨j,hj,rfl,BW,HQ⟩:=hrel
   cases gk with
   |zero=>
    exfalso
    obtain ⟨s,hs,hc⟩:=HBAD.out
    rw [qg (P:=fun s=>bX s.s=true) HQ.out (by rw [HN.out];omega) s hs] at hc
    cases hc
   |succ g=>
    have hlt:((j:Int)<(n:Int)):=by omega
    have hltz:¬((j:Int)<0):=by omega
    have hjl:j<ss.length:=by rw [HN.out];omega
    have hw1:zAE.wrap ((j:Int)+1)=(j:Int)+1:=by have:=H4.out;rw [zAC];omega
    obtain ⟨ad,rfl,_,c0,c1,c2,c3'⟩:=iU (HAT.out.row.below BW.out) j hjl
    have hmem:=zAD hjl
    have HNX:=zAA (fun h=>nM (P:=fun s:bh=>bX s.s=true) HQ.out hjl h)
    obtain ⟨S,hSS⟩:∃S,ss[j]=S:=⟨_,rfl⟩
    rw [hSS] at hmem c0 c1 c2 c3' HNX
    have CK:=fj S wr ((HAT.out.sh _ hmem).below BW.out) (HSS.out _ hmem)
    obtain ⟨ok,hok⟩:∃ok,bX S.s=ok:=⟨_,rfl⟩
    rw [hok] at CK HNX
    have HJ:=zAA hj
    unfold eE at CK
    cases ok with
    |true=>
     simp only [if_true] at CK
     have HCK:=zAA CK
     have HN2:=zAA (HNX.out rfl)
     clear CK hmem hSS hjl hj hok
     go_wp2_with (go_at_call 15;refine HCK.out.mono ?_;rintro e w4 ⟨rfl,hb⟩;have HB4:=zAA (BW.out.trans (hb.mono BW.out.size));clear hb)
     go_roundg g
     case measure=>omega
     case rel=>exact ⟨j+1,by have:=HJ.out;omega,rfl,HB4,HN2⟩
    |false=>
     simp only [Bool.false_eq_true,if_false] at CK
     have HCK:=zAA CK
     clear CK hmem hSS hjl hj hok
     go_wp2_with (go_at_call 15;refine HCK.out.mono ?_;rintro e w4 ⟨rfl,hb⟩;have HB4:=zAA (BW.out.trans (hb.mono BW.out.size));clear hb)
     go_ret
     exact ⟨rfl,HB4.out⟩
end Go.Proofs.YthhijgcfbjcgiaaGreatDoor
