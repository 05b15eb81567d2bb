/- Again21 -/
import Derived.Test.YthhijgcfbjcgiaaGreatDoorS42
namespace Go.Proofs.YthhijgcfbjcgiaaGreatDoor
open Go Go.RowKit
attribute [local go_sem] Oper.semAt_some
open Go.Lib renaming hid→zAA
theorem H8 {ss:List bh} {m:Nat} (h:(bu (ss.map (·.s))).length≤m) (hm:m≤16777216) (j:Nat) (_:∀s∈ss.take j,bX s.s=true):(bu ((ss.take j).map (·.s))).length≤16777216:=by
 have h1:ss.map (·.s)=(ss.take j).map (·.s)++(ss.drop j).map (·.s):=by rw [←List.map_append,List.take_append_drop]
 rw [h1,oH,List.length_append] at h
 omega
set_option maxRecDepth 100000 in
set_option maxHeartbeats 16000000 in
theorem zb (A:Option Addr) (n c:Nat) (l:List UInt8) (w:World) (hA:Sl w A (l.map af)) (hn:l.length=n) (hT:Tz w) (hTs:Ts w):
  Calls Tryz.prog 9 #[.slice A n c] w fun e w'=>e= .returned (.bool true)∧Below w.heap.size w w':=by
 have HN:=zAA hn;have HA:=zAA hA;have HT:=zAA hT;have HS:=zAA hTs
 clear hn hA hT hTs
 go_enter Tryz.func9,Tryz.ntmps9
 go_wp2_with fail
 refine (iT _ HT.out HS.out).mono ?_
 rintro e w1 ⟨rfl,hb⟩
 have B1:=zAA hb
 clear hb
 cases h1000:decide ((1000:Int)<(n:Int)) with
 |true=>
  go_wp2_with fail
  go_ret
  exact ⟨rfl,B1.out⟩
 |false=>
 have HK:=zAA (show n≤1000 by simp at h1000;omega)
 go_wp2_with fail
 refine (oZ A n c l w1 (fun W hb=>⟨HT.out.below (B1.out.trans (hb.mono B1.out.size)),HS.out.below (B1.out.trans (hb.mono B1.out.size)),HA.out.below (B1.out.trans (hb.mono B1.out.size))⟩) HN.out (by have:=HK.out;omega)).mono ?_
 rintro e w2 ⟨A2,c2,ss,rfl,hss,hat,hS,hck,hb⟩
 have B2:=zAA (B1.out.trans (hb.mono B1.out.size));have AT2:=zAA hat;have HSS:=zAA hS;have HCK:=zAA hck
 have hlen:(bu (ss.map (·.s))).length≤8000:=by
  have h1:=(it l).2
  rw [←hss,HN.out] at h1
  have:=HK.out
  omega
 have HLEN:=zAA hlen
 obtain ⟨er,her⟩:∃er,(aZ l).2=er:=⟨_,rfl⟩
 rw [her]
 obtain ⟨k,hk⟩:∃k,ss.length=k:=⟨_,rfl⟩
 rw [hk]
 have HKK:=zAA hk
 clear hss hat hS hck hb hlen her hk B1 h1000
 cases h100:decide ((100:Int)<(k:Int)) with
 |true=>
  go_wp2_with fail
  go_ret
  exact ⟨rfl,B2.out⟩
 |false=>
 have HK100:=zAA (show k≤100 by simp at h100;omega)
 go_wp2_with fail
 go_loopg [6] k (fun gk i=>fun wr=>∃(j:Nat),j+gk=k∧i= .int .i64 (j:Int)∧Hid (Below w2.heap.size w2 wr))
 case atStart=>exact ⟨0,by omega,rfl,zAA (Below.refl _ _)⟩
 case round=>
  obtain ⟨j,hj,rfl,HB⟩:=hrel
  have BW:=zAA (B2.out.trans (HB.out.mono B2.out.size));have ATW:=zAA (AT2.out.below HB.out)
  cases gk with
  |zero=>
   have hlt:¬((j:Int)<(k:Int)):=by omega
   clear hj
   go_wp2_with fail
   refine (ir ss A2 k c2 _ HKK.out ATW.out HSS.out (HT.out.below BW.out) (HS.out.below BW.out) (H8 HLEN.out (by decide)) HCK.out HK100.out).mono ?_
   rintro e w3 ⟨⟨A3,c3,rfl,ho⟩,hb⟩
   obtain ⟨M,hM⟩:∃M,fi (ss.map (·.s))=M:=⟨_,rfl⟩
   have hpar:aZ M=(ss.map (·.s),0):=by
    have h:=qU (ss:=ss.map (·.s)) (fun s hs=>by obtain ⟨t,ht,rfl⟩:=List.mem_map.1 hs;exact HCK.out t ht) 0
    rw [List.replicate_zero,List.append_nil,hM] at h
    exact h
   have hml:M.length≤2 ^ 40:=by
    rw [←hM]
    unfold fi
    rw [ct]
    have:=HLEN.out
    omega
   rw [hM] at ho⊢
   obtain ⟨mn,hmn⟩:∃mn,M.length=mn:=⟨_,rfl⟩
   rw [hmn] at ho hml⊢
   have HMN:=zAA hmn;have HML:=zAA hml;have HPAR:=zAA hpar
   have B3:=zAA (BW.out.trans (hb.mono BW.out.size));have AT3:=zAA (ATW.out.below hb);have H3:=zAA (dB ho)
   clear hb ho hM hmn hml hpar
   go_wp2_with fail
   refine (ij A3 mn c3 M 0 A2 k c2 ss w3 (fun W hb=>⟨HT.out.below (B3.out.trans (hb.mono B3.out.size)),HS.out.below (B3.out.trans (hb.mono B3.out.size)),H3.out.below hb⟩) HMN.out HML.out HKK.out AT3.out HSS.out HPAR.out).mono ?_
   rintro e w4 ⟨rfl,hb⟩
   have B4:=zAA (B3.out.trans (hb.mono B3.out.size))
   clear hb
   go_wp2_with fail
   go_ret
   exact ⟨rfl,B4.out⟩
  |succ g=>
   have hlt:((j:Int)<(k:Int)):=by omega
   have hltz:¬((j:Int)<0):=by omega
   have hjl:j<ss.length:=by rw [HKK.out];omega
   have hw1:IntKind.i64.wrap ((j:Int)+1)=(j:Int)+1:=by have:=HK100.out;rw [IntKind.wrap_i64];omega
   obtain ⟨ad,rfl,_,c0,c1,c2',c3'⟩:=iU ATW.out.row j hjl
   have hmem:=List.getElem_mem hjl
   obtain ⟨S,hSS⟩:∃S,ss[j]=S:=⟨_,rfl⟩
   rw [hSS] at hmem c0 c1 c2' c3'
   have CK:=fj S wr (ATW.out.sh _ hmem) (HSS.out _ hmem)
   rw [HCK.out _ hmem] at CK
   simp only [if_true] at CK
   unfold eE at CK
   have HCC:=zAA CK;have HJ:=zAA hj
   clear CK hmem hSS hjl hj
   go_wp2_with (go_at_call 15;refine HCC.out.mono ?_;rintro e w4 ⟨rfl,hb⟩;have HB4:=zAA (HB.out.trans (hb.mono HB.out.size));clear hb)
   go_roundg g
   case measure=>omega
   case rel=>exact ⟨j+1,by have:=HJ.out;omega,rfl,HB4⟩
end Go.Proofs.YthhijgcfbjcgiaaGreatDoor
