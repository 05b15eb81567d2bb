/- Cut21 -/
import Derived.Test.YthhijgcfbjcgiaaGreatDoorS42
import Derived.Test.YthhijgcfbjcgiaaGreatDoorS47
namespace Go.Proofs.YthhijgcfbjcgiaaGreatDoor
open Go Go.RowKit
attribute [local go_sem] Oper.semAt_some
open Go.Lib renaming hid→zAA
open List renaming mem_of_mem_take→zAB,length_map→zAC,length_take→zAD,setIfInBounds_toArray→zAE,getElem?_cons_succ→zAF,getElem?_cons_zero→zAG,map_take→zAI,getElem?_toArray→zAJ,drop_succ_cons→zAK,set_cons_succ→zAL,set_cons_zero→zAM,prefix_iff_eq_take→zAO,drop_zero→zAP,length_dropLast→zAQ,map_cons→zAR,map_nil→zAS
open Int renaming toNat_natCast→zAH
open Option renaming getD_some→zAN
open Go.IntKind renaming wrap_i64→zAT,i64→zAU
open Nat renaming le_refl→zAV,zero_le→zAW
theorem jT {W:World} {A:Option Addr} {ss:List bh} (h:dR W A ss) (k:Nat):dR W A (ss.take k):=⟨by rw [Ek rE];exact h.row.take _,fun s hs=>h.sh s (zAB hs)⟩
theorem Fc {l:List UInt8} {st:Nat} (ss tt:List bh) (hs:ss.map (·.s)=(aZ l).1) (ht:tt.map (·.s)=(aZ (l.take st)).1):
  ((aZ (l.take st)).2≠0→(aZ (l.take st)).2≠6→(aZ (l.take st)).2=(aZ l).2∧ss.map (·.s)=tt.map (·.s))∧
  ((aZ (l.take st)).2=6→tt.length≤ss.length∧(ss.take tt.length).map (·.s)=(tt.take tt.length).map (·.s))∧
  ((aZ (l.take st)).2=0→tt.length - 1≤ss.length∧(ss.take (tt.length - 1)).map (·.s)=(tt.take (tt.length - 1)).map (·.s)):=by
 have h:=CI (l.take st) (l.drop st)
 rw [List.take_append_drop] at h
 refine ⟨fun h0 h6=>?_,fun h6=>?_,fun h0=>?_⟩
 ·have e:=h.1 h0 h6
  rw [hs,ht,e]
  exact ⟨rfl,rfl⟩
 ·have e:=h.2.1 h6
  rw [←hs,←ht] at e
  have h1:=e.length_le
  rw [zAC,zAC] at h1
  refine ⟨h1,?_⟩
  rw [zAI,zAI]
  have h2:=zAO.1 e
  rw [zAC] at h2
  rw [←h2,List.take_of_length_le (by rw [zAC];exact zAV _)]
 ·have e:=h.2.2 h0
  rw [←hs,←ht] at e
  have h1:=e.length_le
  rw [zAQ,zAC,zAC] at h1
  refine ⟨h1,?_⟩
  rw [zAI,zAI]
  have h2:=zAO.1 e
  rw [zAQ,zAC] at h2
  rw [←h2,List.dropLast_eq_take,zAC]
theorem FI {w:World} {base e size n k c:Nat} {A:Option Addr} {xs:List Value} (h:w.ownsRow base e size (.slice A k c) n xs) (hk:k=n):k≤c:=by
 rcases h.2 with ⟨h1,h2⟩|⟨g,cap,cur,h1,_,_,hnc,_⟩
 ·have e:=Value.slice.inj h1
  omega
 ·have e:=Value.slice.inj h1
  omega
def JY (l:List UInt8) (w:World) (e:Ending) (w':World):Prop:=
 ∃A c ss,e= .returned (.tuple #[.slice A ss.length c,.int .i64 (aZ l).2])∧ss.map (·.s)=(aZ l).1∧dR w' A ss∧(∀s∈ss,fL s)∧ss.length≤c∧Below w.heap.size w w'
theorem oY (A:Option Addr) (n c:Nat) (l:List UInt8) (w:World) (hE:∀W,Below w.heap.size w W→Tz W∧Ts W∧Sl W A (l.map af)) (hn:l.length=n) (hsz:n≤2 ^ 40):
  Calls Tryz.prog 19 #[.slice A n c] w (JY l w):=by
 refine (pY A n c l w hE hn hsz).mono ?_
 rintro e w' ⟨A',c',ss,he,hs,heq,hb,hr⟩
 have hck:∀s∈ss,bX s.s=true:=fun s h=>(it l).1 s.s (by rw [←hs];exact List.mem_map.2 ⟨s,h,rfl⟩)
 exact ⟨A',c',ss,he,hs,⟨dB hr.head,fun s h=>Bb (uX hr.tail h) (heq s h)⟩,fun s h=>Bc (hck s h) (heq s h),FI hr.head rfl,hb⟩
set_option maxRecDepth 100000 in
set_option maxHeartbeats 16000000 in
theorem DP (A:Option Addr) (n c:Nat) (l:List UInt8) (stay:Int) (w:World) (hA:Sl w A (l.map af)) (hn:l.length=n) (hnc:n≤c) (hT:Tz w) (hTs:Ts w) (_hi: -9223372036854775808≤stay∧stay≤9223372036854775807):
  Calls Tryz.prog 8 #[.slice A n c,.int .i64 stay] w fun e w'=>e= .returned (.bool true)∧Below w.heap.size w w':=by
 have HN:=zAA hn;have HA:=zAA hA;have HT:=zAA hT;have HS:=zAA hTs;have HNC:=zAA hnc
 clear hn hA hT hTs hnc
 go_enter Tryz.func8,Tryz.ntmps8
 go_wp2_with fail
 refine (iT _ HT.out HS.out).mono ?_
 rintro e w1 ⟨rfl,hb⟩
 have B1:=zAA hb
 clear hb
 cases h1000:decide ((1000:Int)<(n:Int)) with
 |true=>
  go_wp2_with fail
  go_ret
  exact ⟨rfl,B1.out⟩
 |false=>
 have hk:n≤1000:=by simp at h1000;omega
 have HK:=zAA hk
 have hwn:zAU.wrap ((n:Int)+1)=(n:Int)+1:=by rw [zAT];omega
 have HP:=zAA (fun W=>xk stay ((n:Int)+1) W (by omega) (by omega))
 obtain ⟨st,hst⟩:∃st:Nat,stay % ((n:Int)+1)=(st:Int):=⟨(stay % ((n:Int)+1)).toNat,by have:=Int.emod_nonneg stay (show (n:Int)+1≠0 by omega);omega⟩
 have hstn:st≤n:=by have:=Int.emod_lt_of_pos stay (show (0:Int)<(n:Int)+1 by omega);omega
 rw [hst] at HP
 have HST:=zAA hstn
 clear hst hstn hk
 go_wp2_with (go_at_call 26;refine (HP.out _).mono ?_;rintro e w4 ⟨rfl,rfl⟩)
 have hEV:∀W W',Below w.heap.size w W→Below W.heap.size W W'→Tz W'∧Ts W'∧Sl W' A (l.map af):=fun W W' hB hb=>⟨HT.out.below (hB.trans (hb.mono hB.size)),HS.out.below (hB.trans (hb.mono hB.size)),HA.out.below (hB.trans (hb.mono hB.size))⟩
 have HEV:=zAA hEV
 clear hEV
 refine (oY A n c l w1 (fun W hb=>HEV.out _ _ B1.out hb) HN.out (by have:=HK.out;omega)).mono ?_
 rintro e w2 ⟨A2,c2,ss,rfl,hss,hat,hS,hck,hb⟩
 have B2:=zAA (B1.out.trans (hb.mono B1.out.size));have HC2:=zAA hck;have AT2:=zAA hat;have HSS:=zAA hS;have HSM:=zAA hss
 clear hat hS hck hb hss
 have hst1:(st:Int)≤(c:Int):=by have:=HST.out;have:=HNC.out;omega
 have hst0:¬((st:Int)<0):=by omega
 have hst2:((st:Nat):Int).toNat=st:=zAH _
 have hst3:(0:Int)≤(st:Int):=by omega
 clear h1000 hwn HP
 go_wp2_with fail
 have hlt:(l.take st).length=st:=by rw [zAD,HN.out];have:=HST.out;omega
 refine (oY A st c (l.take st) w2 (fun W hb=>⟨(HEV.out _ _ B2.out hb).1,(HEV.out _ _ B2.out hb).2.1,by rw [zAI];exact (HEV.out _ _ B2.out hb).2.2.take st⟩) hlt (by have:=HK.out;have:=HST.out;omega)).mono ?_
 rintro e w3 ⟨A3,c3,tt,rfl,htm,hat,hS,hck,hb⟩
 have B3:=zAA (B2.out.trans (hb.mono B2.out.size));have AT3:=zAA hat;have HTT:=zAA hS;have HC3:=zAA hck;have AT2':=zAA (AT2.out.below hb)
 have hkeep:=Fc (st:=st) ss tt HSM.out htm
 obtain ⟨er,her⟩:∃er,(aZ l).2=er:=⟨_,rfl⟩
 obtain ⟨f,hf⟩:∃f,(aZ (l.take st)).2=f:=⟨_,rfl⟩
 rw [her,hf] at hkeep
 rw [her,hf]
 obtain ⟨kl,hkl⟩:∃k,ss.length=k:=⟨_,rfl⟩
 obtain ⟨km,hkm⟩:∃k,tt.length=k:=⟨_,rfl⟩
 rw [hkl,hkm] at hkeep
 rw [hkl,hkm]
 have HKL:=zAA hkl;have HKM:=zAA hkm;have HKEEP:=zAA hkeep
 have hbl:kl≤2 ^ 60:=by
  have h1:=jz (ss.map (·.s))
  have h2:=(it l).2
  rw [←HSM.out,HN.out] at h2
  rw [zAC,hkl] at h1
  have:=HK.out
  omega
 have HBL:=zAA hbl
 clear hat hS hck hb htm hkeep her hf hkl hkm hlt hst0 hst1 hst2 hst3 hbl AT2 B1 B2
 by_cases h0:f=0
 ·subst h0
  have hk:=HKEEP.out.2.2 rfl
  rcases Nat.eq_zero_or_pos km with hm|hm
  ·have hq:0≤kl∧0≤km∧(ss.take 0).map (·.s)=(tt.take 0).map (·.s):=⟨zAW _,zAW _,by simp⟩
   have hm0:(km:Int)=0:=by omega
   have HM0:=zAA hm
   clear hk hm
   rw [show km=0 from HM0.out]
   have HQ:=zAA (show 0≤kl∧0≤km∧(ss.take 0).map (·.s)=(tt.take 0).map (·.s) from hq)
   have h1:((0:Nat):Int)≤(kl:Int):=by have:=HQ.out.1;omega
   have h2:((0:Nat):Int)≤(c2:Int):=by have:=HC2.out;have:=HKL.out;have:=HQ.out.1;omega
   have h3:((0:Nat):Int)≤(c3:Int):=by have:=HC3.out;have:=HKM.out;have:=HQ.out.2.1;omega
   have h4:¬(((0:Nat):Int)<0):=by omega
   have h5:((0:Nat):Int).toNat=0:=zAH _
   have h6:(0:Int)≤((0:Nat):Int):=by omega
   have CS:=zAA (fun W (hb:Below w3.heap.size w3 W)=>gP (ss.take 0) (tt.take 0) A2 A3 0 0 c2 c3 W (by rw [zAD,HKL.out];have:=HQ.out.1;omega) (by rw [zAD,HKM.out];have:=HQ.out.2.1;omega) HQ.out.2.2 (jT (AT2'.out.below hb) 0) (jT (AT3.out.below hb) 0) (fun s hs=>HSS.out s (zAB hs)) (fun s hs=>HTT.out s (zAB hs)) (by have:=HQ.out.1;have:=HBL.out;omega))
   clear hq
   go_wp2_with fail
   refine ai (fun w'=>w'=w3.drew) 14 (.take 0 (.take 1 (.take 2 (.take 3 (.take 4 (.take 5 (.take 6 (.take 7 (.take 8 (.take 9 (.take 10 (.take 11 (.take 12 (.take 13 .done)))))))))))))) (by kernel_rfl) (by kernel_rfl) (by simp only [aR.out,Array.getD_eq_getD_getElem?,zAJ,zAG,zAF,zAN];rfl) (by simp only [zAR,zAS];rfl) (rfl) (fun PE hPE=>?_)
   iterate 14
    refine ah (v:=?_) rfl (by rfl) ?_ ?_
    rotate_left
    ·intro _ hSw;(try dsimp only at hSw);go_simp;(try with_reducible rfl)
    simp only [zAE,zAM,zAL]
   refine hPE _ _ ?_
   clear hPE PE
   simp only [zAK,zAP]
   go_wp2_with fail
   refine (CS.out _ (Below.refl _ _).drew).mono ?_
   rintro e w5 ⟨rfl,hb⟩
   have B5:=zAA (B3.out.trans (((Below.refl w3.heap.size w3).drew.trans hb).mono B3.out.size))
   clear hb
   go_wp2_with fail
   (try refine ⟨rfl,?_⟩)
   (try go_wp2_with fail)
   go_ret
   exact ⟨rfl,B5.out⟩
  ·have hq:km - 1≤kl∧km - 1≤km∧(ss.take (km - 1)).map (·.s)=(tt.take (km - 1)).map (·.s):=⟨hk.1,by omega,hk.2⟩
   have hm0:(0:Int)<(km:Int):=by omega
   obtain ⟨q,hqq⟩:∃q,km - 1=q:=⟨_,rfl⟩
   rw [hqq] at hq
   have hkq:zAU.wrap ((km:Int) - 1)=(q:Int):=by have:=hq.1;have:=HBL.out;rw [zAT];omega
   clear hk hm hqq
   have HQ:=zAA (show q≤kl∧q≤km∧(ss.take q).map (·.s)=(tt.take q).map (·.s) from hq)
   have h1:((q:Nat):Int)≤(kl:Int):=by have:=HQ.out.1;omega
   have h2:((q:Nat):Int)≤(c2:Int):=by have:=HC2.out;have:=HKL.out;have:=HQ.out.1;omega
   have h3:((q:Nat):Int)≤(c3:Int):=by have:=HC3.out;have:=HKM.out;have:=HQ.out.2.1;omega
   have h4:¬(((q:Nat):Int)<0):=by omega
   have h5:((q:Nat):Int).toNat=q:=zAH _
   have h6:(0:Int)≤((q:Nat):Int):=by omega
   have CS:=zAA (fun W (hb:Below w3.heap.size w3 W)=>gP (ss.take q) (tt.take q) A2 A3 q q c2 c3 W (by rw [zAD,HKL.out];have:=HQ.out.1;omega) (by rw [zAD,HKM.out];have:=HQ.out.2.1;omega) HQ.out.2.2 (jT (AT2'.out.below hb) q) (jT (AT3.out.below hb) q) (fun s hs=>HSS.out s (zAB hs)) (fun s hs=>HTT.out s (zAB hs)) (by have:=HQ.out.1;have:=HBL.out;omega))
   clear hq
   go_wp2_with fail
   refine ai (fun w'=>w'=w3.drew) 14 (.take 0 (.take 1 (.take 2 (.take 3 (.take 4 (.take 5 (.take 6 (.take 7 (.take 8 (.take 9 (.take 10 (.take 11 (.take 12 (.take 13 .done)))))))))))))) (by kernel_rfl) (by kernel_rfl) (by simp only [aR.out,Array.getD_eq_getD_getElem?,zAJ,zAG,zAF,zAN];rfl) (by simp only [zAR,zAS];rfl) (rfl) (fun PE hPE=>?_)
   iterate 14
    refine ah (v:=?_) rfl (by rfl) ?_ ?_
    rotate_left
    ·intro _ hSw;(try dsimp only at hSw);go_simp;(try with_reducible rfl)
    simp only [zAE,zAM,zAL]
   refine hPE _ _ ?_
   clear hPE PE
   simp only [zAK,zAP]
   go_wp2_with fail
   refine (CS.out _ (Below.refl _ _).drew).mono ?_
   rintro e w5 ⟨rfl,hb⟩
   have B5:=zAA (B3.out.trans (((Below.refl w3.heap.size w3).drew.trans hb).mono B3.out.size))
   clear hb
   go_wp2_with fail
   (try refine ⟨rfl,?_⟩)
   (try go_wp2_with fail)
   go_ret
   exact ⟨rfl,B5.out⟩
 by_cases h6:f=6
 ·subst h6
  have hk:=HKEEP.out.2.1 rfl
  have hq:km≤kl∧km≤km∧(ss.take km).map (·.s)=(tt.take km).map (·.s):=⟨hk.1,zAV _,hk.2⟩
  clear hk h0
  have HQ:=zAA (show km≤kl∧km≤km∧(ss.take km).map (·.s)=(tt.take km).map (·.s) from hq)
  have h1:((km:Nat):Int)≤(kl:Int):=by have:=HQ.out.1;omega
  have h2:((km:Nat):Int)≤(c2:Int):=by have:=HC2.out;have:=HKL.out;have:=HQ.out.1;omega
  have h3:((km:Nat):Int)≤(c3:Int):=by have:=HC3.out;have:=HKM.out;have:=HQ.out.2.1;omega
  have h4:¬(((km:Nat):Int)<0):=by omega
  have h5:((km:Nat):Int).toNat=km:=zAH _
  have h6:(0:Int)≤((km:Nat):Int):=by omega
  have CS:=zAA (fun W (hb:Below w3.heap.size w3 W)=>gP (ss.take km) (tt.take km) A2 A3 km km c2 c3 W (by rw [zAD,HKL.out];have:=HQ.out.1;omega) (by rw [zAD,HKM.out];have:=HQ.out.2.1;omega) HQ.out.2.2 (jT (AT2'.out.below hb) km) (jT (AT3.out.below hb) km) (fun s hs=>HSS.out s (zAB hs)) (fun s hs=>HTT.out s (zAB hs)) (by have:=HQ.out.1;have:=HBL.out;omega))
  clear hq
  go_wp2_with fail
  refine ai (fun w'=>w'=w3.drew) 14 (.take 0 (.take 1 (.take 2 (.take 3 (.take 4 (.take 5 (.take 6 (.take 7 (.take 8 (.take 9 (.take 10 (.take 11 (.take 12 (.take 13 .done)))))))))))))) (by kernel_rfl) (by kernel_rfl) (by simp only [aR.out,Array.getD_eq_getD_getElem?,zAJ,zAG,zAF,zAN];rfl) (by simp only [zAR,zAS];rfl) (rfl) (fun PE hPE=>?_)
  iterate 14
   refine ah (v:=?_) rfl (by rfl) ?_ ?_
   rotate_left
   ·intro _ hSw;(try dsimp only at hSw);go_simp;(try with_reducible rfl)
   simp only [zAE,zAM,zAL]
  refine hPE _ _ ?_
  clear hPE PE
  simp only [zAK,zAP]
  go_wp2_with fail
  refine (CS.out _ (Below.refl _ _).drew).mono ?_
  rintro e w5 ⟨rfl,hb⟩
  have B5:=zAA (B3.out.trans (((Below.refl w3.heap.size w3).drew.trans hb).mono B3.out.size))
  clear hb
  go_wp2_with fail
  (try refine ⟨rfl,?_⟩)
  (try go_wp2_with fail)
  go_ret
  exact ⟨rfl,B5.out⟩
 have hk:=HKEEP.out.1 h0 h6
 have hff:f=er:=hk.1
 subst hff
 have h0b:(f !=0)=true:=by simpa using h0
 have h6b:(f !=6)=true:=by simpa using h6
 have HEQ:=zAA hk.2
 clear hk h0 h6
 go_wp2_with (go_at_call 21;refine (gP ss tt A2 A3 kl km c2 c3 w3 HKL.out HKM.out HEQ.out AT2'.out AT3.out HSS.out HTT.out (by have:=HBL.out;omega)).mono ?_;rintro e w5 ⟨rfl,hb⟩;have B5:=zAA (B3.out.trans (hb.mono B3.out.size));clear hb)
 go_ret
 exact ⟨rfl,B5.out⟩
end Go.Proofs.YthhijgcfbjcgiaaGreatDoor
