/- PenC -/
import Derived.Test.YthhijgcfbjcgiaaGreatDoorS27
import Derived.Lib.OthersKept
namespace Go.Proofs.YthhijgcfbjcgiaaGreatDoor
open Go Go.RowKit
attribute [local go_sem] Oper.semAt_some
open Go.Lib renaming hid→zAA
open List renaming getElem_mem→zAB
set_option maxRecDepth 100000 in
set_option maxHeartbeats 4000000 in
theorem uN (w0:World) (h:Nat) (L s:List UInt8) (hs:cN s) (hl:L.length+s.length≤16777216) (hh:w0.heap.size≤h) (w:World) (hp:dQ w0 h L w):
  Calls Tryz.prog 58 #[.pointer (some ⟨h,0,none⟩),.string (bs s)] w fun e w'=>e= .returned (.int .i64 0)∧dQ w0 h (L++s) w'∧PB h w w':=by
 have HP:=zAA hp
 obtain ⟨v,hc⟩:=hp
 have C1:=zAA (xN h v (L.length:Int) w hc.2.1.head)
 have C2:=zAA (FQ h v (L.length:Int) (s.length:Int) w hc.2.1.head (by omega) (by omega) (by omega))
 have HS:=zAA hs;have HL:=zAA hl
 clear hc hs hl
 go_enter Tryz.func58,Tryz.ntmps58
 go_wp2_with (go_at_call 65;refine C1.out.mono ?_;rintro e w2 ⟨rfl,rfl⟩)
 go_loopg [13] s.length (fun gk i=>fun wr=>∃(j:Nat),j+gk=s.length∧i= .int .i64 (j:Int)∧wr=w)
 case atStart=>exact ⟨0,by omega,rfl,rfl⟩
 case round=>
  obtain ⟨j,hj,rfl,rfl⟩:=hrel
  cases gk with
  |succ g=>
   have hlt:((j:Int)<(s.length:Int)):=by omega
   have hj0:¬((j:Int)<0):=by omega
   have hjl:j<s.length:=by omega
   have hbit:=HS.out s[j] (zAB hjl)
   have hw1:IntKind.i64.wrap ((j:Int)+1)=(j:Int)+1:=by have:=HL.out;rw [IntKind.wrap_i64];omega
   have HJ:=zAA hj
   rcases hbit with hb|hb
   ·have hbn:s[j].toNat=48:=by rw [hb];rfl
    clear hj
    go_wp2_with fail
    go_roundg g
    case measure=>omega
    case rel=>exact ⟨j+1,by have:=HJ.out;omega,rfl,rfl⟩
   ·have hbn:s[j].toNat=49:=by rw [hb];rfl
    clear hj
    go_wp2_with fail
    go_roundg g
    case measure=>omega
    case rel=>exact ⟨j+1,by have:=HJ.out;omega,rfl,rfl⟩
  |zero=>
   have hlt:¬((j:Int)<(s.length:Int)):=by omega
   clear hj
   go_wp2_with (go_at_call 100;refine C2.out.mono ?_;rintro e w2 ⟨rfl,rfl⟩)
   have hB0:Below wr.heap.size wr (wr.iter (bs s) 0):=(Below.refl _ wr).alloc (Nat.le_refl _) (.stringIter (bs s) 0)
   have HP0:=zAA (HP.out.below hB0)
   have HK0:=zAA (rA (tK h wr) hB0)
   have hit:(wr.iter (bs s) 0).heap[wr.heap.size]? =some (.stringIter (bs s) 0):=World.alloc_heap_new wr (.stringIter (bs s) 0)
   have hhw:w0.heap.size≤wr.heap.size:=by obtain ⟨v',hc'⟩:=HP.out;exact hc'.1.size
   have HHW:=zAA hhw
   have HIT:=zAA hit
   generalize wr.iter (bs s) 0=W1 at HP0 HIT HK0⊢
   obtain ⟨k0,hk0⟩:∃k0,wr.heap.size=k0:=⟨_,rfl⟩
   rw [hk0] at HIT HHW⊢
   clear hB0 hit hhw hk0 hlt HP C1 C2
   go_loopg [] s.length (fun gk=>fun wx=>∃(j:Nat),j+gk=s.length∧Hid (dQ w0 h (L++s.take j) wx)∧Hid (wx.heap[k0]? =some (.stringIter (bs s) j))∧Hid (PB h wr wx))
   case atStart=>exact ⟨0,by omega,zAA (by rw [List.take_zero,List.append_nil];exact HP0.out),HIT,HK0⟩
   case round=>
    obtain ⟨j,hj,HJ,HI,HK⟩:=hrel
    cases gk with
    |zero=>
     have hjn:j=s.length:=by omega
     have hnx:=fun ty=>Lib.run_next_end_at (P:=Tryz.prog) wr k0 (bs s) j ty HI.out (by rw [iA];omega)
     have HE:=zAA hjn
     clear hj hjn
     go_wp2_with fail
     go_ret
     refine ⟨rfl,?_⟩
     have h1:=HJ.out
     rw [HE.out,List.take_length] at h1
     exact ⟨h1,HK.out⟩
    |succ g=>
     have hjl:j<s.length:=by omega
     have hsz:j<(bs s).size:=by rw [iA];exact hjl
     have hbit:=HS.out s[j] (zAB hjl)
     have hgt:(bs s)[j]'hsz=s[j]:=IP s j hsz
     have HJJ:=zAA hj
     obtain ⟨x,hx,hxs,hxc⟩:∃x:Nat,x<2∧s[j]=(if x=0 then 48 else 49)∧(((bs s)[j]'hsz).toNat:Int)=48+(x:Int):=by
      rcases hbit with hb|hb
      ·exact ⟨0,by omega,hb,by rw [hgt,hb];rfl⟩
      ·exact ⟨1,by omega,hb,by rw [hgt,hb];rfl⟩
     have hnx:=fun ty=>Lib.run_next_ascii_at (P:=Tryz.prog) wr k0 (bs s) j ty HI.out hsz (by rw [hgt];rcases hbit with hb|hb<;>rw [hb]<;>decide)
     rw [hxc] at hnx
     have HKI:Hid (PB h wr (wr.iterAt k0 (bs s) (j+1))):=zAA ⟨by simp [World.iterAt],fun k t cs _ _ hk=>by
      unfold ab at hk⊢
      rw [Lib.iterAt_other wr k0 k (bs s) (j+1) (fun e=>by rw [e,HI.out] at hk;cases hk),hk]⟩
     have hput:wr.iterAt k0 (bs s) (j+1)=wr.putObj k0 (.stringIter (bs s) (j+1)):=rfl
     have HIN:=zAA (Lib.iterAt_heap wr k0 (bs s) j (j+1) HI.out)
     have HPN:Hid (dQ w0 h (L++s.take j) (wr.iterAt k0 (bs s) (j+1))):=zAA (by
      obtain ⟨v',hc'⟩:=HJ.out
      rw [hput]
      exact ⟨v',ia hc' HI.out rfl HHW.out⟩)
     have CW:=zAA (Ed w0 h (L++s.take j) x hx (by rw [List.length_append,List.length_take];have:=HL.out;omega) hh _ HPN.out)
     have HT:Hid ((L++s.take j)++[if x=0 then (48:UInt8) else 49]=L++s.take (j+1)):=zAA (by
      rw [List.take_add_one,List.getElem?_eq_getElem hjl,List.append_assoc,←hxs];rfl)
     have hw32:IntKind.i32.wrap (48+(x:Int) - 48)=(x:Int):=by
      have:x=0∨x=1:=by omega
      rcases this with rfl|rfl<;>rfl
     clear hj hjl hsz hbit hgt hxs hxc hput
     go_wp2_with (go_at_call 101;refine CW.out.mono ?_;rintro e w2 ⟨⟨u,rfl⟩,hpw,hkf,hpb⟩;have HPW:=zAA hpw;have HKF:=zAA hkf;have HPB:=zAA hpb;clear hpw hkf hpb)
     go_roundg g
     case measure=>omega
     case rel=>exact ⟨j+1,by have:=HJJ.out;omega,zAA (by rw [←HT.out];exact HPW.out),zAA ((HKF.out 0).same _ _ (Nat.zero_le _) HIN.out rfl),zAA ((HK.out.trans HKI.out).trans HPB.out)⟩
theorem FP (w0:World) (h:Nat) (L s:List UInt8) (hs:cN s) (hl:L.length+s.length≤16777216) (hh:w0.heap.size≤h) (w:World) (hp:dQ w0 h L w):
  Calls Tryz.prog 58 #[.pointer (some ⟨h,0,none⟩),.string (bs s)] w fun e w'=>e= .returned (.int .i64 0)∧dQ w0 h (L++s) w':=
 (uN w0 h L s hs hl hh w hp).mono fun _ _ x=>⟨x.1,x.2.1⟩
end Go.Proofs.YthhijgcfbjcgiaaGreatDoor
