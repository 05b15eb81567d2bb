/- Prs -/
import Derived.Test.YthhijgcfbjcgiaaGreatDoorS03
import Derived.Test.YthhijgcfbjcgiaaGreatDoorS01
import Derived.Deep.LoopGhost
import Derived.Laws.PanicsMore
namespace Go.Proofs.YthhijgcfbjcgiaaGreatDoor
open Go Go.RowKit
attribute [local go_sem] Oper.semAt_some
open Go.Lib renaming hid→zAA
open Int renaming toNat_natCast→zAB,natCast_zero→zAD
open Go.IntKind renaming i64→zAC,wrap_i64→zAE
set_option maxRecDepth 100000 in
set_option maxHeartbeats 2000000 in
theorem qW (g:Nat) (A:Option Addr) (n c:Nat) (l:List UInt8) (p:Nat) (sv:Value) (w:World) (hb:ab w g 77 #[.slice A n c,.int .i64 (p:Int),sv]) (hA:Sl w A (l.map af)) (hn:l.length=n) (hsz:n≤2 ^ 40) (hp:p≤8*n):
  Calls Tryz.prog 47 #[.pointer (some ⟨g,0,none⟩)] w fun e w'=>e= .returned (.bool (cA l p))∧w=w':=by
 have z0:=hb.cell 0;have z1:=hb.cell 1
 (try dsimp only at z0 z1)
 have HA:=zAA hA;have HN:=zAA hn
 have CC:=zAA (fun W=>dd A n c W (by omega))
 obtain ⟨r,hr⟩:∃r,cA l p=r:=⟨_,rfl⟩
 rw [hr]
 have HR:=zAA hr
 clear hA hn hb hr
 go_enter Tryz.func47,Tryz.ntmps47
 go_wp2_with fail
 go_loopg [3] (8*n - p) (fun gk i=>fun wr=>∃q:Nat,q+gk=8*n∧i= .int .i64 (q:Int)∧Hid (cA l q=r)∧wr=w)
 case atStart=>exact ⟨p,by omega,rfl,HR,rfl⟩
 case round=>
  obtain ⟨q,hq,rfl,HO,rfl⟩:=hrel
  cases gk with
  |zero=>
   have hlt:¬((q:Int)<8*(n:Int)):=by omega
   have hro:r=true:=by rw [←HO.out];exact FF (by rw [HN.out];omega)
   subst hro
   clear hq
   go_wp2_with (go_at_call 84;refine (CC.out _).mono ?_;rintro e w2 ⟨rfl,rfl⟩)
   go_ret
   exact ⟨rfl,rfl⟩
  |succ k=>
   have hlt:((q:Int)<8*(n:Int)):=by omega
   have hws:zAC.wrap (8*(n:Int) - (q:Int))=8*(n:Int) - (q:Int):=by rw [zAE];omega
   obtain ⟨m,hm,hm1,hm2,hm3,hmi⟩:∃m:Nat,((8*n - q<32∧m=8*n - q)∨(32≤8*n - q∧m=32))∧1≤m∧q+m≤8*n∧m≤32∧(m:Int)=if 8*n - q<32 then 8*(n:Int) - (q:Int) else 32:=by
    rcases Nat.lt_or_ge (8*n - q) 32 with h|h
    ·exact ⟨8*n - q,.inl ⟨h,rfl⟩,by omega,by omega,by omega,by rw [if_pos h];omega⟩
    ·exact ⟨32,.inr ⟨h,rfl⟩,by omega,by omega,by omega,by rw [if_neg (by omega)];rfl⟩
   have hwa:zAC.wrap ((q:Int)+(m:Int))=((q+m:Nat):Int):=by rw [zAE];omega
   have CR:=zAA (ja A n c l (q:Int) (m:Int) wr HA.out HN.out (by omega) (by omega) (by omega) (by omega) (by omega))
   rw [zAB,zAB] at CR
   have HQ:Hid (q+(k+1)=8*n):=zAA hq
   have HM2:=zAA hm2;have HM1:=zAA hm1
   have hz:(aF l q m=0∧cA l (q+m)=r)∨(aF l q m≠0∧r=false):=by
    by_cases hz:aF l q m=0
    ·exact .inl ⟨hz,(D8 hz).trans HO.out⟩
    ·exact .inr ⟨hz,by rw [←HO.out];exact FH (by rw [HN.out];exact hm2) hz⟩
   generalize aF l q m=x at*
   clear hm3 hq hm2 hm1
   rcases hm with ⟨h32,rfl⟩|⟨h32,rfl⟩
   ·have h32i:(8*(n:Int) - (q:Int))<32:=by omega
    rw [if_pos h32] at hmi
    rw [hmi] at CR hwa
    have HMI:=zAA hmi
    clear h32 hmi
    rcases hz with ⟨rfl,ho⟩|⟨hz,rfl⟩
    ·have HO2:=zAA ho
     simp only [zAD] at CR
     clear ho
     go_wp2_with (first|(go_at_call 84;refine (CC.out _).mono ?_;rintro e w2 ⟨rfl,rfl⟩)|(go_at_call 56;refine CR.out.mono ?_;rintro e w2 ⟨rfl,rfl⟩))
     go_roundg 0
     case measure=>omega
     case rel=>exact ⟨q+(8*n - q),by have:=HQ.out;omega,rfl,HO2,rfl⟩
    ·have hzb:(((x:Nat):Int) !=0)=true:=by simp;omega
     clear hz
     go_wp2_with (first|(go_at_call 84;refine (CC.out _).mono ?_;rintro e w2 ⟨rfl,rfl⟩)|(go_at_call 56;refine CR.out.mono ?_;rintro e w2 ⟨rfl,rfl⟩))
     go_ret
     exact ⟨rfl,rfl⟩
   ·have h32i:¬(8*(n:Int) - (q:Int))<32:=by omega
    simp only [Int.cast_ofNat_Int] at CR hwa
    clear h32 hmi
    rcases hz with ⟨rfl,ho⟩|⟨hz,rfl⟩
    ·have HO2:=zAA ho
     simp only [zAD] at CR
     clear ho
     go_wp2_with (first|(go_at_call 84;refine (CC.out _).mono ?_;rintro e w2 ⟨rfl,rfl⟩)|(go_at_call 56;refine CR.out.mono ?_;rintro e w2 ⟨rfl,rfl⟩))
     go_roundg (8*n - (q+32))
     case measure=>have:=HQ.out;omega
     case rel=>exact ⟨q+32,by have:=HM2.out;omega,rfl,HO2,rfl⟩
    ·have hzb:(((x:Nat):Int) !=0)=true:=by simp;omega
     clear hz
     go_wp2_with (first|(go_at_call 84;refine (CC.out _).mono ?_;rintro e w2 ⟨rfl,rfl⟩)|(go_at_call 56;refine CR.out.mono ?_;rintro e w2 ⟨rfl,rfl⟩))
     go_ret
     exact ⟨rfl,rfl⟩
def hF (er:Int) (e:Ending):Prop:=e= .panicked [{v:= .iface 79 (.agg #[.int .i64 er]),recovered:=false}]
theorem eW (g:Nat) (bv sv:Value) (p:Nat) (k:Int) (w:World) (hb:ab w g 77 #[bv,.int .i64 (p:Int),sv]) (hk:zAC.wrap ((p:Int)+k)=(p:Int)+k):
  Calls Tryz.prog 87 #[.pointer (some ⟨g,0,none⟩),.int .i64 k,.int .i64 0] w fun e w'=>(∃u,e= .returned u)∧w'=w.setCell ⟨g,1,none⟩ (.int .i64 ((p:Int)+k)):=by
 have z1:=hb.cell 1;have z2:=hb.frozen 1
 (try dsimp only at z1 z2)
 clear hb
 go_enter Tryz.func87,Tryz.ntmps87
 go_wp2_with fail
 refine bodyPost_end (results_none rfl _ _ _) rfl ⟨⟨_,rfl⟩,rfl⟩
theorem dJ (g:Nat) (k e:Int) (he:e≠0) (w:World):
  Calls Tryz.prog 87 #[.pointer (some ⟨g,0,none⟩),.int .i64 k,.int .i64 e] w fun x w'=>hF (jm e) x∧w'=w:=by
 have hne:(e !=0)=true:=by simpa using he
 unfold hF jm
 cases h5:(e==5) with
 |true=>
  have h5':e=5:=by simpa using h5
  subst h5'
  rw [if_pos rfl]
  go_enter Tryz.func87,Tryz.ntmps87
  go_wp2_with fail
  exact ⟨rfl,rfl,rfl⟩
 |false=>
  have h5':¬e=5:=by simpa using h5
  rw [if_neg h5']
  clear h5' he
  go_enter Tryz.func87,Tryz.ntmps87
  go_wp2_with fail
  exact ⟨rfl,rfl,rfl⟩
end Go.Proofs.YthhijgcfbjcgiaaGreatDoor
