/- PenC -/
import Derived.Test.YthhijgcfbjcgiaaGreatDoorT32
import Derived.Lib.OthersKept
namespace Go.Proofs.YthhijgcfbjcgiaaGreatDoor
open Go Go.RowKit
attribute [local go_sem] Oper.semAt_some
open Go.Lib renaming hid→O
open List renaming length→U,getElem_mem→V
open Tryz renaming prog→Z
open Go.Ending renaming returned→Y
open Go.Value renaming pointer→X,string→J
set_option maxRecDepth 100000 in
set_option maxHeartbeats 4000000 in
theorem uJ (w0:World)(h:Nat)(L s:List UInt8)(hs:cU s)(hl:U L+U s<=16777216)(hh:w0.heap.size<=h)(w:World)(hp:dS w0 h L w):
  Calls Z 58 #[X (some ⟨h,0,none⟩),J (bs s)] w λe w'=>e=Y (.int .i64 0)/\dS w0 h (L++s) w'/\PB h w w':=by
 have HP:=O hp;obtain⟨v,hc⟩:=hp;have C1:=O (xP h v (U L:Int) w hc.2.1.head);have C2:=O (Ge h v (U L:Int) (U s:Int) w hc.2.1.head (by omega) (by omega) (by omega));have HS:=O hs;have HL:=O hl;clear hc hs hl
 go_enter Tryz.func58,Tryz.ntmps58
 go_wp2_with (go_at_call 65;refine C1.out.mono ?_;rintro e w2 ⟨rfl,rfl⟩)
 go_loopg [13] (U s) (λgk i=> λwr=>∃(j:Nat),j+gk=U s/\i=.int .i64 (j:Int)/\wr=w)
 case atStart=>exact⟨0,by omega,rfl,rfl⟩
 case round=>
  obtain⟨j,K,rfl,rfl⟩:=hrel
  cases gk with
  |succ g=>
   have fJ:((j:Int)<(U s:Int)):=(by omega);have K5:¬((j:Int)<0):=(by omega);have C:j<(U s):=(by omega);have B:=HS.out s[j] (V C);have K6:IntKind.i64.wrap ((j:Int)+1)=(j:Int)+1:=(by have:=HL.out;rw[IntKind.wrap_i64];omega);have HJ:=O K;rcases B with D|D
   ·have K3:s[j].toNat=48:=by rw[D];rfl
    clear K;go_wp2_with fail
    go_roundg g
    case measure=>omega
    case rel=>exact⟨j+1,by have:=HJ.out;omega,rfl,rfl⟩
   ·have K3:s[j].toNat=49:=by rw[D];rfl
    clear K;go_wp2_with fail
    go_roundg g
    case measure=>omega
    case rel=>exact⟨j+1,by have:=HJ.out;omega,rfl,rfl⟩
  |zero=>
   have fJ:¬((j:Int)<(U s:Int)):=(by omega);clear K;go_wp2_with (go_at_call 100;refine C2.out.mono ?_;rintro e w2 ⟨rfl,rfl⟩)
   have T:Below wr.heap.size wr (wr.iter (bs s) 0):=(Below.refl _ wr).alloc (Nat.le_refl _) (.stringIter (bs s) 0);have cE:=O (HP.out.below T);have bM:=O (rv (tF h wr) T);have dv:(wr.iter (bs s) 0).heap[wr.heap.size]? =some (.stringIter (bs s) 0):=World.alloc_heap_new wr (.stringIter (bs s) 0);have cI:w0.heap.size<=wr.heap.size:=(by obtain⟨v',av⟩:=HP.out;exact av.1.size);have aJ:=O cI;have N:=O dv;generalize wr.iter (bs s) 0=W1 at cE N bM⊢;obtain⟨G,dO⟩:∃G,wr.heap.size=G:=⟨_,rfl⟩;rw[dO] at N aJ⊢;clear T dv cI dO fJ HP C1 C2
   go_loopg [] (U s) (λgk=> λwx=>∃(j:Nat),j+gk=U s/\Hid (dS w0 h (L++s.take j) wx)/\Hid (wx.heap[G]? =some (.stringIter (bs s) j))/\Hid (PB h wr wx))
   case atStart=>exact⟨0,by omega,O (by rw[List.take_zero,List.append_nil];exact cE.out),N,bM⟩
   case round=>
    obtain⟨j,K,HJ,HI,HK⟩:=hrel
    cases gk with
    |zero=>
     have dy:j=(U s):=(by omega);have gj:= λty=>Lib.run_next_end_at (P:=Z) wr G (bs s) j ty HI.out (by rw[iJ];omega);have HE:=O dy;clear K dy;go_wp2_with fail
     go_ret;refine⟨rfl,?_⟩;have h1:=HJ.out;rw[HE.out,List.take_length] at h1;exact⟨h1,HK.out⟩
    |succ g=>
     have C:j<(U s):=(by omega);have hsz:j<(bs s).size:=(by rw[iJ];exact C);have B:=HS.out s[j] (V C);have I:(bs s)[j]'hsz=s[j]:=Je s j hsz;have rG:=O K
     obtain⟨x,hx,kA,jY⟩:∃x:Nat,x<2/\s[j]=(if x=0 then 48 else 49)/\(((bs s)[j]'hsz).toNat:Int)=48+(x:Int):=by
      rcases B with D|D
      ·exact⟨0,by omega,D,by rw[I,D];rfl⟩
      ·exact⟨1,by omega,D,by rw[I,D];rfl⟩
     have gj:= λty=>Lib.run_next_ascii_at (P:=Z) wr G (bs s) j ty HI.out hsz (by rw[I];rcases B with D|D<;>rw[D]<;>decide);rw[jY] at gj
     have Ht:Hid (PB h wr (wr.iterAt G (bs s) (j+1))):=O ⟨by simp[World.iterAt],λk t cs _ _ hk=>by
      unfold ab at hk⊢;rw[Lib.iterAt_other wr G k (bs s) (j+1) (λe=>by rw[e,HI.out] at hk;cases hk),hk]⟩
     have M:wr.iterAt G (bs s) (j+1)=wr.putObj G (.stringIter (bs s) (j+1)):=rfl;have kU:=O (Lib.iterAt_heap wr G (bs s) j (j+1) HI.out)
     have JT:Hid (dS w0 h (L++s.take j) (wr.iterAt G (bs s) (j+1))):=O (by
      obtain⟨v',av⟩:=HJ.out;rw[M];exact⟨v',im av HI.out rfl aJ.out⟩)
     have CW:=O (Er w0 h (L++s.take j) x hx (by rw[List.length_append,List.length_take];have:=HL.out;omega) hh _ JT.out)
     have HT:Hid ((L++s.take j)++[if x=0 then(48:UInt8) else 49]=L++s.take (j+1)):=O (by
      rw[List.take_add_one,List.getElem?_eq_getElem C,List.append_assoc,<-kA];rfl)
     have K4:IntKind.i32.wrap (48+(x:Int) - 48)=(x:Int):=by
      have:x=0\/x=1:=(by omega);rcases this with rfl|rfl<;>rfl
     clear K C hsz B I kA jY M;go_wp2_with (go_at_call 101;refine CW.out.mono ?_;rintro e w2 ⟨⟨u,rfl⟩,jg,eE,iP⟩;have K0:=O jg;have Hl:=O eE;have Hu:=O iP;clear jg eE iP)
     go_roundg g
     case measure=>omega
     case rel=>exact⟨j+1,by have:=rG.out;omega,O (by rw[<-HT.out];exact K0.out),O ((Hl.out 0).same _ _ (Nat.zero_le _) kU.out rfl),O ((HK.out.trans Ht.out).trans Hu.out)⟩
theorem Gd (j:World)(h:Nat)(L s:List UInt8)(D:cU s)(hl:U L+U s<=16777216)(B:j.heap.size<=h)(w:World)(C:dS j h L w):
  Calls Z 58 #[X (some ⟨h,0,none⟩),J (bs s)] w λe w'=>e=Y (.int .i64 0)/\dS j h (L++s) w':=
 (uJ j h L s D hl B w C).mono λ_ _ x=>⟨x.1,x.2.1⟩
end Go.Proofs.YthhijgcfbjcgiaaGreatDoor
