/- Parses21 -/
import Derived.Test.YthhijgcfbjcgiaaGreatDoorQ48
import Derived.Test.YthhijgcfbjcgiaaGreatDoorQ50
namespace Go.Proofs.YthhijgcfbjcgiaaGreatDoor
open Go Go.RowKit
attribute [local go_sem] Oper.semAt_some
open Go.Lib renaming hid→O
open List renaming length_map→U,length→Z
open Nat renaming le_refl→V
open Tryz renaming ntmps4→Y,func4→X,prog→J
theorem yr (A:Option Addr)(n c:Nat)(l:List UInt8)(w:World)(K:Sl w A (l.map af))(N:Z l=n)(hsz:n<=2 ^ 40):
  Calls J 20 #[.slice A n c] w (Fz l w):=by
 refine(zW A n c l w K N hsz).mono ?_;rintro e w' ⟨G,I,ss,he,D,B,M,C⟩;have j:∀s∈ss,ef s.s=true:= λs h=>(jF l).1 s.s (by rw[<-D];exact List.mem_map.2 ⟨s,h,rfl⟩);exact⟨G,I,ss,he,D,⟨ic C.head,λs h=>BE (vH C.tail h) (B s h)⟩,λs h=>BF (j s h) (B s h),j,M⟩
theorem IJ {w:World}{A:Option Addr}{l t:List UInt8}(h:Sl w A ((l++t).map af)):Sl w A (l.map af):=by
 have j:=h.take (Z l);rw[List.map_append,List.take_append_of_le_length (by rw[U];exact V _),List.take_of_length_le (by rw[U];exact V _)] at j;exact j
set_option maxRecDepth 100000 in
set_option maxHeartbeats 8000000 in
theorem xP (A:Option Addr)(n c:Nat)(l:List UInt8)(w:World)(hA:Sl w A (l.map af))(hn:Z l=n)(hT:Tz w)(aB:Ts w):
  Calls J 4 #[.slice A n c] w λe w'=>e=.returned (.bool true)/\Below w.heap.size w w':=by
 have T:=O hn;have HA:=O hA;have HT:=O hT;have HS:=O aB;clear hn hA hT aB
 cases rX:decide ((1200:Int)<(n:Int)) with
 |true=>
  go_enter X,Y
  go_wp2_with (go_at_call 11;refine(qP _ HT.out HS.out).mono ?_;rintro e w1 ⟨rfl,j⟩;have G:=O j;clear j)
  go_ret;exact⟨rfl,G.out⟩
 |false=>
  have HK:=O (show n<=1200 by simp at rX;omega)
  have I:∀ss:List bu,ss.map (·.s)=(eN l).1->Z ss<=2 ^ 60:= λss hs=>by
   have h1:=(jF l).2;have h2:=oI (ss.map (·.s));rw[U] at h2;rw[<-hs] at h1;have:=T.out;have:=HK.out;omega
  have N:=O I;clear I
  go_enter X,Y
  go_wp2_with fail
  refine(wq A n c l w HA.out T.out (by have:=HK.out;omega)).mono ?_;rintro e w1 ⟨B,d,rfl,D,aC,bE,j⟩;have G:=O j;have HL:=O D;have eE:=O aC;have fW:=O bE;clear j D aC bE;go_wp2_with fail
  refine(oY B n d l w1 (λW j=>⟨HT.out.below (G.out.trans (j.mono G.out.size)),HS.out.below (G.out.trans (j.mono G.out.size)),(IJ HL.out).below j⟩) T.out (by have:=HK.out;omega)).mono ?_;rintro e w2 ⟨A2,c2,ss,rfl,dt,C,hS,_,j⟩;have B2:=O (G.out.trans (j.mono G.out.size));have dE:=O C;have jT:=O hS;have M:=O dt;have gJ:=O (HL.out.below j);clear dt C hS j;go_wp2_with fail
  refine(yr A n c l w2 (HA.out.below B2.out) T.out (by have:=HK.out;omega)).mono ?_;rintro e w3 ⟨A3,c3,tt,rfl,dD,C,hS,_,j⟩;have B3:=O (B2.out.trans (j.mono B2.out.size));have dY:=O C;have kz:=O hS;have gy:=O dD;have hU:=O (gJ.out.below j);have K:=O (dE.out.below j);obtain⟨er,cz⟩:∃er,(eN l).2=er:=⟨_,rfl⟩;rw[cz];clear dD C hS j cz;have C1:=O (oT ss tt A2 A3 (Z ss) (Z tt) c2 c3 w3 rfl rfl (M.out.trans gy.out.symm) K.out dY.out jT.out kz.out (N.out ss M.out));have wj:(er==er)=true:=(by simp);go_wp2_with (first|(go_at_call 21;refine C1.out.mono ?_;rintro e w4 ⟨rfl,j⟩;have B4:=O (B3.out.trans (j.mono B3.out.size));have ja:=O (hU.out.below j);clear j)|(go_at_call 22;refine(wn B A n d c l w4 ja.out (HA.out.below B4.out) T.out eE.out fW.out).mono ?_;rintro e w5 ⟨rfl,j⟩;have B5:=O (B4.out.trans (j.mono B4.out.size));clear j)|(go_at_call 11;refine(qP _ (HT.out.below B5.out) (HS.out.below B5.out)).mono ?_;rintro e w6 ⟨rfl,j⟩;have B6:=O (B5.out.trans (j.mono B5.out.size));clear j))
  go_ret;exact⟨rfl,B6.out⟩
end Go.Proofs.YthhijgcfbjcgiaaGreatDoor
