/- Long21 -/
import Derived.Test.YthhijgcfbjcgiaaGreatDoorS45
import Derived.Test.YthhijgcfbjcgiaaGreatDoorS44
namespace Go.Proofs.YthhijgcfbjcgiaaGreatDoor
open Go Go.RowKit
attribute [local go_sem] Oper.semAt_some
open Go.Lib renaming hid→zAA
open Go.IntKind renaming wrap_i64→zAB,i64→zAD
open List renaming getElem_mem→zAC
open Nat renaming lt_or_ge→zAE
theorem nM {α:Type} {P:α→Prop} {l:List α} {j:Nat} (h:∀k (hk:k<l.length),k<j→P l[k]) (hj:j<l.length) (hp:P l[j]):∀k (hk:k<l.length),k<j+1→P l[k]:=fun k hk h1=>by
 rcases zAE k j with h2|h2
 ·exact h k hk h2
 ·obtain rfl:k=j:=by omega
  exact hp
theorem qg {α:Type} {P:α→Prop} {l:List α} {j:Nat} (h:∀k (hk:k<l.length),k<j→P l[k]) (hj:l.length≤j):∀x∈l,P x:=fun x hx=>by
 obtain ⟨k,hk,rfl⟩:=List.getElem_of_mem hx
 exact h k hk (by omega)
def Jo (n:Nat) (ss:List bh) (w:World) (e:Ending) (w':World):Prop:=(∃b,e= .returned (.bool b)∧(b=false→n≤4→∀s∈ss,fL s))∧Below w.heap.size w w'
set_option maxRecDepth 100000 in
set_option maxHeartbeats 16000000 in
theorem si (ss:List bh) (A:Option Addr) (n c:Nat) (w:World) (hn:ss.length=n) (hat:dR w A ss) (hL:∀s∈ss,rc s):Calls Tryz.prog 10 #[.slice A n c] w (Jo n ss w):=by
 have HN:=zAA hn;have HAT:=zAA hat;have HL:=zAA hL
 clear hn hat hL
 go_enter Tryz.func10,Tryz.ntmps10
 go_wp2_with fail
 go_loopg [3,4] 5 (fun gk m i=>fun wr=>∃(j:Nat) (M:Int),j+gk=5∧j≤n∧i= .int .i64 (j:Int)∧m= .int .i64 M∧Hid (∀k (hk:k<ss.length),k<j→fL ss[k])∧Hid (Below w.heap.size w wr))
 case atStart=>exact ⟨0,0,by omega,by omega,rfl,rfl,zAA (fun k hk h=>by omega),zAA (Below.refl _ _)⟩
 case round=>
  obtain ⟨j,M,hj,hjn,rfl,rfl,HJ,HB⟩:=hrel
  cases gk with
  |zero=>
   have hlt2:¬((j:Int)<5):=by omega
   have HH:=zAA (show 5≤n by omega)
   cases h4:decide ((4:Int)<(n:Int)) with
   |false=>simp at h4;omega
   |true=>
    cases h100:decide ((n:Int)≤100) with
    |_=>
     clear hj hjn
     rcases zAE j n with hlt0|hge
     ·have hlt:((j:Int)<(n:Int)):=by omega
      go_wp2_with fail
      go_ret
      exact ⟨⟨_,rfl,fun _ h=>by have:=HH.out;omega⟩,HB.out⟩
     ·have hlt:¬((j:Int)<(n:Int)):=by omega
      go_wp2_with fail
      go_ret
      exact ⟨⟨_,rfl,fun _ h=>by have:=HH.out;omega⟩,HB.out⟩
  |succ og=>
   have hlt2:((j:Int)<5):=by omega
   rcases zAE j n with hlt0|hge
   case inr=>
    have hlt:¬((j:Int)<(n:Int)):=by omega
    have HMEM:=zAA (qg HJ.out (by rw [HN.out];exact hge))
    have h4:¬((4:Int)<(n:Int)):=by omega
    clear hj hjn hge
    go_wp2_with fail
    go_ret
    exact ⟨⟨_,rfl,fun _ _=>HMEM.out⟩,HB.out⟩
   have hlt:((j:Int)<(n:Int)):=by omega
   have hltz:¬((j:Int)<0):=by omega
   have hjl:j<ss.length:=by rw [HN.out];exact hlt0
   obtain ⟨ad,rfl,_,c0,c1,c2,c3⟩:=iU (HAT.out.row.below HB.out) j hjl
   have hw1:zAD.wrap ((j:Int)+1)=(j:Int)+1:=by rw [zAB];omega
   have hmem:=zAC hjl
   have HALL:=zAA (fun h=>nM HJ.out hjl h)
   obtain ⟨S,hSS⟩:∃S,ss[j]=S:=⟨_,rfl⟩
   rw [hSS] at hmem c0 c1 c2 c3 HALL
   have HCC:Hid (∀W,Below w.heap.size w W→W.cell? ⟨(ad.add (j*4)).block,(ad.add (j*4)).off+3,none⟩=some (.slice S.A S.gs.length S.c)):=zAA fun W hb=>by
    obtain ⟨ad',e,_,_,_,_,d3⟩:=iU (HAT.out.row.below hb) j hjl
    cases e
    rw [hSS] at d3
    exact d3
   have hsa:=HAT.out.sh _ hmem
   have hsl:=HL.out _ hmem
   obtain ⟨tm,ty,sp,sA,sc,gs,gA,gc⟩:=S
   obtain ⟨_,hgrow,hgat⟩:=hsa
   dsimp only at c0 c1 c2 c3 hgrow hgat HCC
   have hsl:∀g∈gs,g.ms.length≤9223372036854775807:=hsl
   have HGROW:=zAA hgrow;have HGAT:=zAA hgat;have HSL:=zAA hsl;have HJ5:=zAA (And.intro hj hlt0)
   obtain ⟨sk,hsk⟩:∃k,sp.length=k:=⟨_,rfl⟩
   obtain ⟨gn,hgn⟩:∃k,gs.length=k:=⟨_,rfl⟩
   have HSK:=zAA hsk;have HGN:=zAA hgn
   rw [hsk] at c2
   rw [hgn] at c3 HCC
   clear hmem hSS hjl hj hjn hlt0 hgrow hgat hsl hsk hgn HJ
   cases h14:decide ((14:Int)<(gn:Int)) with
   |true=>
    go_wp2_with fail
    go_ret
    exact ⟨⟨_,rfl,fun h=>by cases h⟩,HB.out⟩
   |false=>
   cases h60:decide ((60:Int)<(sk:Int)) with
   |true=>
    go_wp2_with fail
    go_ret
    exact ⟨⟨_,rfl,fun h=>by cases h⟩,HB.out⟩
   |false=>
   have H14:=zAA (show gn≤14 by simp at h14;omega);have H60:=zAA (show sk≤60 by simp at h60;omega)
   go_wp2_with fail
   clear c0 c1 c2 c3 h14 h60
   go_loopg [3,5] gn (fun gk m i=>fun wr=>∃(j2:Nat) (M:Int),j2+gk=gn∧i= .int .i64 (j2:Int)∧m= .int .i64 M∧Hid (∀k (hk:k<gs.length),k<j2→ra gs[k])∧Hid (Below w.heap.size w wr))
   case atStart=>exact ⟨0,M,by omega,rfl,rfl,zAA (fun k hk h=>by omega),HB⟩
   case round=>
    obtain ⟨j2,M,hj2,rfl,rfl,HJ2,HB⟩:=hrel
    have z3:=HCC.out _ HB.out
    cases gk with
    |zero=>
     have hlt3:¬((j2:Int)<(gn:Int)):=by omega
     have HNEW:Hid (∀k (hk:k<ss.length),k<j+1→fL ss[k]):=zAA (HALL.out ⟨by dsimp only;have:=H60.out;have:=HSK.out;omega,by dsimp only;have:=H14.out;have:=HGN.out;omega,qg HJ2.out (by dsimp only;rw [HGN.out];omega)⟩)
     clear hj2
     go_wp2_with fail
     go_roundg og
     case measure=>omega
     case rel=>exact ⟨j+1,M,by have:=HJ5.out.1;omega,by have:=HJ5.out.2;omega,rfl,rfl,HNEW,HB⟩
    |succ mg=>
     have hlt3:((j2:Int)<(gn:Int)):=by omega
     have hlt30:¬((j2:Int)<0):=by omega
     have hjl2:j2<gs.length:=by rw [HGN.out];omega
     obtain ⟨a2,rfl,_,d0,d1,d2,d3⟩:=mj (HGROW.out.below HB.out) j2 hjl2
     have hw2:zAD.wrap ((j2:Int)+1)=(j2:Int)+1:=by have:=H14.out;rw [zAB];omega
     have hmem:=zAC hjl2
     have HALL2:=zAA (fun h=>nM HJ2.out hjl2 h)
     obtain ⟨G,hG⟩:∃G,gs[j2]=G:=⟨_,rfl⟩
     rw [hG] at hmem d0 d1 d2 d3 HALL2
     have hga:=HGAT.out _ hmem
     have hgl:=HSL.out _ hmem
     obtain ⟨num,qu,gsp,gsA,gsc,ms,mA,mc⟩:=G
     obtain ⟨_,hmrow,hmat⟩:=hga
     dsimp only at d0 d1 d2 d3 hmrow hmat hgl
     have HMROW:=zAA hmrow;have HMAT:=zAA hmat;have HJJ2:=zAA hj2;have HGL:=zAA hgl
     obtain ⟨gk2,hgk2⟩:∃k,gsp.length=k:=⟨_,rfl⟩
     obtain ⟨mn,hmn⟩:∃k,ms.length=k:=⟨_,rfl⟩
     have HGK:=zAA hgk2;have HMN:=zAA hmn
     rw [hgk2] at d2
     rw [hmn] at d3
     obtain ⟨M2,hM2⟩:∃M2,zAD.wrap (M+(mn:Int))=M2:=⟨_,rfl⟩
     have hba:=HB.out.alloc HB.out.size (.cells #[.int .i64 num,.int .i64 qu,.slice gsA gk2 gsc,.slice mA mn mc] 51)
     obtain ⟨g6,hg6⟩:∃g,wr.heap.size=g:=⟨_,rfl⟩
     have hb6:ab (wr.alloc (.cells #[.int .i64 num,.int .i64 qu,.slice gsA gk2 gsc,.slice mA mn mc] 51)) g6 51 #[.int .i64 num,.int .i64 qu,.slice gsA gk2 gsc,.slice mA mn mc]:=aD (ab.new _ _ _) hg6
     have HB6:=zAA hb6;have HBA:=zAA hba
     clear hmem hG hjl2 hj2 hmrow hmat hgl hgk2 hmn hba hb6 HJ2
     cases k60:decide ((60:Int)<(gk2:Int)) with
     |true=>
      go_wp2_with fail
      go_ret
      exact ⟨⟨_,rfl,fun h=>by cases h⟩,HBA.out⟩
     |false=>
     cases k120:decide ((120:Int)<M2) with
     |true=>
      go_wp2_with fail
      go_ret
      exact ⟨⟨_,rfl,fun h=>by cases h⟩,HBA.out⟩
     |false=>
     have HG60:=zAA (show gk2≤60 by simp at k60;omega)
     go_wp2_with fail
     clear d0 d1 d2 d3 z3 k60 k120 hM2
     go_loopg [7] mn (fun gk i=>fun wr=>∃(j3:Nat),j3+gk=mn∧i= .int .i64 (j3:Int)∧Hid (∀k (hk:k<ms.length),k<j3→wh ms[k])∧Hid (Below w.heap.size w wr)∧Hid (ab wr g6 51 #[.int .i64 num,.int .i64 qu,.slice gsA gk2 gsc,.slice mA mn mc]))
     case atStart=>exact ⟨0,by omega,rfl,zAA (fun k hk h=>by omega),HBA,HB6⟩
     case round=>
      obtain ⟨j3,hj3,rfl,HJ3,HB3,HBK⟩:=hrel
      have z3:=HBK.out.cell 3
      (try dsimp only at z3)
      cases gk with
      |zero=>
       have hlt4:¬((j3:Int)<(mn:Int)):=by omega
       have HNEW:Hid (∀k (hk:k<gs.length),k<j2+1→ra gs[k]):=zAA (HALL2.out ⟨by dsimp only;have:=HG60.out;have:=HGK.out;omega,by dsimp only;exact HGL.out,qg HJ3.out (by dsimp only;rw [HMN.out];omega)⟩)
       clear hj3
       go_wp2_with fail
       go_roundg mg
       case measure=>omega
       case rel=>exact ⟨j2+1,M2,by have:=HJJ2.out;omega,rfl,rfl,HNEW,HB3⟩
      |succ ig=>
       have hlt4:((j3:Int)<(mn:Int)):=by omega
       have hlt40:¬((j3:Int)<0):=by omega
       have hjl3:j3<ms.length:=by rw [HMN.out];omega
       obtain ⟨a3,rfl,_,e0,e1,e2,e3,e4,e5,e6⟩:=mo (HMROW.out.below HB3.out) j3 hjl3
       have hw3:zAD.wrap ((j3:Int)+1)=(j3:Int)+1:=by have:=HGL.out;have:=HMN.out;rw [zAB];omega
       have hmem:=zAC hjl3
       have HALL3:=zAA (fun h=>nM HJ3.out hjl3 h)
       obtain ⟨X,hX⟩:∃X,ms[j3]=X:=⟨_,rfl⟩
       rw [hX] at hmem e0 e1 e2 e3 e4 e5 e6 HALL3
       have hma:=HMAT.out _ hmem
       obtain ⟨m,xs,xA,xc⟩:=X
       dsimp only at e0 e1 e2 e3 e4 e5 e6
       have CH:=zAA (fun W (hb:Below w.heap.size w W)=>Ca m xs xA xc W (hma.row.below hb))
       unfold fx at CH
       have HJJ3:=zAA hj3
       obtain ⟨bb,hbb⟩:∃bb,ld xs=bb:=⟨_,rfl⟩
       rw [hbb] at CH
       have HBB:=zAA hbb
       clear hmem hX hjl3 hj3 hma hbb HJ3
       cases bb with
       |true=>
        go_wp2_with (go_at_call 29;refine (CH.out _ HB3.out).mono ?_;rintro e w7 ⟨rfl,hb7⟩;have HB7:=zAA (HB3.out.trans (hb7.mono HB3.out.size));clear hb7)
        go_ret
        exact ⟨⟨_,rfl,fun h=>by cases h⟩,HB7.out⟩
       |false=>
        have hls:=Fy HBB.out
        have HNEW:Hid (∀k (hk:k<ms.length),k<j3+1→wh ms[k]):=zAA (HALL3.out ⟨by dsimp only;have:=hls.1;omega,fun b hb=>by have:=hls.2 b hb;omega⟩)
        clear hls
        go_wp2_with (go_at_call 29;refine (CH.out _ HB3.out).mono ?_;rintro e w7 ⟨rfl,hb7⟩;have HB7:=zAA (HB3.out.trans (hb7.mono HB3.out.size));have HBK7:=zAA (HBK.out.below hb7 HBK.out.lt);clear hb7)
        go_roundg ig
        case measure=>omega
        case rel=>exact ⟨j3+1,by have:=HJJ3.out;omega,rfl,HNEW,HB7,HBK7⟩
end Go.Proofs.YthhijgcfbjcgiaaGreatDoor
