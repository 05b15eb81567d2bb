/- Seek -/
import Derived.Test.YthhijgcfbjcgiaaGreatDoorT24
import Derived.Test.YthhijgcfbjcgiaaGreatDoorT39
namespace Go.Proofs.YthhijgcfbjcgiaaGreatDoor
open Go Go.RowKit
attribute [local go_sem] Oper.semAt_some
set_option maxHeartbeats 16000000
set_option maxRecDepth 100000
open List renaming setIfInBounds_toArray→O,set_cons_succ→U,set_cons_zero→Z,drop_succ_cons→X,drop_zero→OA,length→OF
open Go.Lib renaming hid→V
open Go.Proofs.YthhijgcfbjcgiaaGreatDoor.bY renaming take→Y,step→OC
open Go.Value renaming slice→J,int→OJ,pointer→OM
open Nat renaming le_refl→OB
open Go.IntKind renaming wrap_i64→OD,i64→OG,i64→OI
open Tryz renaming ntmps85→OE,func85→OH,prog→OL
open Go.Ending renaming returned→OK
def cF (j:Value) (p:Nat) (B:Value):Array Value:= #[j,OJ OI (p:Int),B]
def GZ (g:Nat) (j B:Value) (r:Nat×Int) (w:World) (e:Ending) (w':World):Prop:=
 w.grownBy w' (some g)/\((r.2=0/\(∃u,e=OK u)/\ab w' g 77 (cF j r.1 B))\/(r.2≠0/\ie r.2 e/\∃C,ab w' g 77 (cF j C B)))
theorem mu {W:World}{g p:Nat}{j B:Value}(h:ab W g 77 (cF j p B))(q:Nat):ab (W.setCell ⟨g,1,none⟩ (OJ OI (q:Int))) g 77 (cF j q B):=by
 have C:=h.set_ 1 (OJ OI (q:Int));unfold cF at*
 simpa using C
theorem pW (g:Nat)(A:Option Addr)(n c:Nat)(l:List UInt8)(p:Nat)(sv:Value)(D:Int)(w:World)(hb:ab w g 77 (cF (J A n c) p sv))(hA:Sl w A (l.map ag))(hn:OF l=n)(hsz:n<=2 ^ 40)(hp:p<=8*n):
  Calls OL 85 #[OM (some ⟨g,0,none⟩),OJ OI D] w (GZ g (J A n c) sv (fP l p D) w):=by
 have G:=V (show ab w.drew g 77 (cF (J A n c) p sv) from hb);have C1:=V (BD A n c l p w.drew hA hn hsz hp);have K:= @pR l p;have hcut:= @jk;unfold wm va at C1;obtain⟨r,T⟩:∃r,fP l p D=r:=⟨_,rfl⟩;rw[T];unfold fP at T;obtain⟨⟨num,en,er⟩,hs⟩:∃s,dq l p=s:=⟨_,rfl⟩;rw[hs] at C1 T K;dsimp only at C1 T K;have av:=V (lP w g);clear hb hA hs
 by_cases he:er=0
 ·subst he
  rw[if_pos rfl] at T C1;have hg:=K rfl;have bM:OG.wrap ((p:Int)+((en:Int) - (p:Int)))=(p:Int)+((en:Int) - (p:Int)):=(by rw[OD];omega);have aJ:(p:Int)+((en:Int) - (p:Int))=(en:Int):=(by omega);have HW:=V bM;have cI:=V aJ;clear K hg bM aJ
  by_cases hw:num=D
  ·rw[if_pos hw] at T
   subst T;have dy:(num !=D)=false:=(by simpa using hw);clear hw
   go_enter OH,OE
   go_wp2_with fail
   refine aP (λw'=>ab w' g 77 (cF (J A n c) p sv)) 17 (Y 0 (Y 1 (Y 2 (Y 3 (Y 4 (Y 5 (Y 6 (Y 7 (Y 8 (Y 9 (OC 10 (Y 11 (Y 12 (Y 13 (Y 14 (OC 15 (OC 16 .done))))))))))))))))) (G.out) (λPE I=>?_)
   iterate 10
    refine af (v:=?_) rfl (by rfl) ?_ ?_
    rotate_left
    ·intro _ B;(try dsimp only at B);have a:=B;unfold cF at a;have a0:=a.cell 0;have a1:=a.cell 1;(try dsimp only at a0 a1);go_simp;(try with_reducible rfl)
    simp only[O,Z,U]
   refine aG (f:=140) rfl (by rfl) (by first|(go_simp;done)|(go_simp;rfl)) C1.out ?_;rintro e w2 ⟨rfl,C⟩;have j:=V (G.out.below C G.out.lt);have M:=V (av.out.trans (dr C (OB _)));refine⟨_,rfl,_,λ_ h=>h,j.out,?_⟩;simp only[O,Z,U]
   iterate 4
    refine af (v:=?_) rfl (by rfl) ?_ ?_
    rotate_left
    ·intro _ B;(try dsimp only at B);go_simp;(try with_reducible rfl)
    simp only[O,Z,U]
   refine aj (v:=?_) (w':=?_) rfl (by rfl) ?_ ?_ ?_;rotate_left 2
   ·go_simp;(try (constructor<;>with_reducible rfl))
   ·exact j.out
   simp only[O,Z,U];refine aj (v:=?_) (w':=?_) rfl (by rfl) ?_ ?_ ?_;rotate_left 2
   ·go_simp;(try (constructor<;>with_reducible rfl))
   ·exact j.out
   simp only[O,Z,U];refine I _ _ ?_;clear I PE;simp only[X,OA];clear C;go_wp2_with fail
   refine⟨rfl,?_⟩;go_wp2_with (go_at_call 87;refine(eZ g (J A n c) sv p ((en:Int) - (p:Int)) _ j.out HW.out).mono ?_;rintro e w3 ⟨⟨u,rfl⟩,rfl⟩)
   refine bodyPost_end (results_none rfl _ _ _) rfl ⟨M.out.trans (gY _ _ _ _),.inl ⟨rfl,⟨_,rfl⟩,?_⟩⟩;rw[cI.out];exact mu j.out en
  ·rw[if_neg hw] at T
   subst T;have dy:(num !=D)=true:=(by simpa using hw);clear hw
   go_enter OH,OE
   go_wp2_with fail
   refine aP (λw'=>ab w' g 77 (cF (J A n c) p sv)) 17 (Y 0 (Y 1 (Y 2 (Y 3 (Y 4 (Y 5 (Y 6 (Y 7 (Y 8 (Y 9 (OC 10 (Y 11 (Y 12 (Y 13 (Y 14 (OC 15 (OC 16 .done))))))))))))))))) (G.out) (λPE I=>?_)
   iterate 10
    refine af (v:=?_) rfl (by rfl) ?_ ?_
    rotate_left
    ·intro _ B;(try dsimp only at B);have a:=B;unfold cF at a;have a0:=a.cell 0;have a1:=a.cell 1;(try dsimp only at a0 a1);go_simp;(try with_reducible rfl)
    simp only[O,Z,U]
   refine aG (f:=140) rfl (by rfl) (by first|(go_simp;done)|(go_simp;rfl)) C1.out ?_;rintro e w2 ⟨rfl,C⟩;have j:=V (G.out.below C G.out.lt);have M:=V (av.out.trans (dr C (OB _)));refine⟨_,rfl,_,λ_ h=>h,j.out,?_⟩;simp only[O,Z,U]
   iterate 4
    refine af (v:=?_) rfl (by rfl) ?_ ?_
    rotate_left
    ·intro _ B;(try dsimp only at B);go_simp;(try with_reducible rfl)
    simp only[O,Z,U]
   refine aj (v:=?_) (w':=?_) rfl (by rfl) ?_ ?_ ?_;rotate_left 2
   ·go_simp;(try (constructor<;>with_reducible rfl))
   ·exact j.out
   simp only[O,Z,U];refine aj (v:=?_) (w':=?_) rfl (by rfl) ?_ ?_ ?_;rotate_left 2
   ·go_simp;(try (constructor<;>with_reducible rfl))
   ·exact j.out
   simp only[O,Z,U];refine I _ _ ?_;clear I PE;simp only[X,OA];clear C;go_wp2_with fail
   refine⟨rfl,?_⟩;go_wp2_with (go_at_call 87;refine(dM g ((en:Int) - (p:Int)) 8 (by decide) _).mono ?_;rintro e w3 ⟨N,rfl⟩;unfold ie at N;subst N)
   exact⟨rfl,M.out,.inr ⟨by decide,rfl,p,j.out⟩⟩
 ·rw[if_neg he] at T C1
  subst T;have dv:=V he;have cE:=V (hcut he);have hq:(er==0)=false:=(by simpa using he);clear K hcut he
  go_enter OH,OE
  go_wp2_with fail
  refine aP (λw'=>ab w' g 77 (cF (J A n c) p sv)) 17 (Y 0 (Y 1 (Y 2 (Y 3 (Y 4 (Y 5 (Y 6 (Y 7 (Y 8 (Y 9 (OC 10 (Y 11 (Y 12 (Y 13 (Y 14 (OC 15 (OC 16 .done))))))))))))))))) (G.out) (λPE I=>?_)
  iterate 10
   refine af (v:=?_) rfl (by rfl) ?_ ?_
   rotate_left
   ·intro _ B;(try dsimp only at B);have a:=B;unfold cF at a;have a0:=a.cell 0;have a1:=a.cell 1;(try dsimp only at a0 a1);go_simp;(try with_reducible rfl)
   simp only[O,Z,U]
  refine aG (f:=140) rfl (by rfl) (by first|(go_simp;done)|(go_simp;rfl)) C1.out ?_;rintro e w2 ⟨rfl,C⟩;have j:=V (G.out.below C G.out.lt);have M:=V (av.out.trans (dr C (OB _)));refine⟨_,rfl,_,λ_ h=>h,j.out,?_⟩;simp only[O,Z,U]
  iterate 4
   refine af (v:=?_) rfl (by rfl) ?_ ?_
   rotate_left
   ·intro _ B;(try dsimp only at B);go_simp;(try with_reducible rfl)
   simp only[O,Z,U]
  refine aj (v:=?_) (w':=?_) rfl (by rfl) ?_ ?_ ?_;rotate_left 2
  ·go_simp;(try (constructor<;>with_reducible rfl))
  ·exact j.out
  simp only[O,Z,U];refine aj (v:=?_) (w':=?_) rfl (by rfl) ?_ ?_ ?_;rotate_left 2
  ·go_simp;(try (constructor<;>with_reducible rfl))
  ·exact j.out
  simp only[O,Z,U];refine I _ _ ?_;clear I PE;simp only[X,OA];clear C;go_wp2_with fail
  refine⟨rfl,?_⟩;go_wp2_with (go_at_call 87;refine(dM g 0 er dv.out _).mono ?_;rintro e w3 ⟨N,rfl⟩;unfold ie at N;subst N)
  exact⟨rfl,M.out,.inr ⟨cE.out,rfl,p,j.out⟩⟩
def Fg (g:Nat) (j B:Value) (l:List UInt8) (w:World) (e:Ending) (w':World):Prop:=
 w.grownBy w' (some g)/\((gy l (8*OF l) 0=none/\e=OK (.bool false)/\∃C,ab w' g 77 (cF j C B))\/(∃q,gy l (8*OF l) 0=some q/\q<=8*OF l/\e=OK (.bool true)/\ab w' g 77 (cF j q B)))
theorem zV (g:Nat)(A:Option Addr)(n c:Nat)(l:List UInt8)(sv:Value)(w:World)(hb:ab w g 77 (cF (J A n c) 0 sv))(_hA:Sl w A (l.map ag))(Hl:∀W,w.grownBy W (some g)->Sl W A (l.map ag)) (hn:OF l=n) (hsz:n<=2 ^ 40):
  Calls OL 46 #[OM (some ⟨g,0,none⟩)] w (Fg g (J A n c) sv l w):=by
 have HB:=V hb;have kA:=V Hl;have HN:=V hn;clear hb _hA Hl
 go_enter Tryz.func46,Tryz.ntmps46
 go_wp2_with fail
 go_loopg [] (8*n) (λgk=> λwr=>∃(q:Nat),q+gk=8*n/\Hid (nM l q)/\Hid (w.grownBy wr (some g))/\Hid (ab wr g 77 (cF (J A n c) q sv)))
 case atStart=>exact⟨0,by omega,V (λj hj=>by omega),V (tr w g),HB⟩
 case round=>
  obtain⟨q,hq,kU,HG,K3⟩:=hrel;have N:=V (show ab wr.drew g 77 (cF (J A n c) q sv) from K3.out);have fJ:=V (HG.out.trans (lP wr g));have C1:=V (DF A n c l q wr.drew (kA.out _ fJ.out) hn hsz (by omega));have HQ:=V hq;clear hq;go_wp2_with fail
  refine aP (λw'=>ab w' g 77 (cF (J A n c) q sv)) 15 (Y 0 (Y 1 (Y 2 (Y 3 (Y 4 (Y 5 (Y 6 (Y 7 (Y 8 (Y 9 (OC 10 (Y 11 (Y 12 (Y 13 (OC 14 .done))))))))))))))) (N.out) (λPE dv=>?_)
  iterate 10
   refine af (v:=?_) rfl (by rfl) ?_ ?_
   rotate_left
   ·intro _ I;(try dsimp only at I);have a:=I;unfold cF at a;have a0:=a.cell 0;have a1:=a.cell 1;(try dsimp only at a0 a1);go_simp;(try with_reducible rfl)
   simp only[O,Z,U]
  refine aG (f:=83) rfl (by rfl) (by first|(go_simp;done)|(go_simp;rfl)) C1.out ?_;rintro e w2 ⟨K,(⟨B,rfl,hf⟩|⟨rfl,JT⟩)⟩
  ·have D:=V (N.out.below K N.out.lt);have eE:=V (fJ.out.trans (dr K (OB _)))
   refine⟨_,rfl,_,λ_ h=>h,D.out,?_⟩;simp only[O,Z,U]
   iterate 3
    refine af (v:=?_) rfl (by rfl) ?_ ?_
    rotate_left
    ·intro _ I;(try dsimp only at I);go_simp;(try with_reducible rfl)
    simp only[O,Z,U]
   refine aj (v:=?_) (w':=?_) rfl (by rfl) ?_ ?_ ?_;rotate_left 2
   ·go_simp;(try (constructor<;>with_reducible rfl))
   ·exact D.out
   simp only[O,Z,U];refine dv _ _ ?_;clear dv PE;simp only[X,OA];clear K;obtain⟨dy,⟨M,Ht,Hu⟩,dO⟩:=hf;have T:=V (xD kU.out dO);have K4:=V (show jv l B from⟨M,Ht,Hu⟩);have rG:=V dy;rw[hn] at M;have cE:=V (mu D.out B);have av:=cE.out;have G:=D.out;unfold cF at av G;have y1:=G.cell 1;have y2:=G.frozen 1;have u0:=av.cell 0;have u1:=av.cell 1;have u2:=av.frozen 1;(try dsimp only at y1 y2 u0 u1 u2);have K8:OG.wrap ((B:Int)+16)=(B:Int)+16:=(by rw[OD];omega);have K9:OG.wrap ((B:Int)+1)=(B:Int)+1:=(by rw[OD];omega);have bM:=V (eE.out.trans (gY w2 g 1 (OJ OI (B:Int))));have aJ:=V M;clear dO Ht Hu av G
   by_cases cI:B+20<=8*n
   ·have CR:=V (kD A n c l ((B:Int)+16) 4 (w2.setCell ⟨g,1,none⟩ (OJ OI (B:Int))) (kA.out _ bM.out) hn (by omega) (by omega) (by omega) (by omega) (by omega))
    rw[show ((B:Int)+16).toNat=B+16 by omega,show (4:Int).toNat=4 from rfl] at CR
    have jg:Hid (jd l B=decide (aB l (B+16) 4=0)):=V (by
     rw[Bool.eq_iff_iff,qv,decide_eq_true_eq];exact⟨λh=>h.2.2,λh=>⟨K4.out,by rw[hn];omega,h⟩⟩)
    obtain⟨x,hx⟩:∃x,aB l (B+16) 4=x:=⟨_,rfl⟩;rw[hx] at CR jg;have K0:=V cI
    by_cases jY:x=0
    ·subst jY
     have K6:=V (EN T.out (by rw[jg.out];rfl));simp only[Int.natCast_zero] at CR;clear hx cI M dy;go_wp2_with fail
     refine⟨rfl,?_⟩;go_wp2_with (go_at_call 56;refine CR.out.mono ?_;rintro e w3 ⟨rfl,rfl⟩)
     go_ret;exact⟨bM.out,.inr ⟨B,K6.out,by have:=K0.out;rw[hn];omega,rfl,cE.out⟩⟩
    ·have gj:=V (sf T.out (by rw[jg.out];simpa using jY))
     have Kt:((x:Int)==0)=false:=(by simp;omega);have C:=mu cE.out (B+1);rw[show ((B+1:Nat):Int)=(B:Int)+1 by omega] at C;have iP:=V C;clear hx cI M dy jY C;go_wp2_with fail
     refine⟨rfl,?_⟩;go_wp2_with (go_at_call 56;refine CR.out.mono ?_;rintro e w3 ⟨rfl,rfl⟩)
     go_roundg (8*n - (B+1))
     case measure=>have:=HQ.out;have:=rG.out;have:=aJ.out;omega
     case rel=>exact⟨B+1,by have:=aJ.out;omega,gj,V (bM.out.trans (gY _ _ _ _)),iP⟩
   ·have CR:=V (dj A n c ((B:Int)+16) 4 (w2.setCell ⟨g,1,none⟩ (OJ OI (B:Int))) (by omega) (by omega) (by omega) (by omega) (by omega))
    have gj:=V (sf T.out (by rw[Bool.eq_false_iff];intro h;have:=(qv.1 h).2.1;rw[hn] at this;omega));have C:=mu cE.out (B+1);rw[show ((B+1:Nat):Int)=(B:Int)+1 by omega] at C;have iP:=V C;clear cI M dy C;go_wp2_with fail
    refine⟨rfl,?_⟩;go_wp2_with (go_at_call 56;refine CR.out.mono ?_;rintro e w3 ⟨rfl,rfl⟩)
    go_roundg (8*n - (B+1))
    case measure=>have:=HQ.out;have:=rG.out;have:=aJ.out;omega
    case rel=>exact⟨B+1,by have:=aJ.out;omega,gj,V (bM.out.trans (gY _ _ _ _)),iP⟩
  ·have D:=V (N.out.below K N.out.lt);have eE:=V (fJ.out.trans (dr K (OB _)))
   have K5:=V (EM kU.out JT);refine⟨_,rfl,_,λ_ h=>h,D.out,?_⟩;simp only[O,Z,U]
   iterate 3
    refine af (v:=?_) rfl (by rfl) ?_ ?_
    rotate_left
    ·intro _ I;(try dsimp only at I);go_simp;(try with_reducible rfl)
    simp only[O,Z,U]
   refine aj (v:=?_) (w':=?_) rfl (by rfl) ?_ ?_ ?_;rotate_left 2
   ·go_simp;(try (constructor<;>with_reducible rfl))
   ·exact D.out
   simp only[O,Z,U];refine dv _ _ ?_;clear dv PE;simp only[X,OA];clear K JT;go_wp2_with fail
   refine⟨rfl,?_⟩;go_wp2_with fail
   go_ret;exact⟨eE.out,.inl ⟨K5.out,rfl,q,D.out⟩⟩
end Go.Proofs.YthhijgcfbjcgiaaGreatDoor
