/- Seek, RFst -/
import Derived.Test.YthhijgcfbjcgiaaGreatDoorQ24
import Derived.Test.YthhijgcfbjcgiaaGreatDoorQ38
namespace Go.Proofs.YthhijgcfbjcgiaaGreatDoor
open Go Go.RowKit
attribute [local go_sem] Oper.semAt_some
set_option maxHeartbeats 16000000
set_option maxRecDepth 100000
open List renaming setIfInBounds_toArray→O,set_cons_succ→Z,set_cons_zero→V,drop_succ_cons→J,length→OA,drop_zero→OC
open Go.Lib renaming hid→U
open Go.Proofs.YthhijgcfbjcgiaaGreatDoor.cb renaming take→Y,step→OJ
open Go.IntKind renaming wrap_i64→X,i64→OD,i64→OF
open Go.Value renaming slice→OB,int→OE,pointer→OS,bool→OT
open Int renaming natCast_zero→OG,toNat_natCast→OK
open Go.Ending renaming returned→OH
open Nat renaming le_refl→OI
open Tryz renaming prog→OL,ntmps85→OM,func85→OO,ntmps52→OQ,func52→OR
open Bool renaming eq_false_iff→ON,eq_iff_iff→OP
def cL (j:Value) (p:Nat) (B:Value):Array Value:= #[j,OE OD (p:Int),B]
def Hw (g:Nat) (j B:Value) (r:Nat×Int) (w:World) (e:Ending) (w':World):Prop:=
 w.grownBy w' (some g)/\((r.2=0/\(∃u,e=OH u)/\ab w' g 77 (cL j r.1 B))\/(r.2≠0/\io r.2 e/\∃C,ab w' g 77 (cL j C B)))
theorem mp {W:World}{g p:Nat}{j B:Value}(h:ab W g 77 (cL j p B))(q:Nat):ab (W.setCell ⟨g,1,none⟩ (OE OD (q:Int))) g 77 (cL j q B):=by
 have C:=h.set_ 1 (OE OD (q:Int));unfold cL at*
 simpa using C
theorem qg (g:Nat)(A:Option Addr)(n c:Nat)(l:List UInt8)(p:Nat)(sv:Value)(D:Int)(w:World)(hb:ab w g 77 (cL (OB A n c) p sv))(hA:Sl w A (l.map af))(hn:OA l=n)(hsz:n<=2 ^ 40)(hp:p<=8*n):
  Calls OL 85 #[OS (some ⟨g,0,none⟩),OE OD D] w (Hw g (OB A n c) sv (dM l p D) w):=by
 have G:=U (show ab w.drew g 77 (cL (OB A n c) p sv) from hb);have C1:=U (BW A n c l p w.drew hA hn hsz hp);have K:= @kO l p;have hcut:= @dO;unfold jp qe at C1;obtain⟨r,T⟩:∃r,dM l p D=r:=⟨_,rfl⟩;rw[T];unfold dM at T;obtain⟨⟨num,en,er⟩,hs⟩:∃s,cV l p=s:=⟨_,rfl⟩;rw[hs] at C1 T K;dsimp only at C1 T K;have aB:=U (lM w g);clear hb hA hs
 by_cases he:er=0
 ·subst he
  rw[if_pos rfl] at T C1;have hg:=K rfl;have bE:OF.wrap ((p:Int)+((en:Int) - (p:Int)))=(p:Int)+((en:Int) - (p:Int)):=(by rw[X];omega);have aC:(p:Int)+((en:Int) - (p:Int))=(en:Int):=(by omega);have HW:=U bE;have dt:=U aC;clear K hg bE aC
  by_cases hw:num=D
  ·rw[if_pos hw] at T
   subst T;have dE:(num !=D)=false:=(by simpa using hw);clear hw
   go_enter OO,OM
   go_wp2_with fail
   refine bf (λw'=>ab w' g 77 (cL (OB A n c) p sv)) 17 (Y 0 (Y 1 (Y 2 (Y 3 (Y 4 (Y 5 (Y 6 (Y 7 (Y 8 (Y 9 (OJ 10 (Y 11 (Y 12 (Y 13 (Y 14 (OJ 15 (OJ 16 .done))))))))))))))))) (G.out) (λPE I=>?_)
   iterate 10
    refine aj (v:=?_) rfl (by rfl) ?_ ?_
    rotate_left
    ·intro _ B;(try dsimp only at B);have a:=B;unfold cL at a;have a0:=a.cell 0;have a1:=a.cell 1;(try dsimp only at a0 a1);go_simp;(try with_reducible rfl)
    simp only[O,V,Z]
   refine aX (f:=140) rfl (by rfl) (by first|(go_simp;done)|(go_simp;rfl)) C1.out ?_;rintro e w2 ⟨rfl,C⟩;have j:=U (G.out.below C G.out.lt);have M:=U (aB.out.trans (dw C (OI _)));refine⟨_,rfl,_,λ_ h=>h,j.out,?_⟩;simp only[O,V,Z]
   iterate 4
    refine aj (v:=?_) rfl (by rfl) ?_ ?_
    rotate_left
    ·intro _ B;(try dsimp only at B);go_simp;(try with_reducible rfl)
    simp only[O,V,Z]
   refine az (v:=?_) (w':=?_) rfl (by rfl) ?_ ?_ ?_;rotate_left 2
   ·go_simp;(try (constructor<;>with_reducible rfl))
   ·exact j.out
   simp only[O,V,Z];refine az (v:=?_) (w':=?_) rfl (by rfl) ?_ ?_ ?_;rotate_left 2
   ·go_simp;(try (constructor<;>with_reducible rfl))
   ·exact j.out
   simp only[O,V,Z];refine I _ _ ?_;clear I PE;simp only[J,OC];clear C;go_wp2_with fail
   refine⟨rfl,?_⟩;go_wp2_with (go_at_call 87;refine(ff g (OB A n c) sv p ((en:Int) - (p:Int)) _ j.out HW.out).mono ?_;rintro e w3 ⟨⟨u,rfl⟩,rfl⟩)
   refine bodyPost_end (results_none rfl _ _ _) rfl ⟨M.out.trans (hO _ _ _ _),.inl ⟨rfl,⟨_,rfl⟩,?_⟩⟩;rw[dt.out];exact mp j.out en
  ·rw[if_neg hw] at T
   subst T;have dE:(num !=D)=true:=(by simpa using hw);clear hw
   go_enter OO,OM
   go_wp2_with fail
   refine bf (λw'=>ab w' g 77 (cL (OB A n c) p sv)) 17 (Y 0 (Y 1 (Y 2 (Y 3 (Y 4 (Y 5 (Y 6 (Y 7 (Y 8 (Y 9 (OJ 10 (Y 11 (Y 12 (Y 13 (Y 14 (OJ 15 (OJ 16 .done))))))))))))))))) (G.out) (λPE I=>?_)
   iterate 10
    refine aj (v:=?_) rfl (by rfl) ?_ ?_
    rotate_left
    ·intro _ B;(try dsimp only at B);have a:=B;unfold cL at a;have a0:=a.cell 0;have a1:=a.cell 1;(try dsimp only at a0 a1);go_simp;(try with_reducible rfl)
    simp only[O,V,Z]
   refine aX (f:=140) rfl (by rfl) (by first|(go_simp;done)|(go_simp;rfl)) C1.out ?_;rintro e w2 ⟨rfl,C⟩;have j:=U (G.out.below C G.out.lt);have M:=U (aB.out.trans (dw C (OI _)));refine⟨_,rfl,_,λ_ h=>h,j.out,?_⟩;simp only[O,V,Z]
   iterate 4
    refine aj (v:=?_) rfl (by rfl) ?_ ?_
    rotate_left
    ·intro _ B;(try dsimp only at B);go_simp;(try with_reducible rfl)
    simp only[O,V,Z]
   refine az (v:=?_) (w':=?_) rfl (by rfl) ?_ ?_ ?_;rotate_left 2
   ·go_simp;(try (constructor<;>with_reducible rfl))
   ·exact j.out
   simp only[O,V,Z];refine az (v:=?_) (w':=?_) rfl (by rfl) ?_ ?_ ?_;rotate_left 2
   ·go_simp;(try (constructor<;>with_reducible rfl))
   ·exact j.out
   simp only[O,V,Z];refine I _ _ ?_;clear I PE;simp only[J,OC];clear C;go_wp2_with fail
   refine⟨rfl,?_⟩;go_wp2_with (go_at_call 87;refine(dW g ((en:Int) - (p:Int)) 8 (by decide) _).mono ?_;rintro e w3 ⟨N,rfl⟩;unfold io at N;subst N)
   exact⟨rfl,M.out,.inr ⟨by decide,rfl,p,j.out⟩⟩
 ·rw[if_neg he] at T C1
  subst T;have dD:=U he;have cz:=U (hcut he);have hq:(er==0)=false:=(by simpa using he);clear K hcut he
  go_enter OO,OM
  go_wp2_with fail
  refine bf (λw'=>ab w' g 77 (cL (OB A n c) p sv)) 17 (Y 0 (Y 1 (Y 2 (Y 3 (Y 4 (Y 5 (Y 6 (Y 7 (Y 8 (Y 9 (OJ 10 (Y 11 (Y 12 (Y 13 (Y 14 (OJ 15 (OJ 16 .done))))))))))))))))) (G.out) (λPE I=>?_)
  iterate 10
   refine aj (v:=?_) rfl (by rfl) ?_ ?_
   rotate_left
   ·intro _ B;(try dsimp only at B);have a:=B;unfold cL at a;have a0:=a.cell 0;have a1:=a.cell 1;(try dsimp only at a0 a1);go_simp;(try with_reducible rfl)
   simp only[O,V,Z]
  refine aX (f:=140) rfl (by rfl) (by first|(go_simp;done)|(go_simp;rfl)) C1.out ?_;rintro e w2 ⟨rfl,C⟩;have j:=U (G.out.below C G.out.lt);have M:=U (aB.out.trans (dw C (OI _)));refine⟨_,rfl,_,λ_ h=>h,j.out,?_⟩;simp only[O,V,Z]
  iterate 4
   refine aj (v:=?_) rfl (by rfl) ?_ ?_
   rotate_left
   ·intro _ B;(try dsimp only at B);go_simp;(try with_reducible rfl)
   simp only[O,V,Z]
  refine az (v:=?_) (w':=?_) rfl (by rfl) ?_ ?_ ?_;rotate_left 2
  ·go_simp;(try (constructor<;>with_reducible rfl))
  ·exact j.out
  simp only[O,V,Z];refine az (v:=?_) (w':=?_) rfl (by rfl) ?_ ?_ ?_;rotate_left 2
  ·go_simp;(try (constructor<;>with_reducible rfl))
  ·exact j.out
  simp only[O,V,Z];refine I _ _ ?_;clear I PE;simp only[J,OC];clear C;go_wp2_with fail
  refine⟨rfl,?_⟩;go_wp2_with (go_at_call 87;refine(dW g 0 er dD.out _).mono ?_;rintro e w3 ⟨N,rfl⟩;unfold io at N;subst N)
  exact⟨rfl,M.out,.inr ⟨cz.out,rfl,p,j.out⟩⟩
def FA (g:Nat) (j B:Value) (l:List UInt8) (w:World) (e:Ending) (w':World):Prop:=
 w.grownBy w' (some g)/\((eX l (8*OA l) 0=none/\e=OH (OT false)/\∃C,ab w' g 77 (cL j C B))\/(∃q,eX l (8*OA l) 0=some q/\q<=8*OA l/\e=OH (OT true)/\ab w' g 77 (cL j q B)))
theorem Ac (g:Nat)(A:Option Addr)(n c:Nat)(l:List UInt8)(sv:Value)(w:World)(hb:ab w g 77 (cL (OB A n c) 0 sv))(_hA:Sl w A (l.map af))(wj:∀W,w.grownBy W (some g)->Sl W A (l.map af)) (hn:OA l=n) (hsz:n<=2 ^ 40):
  Calls OL 46 #[OS (some ⟨g,0,none⟩)] w (FA g (OB A n c) sv l w):=by
 have HB:=U hb;have jT:=U wj;have HN:=U hn;clear hb _hA wj
 go_enter Tryz.func46,Tryz.ntmps46
 go_wp2_with fail
 go_loopg [] (8*n) (λgk=> λwr=>∃(q:Nat),q+gk=8*n/\Hid (ls l q)/\Hid (w.grownBy wr (some g))/\Hid (ab wr g 77 (cL (OB A n c) q sv)))
 case atStart=>exact⟨0,by omega,U (λj hj=>by omega),U (tV w g),HB⟩
 case round=>
  obtain⟨q,hq,kz,HG,K0⟩:=hrel;have N:=U (show ab wr.drew g 77 (cL (OB A n c) q sv) from K0.out);have fW:=U (HG.out.trans (lM wr g));have C1:=U (DW A n c l q wr.drew (jT.out _ fW.out) hn hsz (by omega));have HQ:=U hq;clear hq;go_wp2_with fail
  refine bf (λw'=>ab w' g 77 (cL (OB A n c) q sv)) 15 (Y 0 (Y 1 (Y 2 (Y 3 (Y 4 (Y 5 (Y 6 (Y 7 (Y 8 (Y 9 (OJ 10 (Y 11 (Y 12 (Y 13 (OJ 14 .done))))))))))))))) (N.out) (λPE dD=>?_)
  iterate 10
   refine aj (v:=?_) rfl (by rfl) ?_ ?_
   rotate_left
   ·intro _ I;(try dsimp only at I);have a:=I;unfold cL at a;have a0:=a.cell 0;have a1:=a.cell 1;(try dsimp only at a0 a1);go_simp;(try with_reducible rfl)
   simp only[O,V,Z]
  refine aX (f:=83) rfl (by rfl) (by first|(go_simp;done)|(go_simp;rfl)) C1.out ?_;rintro e w2 ⟨K,(⟨B,rfl,hf⟩|⟨rfl,Iq⟩)⟩
  ·have D:=U (N.out.below K N.out.lt);have eE:=U (fW.out.trans (dw K (OI _)))
   refine⟨_,rfl,_,λ_ h=>h,D.out,?_⟩;simp only[O,V,Z]
   iterate 3
    refine aj (v:=?_) rfl (by rfl) ?_ ?_
    rotate_left
    ·intro _ I;(try dsimp only at I);go_simp;(try with_reducible rfl)
    simp only[O,V,Z]
   refine az (v:=?_) (w':=?_) rfl (by rfl) ?_ ?_ ?_;rotate_left 2
   ·go_simp;(try (constructor<;>with_reducible rfl))
   ·exact D.out
   simp only[O,V,Z];refine dD _ _ ?_;clear dD PE;simp only[J,OC];clear K;obtain⟨dE,⟨M,Io,Ip⟩,dY⟩:=hf;have T:=U (ov kz.out dY);have K1:=U (show gp l B from⟨M,Io,Ip⟩);have rX:=U dE;rw[hn] at M;have cz:=U (mp D.out B);have aB:=cz.out;have G:=D.out;unfold cL at aB G;have y1:=G.cell 1;have y2:=G.frozen 1;have u0:=aB.cell 0;have u1:=aB.cell 1;have u2:=aB.frozen 1;(try dsimp only at y1 y2 u0 u1 u2);have K4:OF.wrap ((B:Int)+16)=(B:Int)+16:=(by rw[X];omega);have K5:OF.wrap ((B:Int)+1)=(B:Int)+1:=(by rw[X];omega);have bE:=U (eE.out.trans (hO w2 g 1 (OE OD (B:Int))));have aC:=U M;clear dY Io Ip aB G
   by_cases dt:B+20<=8*n
   ·have CR:=U (kE A n c l ((B:Int)+16) 4 (w2.setCell ⟨g,1,none⟩ (OE OD (B:Int))) (jT.out _ bE.out) hn (by omega) (by omega) (by omega) (by omega) (by omega))
    rw[show ((B:Int)+16).toNat=B+16 by omega,show (4:Int).toNat=4 from rfl] at CR
    have hU:Hid (iN l B=decide (au l (B+16) 4=0)):=U (by
     rw[OP,lR,decide_eq_true_eq];exact⟨λh=>h.2.2,λh=>⟨K1.out,by rw[hn];omega,h⟩⟩)
    obtain⟨x,hx⟩:∃x,au l (B+16) 4=x:=⟨_,rfl⟩;rw[hx] at CR hU;have J2:=U dt
    by_cases ja:x=0
    ·subst ja
     have K3:=U (vF T.out (by rw[hU.out];rfl));simp only[OG] at CR;clear hx dt M dE;go_wp2_with fail
     refine⟨rfl,?_⟩;go_wp2_with (go_at_call 56;refine CR.out.mono ?_;rintro e w3 ⟨rfl,rfl⟩)
     go_ret;exact⟨bE.out,.inr ⟨B,K3.out,by have:=J2.out;rw[hn];omega,rfl,cz.out⟩⟩
    ·have gy:=U (lC T.out (by rw[hU.out];simpa using ja))
     have K6:((x:Int)==0)=false:=(by simp;omega);have C:=mp cz.out (B+1);rw[show ((B+1:Nat):Int)=(B:Int)+1 by omega] at C;have gJ:=U C;clear hx dt M dE ja C;go_wp2_with fail
     refine⟨rfl,?_⟩;go_wp2_with (go_at_call 56;refine CR.out.mono ?_;rintro e w3 ⟨rfl,rfl⟩)
     go_roundg (8*n - (B+1))
     case measure=>have:=HQ.out;have:=rX.out;have:=aC.out;omega
     case rel=>exact⟨B+1,by have:=aC.out;omega,gy,U (bE.out.trans (hO _ _ _ _)),gJ⟩
   ·have CR:=U (dq A n c ((B:Int)+16) 4 (w2.setCell ⟨g,1,none⟩ (OE OD (B:Int))) (by omega) (by omega) (by omega) (by omega) (by omega))
    have gy:=U (lC T.out (by rw[ON];intro h;have:=(lR.1 h).2.1;rw[hn] at this;omega));have C:=mp cz.out (B+1);rw[show ((B+1:Nat):Int)=(B:Int)+1 by omega] at C;have gJ:=U C;clear dt M dE C;go_wp2_with fail
    refine⟨rfl,?_⟩;go_wp2_with (go_at_call 56;refine CR.out.mono ?_;rintro e w3 ⟨rfl,rfl⟩)
    go_roundg (8*n - (B+1))
    case measure=>have:=HQ.out;have:=rX.out;have:=aC.out;omega
    case rel=>exact⟨B+1,by have:=aC.out;omega,gy,U (bE.out.trans (hO _ _ _ _)),gJ⟩
  ·have D:=U (N.out.below K N.out.lt);have eE:=U (fW.out.trans (dw K (OI _)))
   have K2:=U (qb kz.out Iq);refine⟨_,rfl,_,λ_ h=>h,D.out,?_⟩;simp only[O,V,Z]
   iterate 3
    refine aj (v:=?_) rfl (by rfl) ?_ ?_
    rotate_left
    ·intro _ I;(try dsimp only at I);go_simp;(try with_reducible rfl)
    simp only[O,V,Z]
   refine az (v:=?_) (w':=?_) rfl (by rfl) ?_ ?_ ?_;rotate_left 2
   ·go_simp;(try (constructor<;>with_reducible rfl))
   ·exact D.out
   simp only[O,V,Z];refine dD _ _ ?_;clear dD PE;simp only[J,OC];clear K Iq;go_wp2_with fail
   refine⟨rfl,?_⟩;go_wp2_with fail
   go_ret;exact⟨eE.out,.inl ⟨K2.out,rfl,q,D.out⟩⟩
theorem kM (e:Int)(w:World):Calls OL 52 #[OE OD e] w λr w'=>r=OH (OE OD (dQ e))/\w=w':=by
 unfold dQ
 by_cases h:e=5
 ·subst h
  rw[if_pos rfl]
  go_enter OR,OQ
  go_wp2_with fail
  go_ret;exact⟨rfl,rfl⟩
 ·have j:(e==5)=false:=by simpa using h
  rw[if_neg h];clear h
  go_enter OR,OQ
  go_wp2_with fail
  go_ret;exact⟨rfl,rfl⟩
theorem oX (A:Option Addr)(n c:Nat)(l:List UInt8)(p:Nat)(w:World)(hA:Sl w A (l.map af))(N:OA l=n)(hsz:n<=2 ^ 40)(hp:p<=8*n):
  Calls OL 50 #[OB A n c,OE OD (p:Int)] w λe w'=>e=OH (OT (dB l p))/\w=w':=by
 have HA:=U hA;have HN:=U N;have HP:=U hp;have T:Hid (dB l p=(dH l (8*n - p) p==8*n - p)):=U (by unfold dB;rw[N]);clear hA N
 go_enter Tryz.func50,Tryz.ntmps50
 go_wp2_with fail
 go_loopg [5] (8*n - p) (λgk x=> λwr=>∃(t q:Nat),q=p+t/\t+gk=8*n - p/\x=OE OD (q:Int)/\w=wr/\Hid (dH l (8*n - p) p=t+dH l gk (p+t)))
 case atStart=>exact⟨0,p,rfl,by omega,rfl,rfl,U (by rw[Nat.zero_add,Nat.add_zero])⟩
 case round=>
  obtain⟨t,q,C,ht,rfl,rfl,I⟩:=hrel;have aB:OF.wrap ((q:Int)+1)=(q:Int)+1:=by rw[X];omega
  cases gk with
  |zero=>
   have M:¬((q:Int)<8*(n:Int)):=(by omega);have G:=U (show dB l p=true by rw[T.out,I.out,dH,beq_iff_eq];omega);clear ht C;go_wp2_with (go_at_call 92;refine(bh _ _ _ _ (by omega)).mono ?_;rintro e w' ⟨rfl,rfl⟩)
   go_ret;exact⟨by rw[G.out];rfl,rfl⟩
  |succ g=>
   have M:((q:Int)<8*(n:Int)):=(by omega);have j:=U (dL A n c l (q:Int) 1 w HA.out HN.out (by omega) (by decide) (by decide) (by omega) (by omega));rw[OK,show (1:Int).toNat=1 from rfl,gW] at j;have HQ:=U C;have HT:=U ht
   by_cases B:aS l q=0
   ·rw[B] at j
    have K:=U (show dH l (8*n - p) p=(t+1)+dH l g (p+(t+1)) by rw[I.out,dH,if_pos (C▸B),show p+(t+1)=p+t+1 from rfl];omega);simp only[OG] at j;clear ht B C;go_wp2_with (first|(go_at_call 92;refine(bh _ _ _ _ (by omega)).mono ?_;rintro e w' ⟨rfl,rfl⟩)|(go_at_call 91;refine j.out.mono ?_;rintro e w' ⟨rfl,rfl⟩))
    go_roundg g
    case measure=>omega
    case rel=>exact⟨t+1,q+1,by have:=HQ.out;omega,by have:=HT.out;omega,rfl,rfl,K⟩
   ·have D:=kD l q B
    rw[D] at j;have G:=U (show dB l p=false by rw[T.out,I.out,dH,if_neg (C▸B),beq_eq_false_iff_ne];omega);simp only[Int.cast_ofNat_Int] at j;clear ht B D C;go_wp2_with (first|(go_at_call 92;refine(bh _ _ _ _ (by omega)).mono ?_;rintro e w' ⟨rfl,rfl⟩)|(go_at_call 91;refine j.out.mono ?_;rintro e w' ⟨rfl,rfl⟩))
    go_ret;exact⟨by rw[G.out];rfl,rfl⟩
def DP (l:List UInt8) (w:World) (e:Ending) (w':World):Prop:=w=w'/\((eX l (8*OA l) 0=none/\e=OH (.tuple #[OE OD 0,OE OD 5]))\/∃q:Nat,eX l (8*OA l) 0=some q/\q<=8*OA l/\e=OH (.tuple #[OE OD (q:Int),OE OD 0]))
def I9 (l:List UInt8) (n gk:Nat) (i r:Int):Prop:=(r=0/\∃q:Nat,i=(q:Int)/\q+gk=8*n+1/\gp l q/\ls l q)\/(r=5/\eX l (8*OA l) 0=none)
theorem Hj {l:List UInt8}{n gk q:Nat}{i r:Int}(I:q+gk=8*n+1)(D:q+16<=8*n)(h:(r=0/\∃B:Nat,i=(B:Int)/\o4 l (q+1) B)\/(r=5/\∀j,q+1<=j->¬gp l j)) (G:OA l=n):(if r=0 then 8*n+1 - i.toNat else 0)<gk:=by
 rcases h with⟨rfl,B,rfl,C,h2,_⟩|⟨rfl,_⟩
 ·have:=h2.1
  rw[if_pos rfl,OK];omega
 ·rw[if_neg (by decide)];omega
theorem Bd {l:List UInt8}{n q:Nat}{i r:Int}(B:ls l (q+1))(h:(r=0/\∃C:Nat,i=(C:Int)/\o4 l (q+1) C)\/(r=5/\∀j,q+1<=j->¬gp l j)) (I:OA l=n):I9 l n (if r=0 then 8*n+1 - i.toNat else 0) i r:=by
 rcases h with⟨rfl,C,rfl,G,h2,D⟩|⟨rfl,D⟩
 ·have:=h2.1
  exact .inl ⟨rfl,C,rfl,by rw[if_pos rfl,OK];omega,h2,ov B D⟩
 ·exact .inr ⟨rfl,qb B D⟩
theorem zV (A:Option Addr)(n c:Nat)(l:List UInt8)(w:World)(hA:Sl w A (l.map af))(hn:OA l=n)(hsz:n<=2 ^ 40):
  Calls OL 49 #[OB A n c] w (DP l w):=by
 have HA:=U hA;have C:=U hn;have C0:=U (oB A n c l 0 w hA hn hsz (by omega));simp only[OG] at C0;clear hA hn
 go_enter Tryz.func49,Tryz.ntmps49
 go_wp2_with fail
 refine C0.out.mono ?_;rintro e w1 ⟨rfl,i,r,rfl,B⟩
 have HI:Hid (I9 l n (8*n+1 - i.toNat) i r):=U (by
  rcases B with⟨rfl,q,rfl,_,hc,hm⟩|⟨rfl,hm⟩
  ·exact .inl ⟨rfl,q,rfl,by have:=hc.1;have:=C.out;omega,hc,ov (λj hj=>by omega) hm⟩
  ·exact .inr ⟨rfl,qb (p:=0) (λj hj=>by omega) hm⟩)
 clear B;go_wp2_with fail
 go_loopg [4,5] (8*n+1 - i.toNat) (λgk a b=> λwr=>∃(i r:Int),a=OE OD i/\b=OE OD r/\w=wr/\Hid (I9 l n gk i r))
 case atStart=>exact⟨i,r,rfl,rfl,rfl,HI⟩
 case round=>
  obtain⟨i,r,rfl,rfl,rfl,HI⟩:=hrel;rcases HI.out with⟨hU,q,gJ,N,I,M⟩|⟨ja,dE⟩
  ·subst hU
   subst gJ;have eE:=U I;have aB:=U M;have dD:=U N;have G:=I.1;rw[C.out] at G;have dt:=U G;have jT:OF.wrap ((q:Int)+16)=(q:Int)+16:=(by rw[X];omega);have kz:OF.wrap ((q:Int)+1)=(q:Int)+1:=by rw[X];omega
   by_cases K:q+20<=8*n
   ·have T:=U (dL A n c l ((q:Int)+16) 4 w HA.out C.out (by omega) (by decide) (by decide) (by omega) (by omega))
    rw[show ((q:Int)+16).toNat=q+16 by omega,show (4:Int).toNat=4 from rfl] at T
    have bE:Hid (iN l q=decide (au l (q+16) 4=0)):=U (by
     rw[OP,lR,decide_eq_true_eq];exact⟨λh=>h.2.2,λh=>⟨eE.out,by rw[C.out];omega,h⟩⟩)
    obtain⟨x,hx⟩:∃x,au l (q+16) 4=x:=⟨_,rfl⟩;rw[hx] at T bE;have dY:=U K
    by_cases cz:x=0
    ·subst cz
     have gy:=U (vF aB.out (by rw[bE.out];rfl));simp only[OG] at T;clear hx K G I M N HI;go_wp2_with (go_at_call 91;refine T.out.mono ?_;rintro e w3 ⟨rfl,rfl⟩)
     go_ret2;exact⟨rfl,.inr ⟨q,gy.out,by have:=dY.out;rw[C.out];omega,rfl⟩⟩
    ·have aC:=U (lC aB.out (by rw[bE.out];simpa using cz))
     have rX:((x:Int)==0)=false:=(by simp;omega);have CF:=U (oB A n c l (q+1) w HA.out C.out (by omega) (by omega));clear hx K G cz I M N HI;go_wp2_with (first|(go_at_call 91;refine T.out.mono ?_;rintro e w3 ⟨rfl,rfl⟩)|(go_at_call 90;refine CF.out.mono ?_;rintro e w4 ⟨rfl,i2,r2,rfl,B⟩;have D:=U B;clear B))
     go_roundg (if r2=0 then 8*n+1 - i2.toNat else 0)
     case measure=>exact Hj dD.out dt.out D.out C.out
     case rel=>exact⟨i2,r2,rfl,rfl,rfl,U (Bd aC.out D.out C.out)⟩
   ·have T:=U (cZ A n c ((q:Int)+16) 4 w (by omega) (by decide) (by decide) (by omega) (by omega) (by omega))
    have aC:=U (lC aB.out (by rw[ON];intro h;have:=(lR.1 h).2.1;rw[C.out] at this;omega));have CF:=U (oB A n c l (q+1) w HA.out C.out (by omega) (by omega));clear K G I M N HI;go_wp2_with (first|(go_at_call 91;refine T.out.mono ?_;rintro e w3 ⟨rfl,rfl⟩)|(go_at_call 90;refine CF.out.mono ?_;rintro e w4 ⟨rfl,i2,r2,rfl,B⟩;have D:=U B;clear B))
    go_roundg (if r2=0 then 8*n+1 - i2.toNat else 0)
    case measure=>exact Hj dD.out dt.out D.out C.out
    case rel=>exact⟨i2,r2,rfl,rfl,rfl,U (Bd aC.out D.out C.out)⟩
  ·subst ja
   have fW:=U dE;clear dE HI;go_wp2_with fail
   go_ret2;exact⟨rfl,.inl ⟨fW.out,rfl⟩⟩
end Go.Proofs.YthhijgcfbjcgiaaGreatDoor
