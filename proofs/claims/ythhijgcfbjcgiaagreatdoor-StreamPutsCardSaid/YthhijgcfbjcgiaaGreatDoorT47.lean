/- Ref19c, Ref19p -/
import Derived.Test.YthhijgcfbjcgiaaGreatDoorT43
namespace Go.Proofs.YthhijgcfbjcgiaaGreatDoor
open Go Go.RowKit
attribute [local go_sem] Oper.semAt_some
set_option maxHeartbeats 16000000
set_option maxRecDepth 100000
open Go.Value renaming bool→U,int→OB,slice→OE,string→Od
open Go.Lib renaming hid→Z
open List renaming setIfInBounds_toArray→Y,set_cons_succ→X,set_cons_zero→J,drop_succ_cons→OG,length→OI,length_append→OJ,append_assoc→ON,getElem_mem→OO,drop_zero→OP,drop_nil→OT,append_nil→OU,drop_eq_getElem_cons→OV,getElem?_cons_succ→OW,getElem?_cons_zero→OX,drop_eq_nil_of_le→OY,getElem?_toArray→OZ,all_cons→Oi,map_cons→Oj,all_nil→Ol,map_nil→Om
open Go.IntKind renaming i64→OA,wrap_i64→Of,i64→On
open Go.Proofs.YthhijgcfbjcgiaaGreatDoor.bY renaming take→OC,step→Oc
open Bool renaming false_eq_true→OD,false_and→OF,true_and→OM,and_false→OR,not_false→OS,false_ne_true→Oa,not_true→Oh
open Go.Obj renaming cells→OH
open Tryz renaming ntmps43→OK,func43→OL,ntmps71→Ob,func71→Oe,prog→Oo
open Nat renaming le_refl→OQ
open Option renaming getD_some→Og
open Go.Ending renaming returned→Oq
theorem Ie (m:aX):iU m=(eT m.kd&&(!decide (m.ad<1)&&(!decide (33<m.ad)&&(je (pQ m.kd) m.qu 1 31&&(je (pV m.kd) m.x (-15) 15&&(je (pV m.kd) m.y (-15) 15&&((if pI m.kd then m.pa==63 else je (pC m.kd) m.pa 1 63)&&((OI m.bl)==cC m.pa&&m.bl.all λx=>bP x (pI m.kd)==0)))))))):=by
 obtain⟨ad,kd,qu,x,y,pa,bl⟩:=m;unfold iU je aA;dsimp only;generalize (bl.all λx=>bP x (pI kd)==0)=z;generalize ((OI bl)==cC pa)=G;generalize pI kd=B;generalize pQ kd=C;generalize pV kd=D;generalize pC kd=j;generalize eT kd=k;rw[Bool.eq_iff_iff]
 cases B<;>cases C<;>cases D<;>cases j<;>cases G<;>cases z<;>cases k<;>simp<;>omega
theorem qS (m:aX)(xs:List dB)(A:Option Addr)(c:Nat)(w:World)(hm:m.bl=xs.map (·.1))(hA:ja w A xs):Calls Oo 43 #[.agg #[OB OA m.ad,OB OA m.kd,OB OA m.qu,OB OA m.x,OB OA m.y,OB OA m.pa,OE A (OI xs) c]] w λe w'=>e=Oq (OB OA (if iU m then 0 else 2))/\Below w.heap.size w w':=by
 obtain⟨R,C⟩:∃R:Int,(if iU m then 0 else 2)=R:=⟨_,rfl⟩;rw[C];rw[Ie] at C;have Hl:(m.bl.all λx=>bP x (pI m.kd)==0)=xs.all λp=>bP p.1 (pI m.kd)==0:=by rw[hm,List.all_map];rfl
 rw[Hl,show (OI m.bl)=(OI xs) by rw[hm,List.length_map]] at C;obtain⟨ad,kd,qu,mx,my,pa,bl⟩:=m;dsimp only at C⊢;have CO:=Z (λW=>ox kd W);have W1:=Z (λW=>jH (pQ kd) qu 1 31 W);have W2:=Z (λW=>jH (pV kd) mx (-15) 15 W);have W3:=Z (λW=>jH (pV kd) my (-15) 15 W);have W4:=Z (λW=>jH (pC kd) pa 1 63 W);have CC:=Z (λW=>zI pa W);have HA:=Z hA;have G:=Z ((Below.refl _ w).alloc (OQ _) (OH #[OB OA ad,OB OA kd,OB OA qu,OB OA mx,OB OA my,OB OA pa,OE A (OI xs) c] 55));have aJ:=Z (aa.cons (ab.new w 55 #[OB OA ad,OB OA kd,OB OA qu,OB OA mx,OB OA my,OB OA pa,OE A (OI xs) c]) (ai _));unfold lY rx at CO;obtain⟨bI,K3⟩:∃b,pI kd=b:=⟨_,rfl⟩;obtain⟨bQ,K4⟩:∃b,pQ kd=b:=⟨_,rfl⟩;obtain⟨bV,K5⟩:∃b,pV kd=b:=⟨_,rfl⟩;obtain⟨bC,JT⟩:∃b,pC kd=b:=⟨_,rfl⟩;obtain⟨bF,K0⟩:∃b,pF kd=b:=⟨_,rfl⟩;rw[K3] at C CO;rw[K4] at C CO W1;rw[K5] at C CO W2 W3;rw[JT] at C CO W4;rw[K0] at CO;obtain⟨q,hq⟩:∃q,je bQ qu 1 31=q:=⟨_,rfl⟩;obtain⟨vx,K8⟩:∃q,je bV mx (-15) 15=q:=⟨_,rfl⟩;obtain⟨vy,K9⟩:∃q,je bV my (-15) 15=q:=⟨_,rfl⟩;obtain⟨pc,K6⟩:∃q,je bC pa 1 63=q:=⟨_,rfl⟩;rw[hq] at C W1;rw[K8] at C W2;rw[K9] at C W3;rw[K6] at C W4;obtain⟨ct,Hu⟩:∃q,cC pa=q:=⟨_,rfl⟩;rw[Hu] at C CC;have Ku:ct<=6:=by rw[<-Hu,<-xg];exact tA pa 6
 obtain⟨n,hn⟩:∃n,OI xs=n:=⟨_,rfl⟩;rw[hn] at C G aJ⊢;have rG:=Z hn;have Kv:n<=64:=by rw[<-hn];exact hA.len
 clear K3 K4 K5 JT K0 hq K8 K9 K6 Hu hA Hl hn;obtain⟨k,hk⟩:∃k,eT kd=k:=⟨_,rfl⟩;rw[hk] at C CO;clear hk
 cases k with
 |false=>
  simp only[OF,if_false,OD] at C;rw[if_neg (by decide)] at CO;subst C
  go_enter OL,OK
  go_wp2_with (first|(go_at_call 78;refine(CO.out _).mono ?_;rintro e w1 ⟨rfl,B⟩;have T:=Z ((G.out.trans (B.mono G.out.size)).alloc (G.out.trans (B.mono G.out.size)).size (OH #[U bI,U bQ,U bV,U bF,U bC] 110));have N:=Z (aa.cons (ab.new w1 110 #[U bI,U bQ,U bV,U bF,U bC]) ((aJ.out.below B).alloc (OH #[U bI,U bQ,U bV,U bF,U bC] 110)));have D:=N.out.tail.head;have m0:=D.cell 0;have m1:=D.cell 1;have m2:=D.cell 2;have m3:=D.cell 3;have m4:=D.cell 4;have m5:=D.cell 5;have m6:=D.cell 6;(try dsimp only at m0 m1 m2 m3 m4 m5 m6);clear B D CO))
  go_ret;exact⟨rfl,T.out⟩
 |true=>
 rw[if_pos rfl] at CO
 cases a1:decide (ad<1) with
 |true=>
  rw[a1] at C;simp only[OF,Oh,OR,if_false,OD] at C;subst C
  go_enter OL,OK
  go_wp2_with (first|(go_at_call 78;refine(CO.out _).mono ?_;rintro e w1 ⟨rfl,B⟩;have T:=Z ((G.out.trans (B.mono G.out.size)).alloc (G.out.trans (B.mono G.out.size)).size (OH #[U bI,U bQ,U bV,U bF,U bC] 110));have N:=Z (aa.cons (ab.new w1 110 #[U bI,U bQ,U bV,U bF,U bC]) ((aJ.out.below B).alloc (OH #[U bI,U bQ,U bV,U bF,U bC] 110)));have D:=N.out.tail.head;have m0:=D.cell 0;have m1:=D.cell 1;have m2:=D.cell 2;have m3:=D.cell 3;have m4:=D.cell 4;have m5:=D.cell 5;have m6:=D.cell 6;(try dsimp only at m0 m1 m2 m3 m4 m5 m6);clear B D CO))
  go_ret;exact⟨rfl,T.out⟩
 |false=>
 rw[a1] at C
 cases a2:decide (33<ad) with
 |true=>
  rw[a2] at C;simp only[OF,Oh,OS,OR,if_false,OD] at C;subst C
  go_enter OL,OK
  go_wp2_with (first|(go_at_call 78;refine(CO.out _).mono ?_;rintro e w1 ⟨rfl,B⟩;have T:=Z ((G.out.trans (B.mono G.out.size)).alloc (G.out.trans (B.mono G.out.size)).size (OH #[U bI,U bQ,U bV,U bF,U bC] 110));have N:=Z (aa.cons (ab.new w1 110 #[U bI,U bQ,U bV,U bF,U bC]) ((aJ.out.below B).alloc (OH #[U bI,U bQ,U bV,U bF,U bC] 110)));have D:=N.out.tail.head;have m0:=D.cell 0;have m1:=D.cell 1;have m2:=D.cell 2;have m3:=D.cell 3;have m4:=D.cell 4;have m5:=D.cell 5;have m6:=D.cell 6;(try dsimp only at m0 m1 m2 m3 m4 m5 m6);clear B D CO))
  go_ret;exact⟨rfl,T.out⟩
 |false=>
 rw[a2] at C
 cases q with
 |false=>
  simp only[OF,OS,OR,if_false,OD] at C;subst C
  go_enter OL,OK
  go_wp2_with (first|(go_at_call 78;refine(CO.out _).mono ?_;rintro e w1 ⟨rfl,B⟩;have T:=Z ((G.out.trans (B.mono G.out.size)).alloc (G.out.trans (B.mono G.out.size)).size (OH #[U bI,U bQ,U bV,U bF,U bC] 110));have N:=Z (aa.cons (ab.new w1 110 #[U bI,U bQ,U bV,U bF,U bC]) ((aJ.out.below B).alloc (OH #[U bI,U bQ,U bV,U bF,U bC] 110)));have D:=N.out.tail.head;have m0:=D.cell 0;have m1:=D.cell 1;have m2:=D.cell 2;have m3:=D.cell 3;have m4:=D.cell 4;have m5:=D.cell 5;have m6:=D.cell 6;(try dsimp only at m0 m1 m2 m3 m4 m5 m6);clear B D CO)|(go_at_call 79;refine(W1.out _).mono ?_;rintro e w' ⟨rfl,rfl⟩;clear W1))
  go_ret;exact⟨rfl,T.out⟩
 |true=>
 cases vx with
 |false=>
  simp only[OF,OS,OR,if_false,OD] at C;subst C
  go_enter OL,OK
  go_wp2_with (first|(go_at_call 78;refine(CO.out _).mono ?_;rintro e w1 ⟨rfl,B⟩;have T:=Z ((G.out.trans (B.mono G.out.size)).alloc (G.out.trans (B.mono G.out.size)).size (OH #[U bI,U bQ,U bV,U bF,U bC] 110));have N:=Z (aa.cons (ab.new w1 110 #[U bI,U bQ,U bV,U bF,U bC]) ((aJ.out.below B).alloc (OH #[U bI,U bQ,U bV,U bF,U bC] 110)));have D:=N.out.tail.head;have m0:=D.cell 0;have m1:=D.cell 1;have m2:=D.cell 2;have m3:=D.cell 3;have m4:=D.cell 4;have m5:=D.cell 5;have m6:=D.cell 6;(try dsimp only at m0 m1 m2 m3 m4 m5 m6);clear B D CO)|(go_at_call 79;refine(W1.out _).mono ?_;rintro e w' ⟨rfl,rfl⟩;clear W1)|(go_at_call 79;refine(W2.out _).mono ?_;rintro e w' ⟨rfl,rfl⟩;clear W2))
  go_ret;exact⟨rfl,T.out⟩
 |true=>
 cases vy with
 |false=>
  simp only[OF,OS,OR,if_false,OD] at C;subst C
  go_enter OL,OK
  go_wp2_with (first|(go_at_call 78;refine(CO.out _).mono ?_;rintro e w1 ⟨rfl,B⟩;have T:=Z ((G.out.trans (B.mono G.out.size)).alloc (G.out.trans (B.mono G.out.size)).size (OH #[U bI,U bQ,U bV,U bF,U bC] 110));have N:=Z (aa.cons (ab.new w1 110 #[U bI,U bQ,U bV,U bF,U bC]) ((aJ.out.below B).alloc (OH #[U bI,U bQ,U bV,U bF,U bC] 110)));have D:=N.out.tail.head;have m0:=D.cell 0;have m1:=D.cell 1;have m2:=D.cell 2;have m3:=D.cell 3;have m4:=D.cell 4;have m5:=D.cell 5;have m6:=D.cell 6;(try dsimp only at m0 m1 m2 m3 m4 m5 m6);clear B D CO)|(go_at_call 79;refine(W1.out _).mono ?_;rintro e w' ⟨rfl,rfl⟩;clear W1)|(go_at_call 79;refine(W2.out _).mono ?_;rintro e w' ⟨rfl,rfl⟩;clear W2)|(go_at_call 79;refine(W3.out _).mono ?_;rintro e w' ⟨rfl,rfl⟩;clear W3))
  go_ret;exact⟨rfl,T.out⟩
 |true=>
 simp only[OM,OS] at C;have HR:=Z C;clear C
 cases bI with
 |true=>
  simp only[if_true] at HR
  cases pt:(pa==63) with
  |false=>
   have C:=HR.out;rw[pt] at C;simp only[OF,if_false,OD] at C;subst C
   go_enter OL,OK
   go_wp2_with (first|(go_at_call 78;refine(CO.out _).mono ?_;rintro e w1 ⟨rfl,B⟩;have T:=Z ((G.out.trans (B.mono G.out.size)).alloc (G.out.trans (B.mono G.out.size)).size (OH #[U true,U bQ,U bV,U bF,U bC] 110));have N:=Z (aa.cons (ab.new w1 110 #[U true,U bQ,U bV,U bF,U bC]) ((aJ.out.below B).alloc (OH #[U true,U bQ,U bV,U bF,U bC] 110)));have D:=N.out.tail.head;have m0:=D.cell 0;have m1:=D.cell 1;have m2:=D.cell 2;have m3:=D.cell 3;have m4:=D.cell 4;have m5:=D.cell 5;have m6:=D.cell 6;(try dsimp only at m0 m1 m2 m3 m4 m5 m6);clear B D CO)|(go_at_call 79;refine(W1.out _).mono ?_;rintro e w' ⟨rfl,rfl⟩;clear W1)|(go_at_call 79;refine(W2.out _).mono ?_;rintro e w' ⟨rfl,rfl⟩;clear W2)|(go_at_call 79;refine(W3.out _).mono ?_;rintro e w' ⟨rfl,rfl⟩;clear W3))
   refine(wpIn_wide (n:=5)).1 ?_;refine gt (λw'=>w'.cell? ⟨w.heap.size,5,none⟩=some (OB OA pa)/\w'.cell? ⟨w.heap.size,6,none⟩=some (OE A n c)) 11 (OC 0 (OC 1 (OC 2 (OC 3 (OC 4 (OC 5 (OC 6 (OC 7 (Oc 8 (OC 9 (OC 10 .done))))))))))) rfl (by kernel_rfl) (by kernel_rfl) (λ_ _ d _ _ h=>by cases d<;>exact h) (by simp only[bY.out,Array.getD_eq_getD_getElem?,OZ,OX,OW,Og];rfl) (by simp only[Oj,Om];rfl) (⟨m5,m6⟩) (λPE M=>?_)
   iterate 3
    refine dz (v:=?_) rfl (by rfl) ?_ (λ_=>rfl) ?_
    rotate_left
    ·intro _ I;(try dsimp only at I);go_simp;(try with_reducible rfl)
    simp only[Y,J,X]
   iterate 5
    refine fN rfl (by rfl) (λ_=>rfl) ?_
    simp only[Y,J,X]
   refine gU (by rfl) rfl ⟨m5,m6⟩ ?_;simp only[Y,J,X];refine fN rfl (by rfl) (λ_=>rfl) ?_;simp only[Y,J,X];refine dz (v:=?_) rfl (by rfl) ?_ (λ_=>rfl) ?_;rotate_left
   ·intro _ I;(try dsimp only at I);go_simp;(try with_reducible rfl)
   simp only[Y,J,X];refine M _ _ ?_;clear M PE;simp only[OG,OT];gi_wp2_with (refine wpListIn_skip (by rfl) (by rfl) ?_)
   go_wp2_with fail
   go_ret;exact⟨rfl,T.out.drew⟩
  |true=>
   have C:=HR.out;rw[pt] at C;simp only[OM] at C;have eE:=Z C;clear C HR
   go_enter OL,OK
   go_wp2_with (first|(go_at_call 78;refine(CO.out _).mono ?_;rintro e w1 ⟨rfl,B⟩;have T:=Z ((G.out.trans (B.mono G.out.size)).alloc (G.out.trans (B.mono G.out.size)).size (OH #[U true,U bQ,U bV,U bF,U bC] 110));have N:=Z (aa.cons (ab.new w1 110 #[U true,U bQ,U bV,U bF,U bC]) ((aJ.out.below B).alloc (OH #[U true,U bQ,U bV,U bF,U bC] 110)));have D:=N.out.tail.head;have m0:=D.cell 0;have m1:=D.cell 1;have m2:=D.cell 2;have m3:=D.cell 3;have m4:=D.cell 4;have m5:=D.cell 5;have m6:=D.cell 6;(try dsimp only at m0 m1 m2 m3 m4 m5 m6);clear B D CO)|(go_at_call 79;refine(W1.out _).mono ?_;rintro e w' ⟨rfl,rfl⟩;clear W1)|(go_at_call 79;refine(W2.out _).mono ?_;rintro e w' ⟨rfl,rfl⟩;clear W2)|(go_at_call 79;refine(W3.out _).mono ?_;rintro e w' ⟨rfl,rfl⟩;clear W3))
   have hd:=N.out.drew;have HD:=Z hd;have av:=Z T.out.drew;have x5:=hd.tail.head.cell 5;have x6:=hd.tail.head.cell 6;(try dsimp only at x5 x6);clear hd m0 m1 m2 m3 m4 m5 m6;refine aP (λw'=>w'.cell? ⟨w.heap.size,5,none⟩=some (OB OA pa)/\w'.cell? ⟨w.heap.size,6,none⟩=some (OE A n c)) 11 (OC 0 (OC 1 (OC 2 (OC 3 (OC 4 (OC 5 (OC 6 (OC 7 (Oc 8 (OC 9 (OC 10 .done))))))))))) (⟨x5,x6⟩) (λPE M=>?_)
   iterate 8
    refine af (v:=?_) rfl (by rfl) ?_ ?_
    rotate_left
    ·intro _ I;(try dsimp only at I);obtain⟨s0,s1⟩:=I;go_simp;(try with_reducible rfl)
    simp only[Y,J,X]
   refine aG (f:=80) rfl (by rfl) (by first|(go_simp;done)|(go_simp;rfl)) (CC.out _) ?_;rintro e w' ⟨rfl,rfl⟩;refine⟨_,rfl,_,λ_ h=>h,⟨x5,x6⟩,?_⟩;simp only[Y,J,X]
   iterate 2
    refine af (v:=?_) rfl (by rfl) ?_ ?_
    rotate_left
    ·intro _ I;(try dsimp only at I);go_simp;(try with_reducible rfl)
    simp only[Y,J,X]
   refine M _ _ ?_;clear M PE;simp only[OG,OT]
   cases nc:(n==ct) with
   |false=>
    have C:=eE.out;rw[nc] at C;simp only[OF,if_false,OD] at C;subst C;have kU:((n:Int) !=(ct:Int))=true:=(by simp at nc⊢;omega);clear nc;go_wp2_with fail
    refine⟨rfl,?_⟩;go_wp2_with fail
    go_ret;exact⟨rfl,av.out⟩
   |true=>
    have C:=eE.out;rw[nc] at C;simp only[OM] at C;have kU:((n:Int) !=(ct:Int))=false:=(by simp at nc⊢;omega);rw[kU];have Ht:Hid ((if ((xs.drop 0).all λp=>bP p.1 true==0)=true then(0:Int) else 2)=R):=Z (by rw[OP];exact C);clear nc C x5 x6 eE;go_wp2_with fail
    refine⟨rfl,?_⟩;generalize w1.alloc (OH #[U true,U bQ,U bV,U bF,U bC] 110)=w5 at HD av⊢;generalize w1.heap.size=g3 at HD⊢;go_wp2_with fail
    go_loopg [6] n (λg t=> λwr=>∃(j:Nat),j+g=n/\t=OB OA (j:Int)/\Hid ((if ((xs.drop j).all λp=>bP p.1 true==0)=true then(0:Int) else 2)=R)/\Hid (Below w5.drew.heap.size w5.drew wr))
    case atStart=>exact⟨0,by omega,rfl,Ht,Z (Below.refl _ _)⟩
    case round=>
     obtain⟨j,hj,rfl,HF,HW⟩:=hrel;have xx:=HD.out.below HW.out;have m6:=xx.tail.head.cell 6;have p0:=xx.head.cell 0;(try dsimp only at m6 p0);clear xx
     cases gk with
     |zero=>
      obtain rfl:j=n:=by omega
      have C:=HF.out;rw[OY (by have:=rG.out;omega),Ol,if_pos rfl] at C;subst C;have cE:=Z (av.out.trans (HW.out.mono av.out.size));clear hj;go_wp2_with fail
      go_ret;exact⟨rfl,cE.out⟩
     |succ g=>
      have Kt:((j:Int)<(n:Int)):=(by omega);have dy:j<(OI xs):=(by have:=rG.out;omega);have gj:=av.out.trans (HW.out.mono av.out.size);obtain⟨K,rfl,_,c0,c1⟩:=jL (HA.out.row.below gj) j dy;have cI:=(HA.out.bl xs[j] (OO dy)).below gj;have dv:=HA.out.lens xs[j] (OO dy);have C:=HF.out;rw[OV dy,Oi] at C;obtain⟨⟨⟨dc,L⟩,B9,c9⟩,hx⟩:∃x,xs[j]=x:=⟨_,rfl⟩;rw[hx] at c0 c1 cI dv C;dsimp only at c0 c1 cI dv C;obtain⟨ln,iP⟩:∃ln,OI L=ln:=⟨_,rfl⟩;rw[iP] at c1 dv;have CK:=Z (λW hW=>nu dc L B9 ln c9 true W hW iP (by omega));have jg:=Z (cI.below (HW.out.drew.mono (OQ _) |> λ_=>(Below.refl wr.heap.size wr).drew));obtain⟨er,kA⟩:∃er,bP ⟨dc,L⟩ true=er:=⟨_,rfl⟩;rw[kA] at CK C;have fJ:=Z HW.out.drew;have HJ:=Z hj;have hS:(wr.cell? ⟨w.heap.size,6,none⟩=some (OE (some K) n c)/\wr.cell? ⟨g3,0,none⟩=some (U true)/\wr.cell? (K.add (j*2))=some (OB OA dc)/\wr.cell? ⟨(K.add (j*2)).block,(K.add (j*2)).off+1,none⟩=some (OE B9 ln c9)):=⟨m6,p0,c0,c1⟩;have jY:=Z hS;clear hx iP cI dv kA hS gj hj c0 c1
      cases e0:(er !=0) with
      |true=>
       have e1:(er==0)=false:=(by simpa using e0);rw[e1,OF,if_neg Oa] at C;subst C;have cE:=Z (av.out.trans (fJ.out.mono av.out.size));clear e1;go_wp2_with fail
       refine dx (λw'=>w'.cell? ⟨w.heap.size,6,none⟩=some (OE (some K) n c)/\w'.cell? ⟨g3,0,none⟩=some (U true)/\w'.cell? (K.add (j*2))=some (OB OA dc)/\w'.cell? ⟨(K.add (j*2)).block,(K.add (j*2)).off+1,none⟩=some (OE B9 ln c9)) 7 [(0,true),(1,true),(2,true),(3,true),(4,true),(5,true),(6,true)] (jY.out) (λPE M=>?_)
       iterate 7
        refine bh (v:=?_) rfl (by rfl) ?_ ?_
        rotate_left
        ·intro _ I;(try dsimp only at I);obtain⟨u0,u1,u2,u3⟩:=I;go_simp;(try with_reducible rfl)
        simp only[Y,J,X]
       (refine M _ _ ?_;simp only[OG,OP];clear M PE)
       go_wp2_with (go_at_call 81;refine(CK.out _ jg.out).mono ?_;rintro e w8 ⟨rfl,bM⟩;have dO:=Z (cE.out.trans (bM.mono cE.out.size));clear bM)
       go_ret;exact⟨rfl,dO.out⟩
      |false=>
       have e1:(er==0)=true:=(by simpa using e0);rw[e1,OM] at C;have HN:=Z C;clear e1 C;go_wp2_with fail
       refine dx (λw'=>w'.cell? ⟨w.heap.size,6,none⟩=some (OE (some K) n c)/\w'.cell? ⟨g3,0,none⟩=some (U true)/\w'.cell? (K.add (j*2))=some (OB OA dc)/\w'.cell? ⟨(K.add (j*2)).block,(K.add (j*2)).off+1,none⟩=some (OE B9 ln c9)) 7 [(0,true),(1,true),(2,true),(3,true),(4,true),(5,true),(6,true)] (jY.out) (λPE M=>?_)
       iterate 7
        refine bh (v:=?_) rfl (by rfl) ?_ ?_
        rotate_left
        ·intro _ I;(try dsimp only at I);obtain⟨u0,u1,u2,u3⟩:=I;go_simp;(try with_reducible rfl)
        simp only[Y,J,X]
       (refine M _ _ ?_;simp only[OG,OP];clear M PE)
       go_wp2_with (go_at_call 81;refine(CK.out _ jg.out).mono ?_;rintro e w8 ⟨rfl,bM⟩;have dO:=Z (fJ.out.trans (bM.mono fJ.out.size));clear bM)
       go_roundg g
       case measure=>omega
       case rel=>exact⟨j+1,by have:=HJ.out;omega,rfl,HN,dO⟩
 |false=>
  simp only[OD,if_false] at HR
  cases pt:pc with
  |false=>
   have C:=HR.out;rw[pt] at C;simp only[OF,if_false,OD] at C;subst C
   go_enter OL,OK
   go_wp2_with (first|(go_at_call 78;refine(CO.out _).mono ?_;rintro e w1 ⟨rfl,B⟩;have T:=Z ((G.out.trans (B.mono G.out.size)).alloc (G.out.trans (B.mono G.out.size)).size (OH #[U false,U bQ,U bV,U bF,U bC] 110));have N:=Z (aa.cons (ab.new w1 110 #[U false,U bQ,U bV,U bF,U bC]) ((aJ.out.below B).alloc (OH #[U false,U bQ,U bV,U bF,U bC] 110)));have D:=N.out.tail.head;have m0:=D.cell 0;have m1:=D.cell 1;have m2:=D.cell 2;have m3:=D.cell 3;have m4:=D.cell 4;have m5:=D.cell 5;have m6:=D.cell 6;(try dsimp only at m0 m1 m2 m3 m4 m5 m6);clear B D CO)|(go_at_call 79;refine(W1.out _).mono ?_;rintro e w' ⟨rfl,rfl⟩;clear W1)|(go_at_call 79;refine(W2.out _).mono ?_;rintro e w' ⟨rfl,rfl⟩;clear W2)|(go_at_call 79;refine(W3.out _).mono ?_;rintro e w' ⟨rfl,rfl⟩;clear W3)|(go_at_call 79;refine(W4.out _).mono ?_;rintro e w' ⟨rfl,rfl⟩;clear W4))
   refine(wpIn_wide (n:=5)).1 ?_;refine gt (λw'=>w'.cell? ⟨w.heap.size,5,none⟩=some (OB OA pa)/\w'.cell? ⟨w.heap.size,6,none⟩=some (OE A n c)) 11 (OC 0 (OC 1 (OC 2 (OC 3 (OC 4 (OC 5 (OC 6 (OC 7 (Oc 8 (OC 9 (OC 10 .done))))))))))) rfl (by kernel_rfl) (by kernel_rfl) (λ_ _ d _ _ h=>by cases d<;>exact h) (by simp only[bY.out,Array.getD_eq_getD_getElem?,OZ,OX,OW,Og];rfl) (by simp only[Oj,Om];rfl) (⟨m5,m6⟩) (λPE M=>?_)
   iterate 3
    refine dz (v:=?_) rfl (by rfl) ?_ (λ_=>rfl) ?_
    rotate_left
    ·intro _ I;(try dsimp only at I);go_simp;(try with_reducible rfl)
    simp only[Y,J,X]
   iterate 5
    refine fN rfl (by rfl) (λ_=>rfl) ?_
    simp only[Y,J,X]
   refine gU (by rfl) rfl ⟨m5,m6⟩ ?_;simp only[Y,J,X];refine fN rfl (by rfl) (λ_=>rfl) ?_;simp only[Y,J,X];refine dz (v:=?_) rfl (by rfl) ?_ (λ_=>rfl) ?_;rotate_left
   ·intro _ I;(try dsimp only at I);go_simp;(try with_reducible rfl)
   simp only[Y,J,X];refine M _ _ ?_;clear M PE;simp only[OG,OT];gi_wp2_with (refine wpListIn_skip (by rfl) (by rfl) ?_)
   go_wp2_with fail
   go_ret;exact⟨rfl,T.out.drew⟩
  |true=>
   have C:=HR.out;rw[pt] at C;simp only[OM] at C;have eE:=Z C;clear C HR
   go_enter OL,OK
   go_wp2_with (first|(go_at_call 78;refine(CO.out _).mono ?_;rintro e w1 ⟨rfl,B⟩;have T:=Z ((G.out.trans (B.mono G.out.size)).alloc (G.out.trans (B.mono G.out.size)).size (OH #[U false,U bQ,U bV,U bF,U bC] 110));have N:=Z (aa.cons (ab.new w1 110 #[U false,U bQ,U bV,U bF,U bC]) ((aJ.out.below B).alloc (OH #[U false,U bQ,U bV,U bF,U bC] 110)));have D:=N.out.tail.head;have m0:=D.cell 0;have m1:=D.cell 1;have m2:=D.cell 2;have m3:=D.cell 3;have m4:=D.cell 4;have m5:=D.cell 5;have m6:=D.cell 6;(try dsimp only at m0 m1 m2 m3 m4 m5 m6);clear B D CO)|(go_at_call 79;refine(W1.out _).mono ?_;rintro e w' ⟨rfl,rfl⟩;clear W1)|(go_at_call 79;refine(W2.out _).mono ?_;rintro e w' ⟨rfl,rfl⟩;clear W2)|(go_at_call 79;refine(W3.out _).mono ?_;rintro e w' ⟨rfl,rfl⟩;clear W3)|(go_at_call 79;refine(W4.out _).mono ?_;rintro e w' ⟨rfl,rfl⟩;clear W4))
   have hd:=N.out.drew;have HD:=Z hd;have av:=Z T.out.drew;have x5:=hd.tail.head.cell 5;have x6:=hd.tail.head.cell 6;(try dsimp only at x5 x6);clear hd m0 m1 m2 m3 m4 m5 m6;refine aP (λw'=>w'.cell? ⟨w.heap.size,5,none⟩=some (OB OA pa)/\w'.cell? ⟨w.heap.size,6,none⟩=some (OE A n c)) 11 (OC 0 (OC 1 (OC 2 (OC 3 (OC 4 (OC 5 (OC 6 (OC 7 (Oc 8 (OC 9 (OC 10 .done))))))))))) (⟨x5,x6⟩) (λPE M=>?_)
   iterate 8
    refine af (v:=?_) rfl (by rfl) ?_ ?_
    rotate_left
    ·intro _ I;(try dsimp only at I);obtain⟨s0,s1⟩:=I;go_simp;(try with_reducible rfl)
    simp only[Y,J,X]
   refine aG (f:=80) rfl (by rfl) (by first|(go_simp;done)|(go_simp;rfl)) (CC.out _) ?_;rintro e w' ⟨rfl,rfl⟩;refine⟨_,rfl,_,λ_ h=>h,⟨x5,x6⟩,?_⟩;simp only[Y,J,X]
   iterate 2
    refine af (v:=?_) rfl (by rfl) ?_ ?_
    rotate_left
    ·intro _ I;(try dsimp only at I);go_simp;(try with_reducible rfl)
    simp only[Y,J,X]
   refine M _ _ ?_;clear M PE;simp only[OG,OT]
   cases nc:(n==ct) with
   |false=>
    have C:=eE.out;rw[nc] at C;simp only[OF,if_false,OD] at C;subst C;have kU:((n:Int) !=(ct:Int))=true:=(by simp at nc⊢;omega);clear nc;go_wp2_with fail
    refine⟨rfl,?_⟩;go_wp2_with fail
    go_ret;exact⟨rfl,av.out⟩
   |true=>
    have C:=eE.out;rw[nc] at C;simp only[OM] at C;have kU:((n:Int) !=(ct:Int))=false:=(by simp at nc⊢;omega);rw[kU];have Ht:Hid ((if ((xs.drop 0).all λp=>bP p.1 false==0)=true then(0:Int) else 2)=R):=Z (by rw[OP];exact C);clear nc C x5 x6 eE;go_wp2_with fail
    refine⟨rfl,?_⟩;generalize w1.alloc (OH #[U false,U bQ,U bV,U bF,U bC] 110)=w5 at HD av⊢;generalize w1.heap.size=g3 at HD⊢;go_wp2_with fail
    go_loopg [6] n (λg t=> λwr=>∃(j:Nat),j+g=n/\t=OB OA (j:Int)/\Hid ((if ((xs.drop j).all λp=>bP p.1 false==0)=true then(0:Int) else 2)=R)/\Hid (Below w5.drew.heap.size w5.drew wr))
    case atStart=>exact⟨0,by omega,rfl,Ht,Z (Below.refl _ _)⟩
    case round=>
     obtain⟨j,hj,rfl,HF,HW⟩:=hrel;have xx:=HD.out.below HW.out;have m6:=xx.tail.head.cell 6;have p0:=xx.head.cell 0;(try dsimp only at m6 p0);clear xx
     cases gk with
     |zero=>
      obtain rfl:j=n:=by omega
      have C:=HF.out;rw[OY (by have:=rG.out;omega),Ol,if_pos rfl] at C;subst C;have cE:=Z (av.out.trans (HW.out.mono av.out.size));clear hj;go_wp2_with fail
      go_ret;exact⟨rfl,cE.out⟩
     |succ g=>
      have Kt:((j:Int)<(n:Int)):=(by omega);have dy:j<(OI xs):=(by have:=rG.out;omega);have gj:=av.out.trans (HW.out.mono av.out.size);obtain⟨K,rfl,_,c0,c1⟩:=jL (HA.out.row.below gj) j dy;have cI:=(HA.out.bl xs[j] (OO dy)).below gj;have dv:=HA.out.lens xs[j] (OO dy);have C:=HF.out;rw[OV dy,Oi] at C;obtain⟨⟨⟨dc,L⟩,B9,c9⟩,hx⟩:∃x,xs[j]=x:=⟨_,rfl⟩;rw[hx] at c0 c1 cI dv C;dsimp only at c0 c1 cI dv C;obtain⟨ln,iP⟩:∃ln,OI L=ln:=⟨_,rfl⟩;rw[iP] at c1 dv;have CK:=Z (λW hW=>nu dc L B9 ln c9 false W hW iP (by omega));have jg:=Z (cI.below (HW.out.drew.mono (OQ _) |> λ_=>(Below.refl wr.heap.size wr).drew));obtain⟨er,kA⟩:∃er,bP ⟨dc,L⟩ false=er:=⟨_,rfl⟩;rw[kA] at CK C;have fJ:=Z HW.out.drew;have HJ:=Z hj;have hS:(wr.cell? ⟨w.heap.size,6,none⟩=some (OE (some K) n c)/\wr.cell? ⟨g3,0,none⟩=some (U false)/\wr.cell? (K.add (j*2))=some (OB OA dc)/\wr.cell? ⟨(K.add (j*2)).block,(K.add (j*2)).off+1,none⟩=some (OE B9 ln c9)):=⟨m6,p0,c0,c1⟩;have jY:=Z hS;clear hx iP cI dv kA hS gj hj c0 c1
      cases e0:(er !=0) with
      |true=>
       have e1:(er==0)=false:=(by simpa using e0);rw[e1,OF,if_neg Oa] at C;subst C;have cE:=Z (av.out.trans (fJ.out.mono av.out.size));clear e1;go_wp2_with fail
       refine dx (λw'=>w'.cell? ⟨w.heap.size,6,none⟩=some (OE (some K) n c)/\w'.cell? ⟨g3,0,none⟩=some (U false)/\w'.cell? (K.add (j*2))=some (OB OA dc)/\w'.cell? ⟨(K.add (j*2)).block,(K.add (j*2)).off+1,none⟩=some (OE B9 ln c9)) 7 [(0,true),(1,true),(2,true),(3,true),(4,true),(5,true),(6,true)] (jY.out) (λPE M=>?_)
       iterate 7
        refine bh (v:=?_) rfl (by rfl) ?_ ?_
        rotate_left
        ·intro _ I;(try dsimp only at I);obtain⟨u0,u1,u2,u3⟩:=I;go_simp;(try with_reducible rfl)
        simp only[Y,J,X]
       (refine M _ _ ?_;simp only[OG,OP];clear M PE)
       go_wp2_with (go_at_call 81;refine(CK.out _ jg.out).mono ?_;rintro e w8 ⟨rfl,bM⟩;have dO:=Z (cE.out.trans (bM.mono cE.out.size));clear bM)
       go_ret;exact⟨rfl,dO.out⟩
      |false=>
       have e1:(er==0)=true:=(by simpa using e0);rw[e1,OM] at C;have HN:=Z C;clear e1 C;go_wp2_with fail
       refine dx (λw'=>w'.cell? ⟨w.heap.size,6,none⟩=some (OE (some K) n c)/\w'.cell? ⟨g3,0,none⟩=some (U false)/\w'.cell? (K.add (j*2))=some (OB OA dc)/\w'.cell? ⟨(K.add (j*2)).block,(K.add (j*2)).off+1,none⟩=some (OE B9 ln c9)) 7 [(0,true),(1,true),(2,true),(3,true),(4,true),(5,true),(6,true)] (jY.out) (λPE M=>?_)
       iterate 7
        refine bh (v:=?_) rfl (by rfl) ?_ ?_
        rotate_left
        ·intro _ I;(try dsimp only at I);obtain⟨u0,u1,u2,u3⟩:=I;go_simp;(try with_reducible rfl)
        simp only[Y,J,X]
       (refine M _ _ ?_;simp only[OG,OP];clear M PE)
       go_wp2_with (go_at_call 81;refine(CK.out _ jg.out).mono ?_;rintro e w8 ⟨rfl,bM⟩;have dO:=Z (fJ.out.trans (bM.mono fJ.out.size));clear bM)
       go_roundg g
       case measure=>omega
       case rel=>exact⟨j+1,by have:=HJ.out;omega,rfl,HN,dO⟩
theorem Ez {k:Int}(h:eT k=true):jE aD aN k=(eM k,0):=by
 have j:k=1\/k=2\/k=3\/k=4\/k=5\/k=6\/k=7\/k=8\/k=9\/k=10:=by unfold eT at h;simp at h;omega
 clear h;rcases j with h|h|h|h|h|h|h|h|h|h
 all_goals
  rw[h]
  rfl
theorem Gk {k:Int}(C:1<=k)(h2:k<=63):jE bm bO k=(iW k,0):=by
 have B:(List.range 63).all (λj=>jE bm bO ((j:Int)+1)==(iW ((j:Int)+1),0))=true:=by kernel_rfl
 obtain⟨j,D⟩:=Int.eq_ofNat_of_zero_le (by omega:0<=k - 1);have:=List.all_eq_true.1 B j (List.mem_range.2 (by omega));rw[show (j:Int)+1=k by omega] at this
 simpa using this
theorem EH (m:aX)(x:bA)(xs:List dB)(A:Option Addr)(c:Nat)(w:World)(hm:m.bl=xs.map (·.1))(hA:ja w A xs):Calls Oo 71 #[dU m A (OI xs) c,dY x] w λe w'=>e=Oq (.tuple #[Od (bs (lE m x).1),OB OA (lE m x).2])/\Below w.heap.size w w':=by
 have CK:=Z (λW hW=>qS m xs A c W hm hW);have CA:=Z (λW=>zO x m.ad W);obtain⟨R,hR⟩:∃R,lE m x=R:=⟨_,rfl⟩;rw[hR];have HM:=Z hm;unfold lE at hR;have KE:=iO m;obtain⟨ok,kU⟩:∃b,iU m=b:=⟨_,rfl⟩;rw[kU] at hR CK KE;obtain⟨ah,KF⟩:∃b,da x m.ad=b:=⟨_,rfl⟩;rw[KF] at hR CA;have Lo:=Z KF;have Ky:=Z KE;unfold dU dY;obtain⟨ad,kd,qu,mx,my,pa,bl⟩:=m;obtain⟨la,lh,lx,ly⟩:=x;dsimp only at CK CA hR⊢;obtain⟨n,hn⟩:∃n,OI xs=n:=⟨_,rfl⟩;rw[hn] at CK⊢;have HN:=Z hn;have HA:=Z hA
 have Lh:ay w [(w.heap.size,55,#[OB OA ad,OB OA kd,OB OA qu,OB OA mx,OB OA my,OB OA pa,OE A n c]),(w.heap.size+1,102,#[OB OA la,U lh,OB OA lx,OB OA ly])] [] ((w.alloc (OH #[OB OA ad,OB OA kd,OB OA qu,OB OA mx,OB OA my,OB OA pa,OE A n c] 55)).alloc (OH #[OB OA la,U lh,OB OA lx,OB OA ly] 102)):=
  ⟨((Below.refl _ w).alloc (OQ _) _).alloc (by simp) _,aa.cons ((ab.new w _ _).alloc _) (aa.cons (aE (ab.new _ _ _) (by simp)) (ai _)),aF _⟩
 have dy:=Z Lh;clear hm kU KF KE hn hA Lh
 cases ok with
 |false=>
  simp only[OF,OD,if_false] at hR CK;subst hR
  go_enter Oe,Ob
  go_wp2_with fail
  refine(CK.out _ (HA.out.below dy.out.1 (OQ _))).mono ?_;rintro e w2 ⟨rfl,I⟩;have jg:=Z (aQ dy.out I);clear I;go_wp2_with fail
  go_ret2;exact⟨rfl,jg.out.1⟩
 |true=>
 simp only[OM,if_true] at hR CK
 cases ah with
 |false=>
  simp only[OD,if_false] at hR;subst hR
  go_enter Oe,Ob
  go_wp2_with fail
  refine(CK.out _ (HA.out.below dy.out.1 (OQ _))).mono ?_;rintro e w2 ⟨rfl,I⟩;have aJ:=aQ dy.out I;have B:=aJ.2.1.head;have m0:=B.cell 0;have m1:=B.cell 1;have m2:=B.cell 2;have m3:=B.cell 3;have m4:=B.cell 4;have m5:=B.cell 5;have m6:=B.cell 6;(try dsimp only at m0 m1 m2 m3 m4 m5 m6);clear B;have xl:=aJ.2.1.tail.head;have l0:=xl.cell 0;have l1:=xl.cell 1;have l2:=xl.cell 2;have l3:=xl.cell 3;(try dsimp only at l0 l1 l2 l3);clear xl;have jg:=Z aJ;clear I aJ;go_wp2_with fail
  refine(CA.out _).mono ?_;rintro e w3 ⟨rfl,JT⟩;have K5:=Z (aQ jg.out JT);clear JT;clear m0 m1 m2 m3 m4 m5 m6;clear l0 l1 l2 l3;go_wp2_with fail
  go_ret2;exact⟨rfl,K5.out.1⟩
 |true=>
 simp only[if_true] at hR;subst hR;have kU:=Ky.out.1 rfl;have eE:=Z kU;have K6:=kU.kd;have CO:=Z (λW=>ox kd W);unfold lY rx at CO;dsimp only at K6;rw[K6,if_pos rfl] at CO;have CP:=Z (λW=>EB kd W);rw[Ez K6] at CP;dsimp only at CP;obtain⟨Lx,av⟩:∃O,dD ⟨ad,kd,qu,mx,my,pa,bl⟩ ⟨la,lh,lx,ly⟩=O:=⟨_,rfl⟩;dsimp only;rw[av];unfold dD at av;dsimp only at av;rw[ON,ON,ON] at av;have K:=Z av;clear kU av K6 Ky
 go_enter Oe,Ob
 go_wp2_with fail
 refine(CK.out _ (HA.out.below dy.out.1 (OQ _))).mono ?_;rintro e w2 ⟨rfl,I⟩;have aJ:=aQ dy.out I;have B:=aJ.2.1.head;have m0:=B.cell 0;have m1:=B.cell 1;have m2:=B.cell 2;have m3:=B.cell 3;have m4:=B.cell 4;have m5:=B.cell 5;have m6:=B.cell 6;(try dsimp only at m0 m1 m2 m3 m4 m5 m6);clear B;have xl:=aJ.2.1.tail.head;have l0:=xl.cell 0;have l1:=xl.cell 1;have l2:=xl.cell 2;have l3:=xl.cell 3;(try dsimp only at l0 l1 l2 l3);clear xl;have jg:=Z aJ;clear I aJ CK dy;go_wp2_with fail
 refine(CA.out _).mono ?_;rintro e w3 ⟨rfl,JT⟩;have Ku:=aQ jg.out JT;clear m0 m1 m2 m3 m4 m5 m6;clear l0 l1 l2 l3;have B:=Ku.2.1.head;have m0:=B.cell 0;have m1:=B.cell 1;have m2:=B.cell 2;have m3:=B.cell 3;have m4:=B.cell 4;have m5:=B.cell 5;have m6:=B.cell 6;(try dsimp only at m0 m1 m2 m3 m4 m5 m6);clear B;have xl:=Ku.2.1.tail.head;have l0:=xl.cell 0;have l1:=xl.cell 1;have l2:=xl.cell 2;have l3:=xl.cell 3;(try dsimp only at l0 l1 l2 l3);clear xl;have K5:=Z Ku;clear JT Ku CA jg;go_wp2_with fail
 refine(CO.out _).mono ?_;rintro e w4 ⟨rfl,L7⟩;have cE:=ap (aQ K5.out L7) (OH #[U (pI kd),U (pQ kd),U (pV kd),U (pF kd),U (pC kd)] 110);have Ld:=ab.new w4 110 #[U (pI kd),U (pQ kd),U (pV kd),U (pF kd),U (pC kd)];obtain⟨g,hg⟩:∃g,w4.heap.size=g:=⟨_,rfl⟩;have cE:ay w [(w.heap.size,55,#[OB OA ad,OB OA kd,OB OA qu,OB OA mx,OB OA my,OB OA pa,OE A n c]),(w.heap.size+1,102,#[OB OA la,U lh,OB OA lx,OB OA ly]),(g,110,#[U (pI kd),U (pQ kd),U (pV kd),U (pF kd),U (pC kd)])] [] _:=⟨cE.1,aa.cons cE.2.1.head (aa.cons cE.2.1.tail.head (aa.cons (aE Ld hg) (ai _))),aF _⟩;clear m0 m1 m2 m3 m4 m5 m6;clear l0 l1 l2 l3;have B:=cE.2.1.head;have m0:=B.cell 0;have m1:=B.cell 1;have m2:=B.cell 2;have m3:=B.cell 3;have m4:=B.cell 4;have m5:=B.cell 5;have m6:=B.cell 6;(try dsimp only at m0 m1 m2 m3 m4 m5 m6);clear B;have xl:=cE.2.1.tail.head;have l0:=xl.cell 0;have l1:=xl.cell 1;have l2:=xl.cell 2;have l3:=xl.cell 3;(try dsimp only at l0 l1 l2 l3);clear xl;have KV:=Z cE;clear L7 cE Ld CO K5;go_wp2_with fail
 refine(CP.out _).mono ?_;rintro e w5 ⟨rfl,L8⟩;have Li:=aQ KV.out L8;clear m0 m1 m2 m3 m4 m5 m6;clear l0 l1 l2 l3;have Hl:=Z Li;clear L8 Li CP KV;(try rw[hg]);clear hg;have m2:=Hl.out.2.1.head.cell 2;have q1:=Hl.out.2.1.tail.tail.head.cell 1;dsimp only at m2 q1
 go_upto_if 48 with fail
 obtain⟨QS,KO⟩:∃QS,(if pQ kd then ak qu.toNat 5 else[])=QS:=⟨_,rfl⟩;rw[KO] at K;have KC:=Z KO;have KN:=eE.out.q1;have Ll:=pj kd;dsimp only at KN;have KY:=Z KN;clear KO KN
 go_cut [8] (λs wx=>s=Od (bs (eM kd++QS))/\Hid (ay w [(w.heap.size,55,#[OB OA ad,OB OA kd,OB OA qu,OB OA mx,OB OA my,OB OA pa,OE A n c]),(w.heap.size+1,102,#[OB OA la,U lh,OB OA lx,OB OA ly]),(g,110,#[U (pI kd),U (pQ kd),U (pV kd),U (pF kd),U (pC kd)])] [] wx))
 case first=>
  have Kv:=KY.out;have D:=KC.out;obtain⟨bQ,Lf⟩:∃b,pQ kd=b:=⟨_,rfl⟩;rw[Lf] at q1 Kv D⊢;obtain⟨KP,KH⟩:∃KP,eM kd=KP:=⟨_,rfl⟩;rw[KH] at Ll⊢;have KW:=Z KH;clear Lf KH
  cases bQ with
  |false=>
   rw[if_neg (by decide)] at D;have Lt:=Z D;clear Kv D;go_wp2_with fail
   go_meet
   case rel=>exact⟨by rw[<-Lt.out,KW.out,OU],Hl⟩
  |true=>
   rw[if_pos rfl] at D;obtain⟨h1,h2⟩:=Kv rfl;obtain⟨q,rfl⟩:∃q:Nat,qu=(q:Int):=⟨qu.toNat,by omega⟩;rw[Int.toNat_natCast] at D;have CD:=Z (λW=>gD q 5 (by omega) (by decide) W);have Lz:=bf q 5;rw[D] at CD Lz;clear D h1 h2 Kv;go_wp2_with (go_at_call 113;refine(CD.out _).mono ?_;rintro e w6 ⟨rfl,L9⟩;have C:=Z (aQ Hl.out L9);clear L9)
   go_meet
   case rel=>exact⟨by rw[KW.out],C⟩
 obtain⟨rfl,C⟩:=hcut
 have iP:(eM kd++QS).length<=29:=by
  have h2:OI QS<=5:=(by rw[<-KC.out];split<;>simp[ak]);rw[OJ];omega
 clear Ll m2 q1 Hl KY;have q2:=C.out.2.1.tail.tail.head.cell 2;dsimp only at q2
 go_upto_if 55 with fail
 obtain⟨⟨p1,p2⟩,cI⟩:∃p,cZ ad (ad - la) lh lx ly=p:=⟨_,rfl⟩
 have KG:(0:Int)<=la/\la<ad/\aA lx=true/\aA ly=true:=by
  have h:=Lo.out;unfold da at h;simp only[Bool.and_eq_true,decide_eq_true_eq] at h;exact⟨h.1.1.1.1,h.1.1.1.2,h.1.1.2,h.1.2⟩
 have Hu:=eE.out.a2;dsimp only at Hu;have LB:On.wrap (ad - la)=ad - la:=by rw[Of];omega
 have KL:aA p1=true/\aA p2=true:=by
  unfold cZ at cI
  split at cI
  ·rw[<-(Prod.mk.inj cI).1,<-(Prod.mk.inj cI).2];exact⟨rfl,rfl⟩
  ·rw[<-(Prod.mk.inj cI).1,<-(Prod.mk.inj cI).2];exact⟨KG.2.2.1,KG.2.2.2⟩
 have rG:=Z (λW=>vO ad (ad - la) lh lx ly W);rw[cI] at K rG;dsimp only at K rG;have D1:=Z (λW=>sr p1 mx W KL.1 eE.out.px);have D2:=Z (λW=>sr p2 my W KL.2 eE.out.py);have P1:=Z (λW=>uP (cY p1 mx) W (fU p1 mx).1 (fU p1 mx).2);have P2:=Z (λW=>uP (cY p2 my) W (fU p2 my).1 (fU p2 my).2);obtain⟨VS,KU⟩:∃VS,(if pV kd then fA p1 mx++fA p2 my else[])=VS:=⟨_,rfl⟩;rw[KU] at K;have KD:=Z KU;obtain⟨S0,KQ⟩:∃S0,eM kd++QS=S0:=⟨_,rfl⟩;have KZ:=Z KQ;rw[KQ] at iP⊢;clear KU cI KL KQ KG Hu
 go_cut [8] (λs wx=>s=Od (bs (S0++VS))/\Hid (ay w [(w.heap.size,55,#[OB OA ad,OB OA kd,OB OA qu,OB OA mx,OB OA my,OB OA pa,OE A n c]),(w.heap.size+1,102,#[OB OA la,U lh,OB OA lx,OB OA ly]),(g,110,#[U (pI kd),U (pQ kd),U (pV kd),U (pF kd),U (pC kd)])] [] wx))
 case first=>
  have G:=KD.out;obtain⟨bV,Lg⟩:∃b,pV kd=b:=⟨_,rfl⟩;rw[Lg] at q2 G⊢;clear Lg
  cases bV with
  |false=>
   rw[if_neg (by decide)] at G;have fJ:=Z G;clear G;go_wp2_with fail
   go_meet
   case rel=>exact⟨by rw[<-fJ.out,OU],C⟩
  |true=>
   rw[if_pos rfl] at G;have KJ:=it p1 mx;have KK:=it p2 my;unfold fA at G KJ KK;have fJ:=Z G;clear G;obtain⟨d1,Lj⟩:∃d,cY p1 mx=d:=⟨_,rfl⟩;obtain⟨d2,Lk⟩:∃d,cY p2 my=d:=⟨_,rfl⟩;rw[Lj] at D1 P1 fJ KJ;rw[Lk] at D2 P2 fJ KK;clear Lj Lk;obtain⟨V1,Lm⟩:∃V,cf d1=V:=⟨_,rfl⟩;obtain⟨V2,Ln⟩:∃V,cf d2=V:=⟨_,rfl⟩;rw[Lm] at P1 fJ KJ;rw[Ln] at P2 fJ KK;clear Lm Ln;have m0:=C.out.2.1.head.cell 0;have m3:=C.out.2.1.head.cell 3;have m4:=C.out.2.1.head.cell 4;have l0:=C.out.2.1.tail.head.cell 0;have l1:=C.out.2.1.tail.head.cell 1;have l2:=C.out.2.1.tail.head.cell 2;have l3:=C.out.2.1.tail.head.cell 3;dsimp only at m0 m3 m4 l0 l1 l2 l3;have Lu:=Z (show (S0++V1).length<=60 by rw[OJ];omega);have LD:=Lu.out;go_wp2_with (first|(go_at_call 118;refine(rG.out _).mono ?_;rintro e w' ⟨rfl,rfl⟩;clear rG)|(go_at_call 119;refine(D1.out _).mono ?_;rintro e w' ⟨rfl,rfl⟩;clear D1)|(go_at_call 119;refine(D2.out _).mono ?_;rintro e w' ⟨rfl,rfl⟩;clear D2)|(go_at_call 120;refine(P1.out _).mono ?_;rintro e w7 ⟨rfl,La⟩;have dO:=Z (aQ C.out La);clear La P1)|(go_at_call 120;refine(P2.out _).mono ?_;rintro e w8 ⟨rfl,K0⟩;have Ht:=Z (aQ dO.out K0);clear K0))
   go_meet
   case rel=>exact⟨by rw[<-fJ.out,<-ON];try rfl,Ht⟩
 obtain⟨rfl,dO⟩:=hcut;clear q2 C
 have iP:(S0++VS).length<=77:=by
  have h2:OI VS<=48:=by
   rw[<-KD.out];have:=it p1 mx;have:=it p2 my
   split
   ·rw[OJ];omega
   ·simp
  rw[OJ];omega
 have q4:=dO.out.2.1.tail.tail.head.cell 4;have m5:=dO.out.2.1.head.cell 5;dsimp only at q4 m5
 go_upto_if 103 with fail
 obtain⟨PS,KM⟩:∃PS,(if pC kd then iW pa else[])=PS:=⟨_,rfl⟩;rw[KM] at K;have KB:=Z KM;obtain⟨S1,KR⟩:∃S1,S0++VS=S1:=⟨_,rfl⟩;have L0:=Z KR;rw[KR] at iP⊢;clear KM KR
 have gj:pC kd=true->1<=pa/\pa<=63:= λh=>by
  have i1:=eE.out.i1;have c1:=eE.out.c1;dsimp only at i1 c1
  cases hI:pI kd with
  |true=>have:=i1 hI;omega
  |false=>exact c1 hI h
 have KX:=Z gj;clear gj
 go_cut [8] (λs wx=>s=Od (bs (S1++PS))/\Hid (ay w [(w.heap.size,55,#[OB OA ad,OB OA kd,OB OA qu,OB OA mx,OB OA my,OB OA pa,OE A n c]),(w.heap.size+1,102,#[OB OA la,U lh,OB OA lx,OB OA ly]),(g,110,#[U (pI kd),U (pQ kd),U (pV kd),U (pF kd),U (pC kd)])] [] wx))
 case first=>
  have N:=KB.out;have gj:=KX.out;obtain⟨bC,bM⟩:∃b,pC kd=b:=⟨_,rfl⟩;rw[bM] at q4 N gj⊢;clear bM
  cases bC with
  |false=>
   rw[if_neg (by decide)] at N;have Ls:=Z N;clear N gj;go_wp2_with fail
   go_meet
   case rel=>exact⟨by rw[<-Ls.out,OU],dO⟩
  |true=>
   rw[if_pos rfl] at N;obtain⟨h1,h2⟩:=gj rfl;have CQ:=Z (λW=>ED pa W);rw[Gk h1 h2] at CQ;dsimp only at CQ;have LA:=oq pa;rw[N] at CQ LA;clear N gj h1 h2;go_wp2_with (go_at_call 121;refine(CQ.out _).mono ?_;rintro e w8 ⟨rfl,K0⟩;have Ht:=Z (aQ dO.out K0);clear K0)
   go_meet
   case rel=>exact⟨rfl,Ht⟩
 obtain⟨rfl,Ht⟩:=hcut;clear q4 m5 dO
 have iP:(S1++PS).length<=101:=by
  have h2:OI PS<=24:=by
   rw[<-KB.out]
   split
   ·exact oq pa
   ·simp
  rw[OJ];omega
 obtain⟨S2,KT⟩:∃S2,S1++PS=S2:=⟨_,rfl⟩;have L4:=Z KT;rw[KT] at iP⊢;clear KT
 have Kw:Hid (∀p∈xs,bP p.1 (pI kd)=0):=Z (λp hp=>by
  have h:=eE.out.bl;have h2:=HM.out;(try dsimp only at h);(try dsimp only at h2);rw[h2] at h;exact h p.1 (List.mem_map.2 ⟨p,hp,rfl⟩))
 have KA:Hid (S2++xs.flatMap (λp=>bN p.1 (pI kd))=Lx):=Z (by
  rw[<-K.out,<-L4.out,<-L0.out,<-KZ.out];have h2:=HM.out;(try dsimp only at h2);rw[h2,List.flatMap_map];simp only[ON])
 have L5:=Z iP;have K3:=HA.out.len;rw[HN.out] at K3;have Kx:=Z K3;clear iP K3 K L4 L0 KZ KC KD KB KX rG D1 D2 P1 P2 LB;generalize pI kd=bI at*;go_wp2_with fail
 go_loopg [8,22] n (λgg v8 LC=> λwr=>∃(j:Nat),j+gg=n/\v8=Od (bs (S2++(xs.take j).flatMap (λp=>bN p.1 bI)))/\LC=OB OA (j:Int)/\Hid (ay w [(w.heap.size,55,#[OB OA ad,OB OA kd,OB OA qu,OB OA mx,OB OA my,OB OA pa,OE A n c]),(w.heap.size+1,102,#[OB OA la,U lh,OB OA lx,OB OA ly]),(g,110,#[U bI,U (pQ kd),U (pV kd),U (pF kd),U (pC kd)])] [] wr))
 case atStart=>exact⟨0,by omega,by rw[List.take_zero,List.flatMap_nil,OU],rfl,Ht⟩
 case round=>
  obtain⟨j,hj,rfl,rfl,HC⟩:=hrel;have m6:=HC.out.2.1.head.cell 6;have q0:=HC.out.2.1.tail.tail.head.cell 0;dsimp only at m6 q0
  cases gk with
  |zero=>
   obtain rfl:j=n:=by omega
   rw[List.take_of_length_le (by have:=HN.out;omega),KA.out];clear hj;go_wp2_with fail
   go_ret2;exact⟨rfl,HC.out.1⟩
  |succ gg=>
   have LG:((j:Int)<(n:Int)):=(by omega);have kA:j<(OI xs):=(by have:=HN.out;omega);obtain⟨M,rfl,_,c0,c1⟩:=jL (HA.out.row.below HC.out.1) j kA;have Kt:=(HA.out.bl xs[j] (OO kA)).below HC.out.1.drew;have bM:=Kw.out xs[j] (OO kA)
   have K4:(xs.take (j+1)).flatMap (λp=>bN p.1 bI)=(xs.take j).flatMap (λp=>bN p.1 bI)++bN xs[j].1 bI:=by
    rw[List.take_add_one,List.getElem?_eq_getElem kA,List.flatMap_append];simp
   have Lc:∀(ys:List dB),(∀p∈ys,bP p.1 bI=0)->(ys.flatMap λp=>bN p.1 bI).length<=1300*(OI ys):= λys=>by
    induction ys with
    |nil=>intro _;simp
    |cons y ys ih=>
     intro h;rw[List.flatMap_cons,OJ,List.length_cons];have h1:=o7 (h y (by simp));have h2:=ih (λp hp=>h p (List.mem_cons_of_mem _ hp));omega
   have Ly:=Lc (xs.take j) (λp hp=>Kw.out p (List.mem_of_mem_take hp));have I:=o7 bM
   have dv:∀W,Below w.heap.size w W->W.cell? (M.add (j*2))=some (OB OA xs[j].1.dc)/\W.cell? ⟨(M.add (j*2)).block,(M.add (j*2)).off+1,none⟩=some (OE xs[j].2.1 xs[j].1.l.length xs[j].2.2):= λW hW=>by
    obtain⟨LE,e',_,d0,d1⟩:=jL (HA.out.row.below hW) j kA
    cases e'
    exact⟨d0,d1⟩
   obtain⟨⟨⟨dc,L⟩,B9,c9⟩,hx⟩:∃x,xs[j]=x:=⟨_,rfl⟩;rw[hx] at c0 c1 Kt bM K4 I dv;dsimp only at c0 c1 Kt bM K4 I dv;obtain⟨ln,KI⟩:∃ln,OI L=ln:=⟨_,rfl⟩;rw[KI] at c1 dv;have Kz:=Z dv;have CB:=Z (λW hW=>EE dc L B9 ln c9 bI W hW KI bM);obtain⟨BP,Le⟩:∃BP,bN ⟨dc,L⟩ bI=BP:=⟨_,rfl⟩;rw[Le] at CB K4 I;obtain⟨T,hT⟩:∃T,S2++(xs.take j).flatMap (λp=>bN p.1 bI)=T:=⟨_,rfl⟩
   have LF:OI T<=100000:=by
    rw[<-hT,OJ];have:=L5.out;have:=Kx.out;have h3:(xs.take j).length<=64:=(by rw[List.length_take];omega);omega
   have Lw:=Z (show S2++(xs.take (j+1)).flatMap (λp=>bN p.1 bI)=T++BP by rw[K4,<-ON,hT]);rw[hT];have Lp:=Z Kt;have hS:(wr.cell? ⟨w.heap.size,6,none⟩=some (OE (some M) n c)/\wr.cell? ⟨g,0,none⟩=some (U bI)/\wr.cell? (M.add (j*2))=some (OB OA dc)/\wr.cell? ⟨(M.add (j*2)).block,(M.add (j*2)).off+1,none⟩=some (OE B9 ln c9)):=⟨m6,q0,c0,c1⟩;have Lv:=Z hS;have Lr:=Z (bB HC.out);have HJ:=Z hj;have LH:On.wrap ((j:Int)+1)=(j:Int)+1:=(by have:=Kx.out;rw[Of];omega);clear Kt bM K4 Lc Ly hx KI Le hT hS hj kA c0 c1 dv;go_wp2_with fail
   refine aP (λw'=>w'.cell? ⟨w.heap.size,6,none⟩=some (OE (some M) n c)/\w'.cell? ⟨g,0,none⟩=some (U bI)/\w'.cell? (M.add (j*2))=some (OB OA dc)/\w'.cell? ⟨(M.add (j*2)).block,(M.add (j*2)).off+1,none⟩=some (OE B9 ln c9)) 13 (OC 0 (OC 1 (OC 2 (OC 3 (OC 4 (OC 5 (OC 6 (Oc 7 (OC 8 (OC 9 (OC 10 (Oc 11 (Oc 12 .done))))))))))))) (Lv.out) (λPE L6=>?_)
   iterate 7
    refine af (v:=?_) rfl (by rfl) ?_ ?_
    rotate_left
    ·intro _ K9;(try dsimp only at K9);obtain⟨u0,u1,u2,u3⟩:=K9;go_simp;(try with_reducible rfl)
    simp only[Y,J,X]
   refine aG (f:=122) rfl (by rfl) (by first|(go_simp;done)|(go_simp;rfl)) (CB.out _ Lp.out) ?_;rintro e w9 ⟨rfl,Lb⟩;have jY:=aQ Lr.out Lb;have K8:_/\_/\_/\_:=⟨jY.2.1.head.cell 6,jY.2.1.tail.tail.head.cell 0,(Kz.out w9 jY.1).1,(Kz.out w9 jY.1).2⟩;have Lq:=Z jY;clear Lb jY;refine⟨_,rfl,_,λ_ h=>h,K8,?_⟩;simp only[Y,J,X]
   iterate 3
    refine af (v:=?_) rfl (by rfl) ?_ ?_
    rotate_left
    ·intro _ K9;(try dsimp only at K9);go_simp;(try with_reducible rfl)
    simp only[Y,J,X]
   refine aj (v:=?_) (w':=?_) rfl (by rfl) ?_ ?_ ?_;rotate_left 2
   ·go_simp;(try (constructor<;>with_reducible rfl))
   ·exact K8
   simp only[Y,J,X];refine aj (v:=?_) (w':=?_) rfl (by rfl) ?_ ?_ ?_;rotate_left 2
   ·go_simp;(try (constructor<;>with_reducible rfl))
   ·exact K8
   simp only[Y,J,X];refine L6 _ _ ?_;clear L6 PE;simp only[OG,OT];clear K8 m6 q0;go_wp2_with fail
   refine⟨rfl,?_⟩;go_wp2_with fail
   go_roundg gg
   case measure=>omega
   case rel=>exact⟨j+1,by have:=HJ.out;omega,by rw[Lw.out],rfl,Lq⟩
end Go.Proofs.YthhijgcfbjcgiaaGreatDoor
