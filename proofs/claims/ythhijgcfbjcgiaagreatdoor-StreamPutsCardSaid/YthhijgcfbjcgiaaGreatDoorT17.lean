/- PfxG -/
import Derived.Test.YthhijgcfbjcgiaaGreatDoorT15
import Derived.Test.YthhijgcfbjcgiaaGreatDoorT16
namespace Go.Proofs.YthhijgcfbjcgiaaGreatDoor
open Go Go.RowKit
attribute [local go_sem] Oper.semAt_some
open Go.IntKind renaming i64→O
open Go.Value renaming int→U,pointer→Y,slice→OG,tuple→Ob,bool→Oe
open List renaming length→Z,length_append→OA,setIfInBounds_toArray→OB,getElem?_cons_succ→OC,getElem?_cons_zero→OD,getElem?_toArray→OF,append_toArray→OI,drop_succ_cons→OJ,set_cons_succ→OK,set_cons_zero→OL,push_toArray→ON,size_toArray→OO,cons_append→OP,length_cons→OQ,length_nil→OT,nil_append→OU,drop_zero→OV,map_cons→OW,map_nil→OZ
open Go.Lib renaming hid→V
open Nat renaming le_refl→X,reduceAdd→OH,reduceSub→OX
open Go.Proofs.YthhijgcfbjcgiaaGreatDoor.bY renaming take→J
open Tryz renaming results275→OE,ntmps275→OY,func275→Oa,prog→Oc
open Go.Obj renaming cells→OM
open Option renaming getD_some→OR
open Go.World renaming size_alloc→OS
open Go.Ending renaming returned→Od
theorem zC (s:Value)(i:Int)(w:World)(j:∃A m c,s=OG A m c):Calls Oc 287 #[s,U O i] w λe w'=>e=Od (.func (.func 292) #[] #[Y (some ⟨w.heap.size,0,none⟩),Y (some ⟨w.heap.size+1,0,none⟩)])/\
  (w.alloc (OM #[s] 25)).alloc (OM #[U O i] 3)=w':=by
 obtain⟨A,m,c,rfl⟩:=j
 go_enter Tryz.func287,Tryz.ntmps287
 go_wp2_with fail
 go_ret;exact⟨rfl,rfl⟩
def By (N:List Nd) (l:List UInt8) (i m:Nat) (R:Int×Int×Int) (pre:List Nat) (k:Nat):Prop:=
 k<Z N/\fO N k (aI l (i+Z pre) (m - Z pre)) (Z pre:Int)=R
def n6 (h T:Nat) (N:List Nd) (A:Option Addr) (n c:Nat) (pre:List Nat) (k:Nat):List aM:=
 [(h,185,#[Y (some ⟨T,0,none⟩)]),(h+1,3,#[U O 0]),(h+2,3,#[U O 0]),(h+3,26,#[U O 0]),(h+4,260,(nI (N.getD k b9)).toArray),(h+5,3,#[U O (Z pre:Int)]),(h+6,25,#[OG A n c])]
theorem FO {N:List Nd}{q k m:Nat}{l:List UInt8}{R:Int×Int×Int}{pre:List Nat}(D:Z pre<m)(h:fO N q (aI l (k+Z pre) (m - Z pre)) (Z pre:Int)=R)(j:Nat)(ht:(N.getD q b9).to (dH l (k+Z pre))=j):
  (j=0->R=(0,0,7))/\(j≠0->(N.getD j b9).leaf=true->R=((N.getD j b9).num,((Z pre+1:Nat):Int),0))/\(j≠0->(N.getD j b9).leaf=false->fO N j (aI l (k+(Z pre+1)) (m - (Z pre+1))) ((Z pre+1:Nat):Int)=R):=by
 obtain⟨C,B⟩:∃C,m - Z pre=C+1:=⟨m - Z pre - 1,by omega⟩;rw[B,BB,fO,ht] at h;refine⟨λe=>?_,λe hl=>?_,λe hl=>?_⟩
 ·rw[if_pos e] at h;exact h.symm
 ·rw[if_neg e,if_pos hl] at h;exact h.symm
 ·rw[if_neg e,if_neg (by rw[hl];decide)] at h
  rw[show m - (Z pre+1)=C by omega];exact h
theorem uF (x:Nd)(l:List UInt8)(p:Nat):((nI x).toArray)[aZ l p]? =some (U O ((x.to (dH l p):Nat):Int)):=by
 have:=fC l p;unfold Nd.to dH
 by_cases h:aZ l p=0
 ·rw[if_pos h,h];rfl
 ·have j:aZ l p=1:=by omega
  rw[if_neg h,j];rfl
set_option maxRecDepth 100000 in
set_option maxHeartbeats 4000000 in
theorem Ct (w:World)(base T:Nat)(N:List Nd)(D:DataW Value)(kA:Nat)(h:ey w base T N D kA)(hm:kA≠0)(KC:Bx N=true)(hN:0<Z N)(A:Option Addr)(n c:Nat)(l:List UInt8)(i:Int)(hA:Sl w A (l.map ag))(hn:Z l=n)(hsz:n<=2 ^ 47)(hi: -9223372036854775808<=i/\i<=9223372036854775807):
  Calls Oc 275 #[Y (some ⟨T,0,none⟩),OG A n c,U O i] w λe w'=>e=Od (Ob #[U O (if i<0 then((0,0,3):Int×Int×Int) else fO N 0 (aI l i.toNat (8*n - i.toNat)) 0).1,U O (if i<0 then((0,0,3):Int×Int×Int) else fO N 0 (aI l i.toNat (8*n - i.toNat)) 0).2.1,U O (if i<0 then((0,0,3):Int×Int×Int) else fO N 0 (aI l i.toNat (8*n - i.toNat)) 0).2.2])/\Below w.heap.size w w':=by
 have HN:=V (λ(W:World) (hb:Below w.heap.size w W)=>qO W base T N D kA (h.later hb) hm)
 by_cases h1:i<0
 ·have e1:decide (i<0)=true:=by simpa using h1
  rw[if_pos h1];clear h hN;refine(callsIn_wide (n:=5)).1 ?_;refine callsIn_of_wp_marks Oa rfl trivial ?_ rfl;simp only[OY,OO,OQ,OT,OH,OX,Array.replicate_succ,Array.replicate_zero,ON,OI,OU,OP];refine wpIn_wide.2 ?_;go_wp2_with (go_at_call 202;refine(HN.out _ ((((Below.refl _ _).alloc (X _) _).alloc (by simp) _ |>.alloc (by simp;omega) _).alloc (by simp;omega) _)).mono ?_;rintro e w' ⟨rfl,rfl⟩)
  refine iy (v:=Ob #[U O 0,U O 0,U O 3]) (by simp[results,OE,go_sem]) ?_;refine⟨rfl,?_⟩;exact(((((Below.refl _ _).alloc (X _) _).alloc (by simp) _).alloc (by simp;omega) _).alloc (by simp;omega) _)
 have e1:decide (i<0)=false:=by simpa using h1
 rw[if_neg h1];obtain⟨k,rfl⟩:=Int.eq_ofNat_of_zero_le (by omega:0<=i);rw[Int.toNat_natCast];generalize hR:fO N 0 (aI l k (8*n - k)) 0=R
 have cI:Below w.heap.size w ((((w.alloc (OM #[Y (some ⟨T,0,none⟩)] 185)).alloc (OM #[U O 0] 3)).alloc (OM #[U O 0] 3)).alloc (OM #[U O 0] 26)):=
  ((((Below.refl _ _).alloc (X _) _).alloc (by simp) _).alloc (by simp;omega) _).alloc (by simp;omega) _
 obtain⟨gb,KK,mb,KO,KU,KR,KT,hP,K9,Kw,Ku,KQ,KN⟩:=m8 (h.later cI) hN;obtain⟨c0,c1,c2,n0,n1,n2,n3⟩:=hP;simp only[Nat.zero_mul,Nat.zero_add] at n0 n1 n2 n3;rw[<-kL hN] at n0 n1 n2 n3;have HT:=V h;have HA:=V hA;have HR:=V hR;have Hn:=V hn;have KH:=V KC;have HB:=V K9;have HL:=V hN;have Cf:=V (λW=>zC (OG A n c) (k:Int) W ⟨_,_,_,rfl⟩);have KM:(0:Int)<(Z N:Int):=by omega
 clear h hA hR hn KC K9 Kw Ku hN cI;refine(callsIn_wide (n:=5)).1 ?_;refine callsIn_of_wp_marks Oa rfl trivial ?_ rfl;simp only[OY,OO,OQ,OT,OH,OX,Array.replicate_succ,Array.replicate_zero,ON,OI,OU,OP];refine wpIn_wide.2 ?_
 go_wp2_with (first
  |(go_at_call 202;refine(HN.out _ ((((Below.refl _ _).alloc (X _) _).alloc (by simp) _ |>.alloc (by simp;omega) _).alloc (by simp;omega) _)).mono ?_;rintro e w' ⟨rfl,rfl⟩)
  |(go_at_call 287;refine(Cf.out _).mono ?_;rintro e w' ⟨rfl,rfl⟩))
 obtain⟨h,hh⟩:∃h,h=w.heap.size:=⟨_,rfl⟩;simp only[Nat.add_assoc,OH];refine(wpIn_wide (n:=5)).1 ?_
 refine sY (α:=Nat) (enc:= λx=> #[U O x]) (I:= λpre W=>(∃q,By N l k (8*n - k) R pre q/\ay w (n6 w.heap.size T N A n c pre q) [] W)/\ab W (w.heap.size+7) 3 #[U O ((k+Z pre:Nat):Int)])
  (I2:= λpre W=>(∃q,By N l k (8*n - k) R pre q/\ay w (n6 w.heap.size T N A n c pre q) [] W)/\ab W (w.heap.size+7) 3 #[U O ((k+Z pre - 1:Nat):Int)]) (S:= λxs=>xs=fp l k (8*n - k)) (Sp:= λpre=>pre<+:fp l k (8*n - k))
  rfl (by decide) (gf:=292) (lb:= #[Y (some ⟨w.heap.size+6,0,none⟩),Y (some ⟨w.heap.size+7,0,none⟩)]) rfl trivial (enters_of Tryz.func292 (by kernel_rfl) rfl)
  (FL 4 (by decide) (w.heap.size+6) (w.heap.size+7) A n c l k Hn.out hsz (λpre W=>∃q,By N l k (8*n - k) R pre q/\ay w (n6 w.heap.size T N A n c pre q) [] W) ?hC ?hCs) (λ_=>rfl)
  (λcd pre W=>m9 w [(w.heap.size+1,3,#[U O R.1]),(w.heap.size+2,3,#[U O R.2.1]),(w.heap.size+3,26,#[U O R.2.2])] cd W)
  (λpre x _ W=>(∃q,By N l k (8*n - k) R pre q/\ay w (n6 w.heap.size T N A n c pre q) [] W)/\ab W (w.heap.size+7) 3 #[U O ((k+Z pre:Nat):Int)])
  ((om (by simp;omega) _ _ _).and (bj _ _ _)) ((om (by simp;omega) _ _ _).and (bj _ _ _)) (λcd=>iu (by simp;omega) _ _) (λx kk=>(om (by simp;omega) _ _ _).and (bj _ _ _)) ?start ?round ?done ?stop
 case hC=>
  rintro pre W v ⟨q,hq,hb,hc,_⟩;exact⟨q,hq,hb.setCell (p:=⟨w.heap.size+7,0,none⟩) (by show w.heap.size<=_;simp) _,hc.far (p:=⟨w.heap.size+7,0,none⟩) (by unfold n6;simp) _,aF _⟩
 case hCs=>
  rintro pre W ⟨q,hq,hb,hc,_⟩;exact⟨hc.tail.tail.tail.tail.tail.tail.head,HA.out.below hb⟩
 case start=>
  refine⟨⟨0,⟨HL.out,?_⟩,?_,?_,aF _⟩,?_⟩
  ·simpa using HR.out
  ·exact(((((((((Below.refl _ _).alloc (X _) _).alloc (by simp) _).alloc (by simp;omega) _).alloc (by simp;omega) _).alloc (by simp;omega) _).alloc (by simp;omega) _).alloc (by simp;omega) _).alloc (by simp;omega) _)
  ·unfold n6
   refine aa.cons ?_ (aa.cons ?_ (aa.cons ?_ (aa.cons ?_ (aa.cons ?_ (aa.cons ?_ (aa.cons ?_ (ai _)))))))
   all_goals (repeat (first|(refine aE (ab.new _ _ _) ?_;simp[OS];done)|refine ab.alloc ?_ _))
  ·(repeat (first|(refine aE (ab.new _ _ _) ?_;simp[OS];done)|refine ab.alloc ?_ _))
 case done=>
  rintro D xs W hD KE ⟨⟨q,⟨KA,dv⟩,C,j,_⟩,hb⟩ hK;unfold n6 at j;have KD:Z xs=8*n - k:=(by rw[KE,gx]);have Kv:R=(0,0,5):=(by rw[KD,Nat.sub_self] at dv;exact dv.symm);have f1:=j.tail.head.frozen 0;have f2:=j.tail.tail.head.frozen 0;have f3:=j.tail.tail.tail.head.frozen 0;have r1:=j.tail.head.cell 0;have r2:=j.tail.tail.head.cell 0;have r3:=j.tail.tail.tail.head.cell 0;have KF:=V Kv;have G:=V C;have aJ:=V j;have HK:=V hK;clear KE KA dv KD Kv C j hb hK;gi_wp2_with fail
  go_wp2_with fail
  have j:=aJ.out;have K3:D≠w.heap.size+1/\D≠w.heap.size+2/\D≠w.heap.size+3:=by simp at hD;omega
  have Kt:=(((Below.heap_setCell (W.setCell ⟨w.heap.size+1,0,none⟩ (U O 0) |>.setCell ⟨w.heap.size+2,0,none⟩ (U O 0)) ⟨w.heap.size+3,0,none⟩ (U O 5) D K3.2.2).trans
   (Below.heap_setCell (W.setCell ⟨w.heap.size+1,0,none⟩ (U O 0)) ⟨w.heap.size+2,0,none⟩ (U O 0) D K3.2.1)).trans (Below.heap_setCell W ⟨w.heap.size+1,0,none⟩ (U O 0) D K3.1)).trans HK.out
  have KJ:aa [(w.heap.size+1,3,#[U O 0]),(w.heap.size+2,3,#[U O 0]),(w.heap.size+3,26,#[U O 5])] (((W.setCell ⟨w.heap.size+1,0,none⟩ (U O 0)).setCell ⟨w.heap.size+2,0,none⟩ (U O 0)).setCell ⟨w.heap.size+3,0,none⟩ (U O 5)):=
   aa.cons (((j.tail.head.set_ 0 _).far (p:=⟨w.heap.size+2,0,none⟩) (by simp) _).far (p:=⟨w.heap.size+3,0,none⟩) (by simp) _)
    (aa.cons (((j.tail.tail.head.far (p:=⟨w.heap.size+1,0,none⟩) (by simp) _).set_ 0 _).far (p:=⟨w.heap.size+3,0,none⟩) (by simp) _)
     (aa.cons (((j.tail.tail.tail.head.far (p:=⟨w.heap.size+1,0,none⟩) (by simp) _).far (p:=⟨w.heap.size+2,0,none⟩) (by simp) _).set_ 0 _) (ai _)))
  have bM:=cL (o':= .deferred none) KJ Kt rfl;have cI:=cu (o:= .deferred none) (((G.out.setCell (p:=⟨w.heap.size+1,0,none⟩) (by show w.heap.size<=_;simp) (U O 0)).setCell (p:=⟨w.heap.size+2,0,none⟩) (by show w.heap.size<=_;simp) (U O 0)).setCell (p:=⟨w.heap.size+3,0,none⟩) (by show w.heap.size<=_;simp) (U O 5)) (D:=D) (by simp at hD;omega);have q1:=bM.head.cell 0;have q2:=bM.tail.head.cell 0;have q3:=bM.tail.tail.head.cell 0;rw[KF.out];refine eo Kt (v:=Ob #[U O 0,U O 0,U O 5]) ?_ ?_
  ·simp[results,OE,go_sem,q1,q2,q3]
  ·exact⟨rfl,cI⟩
 case stop=>
  rintro D cd pre W hD kU ⟨rfl,C,j,_⟩ hK;have G:=V C;have aJ:=V j;have HK:=V hK;clear C j hK kU;gi_wp2_with fail
  have bM:=cL (o':= .deferred none) aJ.out HK.out rfl;have cI:=cu (o:= .deferred none) G.out (D:=D) (by simp at hD;omega);have q1:=bM.head.cell 0;have q2:=bM.tail.head.cell 0;have q3:=bM.tail.tail.head.cell 0;refine eo HK.out (v:=Ob #[U O R.1,U O R.2.1,U O R.2.2]) ?_ ?_
  ·simp[results,OE,go_sem,q1,q2,q3]
  ·exact⟨rfl,cI⟩
 case round=>
  apply Exists.intro;refine And.intro ?_ ?_
  ·intro lp pre x W hI kU
   gi_wp2
   obtain⟨g0,_⟩:∃g0:Nat,g0=0:=⟨_,rfl⟩;exact⟨⟨g0,rfl,hI⟩,KeepsFrom.refl _ _⟩
  ·rintro lp pre x kk W ⟨⟨q,hq,hc⟩,hb⟩ kU
   obtain⟨Kz,hx⟩:=DE _ _ _ _ _ kU;obtain⟨KA,dv⟩:=hq;obtain⟨C,j,_⟩:=hc;unfold n6 at j;obtain⟨K,jY⟩:∃K,(N.getD q b9).to (dH l (k+Z pre))=K:=⟨_,rfl⟩;have KB:=FO Kz dv K jY;have jg:K<(Z N):=(by rw[<-jY];exact JI KH.out q HL.out _);have B0:=j.head;have B1:=j.tail.head;have B2:=j.tail.tail.head;have B3:=j.tail.tail.tail.head;have B4:=j.tail.tail.tail.tail.head;have B5:=j.tail.tail.tail.tail.tail.head;dsimp only at B0 B1 B2 B3 B4 B5;have KZ:(x:Int)<2:=(by have:=fC l (k+Z pre);omega);have KY:¬((x:Int)<0):=(by omega);have p0:=B0.cell 0;have nx:W.cell? ⟨w.heap.size+4,x,none⟩=some (U O (K:Int)):=(by rw[B4.cell,hx,uF,jY]);have m0:=B5.cell 0;have mf:=B5.frozen 0;have f1:=B1.frozen 0;have r1:=B1.cell 0;have r2:=B2.cell 0;have r3:=B3.cell 0;have f2:=B2.frozen 0;have f3:=B3.frozen 0;have KX:IntKind.i64.wrap ((Z pre:Int)+1)=(Z pre:Int)+1:=(by rw[IntKind.wrap_i64];omega);have G:=V C;have aJ:=V j;have K6:=V KB;have Hb:=V hb;have HX:=V hx;have KG:=V jY;clear C j KB hb hx Kz dv jY B0 B1 B2 B3 B4 B5
   by_cases h0:K=0
   ·subst h0
    have nx:W.cell? ⟨w.heap.size+4,x,none⟩=some (U O 0):=nx;gi_wp2_with fail
    have hR:=K6.out.1 (by simp);have j:=aJ.out;refine⟨?_,rfl,?_,?_,aF _⟩
    ·exact aq (aq (aq (aq (KeepsFrom.refl _ _) _ _) _ _) _ _) _ _
    ·exact(((G.out.setCell (p:=⟨w.heap.size+5,0,none⟩) (by show w.heap.size<=_;simp) _).setCell (p:=⟨w.heap.size+1,0,none⟩) (by show w.heap.size<=_;simp) _).setCell (p:=⟨w.heap.size+2,0,none⟩) (by show w.heap.size<=_;simp) _).setCell (p:=⟨w.heap.size+3,0,none⟩) (by show w.heap.size<=_;simp) _
    ·rw[hR]
     refine aa.cons ?_ (aa.cons ?_ (aa.cons ?_ (ai _)))
     ·exact(((j.tail.head.far (p:=⟨w.heap.size+5,0,none⟩) (by simp) _).set_ 0 _).far (p:=⟨w.heap.size+2,0,none⟩) (by simp) _).far (p:=⟨w.heap.size+3,0,none⟩) (by simp) _
     ·exact(((j.tail.tail.head.far (p:=⟨w.heap.size+5,0,none⟩) (by simp) _).far (p:=⟨w.heap.size+1,0,none⟩) (by simp) _).set_ 0 _).far (p:=⟨w.heap.size+3,0,none⟩) (by simp) _
     ·exact(((j.tail.tail.tail.head.far (p:=⟨w.heap.size+5,0,none⟩) (by simp) _).far (p:=⟨w.heap.size+1,0,none⟩) (by simp) _).far (p:=⟨w.heap.size+2,0,none⟩) (by simp) _).set_ 0 _
   ·have KL:((K:Int)==0)=false:=beq_eq_false_iff_ne.2 (by omega)
    have gj:=G.out.setCell (p:=⟨w.heap.size+5,0,none⟩) (by show w.heap.size<=w.heap.size+5;omega) (U O ((Z pre:Int)+1))
    have Hl:aa [(w.heap.size,185,#[Y (some ⟨T,0,none⟩)]),(w.heap.size+1,3,#[U O 0]),(w.heap.size+2,3,#[U O 0]),(w.heap.size+3,26,#[U O 0]),(w.heap.size+4,260,(nI (N.getD q b9)).toArray),(w.heap.size+6,25,#[OG A n c])] (W.setCell ⟨w.heap.size+5,0,none⟩ (U O ((Z pre:Int)+1))):=by
     have h:=aJ.out;exact(aa.cons h.head (aa.cons h.tail.head (aa.cons h.tail.tail.head (aa.cons h.tail.tail.tail.head (aa.cons h.tail.tail.tail.tail.head (aa.cons h.tail.tail.tail.tail.tail.tail.head (ai _))))))).far (by simp) _
    have Ky:=aJ.out.tail.tail.tail.tail.tail.head.set_ 0 (U O ((Z pre:Int)+1));have Kx:=Hb.out.far (p:=⟨w.heap.size+5,0,none⟩) (by simp) (U O ((Z pre:Int)+1));have M:=V gj;have cE:=V Hl;have JT:=V Ky;have Ht:=V Kx;have K4:=V (λB=>aq (KeepsFrom.refl B W) ⟨w.heap.size+5,0,none⟩ (U O ((Z pre:Int)+1)));clear gj Hl Ky Kx;gi_wp2_with fail
    generalize KI:W.setCell ⟨w.heap.size+5,0,none⟩ (U O ((Z pre:Int)+1))=W1 at M cE JT Ht K4⊢;clear KI p0 nx m0 mf f1 f2 f3 r1 r2 r3;obtain⟨g2,K8,L0,_,_,KV,KW,⟨t0,_,_,k0,k1,k2,k3⟩,_,_,_,_,_⟩:=m8 (HT.out.later M.out) jg;rw[<-kL jg] at k0 k1 k2 k3;have j:=cE.out;have z0:=j.head.cell 0;have z4:W1.cell? ⟨w.heap.size+4,x,none⟩=some (U O (K:Int)):=(by rw[j.tail.tail.tail.tail.head.cell,HX.out,uF,KG.out]);have B4:=j.tail.tail.tail.tail.head;dsimp only at B4;have d0:=B4.frozen 0;have d1:=B4.frozen 1;have d2:=B4.frozen 2;have d3:=B4.frozen 3;have e0:W1.cell? ⟨w.heap.size+4,0,none⟩=some (U O (N.getD q b9).a):=(by rw[B4.cell];rfl);have e1:W1.cell? ⟨w.heap.size+4,1,none⟩=some (U O (N.getD q b9).b):=(by rw[B4.cell];rfl);have e2:W1.cell? ⟨w.heap.size+4,2,none⟩=some (Oe (N.getD q b9).leaf):=(by rw[B4.cell];rfl);have e3:W1.cell? ⟨w.heap.size+4,3,none⟩=some (U O (N.getD q b9).num):=(by rw[B4.cell];rfl);clear j B4;refine fm (λw'=>w'.cell? ⟨w.heap.size,0,none⟩=some (Y (some ⟨T,0,none⟩))/\w'.cell? ⟨T,0,none⟩=some (OG (some ⟨g2,0,none⟩) (Z N) K8)/\w'.cell? ⟨w.heap.size+4,x,none⟩=some (U O (K:Int))) 8 (J 0 (J 1 (J 2 (J 3 (J 4 (J 5 (J 6 (J 7 .done)))))))) (by kernel_rfl) (by kernel_rfl) (by simp only[bY.out,Array.getD_eq_getD_getElem?,OF,OD,OC,OR];rfl) (by simp only[OW,OZ];rfl) (⟨z0,t0,z4⟩) (λPE dO=>?_)
    iterate 8
     refine af (v:=?_) rfl (by rfl) ?_ ?_
     rotate_left
     ·intro _ eE;(try dsimp only at eE);obtain⟨s0,s1,s2⟩:=eE;go_simp;(try with_reducible rfl)
     simp only[OB,OL,OK]
    refine dO _ _ ?_;clear dO PE;simp only[OJ,OV];go_wp2_with fail
    refine⟨rfl,?_⟩;generalize fJ:((((W1.setCell ⟨w.heap.size+4,0,none⟩ (U O (N[K].a:Nat))).setCell ⟨w.heap.size+4,1,none⟩ (U O (N[K].b:Nat))).setCell ⟨w.heap.size+4,2,none⟩ (Oe N[K].leaf)).setCell ⟨w.heap.size+4,3,none⟩ (U O N[K].num)).drew=W2;have j:=cE.out
    have ho:aa [(w.heap.size,185,#[Y (some ⟨T,0,none⟩)]),(w.heap.size+1,3,#[U O 0]),(w.heap.size+2,3,#[U O 0]),(w.heap.size+3,26,#[U O 0]),(w.heap.size+6,25,#[OG A n c]),(w.heap.size+5,3,#[U O ((Z pre:Int)+1)]),(w.heap.size+7,3,#[U O ((k+Z pre:Nat):Int)])] W1:=
     aa.cons j.head (aa.cons j.tail.head (aa.cons j.tail.tail.head (aa.cons j.tail.tail.tail.head (aa.cons j.tail.tail.tail.tail.tail.head (aa.cons JT.out (aa.cons Ht.out (ai _)))))))
    have HO:=V (show aa _ W2 from by rw[<-fJ];exact((((ho.far (p:=⟨w.heap.size+4,0,none⟩) (by simp) _).far (p:=⟨w.heap.size+4,1,none⟩) (by simp) _).far (p:=⟨w.heap.size+4,2,none⟩) (by simp) _).far (p:=⟨w.heap.size+4,3,none⟩) (by simp) _).drew);have K0:=V (show ab W2 (w.heap.size+4) 260 (nI N[K]).toArray from by rw[<-fJ];exact(((j.tail.tail.tail.tail.head.set_ 0 _).set_ 1 _).set_ 2 _).set_ 3 _);have dy:=V (show Below w.heap.size w W2 from by rw[<-fJ];exact((((M.out.setCell (p:=⟨w.heap.size+4,0,none⟩) (by show w.heap.size<=_;simp) _).setCell (p:=⟨w.heap.size+4,1,none⟩) (by show w.heap.size<=_;simp) _).setCell (p:=⟨w.heap.size+4,2,none⟩) (by show w.heap.size<=_;simp) _).setCell (p:=⟨w.heap.size+4,3,none⟩) (by show w.heap.size<=_;simp) _).drew);have K5:=V (show ∀B,KeepsFrom B W W2 from λB=>by rw[<-fJ];exact ff (aq (aq (aq (aq (K4.out B) _ _) _ _) _ _) _ _));clear fJ j ho cE JT Ht M K4 z0 z4 d0 d1 d2 d3 e0 e1 e2 e3 t0 k0 k1 k2 k3;have j:=HO.out;have n2:W2.cell? ⟨w.heap.size+4,2,none⟩=some (Oe N[K].leaf):=(by rw[K0.out.cell];rfl);have n3:W2.cell? ⟨w.heap.size+4,3,none⟩=some (U O N[K].num):=(by rw[K0.out.cell];rfl);have m0:=j.tail.tail.tail.tail.tail.head.cell 0;have f1:=j.tail.head.frozen 0;have f2:=j.tail.tail.head.frozen 0;have f3:=j.tail.tail.tail.head.frozen 0;have r1:=j.tail.head.cell 0;have r2:=j.tail.tail.head.cell 0;have r3:=j.tail.tail.tail.head.cell 0;have iP:=K6.out.2;rw[kL jg] at iP;have rG:=V iP;clear j iP
    by_cases av:N[K].leaf=true
    ·have Hu:=V av
     rw[av] at n2;clear av;gi_wp2_with fail
     refine fm (λw'=>w'.cell? ⟨w.heap.size+4,3,none⟩=some (U O N[K].num)/\w'.cell? ⟨w.heap.size+5,0,none⟩=some (U O ((Z pre:Int)+1))) 4 (J 0 (J 1 (J 2 (.step 3 .done)))) (by kernel_rfl) (by kernel_rfl) (by simp only[bY.out,Array.getD_eq_getD_getElem?,OF,OD,OC,OR];rfl) (by simp only[OW,OZ];rfl) (⟨n3,m0⟩) (λPE dO=>?_)
     iterate 3
      refine af (v:=?_) rfl (by rfl) ?_ ?_
      rotate_left
      ·intro _ eE;(try dsimp only at eE);obtain⟨s0,s1⟩:=eE;go_simp;(try with_reducible rfl)
      simp only[OB,OL,OK]
     refine bD _ (w':=?_) rfl (by rfl) ?_ ?_ ?_;rotate_left 1
     ·go_simp;(first|(with_reducible rfl)|(constructor<;>with_reducible rfl)|skip)
     ·constructor<;>go_simp
     refine dO _ _ ?_;clear dO PE;simp only[OJ,OV];go_wp2_with fail
     refine⟨rfl,?_⟩;gi_wp2_with fail
     have hR:=rG.out.1 h0 Hu.out;have j:=HO.out;refine⟨?_,rfl,?_,?_,aF _⟩
     ·exact ff (aq (aq (aq (K5.out _) _ _) _ _) _ _)
     ·exact(((dy.out.setCell (p:=⟨w.heap.size+1,0,none⟩) (by show w.heap.size<=_;simp) _).setCell (p:=⟨w.heap.size+2,0,none⟩) (by show w.heap.size<=_;simp) _).setCell (p:=⟨w.heap.size+3,0,none⟩) (by show w.heap.size<=_;simp) _).drew
     ·rw[hR]
      refine aa.cons ?_ (aa.cons ?_ (aa.cons ?_ (ai _)))
      ·exact((j.tail.head.set_ 0 _).far (p:=⟨w.heap.size+2,0,none⟩) (by simp) _).far (p:=⟨w.heap.size+3,0,none⟩) (by simp) _
      ·exact((j.tail.tail.head.far (p:=⟨w.heap.size+1,0,none⟩) (by simp) _).set_ 0 _).far (p:=⟨w.heap.size+3,0,none⟩) (by simp) _
      ·exact((j.tail.tail.tail.head.far (p:=⟨w.heap.size+1,0,none⟩) (by simp) _).far (p:=⟨w.heap.size+2,0,none⟩) (by simp) _).set_ 0 _
    ·have av:N[K].leaf=false:=by simpa using av
     have Hu:=V av;rw[av] at n2;clear av;gi_wp2_with fail
     have j:=HO.out;refine⟨K5.out _,trivial,⟨K,⟨jg,?_⟩,dy.out,?_,aF _⟩,?_⟩
     ·rw[OA];exact rG.out.2 h0 Hu.out
     ·unfold n6
      rw[kL jg];refine aa.cons j.head (aa.cons j.tail.head (aa.cons j.tail.tail.head (aa.cons j.tail.tail.tail.head (aa.cons K0.out (aa.cons ?_ (aa.cons j.tail.tail.tail.tail.head (ai _)))))));rw[OA];exact j.tail.tail.tail.tail.tail.head
     ·rw[OA]
      exact j.tail.tail.tail.tail.tail.tail.head
end Go.Proofs.YthhijgcfbjcgiaaGreatDoor
