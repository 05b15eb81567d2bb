/- Start, PicG, PicF, PicP, RBit -/
import Derived.Test.YthhijgcfbjcgiaaGreatDoorQ37
namespace Go.Proofs.YthhijgcfbjcgiaaGreatDoor
open Go Go.RowKit
attribute [local go_sem] Oper.semAt_some
set_option maxHeartbeats 16000000
set_option maxRecDepth 100000
open Go.Lib renaming hid→O
open Go.Value renaming int→U,slice→V,pointer→OD,tuple→Ob,string→Oq,agg→Ox
open Go.IntKind renaming i64→Z,wrap_i64→J,i64→OB
open List renaming length→Y,setIfInBounds_toArray→OC,set_cons_succ→OG,set_cons_zero→OH,drop_succ_cons→OK,drop_zero→OO,length_append→OR,mem_nil_iff→OU,map_append→OW,take_of_length_le→OX,mem_cons→OY,append_toArray→Oa,append_assoc→Oc,push_toArray→Od,size_toArray→Oe,cons_append→Og,length_cons→Oh,length_take→Oi,length_nil→Om,nil_append→On,take_zero→Oo
open Go.Obj renaming cells→OA
open Tryz renaming prog→OE,ntmps36→OL,func36→OM,ntmps51→ON,func51→OP
open Nat renaming le_refl→OF,reduceAdd→OZ,lt_succ_self→Oj,reduceSub→Ot,ne_of_lt→Ov,le_succ→Ow
open Go.Proofs.YthhijgcfbjcgiaaGreatDoor.cb renaming take→OI,step→Ou
open Go.Ending renaming returned→OJ
open Int renaming cast_ofNat_Int→OQ,toNat_natCast→OS,natCast_zero→OT,eq_ofNat_of_zero_le→OV,natCast_one→Ol
open Go.World renaming ownsRow_nil→Of
def nv (h:Nat) (i m e:Int):List aL:=[(h+2,3,#[U Z i]),(h+3,3,#[U Z m]),(h+4,26,#[U Z e])]
def qG (h:Nat) (A:Option Addr) (m c:Nat) (a:Nat) (u:Value):List aL:=(h+6,3,#[u])::(h+5,25,#[V A m c])::(h,25,#[V A m c])::(h+1,3,#[U Z (a:Int)])::nv h 0 0 0
def qe (l:List UInt8) (a:Nat):Int:=if (cV l a).2.2=0 then((cV l a).2.1:Int) - a else 0
def jp (l:List UInt8) (a:Nat):Value:=Ob #[U Z (cV l a).1,U Z (qe l a),U Z (cV l a).2.2]
def Kl (l:List UInt8) (a k:Nat):Prop:=∀j,a<=j->j<a+k->aS l j=0
def uy (w:World) (A:Option Addr) (m c:Nat) (l:List UInt8) (a:Nat):List Nat->World->Prop:=
 cY w (λpre (_:Value)=>Kl l a (Y pre)) (λ_ u=>qG w.heap.size A m c a u) (λ_ _=>[])
theorem JP {w W:World}{A:Option Addr}{m c:Nat}{l:List UInt8}{a:Nat}{pre:List Nat}(v:Value)(h:uy w A m c l a pre W):uy w A m c l a pre (W.setCell ⟨w.heap.size+6,0,none⟩ v):=by
 obtain⟨⟨u,B,j⟩⟩:=h;refine⟨⟨v,B,?_⟩⟩;have h2:=aW j (g:=w.heap.size+6) (by omega) 0 v (w.heap.size+6,3,#[u]) (by simp[qG]) rfl (by simp)
 simpa [di,qG,nv] using h2
theorem th {w W:World}{A:Option Addr}{m c:Nat}{a:Nat}{u:Value}(i k e:Int)(D:ar w (qG w.heap.size A m c a u) [] W):ar w (nv w.heap.size i k e) [] (((W.setCell ⟨w.heap.size+2,0,none⟩ (U Z i)).setCell ⟨w.heap.size+3,0,none⟩ (U Z k)).setCell ⟨w.heap.size+4,0,none⟩ (U Z e)):=by
 have h2:=aw (aw (aw (aw D)));have j:=aW h2 (g:=w.heap.size+2) (by omega) 0 (U Z i) (w.heap.size+2,3,#[U Z 0]) (by simp[nv]) rfl (by simp);have B:=aW j (g:=w.heap.size+3) (by omega) 0 (U Z k) (w.heap.size+3,3,#[U Z 0]) (by simp[nv,di]) rfl (by simp);have C:=aW B (g:=w.heap.size+4) (by omega) 0 (U Z e) (w.heap.size+4,26,#[U Z 0]) (by simp[nv,di]) rfl (by simp)
 simpa [di,nv] using C
theorem Fb (h:Nat)(i k e:Int)(tmps:Array Value)(W:World)(j:aa (nv h i k e) W)(M:tmps.getD 4 undef=OD (some ⟨h+2,0,none⟩))(N:tmps.getD 5 undef=OD (some ⟨h+3,0,none⟩))(T:tmps.getD 6 undef=OD (some ⟨h+4,0,none⟩)):
  (results Tryz.f140 tmps).run OE W= .ok (Ob #[U Z i,U Z k,U Z e]) W:=by
 unfold nv at j;have G:W.cell? ⟨h+2,0,none⟩=some (U Z i):=j.head.cell 0;have I:W.cell? ⟨h+3,0,none⟩=some (U Z k):=j.tail.head.cell 0;have K:W.cell? ⟨h+4,0,none⟩=some (U Z e):=j.tail.tail.head.cell 0;have B:tmps[4]?.getD undef=OD (some ⟨h+2,0,none⟩):=by simpa using M
 have C:tmps[5]?.getD undef=OD (some ⟨h+3,0,none⟩):=by simpa using N
 have D:tmps[6]?.getD undef=OD (some ⟨h+4,0,none⟩):=by simpa using T
 simp[results,Tryz.results140,B,C,D,asAddr,G,I,K,go_sem]
theorem BW (A:Option Addr)(m c:Nat)(l:List UInt8)(a:Nat)(w:World)(hA:Sl w A (l.map af))(hl:Y l=m)(hsz:m<=2 ^ 40)(ha:a<=8*m):
  Calls OE 140 #[V A m c,U Z (a:Int)] w λe w'=>e=OJ (jp l a)/\Below w.heap.size w w':=by
 have HA:=O hA;have HL:=O hl;have K4:=O ha;have h0:¬((a:Int)<0):=by omega
 obtain⟨v1,jT⟩:∃v,(cV l a).1=v:=⟨_,rfl⟩;obtain⟨v2,kz⟩:∃v,qe l a=v:=⟨_,rfl⟩;obtain⟨v3,rX⟩:∃v,(cV l a).2.2=v:=⟨_,rfl⟩;have HV:Hid ((cV l a).1=v1/\qe l a=v2/\(cV l a).2.2=v3):=O ⟨jT,kz,rX⟩;unfold jp;rw[jT,kz,rX];clear hA hl ha jT kz rX;refine(callsIn_wide (n:=5)).1 ?_;refine callsIn_of_wp_marks Tryz.func140 rfl trivial ?_ rfl;simp only[Tryz.ntmps140,Oe,Oh,Om,OZ,Ot,Array.replicate_succ,Array.replicate_zero,Od,Oa,On,Og];refine wpIn_wide.2 ?_;go_wp2_with (go_at_call 139;refine(uB _ _ _ _ _).mono ?_;rintro e w' ⟨rfl,rfl⟩)
 simp only[Nat.add_assoc,OZ]
 have eE:ar w (qG w.heap.size A m c a (U Z (a:Int))) [] (((((((w.alloc (OA #[V A m c] 25)).alloc (OA #[U Z (a:Int)] 3)).alloc (OA #[U Z 0] 3)).alloc (OA #[U Z 0] 3)).alloc (OA #[U Z 0] 26)).alloc (OA #[V A m c] 25)).alloc (OA #[U Z (a:Int)] 3)):=by
  refine⟨((((((((Below.refl _ _).alloc (OF _) _).alloc (by simp) _).alloc (by simp;omega) _).alloc (by simp;omega) _).alloc (by simp;omega) _).alloc (by simp;omega) _).alloc (by simp;omega) _),?_,aA _⟩;unfold qG nv;refine aa.cons ?_ (aa.cons ?_ (aa.cons ?_ (aa.cons ?_ (aa.cons ?_ (aa.cons ?_ (aa.cons ?_ (ag _)))))))
  all_goals (repeat (first|(refine aH (ab.new _ _ _) ?_;simp[World.size_alloc];done)|refine ab.alloc ?_ _))
 have fW:(((((((w.alloc (OA #[V A m c] 25)).alloc (OA #[U Z (a:Int)] 3)).alloc (OA #[U Z 0] 3)).alloc (OA #[U Z 0] 3)).alloc (OA #[U Z 0] 26)).alloc (OA #[V A m c] 25)).alloc (OA #[U Z (a:Int)] 3)).heap.size=w.heap.size+7:=by simp
 generalize (((((((w.alloc (OA #[V A m c] 25)).alloc (OA #[U Z (a:Int)] 3)).alloc (OA #[U Z 0] 3)).alloc (OA #[U Z 0] 3)).alloc (OA #[U Z 0] 26)).alloc (OA #[V A m c] 25)).alloc (OA #[U Z (a:Int)] 3))=W at eE fW⊢;have aB:Hid (w.heap.size<=W.heap.size):=O (by rw[fW];omega);have KC:=O fW;have K5:=O (show ab W (w.heap.size+6) 3 #[U Z (a:Int)] from eE.2.1.head);have Kr:Hid (uy w A m c l a [] W):=O ⟨⟨U Z (a:Int),(λj h1 h2=>by simp at h2;omega),eE⟩⟩;clear eE fW;refine(wpIn_wide (n:=5)).1 ?_
 refine tE (α:=Nat) (enc:=tS l)
  (IS:= λpre W=>uy w A m c l a pre W/\ab W (w.heap.size+6) 3 #[U Z (a:Int)])
  (I:= λpre W=>uy w A m c l a pre W/\ab W (w.heap.size+6) 3 #[U Z ((a+Y pre:Nat):Int)])
  (I2:= λpre W=>uy w A m c l a pre W/\ab W (w.heap.size+6) 3 #[U Z (((a+Y pre:Nat):Int) - 1)])
  (IE:= λpre W=>uy w A m c l a pre W/\ab W (w.heap.size+6) 3 #[U Z ((a+Y pre:Nat):Int)])
  (S:= λxs=>o7 l a xs/\8*m<=a+Y xs) (Sp:=o7 l a)
  rfl (by decide) (gf:=183) (lb:= #[OD (some ⟨w.heap.size+6,0,none⟩),OD (some ⟨w.heap.size+5,0,none⟩)]) rfl trivial (enters_of Tryz.func183 (by kernel_rfl) rfl)
  (uQ 4 (by decide) (w.heap.size+6) (w.heap.size+5) A m c l a HL.out hsz K4.out _ (λpre W v h=>JP v h) (λpre A B h hb=>gS pre A B h hb) ?hCs) (λ_=>rfl)
  (λcd pre W=>m7 w (nv w.heap.size v1 v2 v3) cd W)
  (λpre x g W=>uy w A m c l a pre W/\ab W (w.heap.size+6) 3 #[U Z ((a+Y pre:Nat):Int)])
  (OwnFrom.and (bw aB.out _ _ _) (bq _ _ _)) (OwnFrom.and (bw aB.out _ _ _) (bq _ _ _)) (OwnFrom.and (bw aB.out _ _ _) (bq _ _ _))
  (λcd=>iA aB.out _ _) (λx g=>OwnFrom.and (bw aB.out _ _ _) (bq _ _ _)) ⟨Kr.out,K5.out⟩ ?round ?done ?stop
 case hCs=>
  rintro pre W' ⟨⟨u,hp,T⟩⟩;have G:=T.2.1;unfold qG at G;exact⟨G.tail.head,HA.out.below T.1⟩
 case round=>
  apply Exists.intro;refine And.intro ?_ ?_
  ·rintro lp pre x W' ⟨hI,hb⟩ K
   have HI:=O hI;have HB:=O hb;clear hI hb K;dsimp only[tS];gi_wp2
   obtain⟨g0,KI⟩:∃g0,W'.heap.size=g0:=⟨_,rfl⟩;exact⟨⟨g0,rfl,HI.out,HB.out⟩,KeepsFrom.refl _ _⟩
  ·rintro lp pre x g W' ⟨⟨⟨u,hp,T⟩⟩,hb⟩ K
   obtain⟨M,cz⟩:=yB K;have hu:=ny (show ab W' (w.heap.size+6) 3 #[u] from T.2.1.head) hb;simp at hu;subst hu;have HC:=O T;have HP:=O hp;have KE:=O M;have KH:=O cz;have HB:=O hb;have dY:(pre++[x]).length=Y pre+1:=(by rw[OR,List.length_singleton]);have Io:=O dY;have dE:=HL.out;have gy:x<8*m:=(by rw[<-dE];exact cz);have gJ:a<=x:=(by omega);have G:=T.2.1;unfold qG nv at G;have y0:=G.tail.tail.head.cell 0;have y1:=G.tail.tail.tail.head.cell 0;(try dsimp only at y0 y1)
   by_cases aC:aS l x=0
   ·have dD:((aS l x:Nat):Int)=0:=by omega
    have K6:=O aC;clear aC dY dE gy gJ G T hb K hp M cz;rw[dD];gi_wp2_with fail
    refine⟨KeepsFrom.refl _ _,trivial,⟨⟨U Z ((a+Y pre:Nat):Int),?_,HC.out⟩⟩,?_⟩
    ·rw[Io.out]
     intro j h1 h2;rcases Nat.lt_or_ge j (a+Y pre) with h3|h3
     ·exact HP.out j h1 h3
     ·have:j=x:=by have:=KE.out;omega
      rw[this];exact K6.out
    ·refine cast (congrArg (λv:Int=>ab _ _ _ #[U Z v]) ?_) HB.out
     have:=Io.out;omega
   ·have ja:=kD l x aC
    have dD:((aS l x:Nat):Int)=1:=(by omega);have C:=Fd (l:=l) (p:=a) (z:=Y pre) (by omega) hp (by rw[<-M];exact aC);have f0:=G.tail.tail.tail.tail.head.frozen 0;have f1:=G.tail.tail.tail.tail.tail.head.frozen 0;have f2:=G.tail.tail.tail.tail.tail.tail.head.frozen 0;have g0:=G.tail.tail.tail.tail.head.cell 0;have g1:=G.tail.tail.tail.tail.tail.head.cell 0;have g2:=G.tail.tail.tail.tail.tail.tail.head.cell 0;(try dsimp only at f0 f1 f2 g0 g1 g2);have hz:(Y pre:Int)=(x:Int) - (a:Int):=(by omega);have KM:OB.wrap ((x:Int) - (a:Int))=(x:Int) - (a:Int):=by rw[J];omega
    by_cases dt:Y pre<15
    ·rw[if_pos dt] at C
     have Ip:(x:Int) - (a:Int)<15:=by omega
     have bE:v1=0/\v2=0/\v3=7:=by
      obtain⟨q1,N,q3⟩:=HV.out;unfold qe at N;rw[C] at q1 N q3;exact⟨q1.symm,N.symm,q3.symm⟩
     obtain⟨rfl,rfl,rfl⟩:=bE;clear aC dY dE gy gJ G T hb K hp M cz ja C dt hz;rw[dD];gi_wp2_with fail
     exact⟨aq (aq (aq (KeepsFrom.refl _ _) _ _) _ _) _ _,rfl,th 0 0 7 HC.out⟩
    ·rw[if_neg dt] at C
     have Ip:¬(x:Int) - (a:Int)<15:=(by omega);have KJ:OB.wrap ((x:Int)+1)=(x:Int)+1:=by rw[J];omega
     by_cases h5:8*Y l<a+Y pre+5
     ·rw[if_pos h5] at C
      have bE:v1=0/\v2=0/\v3=5:=by
       obtain⟨q1,N,q3⟩:=HV.out;unfold qe at N;rw[C] at q1 N q3;exact⟨q1.symm,N.symm,q3.symm⟩
      obtain⟨rfl,rfl,rfl⟩:=bE;have CR:=O (λW=>dq A m c ((x:Int)+1) 4 W (by omega) (by omega) (by omega) (by omega) (by omega));clear aC dY dE gy gJ G T hb K hp M cz ja C dt hz h5;rw[dD];gi_wp2_with (refine⟨trivial,?_⟩;gi_at_call 56;refine(callsIn_wide.2 (CR.out _)).mono ?_;rintro e w2 ⟨rfl,rfl⟩)
      exact⟨aq (aq (aq (KeepsFrom.refl _ _) _ _) _ _) _ _,rfl,th 0 0 5 HC.out⟩
     ·rw[if_neg h5] at C
      have bE:v1=((au l (x+1) 4:Nat):Int)/\v2=(x:Int)+5 - (a:Int)/\v3=0:=by
       obtain⟨q1,N,q3⟩:=HV.out;unfold qe at N;rw[C] at q1 N q3;rw[if_pos rfl] at N;dsimp only at q1 N q3;refine⟨by rw[<-q1,M],?_,q3.symm⟩;rw[<-N,M];push_cast;omega
      obtain⟨rfl,rfl,rfl⟩:=bE;have CR:=O (kE A m c l ((x:Int)+1) 4 W' (HA.out.below T.1) HL.out (by omega) (by omega) (by omega) (by omega) (by omega));rw[show ((x:Int)+1).toNat=x+1 by omega,show (4:Int).toNat=4 from rfl] at CR;have KK:OB.wrap ((x:Int)+5)=(x:Int)+5:=(by rw[J];omega);have KL:OB.wrap ((x:Int)+5 - (a:Int))=(x:Int)+5 - (a:Int):=(by rw[J];omega);have K8:=O (bR T);have HY:Hid (ab W'.drew (w.heap.size+1) 3 #[U Z (a:Int)]):=O (by have h:=K8.out.2.1;unfold qG at h;exact h.tail.tail.tail.head);generalize au l (x+1) 4=nn at*;clear aC dY dE gy gJ G T hb K hp M cz ja C dt hz h5;rw[dD];gi_wp2_with (refine⟨trivial,?_⟩;gi_at_call 56;refine(callsIn_wide.2 CR.out).mono ?_;rintro e w2 ⟨rfl,rfl⟩)
      refine fx (λw'=>ab w' (w.heap.size+1) 3 #[U Z (a:Int)]) 6 (OI 0 (OI 1 (OI 2 (OI 3 (OI 4 (Ou 5 .done)))))) (by kernel_rfl) (by kernel_rfl) (by simp only[cb.out,Array.getD_eq_getD_getElem?,List.getElem?_toArray,List.getElem?_cons_zero,List.getElem?_cons_succ,Option.getD_some];rfl) (by simp only[List.map_cons,List.map_nil];rfl) (HY.out) (λPE J2=>?_)
      iterate 5
       refine aj (v:=?_) rfl (by rfl) ?_ ?_
       rotate_left
       ·intro _ K0;(try dsimp only at K0);have z0:=K0.cell 0;(try dsimp only at z0);go_simp;(try with_reducible rfl)
       simp only[OC,OH,OG]
      refine bG _ (w':=?_) rfl (by rfl) ?_ ?_ ?_;rotate_left 1
      ·go_simp;(first|(with_reducible rfl)|(constructor<;>with_reducible rfl)|skip)
      ·exact HY.out.far (by simp) _
      refine J2 _ _ ?_;clear J2 PE;simp only[OK,OO];go_wp2_with fail
      refine⟨rfl,?_⟩;gi_wp2_with fail
      exact⟨fo (aq (aq (aq (KeepsFrom.refl _ _) _ _) _ _) _ _),rfl,bR (th _ _ 0 HC.out)⟩
 case done=>
  rintro D xs W2 hD ⟨hS,K3⟩ ⟨⟨⟨u,hp,T⟩⟩,hb⟩ hK;have HC:=O T;have HK:=O hK;have HD:=O hD;have C:=Fc (l:=l) (p:=a) (λj h1 h2=>hp j h1 (by have:=HL.out;omega))
  have bE:v1=0/\v2=0/\v3=5:=by
   obtain⟨q1,N,q3⟩:=HV.out;unfold qe at N;rw[C] at q1 N q3;exact⟨q1.symm,N.symm,q3.symm⟩
  obtain⟨rfl,rfl,rfl⟩:=bE;have G:=T.2.1;unfold qG nv at G;have f0:=G.tail.tail.tail.tail.head.frozen 0;have f1:=G.tail.tail.tail.tail.tail.head.frozen 0;have f2:=G.tail.tail.tail.tail.tail.tail.head.frozen 0;have g0:=G.tail.tail.tail.tail.head.cell 0;have g1:=G.tail.tail.tail.tail.tail.head.cell 0;have g2:=G.tail.tail.tail.tail.tail.tail.head.cell 0;(try dsimp only at f0 f1 f2 g0 g1 g2);clear G T hb hS K3 hp hK hD C;gi_wp2_with fail
  go_wp2_with fail
  have KF:=th 0 0 5 HC.out
  have Iq:(((W2.setCell ⟨w.heap.size+2,0,none⟩ (U Z 0)).setCell ⟨w.heap.size+3,0,none⟩ (U Z 0)).setCell ⟨w.heap.size+4,0,none⟩ (U Z 5)).heap[D]? =some (.deferred (some [])):=by
   have KG:=HD.out;rw[KC.out] at KG;rw[Below.heap_setCell _ _ _ D (by show D≠w.heap.size+4;omega),Below.heap_setCell _ _ _ D (by show D≠w.heap.size+3;omega),Below.heap_setCell _ _ _ D (by show D≠w.heap.size+2;omega)];exact HK.out
  have K1:=iu (o':= .deferred none) KF Iq rfl (by have:=HD.out;have:=aB.out;omega);exact el Iq (Fb w.heap.size 0 0 5 _ _ K1.2.1 rfl rfl rfl) ⟨rfl,K1.1⟩
 case stop=>
  rintro D cd pre W2 hD K ⟨rfl,hU,K2,_⟩ hK;have wj:=O hU;have K9:=O K2;have HK:=O hK;have HD:=O hD;clear hU K2 hK K hD;gi_wp2_with fail
  exact el HK.out (Fb w.heap.size v1 v2 v3 _ _ (cR (o':= .deferred none) K9.out HK.out rfl) rfl rfl rfl) ⟨rfl,cA wj.out (Nat.le_trans aB.out HD.out)⟩
def Je (r:nQ×Nat×Int) (p:Nat) (w:World) (e:Ending) (w':World):Prop:=
 ∃v,e=OJ (Ob #[Ox #[U Z r.1.tm,U Z r.1.ty,v],U Z (dR r.2 p),U Z r.2.2])/\Below w.heap.size w w'/\w'.ownsRow w.heap.size 5 1 v r.1.sp.length (r.1.sp.map af)
def cT (tm ty:Int) (v:Value):Array Value:= #[U Z tm,U Z ty,v]
def qF (h j gb g:Nat) (tm ty:Int) (v:Value):List aL:=[(j,32,cT tm ty v),(gb,161,#[OD (some ⟨g,0,none⟩)]),(h,32,cT 0 0 (V none 0 0))]
def uu (w:World) (j gb g:Nat) (tm ty:Int):List UInt8->World->Prop:=
 cY w (λ_ (_:Value)=>True) (λ_ v=>qF w.heap.size j gb g tm ty v) (λpre v=>[⟨w.heap.size,5,1,v,Y pre,pre.map af⟩])
theorem FQ {L:List aL}{W j:World}{g:Nat}(h:aa L W)(D:W.grownBy j (some g))(C:∀p∈L,p.1≠g):aa L j:= λp B=>iT (h p B) D (C p B)
theorem GM {R:List aV}{W j:World}{g:Nat}{t:TypeId}{cs:Array Value}(h:ai R W)(G:ab W g t cs)(D:W.grownBy j (some g))(C:∀r∈R,r.e≠t):ai R j:= λr B=>sF (h r B) D G (C r B)
theorem Ib {w W C:World}{L:List aL}{R:List aV}{g:Nat}{t:TypeId}{cs:Array Value}(j:ar w L R W)(B:W.grownBy C (some g))(K:w.heap.size<=g)(I:ab W g t cs)(D:∀p∈L,p.1≠g) (G:∀r∈R,r.e≠t):ar w L R C:=
 ⟨sG j.1 B j.1.size K,FQ j.2.1 B D,GM j.2.2 I B G⟩
theorem J5 {w W B:World}{j gb g:Nat}{tm ty:Int}{pre:List UInt8}{cs:Array Value}(h:uu w j gb g tm ty pre W)(I:ab W g 163 cs)(M:W.grownBy B (some g))(T:w.heap.size<=g)(D:j≠g)(h2:gb≠g)(G:w.heap.size≠g):uu w j gb g tm ty pre B:=by
 obtain⟨⟨v,N,K⟩⟩:=h;refine⟨⟨v,N,Ib K M T I ?_ (by simp)⟩⟩;intro q C;simp only[qF,OY,OU,or_false] at C;rcases C with rfl|rfl|rfl
 ·exact D
 ·exact h2
 ·exact G
theorem yh (h:Nat)(tm ty:Int)(v:Value)(n e:Int)(tmps:Array Value)(W:World)(j:ab W h 32 (cT tm ty v))(G:tmps.getD 4 undef=OD (some ⟨h,0,none⟩))(I:tmps.getD 5 undef=U Z n)(K:tmps.getD 6 undef=U Z e):
  (results Tryz.f86 tmps).run OE W= .ok (Ob #[Ox #[U Z tm,U Z ty,v],U Z n,U Z e]) W:=by
 unfold cT at j;have c0:=j.cell 0;have c1:=j.cell 1;have c2:=j.cell 2;simp at c0 c1 c2;have B:tmps[4]?.getD undef=OD (some ⟨h,0,none⟩):=by simpa using G
 have C:tmps[5]?.getD undef=U Z n:=by simpa using I
 have D:tmps[6]?.getD undef=U Z e:=by simpa using K
 simp[results,Tryz.results86,B,C,D,asAddr,c0,c1,c2,go_sem]
theorem EJ {w W:World}{B gb g:Nat}{tm ty:Int}{v:Value}{R:List aV}(a b:Int)(u:Value)(I:ar w (qF w.heap.size B gb g tm ty v) R W)(_hne:B≠w.heap.size)(j:∀r∈R,r.e≠32):
  ar w [(w.heap.size,32,cT a b u)] R (((W.setCell ⟨w.heap.size,0,none⟩ (U Z a)).setCell ⟨w.heap.size,1,none⟩ (U Z b)).setCell ⟨w.heap.size,2,none⟩ u):=by
 have h2:ar w [(w.heap.size,32,cT 0 0 (V none 0 0))] R W:=aw (aw I);have C:=aW h2 (g:=w.heap.size) (OF _) 0 (U Z a) (w.heap.size,32,cT 0 0 (V none 0 0)) (by simp) rfl j;have D:=aW C (g:=w.heap.size) (OF _) 1 (U Z b) (w.heap.size,32,cT a 0 (V none 0 0)) (by simp[di,cT]) rfl j;have G:=aW D (g:=w.heap.size) (OF _) 2 u (w.heap.size,32,cT a b (V none 0 0)) (by simp[di,cT]) rfl j
 simpa [di,cT] using G
theorem FX {L:List aL}{W:World}{k:Nat}(h:aa L W)(j:∀q∈L,q.1≠k) (a b u:Value):aa L (((W.setCell ⟨k,0,none⟩ a).setCell ⟨k,1,none⟩ b).setCell ⟨k,2,none⟩ u):=
 ((h.far (p:=⟨k,0,none⟩) j a).far (p:=⟨k,1,none⟩) j b).far (p:=⟨k,2,none⟩) j u
theorem IB (A:Option Addr)(n c:Nat)(l:List UInt8)(p:Nat)(w:World)(hA:Sl w A (l.map af))(hl:Y l=n)(hsz:n<=2 ^ 40)(hp:p<=8*n):
  Calls OE 86 #[V A n c,U Z (p:Int)] w (Je (cQ l p) p w):=by
 have HA:=O hA;have HL:=O hl;have h0:¬((p:Int)<0):=by omega
 obtain⟨r,hr⟩:∃r,cQ l p=r:=⟨_,rfl⟩;rw[hr];have HR:=O hr;have K5:=(Below.refl _ w).alloc (OF _) (OA (cT 0 0 (V none 0 0)) 32);have KV:=K5.alloc K5.size (OA (db A n c p 0) 163);have KW:ab ((w.alloc (OA (cT 0 0 (V none 0 0)) 32)).alloc (OA (db A n c p 0) 163)) w.heap.size 32 (cT 0 0 (V none 0 0)):=(ab.new _ _ _).alloc _;have KX:ab ((w.alloc (OA (cT 0 0 (V none 0 0)) 32)).alloc (OA (db A n c p 0) 163)) (w.heap.size+1) 163 (db A n c p 0):=aH (ab.new _ _ _) (by simp);obtain⟨r1,C⟩:∃r,il l p 0 5=r:=⟨_,rfl⟩
 have KT:∀W,ab W (w.heap.size+1) 163 (db A n c p 0)->Below w.heap.size w W->Calls OE 141 #[OD (some ⟨w.heap.size+1,0,none⟩),U Z 5] W (Hd (w.heap.size+1) A n c r1 W):= λW h1 h2=>by
  rw[<-C];exact oz (w.heap.size+1) A n c l p 0 5 W h1 (HA.out.below h2) hl hsz hp (by decide)
 have Kr:r1.2.1<=8*n:=by
  rw[<-C];unfold il;rw[if_neg (by simp)]
  split
  ·exact hp
  ·dsimp only;omega
 obtain⟨r2,B⟩:∃r,il l r1.2.1 r1.2.2 6=r:=⟨_,rfl⟩
 have KU:∀W,ab W (w.heap.size+1) 163 (db A n c r1.2.1 r1.2.2)->Below w.heap.size w W->Calls OE 141 #[OD (some ⟨w.heap.size+1,0,none⟩),U Z 6] W (Hd (w.heap.size+1) A n c r2 W):= λW h1 h2=>by
  rw[<-B];exact oz (w.heap.size+1) A n c l r1.2.1 r1.2.2 6 W h1 (HA.out.below h2) hl hsz Kr (by decide)
 have K2:(8*Y l<p+11/\r2.2.2=5/\r2.2.1<=8*n)\/(¬8*Y l<p+11/\r1.1=(au l p 5:Nat)/\r2=(((au l (p+5) 6:Nat):Int),p+11,(0:Int))):=by
  unfold il at C;rw[if_neg (by simp)] at C
  by_cases h5:8*Y l<p+5
  ·rw[if_pos h5] at C
   subst C;unfold il at B;rw[if_pos (by simp)] at B;subst B;exact .inl ⟨by omega,rfl,hp⟩
  ·rw[if_neg h5] at C
   subst C;unfold il at B;rw[if_neg (by simp)] at B;dsimp only at B⊢
   by_cases h6:8*Y l<p+5+6
   ·rw[if_pos h6] at B
    subst B;exact .inl ⟨by omega,rfl,Kr⟩
   ·rw[if_neg h6] at B
    exact .inr ⟨by omega,rfl,B.symm⟩
 have KN:=O KT;have KO:=O KU;have M:=O K2;have KG:=O KW;have KH:=O KX;have gJ:=O KV;clear hA hl hr K5 KV KW KX C B KT KU K2 Kr;refine(callsIn_wide (n:=5)).1 ?_;refine callsIn_of_wp_marks Tryz.func86 rfl trivial ?_ rfl;simp only[Tryz.ntmps86,Oe,Oh,Om,OZ,Ot,Array.replicate_succ,Array.replicate_zero,Od,Oa,On,Og];refine wpIn_wide.2 ?_;go_wp2_with fail
 refine(KN.out _ KH.out gJ.out).mono ?_;rintro e w2 ⟨rfl,KY,K8⟩;have hU:=O (sG gJ.out K8 gJ.out.size (Ow _));have KI:=O (iT KG.out K8 (Ov (Oj _)));have KK:=O KY;clear KY K8;go_wp2_with fail
 refine(KO.out _ KK.out hU.out).mono ?_;rintro e w3 ⟨rfl,KZ,K9⟩;have ja:=O (sG hU.out K9 hU.out.size (Ow _));have KJ:=O (iT KI.out K9 (Ov (Oj _)));have cz:=O KZ;clear KZ K9 KN KO gJ hU KG KH KI KK;obtain⟨tm,KF⟩:∃tm,r1.1=tm:=⟨_,rfl⟩;obtain⟨ty,p2,N⟩:=r2;rw[KF];dsimp only at M cz⊢;rw[KF] at M;obtain⟨g,hg⟩:∃g,w.heap.size+1=g:=⟨_,rfl⟩;rw[hg] at cz⊢;have HG:=O hg;obtain⟨j,L4⟩:∃j,w3.heap.size=j:=⟨_,rfl⟩;have K:=O L4;clear hg L4 KF r1;go_wp2_with (go_at_call 142;refine(EK _ _).mono ?_;rintro e w' ⟨rfl,rfl⟩)
 rw[K.out];have Lf:g<w3.heap.size:=cz.out.lt;have Lg:w.heap.size<g:=by have:=HG.out;omega
 have dD:ar w (qF w.heap.size j (j+1) g tm ty (V none 0 0)) [⟨w.heap.size,5,1,V none 0 0,0,[]⟩] ((w3.alloc (OA #[U Z tm,U Z ty,V none 0 0] 32)).alloc (OA #[OD (some ⟨g,0,none⟩)] 161)):=by
  have h1:=ja.out.alloc ja.out.size (OA #[U Z tm,U Z ty,V none 0 0] 32);refine⟨h1.alloc h1.size _,?_,ai.cons (Of _ _ _ _) (aA _)⟩;unfold qF cT;refine aa.cons ?_ (aa.cons ?_ (aa.cons ?_ (ag _)))
  ·exact(aH (ab.new _ _ _) K.out).alloc _
  ·exact aH (ab.new _ _ _) (by simp[K.out])
  ·exact((KJ.out).alloc _).alloc _
 have K6:ab ((w3.alloc (OA #[U Z tm,U Z ty,V none 0 0] 32)).alloc (OA #[OD (some ⟨g,0,none⟩)] 161)) g 163 (db A n c p2 N):=(cz.out.alloc _).alloc _;have Iq:j≠g:=by have:=K.out;omega
 have J2:j+1≠g:=by have:=K.out;omega
 have K0:w.heap.size≠g:=by omega
 have K1:j≠w.heap.size:=by have:=K.out;omega
 generalize (w3.alloc (OA #[U Z tm,U Z ty,V none 0 0] 32)).alloc (OA #[OD (some ⟨g,0,none⟩)] 161)=W at dD K6⊢;have jT:Hid (w.heap.size<=W.heap.size):=O dD.1.size;have L8:Hid (w.heap.size<W.heap.size):=O dD.2.1.tail.tail.head.lt;have La:=O K6;have Lb:Hid (uu w j (j+1) g tm ty [] W):=O ⟨⟨V none 0 0,trivial,dD⟩⟩
 have L6:p2<=8*n:=by
  rcases M.out with⟨_,_,h⟩|⟨h1,_,h⟩
  ·exact h
  ·have:p2=p+11:=(Prod.mk.inj (Prod.mk.inj h).2).1
   have:=HL.out;omega
 have HN:Hid (j≠g/\j+1≠g/\w.heap.size≠g/\j≠w.heap.size/\w.heap.size<=g/\w.heap.size<=j):=O ⟨Iq,J2,K0,K1,by omega,by have:=ja.out.size;have:=K.out;omega⟩;have Ld:=O L6;clear dD K6 Iq J2 K0 K1 Lf Lg L6 ja KJ cz HG K w3;refine(wpIn_wide (n:=5)).1 ?_
 refine tE (α:=UInt8) (enc:=Ci)
  (IS:= λpre W=>uu w j (j+1) g tm ty pre W/\ab W g 163 (db A n c p2 N))
  (I:= λpre W=>uu w j (j+1) g tm ty pre W/\ab W g 163 (db A n c (p2+9*(Y pre+1)) 0))
  (I2:= λpre W=>uu w j (j+1) g tm ty pre W/\ab W g 163 (db A n c (p2+9*Y pre) 0))
  (IE:= λpre W=>uu w j (j+1) g tm ty pre W/\ab W g 163 (db A n c (eZ l p2 N (Y pre)).1 (eZ l p2 N (Y pre)).2))
  (S:=o6 l p2 N) (Sp:=AO l p2)
  rfl (by decide) (gf:=184) (lb:= #[OD (some ⟨j+1,0,none⟩)]) rfl trivial (enters_of Tryz.func184 (by kernel_rfl) rfl)
  (Fa 4 (by decide) g (j+1) A n c l p2 N HL.out hsz Ld.out _ (λpre W W' cs h hb hg=>J5 h hb hg HN.out.2.2.2.2.1 HN.out.1 HN.out.2.1 HN.out.2.2.1) ?hCs) (λ_=>rfl)
  (λ_ _ _=>False)
  (λpre x k W=>uu w j (j+1) g tm ty pre W/\ab W g 163 (db A n c (p2+9*(Y pre+1)) 0))
  (OwnFrom.and (bw jT.out _ _ _) (bq _ _ _)) (OwnFrom.and (bw jT.out _ _ _) (bq _ _ _)) (OwnFrom.and (bw jT.out _ _ _) (bq _ _ _))
  (λcd _ _ _ _ h _ _=>h) (λx k=>OwnFrom.and (bw jT.out _ _ _) (bq _ _ _)) ⟨Lb.out,La.out⟩ ?round ?done ?stop
 case hCs=>
  rintro pre W' ⟨⟨v,hp,hc⟩⟩;exact⟨hc.2.1.tail.head,HA.out.below hc.1⟩
 case stop=>
  intro D cd pre W2 hD fW hf;exact hf.elim
 case round=>
  apply Exists.intro;refine And.intro ?_ ?_
  ·rintro lp pre x W' ⟨hI,hb⟩ fW
   have HI:=O hI;have HB:=O hb;clear hI hb fW;dsimp only[Ci];gi_wp2
   obtain⟨g0,Lj⟩:∃g0,W'.heap.size=g0:=⟨_,rfl⟩;exact⟨⟨g0,rfl,HI.out,HB.out⟩,KeepsFrom.refl _ _⟩
  ·rintro lp pre x k W' ⟨⟨⟨v,hp,hc⟩⟩,hb⟩ fW
   obtain⟨A2,c2,gy⟩:=aP hc.2.2.head;dsimp only at gy;subst gy;have HC:=O hc;have HB:=O hb;have hx:=hc.2.1.head;unfold cT at hx;have y0:=hx.cell 2;have y1:=hx.frozen 2;(try dsimp only at y0 y1);have Lc:Hid (Y pre<=32):=O (by have:=fW.i.le;simp at this;omega);have Lh:x.toNat<256:=UInt8.toNat_lt _;have Ln:IntKind.u8.wrap (x.toNat:Int)=(x.toNat:Int):=(by rw[IntKind.wrap_u8];omega);clear hc hb hx fW hp Lh;gi_wp2_with (gi_at_builtin;refine ld jw rfl rfl 1 [U .u8 (x.toNat:Int)] rfl HC.out rfl rfl (by intro u hu;simp at hu;subst hu;rfl) (by have:=Lc.out;omega) ⟨OF _,HC.out.1.size⟩ (by simp[qF]) (by simp) ?_;intro v5 W5 wj L0;obtain⟨A5,c5,e5⟩:=aP wj.2.2.head;dsimp only at e5;subst e5;have L9:=O wj;have KM:=O L0;have hy:=wj.2.1.head;clear wj L0;unfold cT at hy;have u0:=hy.cell 2;have u1:=hy.frozen 2;dsimp only at u0 u1;clear hy)
   have L5:(pre++[x]).length=Y pre+1:=(by simp);have L7:=aW L9.out (g:=j) HN.out.2.2.2.2.2 2 (V A5 (Y pre+1) c5) (j,32,cT tm ty (V A2 (Y pre) c2)) (by simp[qF]) rfl (by simp);refine⟨aq (iy (KeepsFrom.refl _ _) KM.out (gM HC.out.2.2.head)) _ _,trivial,⟨⟨V A5 (Y pre+1) c5,trivial,?_⟩⟩,?_⟩
   ·rw[L5,OW]
    have e1:j+1≠j:=(by omega);have e2:w.heap.size≠j:= λh=>HN.out.2.2.2.1 h.symm
    simpa [di,qF,cT,e2,af] using L7
   ·rw[L5]
    exact((HB.out.grown KM.out (ba HC.out.2.2.head HB.out (by simp))).far (p:=⟨j,2,none⟩) (λh=>HN.out.1 h.symm) _)
 case done=>
  rintro D xs W2 hD hS ⟨⟨⟨v,hp,hc⟩⟩,hb⟩ hK;obtain⟨A2,c2,gy⟩:=aP hc.2.2.head;dsimp only at gy;subst gy;obtain⟨⟨q1,q2⟩,G⟩:∃q,eZ l p2 N (Y xs)=q:=⟨_,rfl⟩;rw[G] at hb;dsimp only at hb
  have eE:(q2≠0/\r=(⟨0,0,[]⟩,0,q2))\/(q2=0/\r=(⟨tm,ty,xs⟩,q1,0)):=by
   have hr:=HR.out;unfold cQ at hr;rcases M.out with⟨K4,rfl,_⟩|⟨K4,rfl,h⟩
   ·rw[if_pos K4] at hr
    unfold eZ at G;rw[if_pos (by decide)] at G;obtain⟨_,rfl⟩:=Prod.mk.inj G;exact .inl ⟨by decide,hr.symm⟩
   ·have e1:ty=(au l (p+5) 6:Nat):=(Prod.mk.inj h).1
    have e2:p2=p+11:=(Prod.mk.inj (Prod.mk.inj h).2).1;have e3:N=0:=(Prod.mk.inj (Prod.mk.inj h).2).2;rw[e3] at hS G;rw[if_neg K4,<-e2,hS.fin,G,<-e1] at hr;dsimp only at hr
    by_cases hz:q2=0
    ·subst hz
     rw[if_pos rfl,if_pos rfl] at hr;exact .inr ⟨rfl,hr.symm⟩
    ·rw[if_neg hz] at hr
     exact .inl ⟨hz,hr.symm⟩
  have KC:p<=q1/\q1<=8*n+10\/q2≠0:=by
   rcases eE with⟨h,_⟩|⟨rfl,h⟩
   ·exact .inr h
   ·left
    unfold eZ at G;have Lo:=hS.q.le;have Lk:=HL.out
    have h9:p<=p2:=by
     rcases M.out with⟨_,rfl,_⟩|⟨_,_,h⟩
     ·rw[if_pos (by decide)] at G
      exact absurd (Prod.mk.inj G).2 (by decide)
     ·have:p2=p+11:=(Prod.mk.inj (Prod.mk.inj h).2).1
      omega
    repeat' split at G
    all_goals (have:=(Prod.mk.inj G).1;omega)
  have HC:=O hc;have HK:=O hK;have HD:=O hD;have Io:=O (show ab W2.drew g 163 (db A n c q1 q2) from hb);have Li:=O (show ar w (qF w.heap.size j (j+1) g tm ty (V A2 (Y xs) c2)) [⟨w.heap.size,5,1,V A2 (Y xs) c2,Y xs,xs.map af⟩] W2.drew from bR hc);have T:=hc.2.1;unfold qF cT at T;have f0:=T.tail.tail.head.frozen 0;have f1:=T.tail.tail.head.frozen 1;have f2:=T.tail.tail.head.frozen 2;have y0:=T.tail.tail.head.cell 0;have y1:=T.tail.tail.head.cell 1;have y2:=T.tail.tail.head.cell 2;have dE:=hb;unfold db at dE;have z2:=dE.cell 2;(try dsimp only at f0 f1 f2 y0 y1 y2 z2);have Ip:=O eE;have KR:∀X:World,X.heap[D]? =some (.deferred (some []))->X.drew.heap[D]? =some (.deferred (some [])):= λX h=>h;have Le:w.heap.size<D:=by have:=hD;have:=L8.out;omega
  have dY:∀(a b:Int)(u:Value),((((W2.setCell ⟨w.heap.size,0,none⟩ (U Z a)).setCell ⟨w.heap.size,1,none⟩ (U Z b)).setCell ⟨w.heap.size,2,none⟩ u).drew).heap[D]? =some (.deferred (some [])):= λa b u=>by
   refine KR _ ?_;rw[Below.heap_setCell _ _ _ D (by show D≠w.heap.size;omega),Below.heap_setCell _ _ _ D (by show D≠w.heap.size;omega),Below.heap_setCell _ _ _ D (by show D≠w.heap.size;omega)];exact HK.out
  have kz:=O dY;have KQ:w.heap.size<=D:=(by omega);have KL:=O KQ;clear hc hb hK hD hS G T dE eE KR Le dY KQ
  by_cases hz:q2=0
  ·subst hz
   rcases Ip.out with⟨h,_⟩|⟨_,KE⟩
   ·exact absurd rfl h
   subst KE
   have Lm:OB.wrap ((q1:Int) - (p:Int))=(q1:Int) - (p:Int):=by
    rcases KC with h|h
    ·rw[J];omega
    ·exact absurd rfl h
   clear KC;gi_wp2_with fail
   go_wp2_with fail
   have aB:Hid (aa [(j,32,cT tm ty (V A2 (Y xs) c2)),(g,163,db A n c q1 0)] W2):=O (aa.cons HC.out.2.1.head (aa.cons Io.out (ag _)));have K3:=O aB.out.drew
   have rX:Hid (∀q∈[(j,32,cT tm ty (V A2 (Y xs) c2)),(g,163,db A n c q1 0)],q.1≠w.heap.size):=O (by
    intro q G;simp only[OY,OU,or_false] at G;rcases G with rfl|rfl
    ·exact HN.out.2.2.2.1
    ·exact Ne.symm HN.out.2.2.1)
   refine bf (λw'=>aa [(j,32,cT tm ty (V A2 (Y xs) c2)),(g,163,db A n c q1 0)] w') 8 (OI 0 (OI 1 (OI 2 (OI 3 (OI 4 (OI 5 (OI 6 (Ou 7 .done)))))))) (K3.out) (λPE dt=>?_)
   iterate 7
    refine aj (v:=?_) rfl (by rfl) ?_ ?_
    rotate_left
    ·intro _ aC;(try dsimp only at aC);have a:=aC.head;have b:=aC.tail.head;unfold cT at a;unfold db at b;have a0:=a.cell 0;have a1:=a.cell 1;have a2:=a.cell 2;have b1:=b.cell 1;(try dsimp only at a0 a1 a2 b1);go_simp;(try with_reducible rfl)
    simp only[OC,OH,OG]
   refine bG _ (w':=?_) rfl (by rfl) ?_ ?_ ?_;rotate_left 1
   ·go_simp;(first|(with_reducible rfl)|(constructor<;>with_reducible rfl)|skip)
   ·exact aa.drew (FX aB.out rX.out _ _ _)
   refine dt _ _ ?_;clear dt PE;simp only[OK,OO];go_wp2_with fail
   refine⟨rfl,?_⟩;go_wp2_with fail
   have bE:=iu (o':= .deferred none) (bR (EJ tm ty (V A2 (Y xs) c2) HC.out HN.out.2.2.2.1 (by simp))) (kz.out tm ty (V A2 (Y xs) c2)) rfl KL.out;refine el (kz.out tm ty (V A2 (Y xs) c2)) (yh w.heap.size tm ty (V A2 (Y xs) c2) ((q1:Int) - (p:Int)) 0 _ _ bE.2.1.head rfl rfl rfl) ⟨V A2 (Y xs) c2,?_,bE.1,bE.2.2.head⟩;unfold dR;rw[if_pos rfl]
  ·rcases Ip.out with⟨_,KE⟩|⟨h,_⟩
   ·skip
    subst KE;have Ll:(q2 !=0)=true:=(by simpa using hz);clear KC;gi_wp2_with fail
    go_wp2_with fail
    have aB:Hid (aa [(j,32,cT tm ty (V A2 (Y xs) c2)),(g,163,db A n c q1 q2)] W2):=O (aa.cons HC.out.2.1.head (aa.cons Io.out (ag _)));have K3:=O aB.out.drew
    have rX:Hid (∀q∈[(j,32,cT tm ty (V A2 (Y xs) c2)),(g,163,db A n c q1 q2)],q.1≠w.heap.size):=O (by
     intro q G;simp only[OY,OU,or_false] at G;rcases G with rfl|rfl
     ·exact HN.out.2.2.2.1
     ·exact Ne.symm HN.out.2.2.1)
    refine bf (λw'=>aa [(j,32,cT tm ty (V A2 (Y xs) c2)),(g,163,db A n c q1 q2)] w') 7 (OI 0 (OI 1 (OI 2 (OI 3 (OI 4 (Ou 5 (Ou 6 .done))))))) (K3.out) (λPE dt=>?_)
    iterate 5
     refine aj (v:=?_) rfl (by rfl) ?_ ?_
     rotate_left
     ·intro _ aC;(try dsimp only at aC);have b:=aC.tail.head;unfold db at b;have b2:=b.cell 2;(try dsimp only at b2);go_simp;(try with_reducible rfl)
     simp only[OC,OH,OG]
    refine bG _ (w':=?_) rfl (by rfl) ?_ ?_ ?_;rotate_left 1
    ·go_simp;(first|(with_reducible rfl)|(constructor<;>with_reducible rfl)|skip)
    ·exact aa.drew (FX aB.out rX.out _ _ _)
    refine az (v:=?_) (w':=?_) rfl (by rfl) ?_ ?_ ?_;rotate_left 2
    ·go_simp;(try (constructor<;>with_reducible rfl))
    ·exact aa.drew (FX aB.out rX.out _ _ _)
    simp only[OC,OH,OG];refine dt _ _ ?_;clear dt PE;simp only[OK,OO];go_wp2_with fail
    refine⟨rfl,?_⟩;go_wp2_with fail
    have bE:=iu (o':= .deferred none) (bR (EJ 0 0 (V none 0 0) HC.out HN.out.2.2.2.1 (by simp))) (kz.out 0 0 (V none 0 0)) rfl KL.out;refine el (kz.out 0 0 (V none 0 0)) (yh w.heap.size 0 0 (V none 0 0) 0 q2 _ _ bE.2.1.head rfl rfl rfl) ⟨V none 0 0,?_,bE.1,Of _ _ _ _⟩;unfold dR;rw[if_neg hz]
   ·exact absurd h hz
theorem sU (tm ty:Int)(A:Option Addr)(n c:Nat)(w:World):Calls OE 37 #[Ox #[U Z tm,U Z ty,V A n c]] w λe w'=>e=OJ (U Z (dv ty))/\Below w.heap.size w w':=by
 have j:=O ((Below.refl _ w).alloc (OF _) (OA #[U Z tm,U Z ty,V A n c] 32));unfold dv
 go_enter Tryz.func37,Tryz.ntmps37
 go_wp2_with fail
 go_ret;exact⟨rfl,j.out⟩
def xF (tm ty:Int) (n:Nat):Bool:=decide (0<=tm)&&decide (tm<=31)&&decide (0<=ty)&&decide (ty<=63)&&decide (n<=32)
theorem vm (tm ty:Int)(A:Option Addr)(n c:Nat)(w:World):Calls OE 36 #[Ox #[U Z tm,U Z ty,V A n c]] w λe w'=>e=OJ (U Z (if xF tm ty n then 0 else 2))/\Below w.heap.size w w':=by
 have j:=O ((Below.refl _ w).alloc (OF _) (OA #[U Z tm,U Z ty,V A n c] 32))
 have he:xF tm ty n=(!decide (tm<0)&& !decide (31<tm)&& !decide (ty<0)&& !decide (63<ty)&& !decide ((32:Int)<(n:Int))):=by
  unfold xF;rw[Bool.eq_iff_iff];simp;omega
 rw[he];clear he
 cases B:decide (tm<0) with
 |true=>
  go_enter OM,OL
  go_wp2_with fail
  go_ret;exact⟨rfl,j.out⟩
 |false=>
  cases C:decide (31<tm) with
  |true=>
   go_enter OM,OL
   go_wp2_with fail
   go_ret;exact⟨rfl,j.out⟩
  |false=>
   cases D:decide (ty<0) with
   |true=>
    go_enter OM,OL
    go_wp2_with fail
    go_ret;exact⟨rfl,j.out⟩
   |false=>
    cases k4:decide (63<ty) with
    |true=>
     go_enter OM,OL
     go_wp2_with fail
     go_ret;exact⟨rfl,j.out⟩
    |false=>
     cases G:decide ((32:Int)<(n:Int)) with
     |true=>
      go_enter OM,OL
      go_wp2_with fail
      go_ret;exact⟨rfl,j.out⟩
     |false=>
      go_enter OM,OL
      go_wp2_with fail
      go_ret;exact⟨rfl,j.out⟩
theorem oy (n b:Nat)(hn:n<2 ^ 32)(hb:b<=32)(w:World):
  Calls OE 103 #[U Z (n:Int),U Z (b:Int)] w λe w'=>e=OJ (Oq (bs (aD n b)))/\Below w.heap.size w w':=by
 have HN:=O hn;have k7:OB.wrap ((b:Int) - 1)=(b:Int) - 1:=by rw[J];omega
 clear hn
 go_enter Tryz.func103,Tryz.ntmps103
 go_wp2_with fail
 go_loopg [6] b (λgk i=> λwr=>∃(j:Nat),j+gk=b/\i=U Z ((gk:Int) - 1)/\Hid (Lib.IsBuilder 174 5 w.heap.size w.heap.size (((aD n b).take j).map af) wr)/\Hid (Below w.heap.size w wr))
 case atStart=>exact⟨0,by omega,rfl,O (by rw[Oo];exact qm w),O ((Below.refl _ _).alloc (OF _) _)⟩
 case round=>
  obtain⟨j,hj,rfl,HB,C⟩:=hrel
  cases gk with
  |zero=>
   have cz:j=b:=(by omega);have aC:(aD n b).take j=aD n b:=OX (by rw[cf];omega);rw[aC] at HB;have bE:Hid (Calls OE 153 #[OD (some ⟨w.heap.size,0,none⟩)] wr λe w'=>e=OJ (Oq (bs (aD n b)))/\Below w.heap.size wr w'):=O (Tryz.Builder_String_any _ _ (aD n b) wr HB.out C.out.size);clear hj cz aC;go_wp2_with (go_at_call 153;refine bE.out.mono ?_;rintro e w' ⟨rfl,B⟩;have D:=O B;clear B)
   go_ret;exact⟨rfl,C.out.trans D.out⟩
  |succ g=>
   have T:((g+1:Nat):Int) - 1=(g:Int):=(by omega);have dE:(0:Int)<=(g:Int):=(by omega);have dD:(g:Int)<=64:=(by omega);have eE:(g:Int).toNat=g:=(by omega);have dY:¬((g:Int)<0):=(by omega);obtain⟨q,hq⟩:∃q,n / 2 ^ g=q:=⟨_,rfl⟩;have fW:((n:Int) / 2 ^ g)=(q:Int):=by rw[<-hq];exact_mod_cast rfl
   have K:q<2 ^ 62:=by
    have h1:q<=n:=(by rw[<-hq];exact Nat.div_le_self _ _);have h3:=HN.out;have h4:(2:Nat) ^ 32<2 ^ 62:=(by decide);omega
   have I:=xH q K;obtain⟨x,hx⟩:∃x,q % 2=x:=⟨_,rfl⟩;rw[hx] at I;have dt:x=0\/x=1:=(by omega);have aB:b - 1 - j=g:=(by omega);have HL:Hid ((((aD n b).take j).map af).length+1<=140737488355328):=O (by rw[List.length_map,Oi,cf];omega)
   have HT:Hid ((aD n b).take j++[if x=0 then(48:UInt8) else 49]=(aD n b).take (j+1)):=O (by
    rw[uL n b j (by omega),aB,hq,hx])
   have gy:OB.wrap ((g:Int) - 1)=(g:Int) - 1:=(by rw[J];omega);have N:=O hj;rw[T];clear hj hq hx K aB T;rcases dt with rfl|rfl
   ·simp only[OT] at I
    go_wp2_with (go_at_call 152;refine(kF w.heap.size w.heap.size _ 48 wr HB.out HL.out C.out.size).mono ?_;rintro e w1 ⟨rfl,G,B⟩;have D:=O G;have M:=O B;clear G B)
    go_roundg g
    case measure=>omega
    case rel=>
     refine⟨j+1,by have:=N.out;omega,rfl,O ?_,O (C.out.trans M.out)⟩;rw[<-HT.out,OW];exact D.out
   ·simp only[OQ] at I
    go_wp2_with (go_at_call 152;refine(kF w.heap.size w.heap.size _ 49 wr HB.out HL.out C.out.size).mono ?_;rintro e w1 ⟨rfl,G,B⟩;have D:=O G;have M:=O B;clear G B)
    go_roundg g
    case measure=>omega
    case rel=>
     refine⟨j+1,by have:=N.out;omega,rfl,O ?_,O (C.out.trans M.out)⟩;rw[<-HT.out,OW];exact D.out
theorem IC (tm ty:Int)(sp:List UInt8)(A:Option Addr)(n c:Nat)(w:World)(hA:Sl w A (sp.map af))(hn:Y sp=n)(gy:xF tm ty n=true):
  Calls OE 60 #[Ox #[U Z tm,U Z ty,V A n c]] w λe w'=>e=OJ (Ob #[Oq (bs (oS ⟨tm,ty,sp⟩)),U Z 0])/\Below w.heap.size w w':=by
 have HN:=O hn;have eE:Below w.heap.size w (w.alloc (OA #[U Z tm,U Z ty,V A n c] 32)):=(Below.refl _ _).alloc (OF _) _;have aC:=O eE;have gJ:=O (hA.below eE);have B:ab (w.alloc (OA #[U Z tm,U Z ty,V A n c] 32)) w.heap.size 32 #[U Z tm,U Z ty,V A n c]:=ab.new _ _ _;have bE:=O B;have CK:=O (λW=>vm tm ty A n c W);rw[gy] at CK;simp only[xF,Bool.and_eq_true,decide_eq_true_eq] at gy;obtain⟨⟨⟨⟨h1,h2⟩,h3⟩,h4⟩,h5⟩:=gy;obtain⟨a,rfl⟩:=OV h1;obtain⟨b,rfl⟩:=OV h3;have D1:=O (λW=>oy a 5 (by omega) (by decide) W);have D2:=O (λW=>oy b 6 (by omega) (by decide) W);simp only[OQ] at D1 D2;unfold oS;dsimp only;rw[OS,OS];have l1:=cf a 5;have l2:=cf b 6;generalize aD a 5=N at*;generalize aD b 6=T at*;obtain⟨hh,fW⟩:∃hh,w.heap.size=hh:=⟨_,rfl⟩;have K1:=O fW;rw[fW] at B;have y0:=B.cell 0;have y1:=B.cell 1;have y2:=B.cell 2;(try dsimp only at y0 y1 y2);have he:bs []={data:= #[]}:=rfl;clear eE hA B h1 h2 h3 h4
 go_enter Tryz.func60,Tryz.ntmps60
 go_wp2_with (go_at_call 36;refine(CK.out _).mono ?_;rintro e w1 ⟨rfl,wj⟩;have D:=O wj;clear wj)
 have Io:ab w1 hh 32 #[U Z (a:Int),U Z (b:Int),V A n c]:=by rw[<-fW];exact bE.out.below D.out bE.out.lt
 have G:=O (show ab w1.drew hh 32 #[U Z (a:Int),U Z (b:Int),V A n c] from Io);have cz:=O (aC.out.trans (D.out.mono aC.out.size));have hU:=O (gJ.out.below D.out);clear Io bE D aC gJ CK y0 y1 y2;refine bf (λw'=>ab w' hh 32 #[U Z (a:Int),U Z (b:Int),V A n c]) 5 (OI 0 (OI 1 (OI 3 (OI 4 (Ou 2 .done))))) (G.out) (λPE kz=>?_)
 iterate 4
  refine aj (v:=?_) rfl (by rfl) ?_ ?_
  rotate_left
  ·intro _ rX;(try dsimp only at rX);have c:=rX;have a0:=c.cell 0;have a1:=c.cell 1;(try dsimp only at a0 a1);go_simp;(try with_reducible rfl)
  simp only[OC,OH,OG]
 refine aX (f:=103) rfl (by rfl) (by first|(go_simp;done)|(go_simp;rfl)) (D1.out _) ?_;rintro e w2 ⟨rfl,K⟩;have I:=O (G.out.below K G.out.lt);have dt:=O (cz.out.drew.trans (K.mono cz.out.size));have ja:=O (hU.out.below ((Below.refl _ _).drew.trans K));refine⟨_,rfl,_,λ_ h=>h,I.out,?_⟩;simp only[OC,OH,OG];refine kz _ _ ?_;clear kz PE;simp only[OK,OO];clear K G cz hU;go_wp2_with fail
 refine(D2.out _).mono ?_;rintro e w3 ⟨rfl,M⟩;have K0:=O (I.out.below M I.out.lt);have K3:=O (dt.out.trans (M.mono dt.out.size));have Iq:=O (ja.out.below M);have Ip:=K0.out;have y2:=Ip.cell 2;(try dsimp only at y2);clear M I dt ja Ip;go_wp2_with fail
 refine⟨rfl,?_⟩;go_wp2_with fail
 go_loopg [5,23] n (λgk t i=> λwr=>∃(j:Nat),j+gk=n/\i=U Z (j:Int)/\t=Oq (bs ((N++T)++(sp.take j).flatMap λb=>49::aD b.toNat 8))/\Hid (Below w.heap.size w wr)/\Hid (Sl wr A (sp.map af)))
 case atStart=>exact⟨0,by omega,rfl,by rw[Oo,List.flatMap_nil,List.append_nil],K3,Iq⟩
 case round=>
  obtain⟨j,hj,rfl,rfl,dD,jT⟩:=hrel;have aB:(N++T++(sp.take j).flatMap λb=>49::aD b.toNat 8).length<=10000:=by rw[OR,OR,yC,Oi];have:=HN.out;omega
  cases gk with
  |zero=>
   have C:j=n:=(by omega);have K5:¬((j:Int)<(n:Int)):=(by omega);have HR:Hid ((N++T++(sp.take j).flatMap λb=>49::aD b.toNat 8)++[48]=N++(T++fu sp)):=O (by rw[C,OX (by rw[HN.out];exact OF _)];unfold fu;simp only[Oc]);generalize (N++T++(sp.take j).flatMap λb=>49::aD b.toNat 8)=L at HR aB⊢;clear hj C;go_wp2_with fail
   go_ret2;exact⟨by rw[<-HR.out];rfl,by have h:=dD.out;rw[K1.out] at h;exact h⟩
  |succ g=>
   have K5:((j:Int)<(n:Int)):=(by omega);have K6:¬((j:Int)<0):=(by omega);have C:j<(Y sp):=(by rw[HN.out];omega);obtain⟨b8,hb⟩:∃b,sp[j]=b:=⟨_,rfl⟩;obtain⟨ad,rfl,_,hc⟩:=jT.out.byte j C;rw[hb] at hc;have dE:b8.toNat<256:=UInt8.toNat_lt _;have K8:OB.wrap ((j:Int)+1)=(j:Int)+1:=(by rw[J];omega);have K9:OB.wrap (b8.toNat:Int)=(b8.toNat:Int):=(by rw[J];omega);have HR:Hid ((N++T++(sp.take j).flatMap λb=>49::aD b.toNat 8)++([49]++aD b8.toNat 8)=N++T++(sp.take (j+1)).flatMap λb=>49::aD b.toNat 8):=O (by rw[vK sp j C,hb];simp only[Oc];rfl);generalize (N++T++(sp.take j).flatMap λb=>49::aD b.toNat 8)=L at HR aB⊢;have C1:=O (λW=>oy b8.toNat 8 (by omega) (by decide) W);simp only[OQ] at C1;have K2:=O hj;have l8:=cf b8.toNat 8;generalize aD b8.toNat 8=L3 at*;generalize b8.toNat=bn at*;clear hj C hb dE;go_wp2_with fail
   refine(C1.out _).mono ?_;rintro e w4 ⟨rfl,dY⟩;have K4:=O (dD.out.trans (dY.mono dD.out.size));have J2:=O (jT.out.below dY);clear dY;go_wp2_with fail
   go_roundg g
   case measure=>omega
   case rel=>exact⟨j+1,by have:=K2.out;omega,rfl,by rw[<-HR.out];rfl,K4,J2⟩
theorem wz (A:Option Addr)(n c:Nat)(l:List UInt8)(p:Nat)(w:World)(M:Sl w A (l.map af))(N:Y l=n)(hsz:n<=2 ^ 40)(hp:p<=8*n):
  Calls OE 93 #[V A n c,U Z (p:Int)] w λe w'=>e=OJ (U Z ((dH l (8*n - p) p:Nat):Int))/\w=w':=by
 have T:=O M;have HN:=O N;have HP:=O hp;clear M N
 go_enter Tryz.func93,Tryz.ntmps93
 go_wp2_with fail
 go_loopg [5] (8*n - p) (λgk x=> λwr=>∃(t:Nat),t+gk=8*n - p/\x=U Z (t:Int)/\w=wr/\Hid (dH l (8*n - p) p=t+dH l gk (p+t)))
 case atStart=>exact⟨0,by omega,rfl,rfl,O (by rw[Nat.zero_add,Nat.add_zero])⟩
 case round=>
  obtain⟨t,ht,rfl,rfl,G⟩:=hrel;have aB:OB.wrap ((p:Int)+(t:Int))=(p:Int)+(t:Int):=(by rw[J];omega);have aC:OB.wrap ((t:Int)+1)=(t:Int)+1:=by rw[J];omega
  cases gk with
  |zero=>
   have K:¬((p:Int)+(t:Int)<8*(n:Int)):=(by omega);have D:=O (show (t:Int)=((dH l (8*n - p) p:Nat):Int) by rw[G.out,dH];rfl);clear ht;go_wp2_with (go_at_call 92;refine(bh _ _ _ _ (by omega)).mono ?_;rintro e w' ⟨rfl,rfl⟩)
   go_ret;exact⟨uj D.out,rfl⟩
  |succ g=>
   have K:((p:Int)+(t:Int)<8*(n:Int)):=(by omega);have j:=O (pT A n c l ((p:Int)+(t:Int)) w T.out HN.out (by omega) (by omega) (by omega));rw[show ((p:Int)+(t:Int)).toNat=p+t by omega] at j;have HT:=O ht
   by_cases B:aS l (p+t)=0
   ·rw[B] at j
    have I:=O (show dH l (8*n - p) p=(t+1)+dH l g (p+(t+1)) by rw[G.out,dH,if_pos B,show p+(t+1)=p+t+1 from rfl];omega);simp only[OT] at j;clear ht B;go_wp2_with (first|(go_at_call 92;refine(bh _ _ _ _ (by omega)).mono ?_;rintro e w' ⟨rfl,rfl⟩)|(go_at_call 146;refine j.out.mono ?_;rintro e w' ⟨rfl,rfl⟩))
    go_roundg g
    case measure=>omega
    case rel=>exact⟨t+1,by have:=HT.out;omega,rfl,rfl,I⟩
   ·have C:=kD l (p+t) B
    rw[C] at j;have D:=O (show (t:Int)=((dH l (8*n - p) p:Nat):Int) by rw[G.out,dH,if_neg B];rfl);simp only[Ol] at j;clear ht B C;go_wp2_with (first|(go_at_call 92;refine(bh _ _ _ _ (by omega)).mono ?_;rintro e w' ⟨rfl,rfl⟩)|(go_at_call 146;refine j.out.mono ?_;rintro e w' ⟨rfl,rfl⟩))
    go_ret;exact⟨uj D.out,rfl⟩
def JW (l:List UInt8) (a:Nat) (w:World) (e:Ending) (w':World):Prop:=w=w'/\∃(i r:Int),e=OJ (Ob #[U Z i,U Z r])/\((r=0/\∃q:Nat,i=(q:Int)/\o4 l a q)\/(r=5/\∀j,a<=j->¬gp l j))
theorem oB (A:Option Addr)(n c:Nat)(l:List UInt8)(a:Nat)(w:World)(hA:Sl w A (l.map af))(hn:Y l=n)(hsz:n<=2 ^ 40)(ha:a<=8*n+1):
  Calls OE 90 #[V A n c,U Z (a:Int)] w (JW l a w):=by
 have HA:=O hA;have HN:=O hn;have h0:decide ((a:Int)<0)=false:=by simp
 clear hA hn
 go_enter Tryz.func90,Tryz.ntmps90
 go_wp2_with fail
 go_loopg [6,7] (8*n+1 - a) (λgk x i=> λwr=>∃(t q r:Nat),q=a+t/\q+gk=8*n+1/\x=U Z (r:Int)/\i=U Z (q:Int)/\w=wr/\Hid (gX l a t=r)/\Hid (ky l a t))
 case atStart=>exact⟨0,a,0,rfl,by omega,rfl,rfl,rfl,O rfl,O (qU l a)⟩
 case round=>
  obtain⟨t,q,r,K,ht,rfl,rfl,rfl,HR,HC⟩:=hrel
  by_cases cz:((q:Int)<8*(n:Int))
  ·have dE:OB.wrap ((q:Int)+1)=(q:Int)+1:=by rw[J];omega
   have D:=O (pT A n c l (q:Int) w HA.out HN.out (by omega) (by omega) (by omega));rw[OS] at D;have C:=qC l a t;rw[HR.out] at C;have dD:OB.wrap ((r:Int)+1)=(r:Int)+1:=(by rw[J];omega);have HT:=O ht;have HL:=O cz;have I:=O K
   by_cases G:aS l q=0
   ·rw[G] at D
    simp only[OT] at D;have T:=O G;clear ht G C K;go_wp2_with (first|(go_at_call 92;refine(bh _ _ _ _ (by omega)).mono ?_;rintro e w' ⟨rfl,rfl⟩)|(go_at_call 146;refine D.out.mono ?_;rintro e w' ⟨rfl,rfl⟩))
    go_roundg (8*n+1 - (q+1))
    case measure=>have:=HT.out;have:=HL.out;omega
    case rel=>exact⟨t+1,q+1,r+1,by have:=I.out;omega,by have:=HT.out;have:=HL.out;omega,rfl,rfl,rfl,O (by rw[gX,if_pos (by rw[<-I.out];exact T.out),HR.out]),O (oU HC.out (by rw[<-I.out];exact T.out))⟩
   ·have B:=kD l q G
    rw[B] at D;simp only[Ol] at D;have T:=O G;have aB:=O B
    by_cases dt:(15:Int)<=(r:Int)
    ·have dY:OB.wrap ((q:Int) - 15)=(q:Int) - 15:=by rw[J];omega
     have N:=sn HC.out (by have:=HN.out;omega) (by rw[HR.out];omega) (by rw[<-K];exact aB.out);have aC:=O N;clear ht G B C N K;go_wp2_with (first|(go_at_call 92;refine(bh _ _ _ _ (by omega)).mono ?_;rintro e w' ⟨rfl,rfl⟩)|(go_at_call 146;refine D.out.mono ?_;rintro e w' ⟨rfl,rfl⟩))
     go_ret2;have h:=aC.out;exact⟨rfl,_,_,rfl,.inl ⟨rfl,a+t - 15,by have:=I.out;omega,by omega,h.2⟩⟩
    ·have M:=O (sR HC.out (by rw[HR.out];omega))
     clear ht G B C K;go_wp2_with (first|(go_at_call 92;refine(bh _ _ _ _ (by omega)).mono ?_;rintro e w' ⟨rfl,rfl⟩)|(go_at_call 146;refine D.out.mono ?_;rintro e w' ⟨rfl,rfl⟩))
     go_roundg (8*n+1 - (q+1))
     case measure=>have:=HT.out;have:=HL.out;omega
     case rel=>exact⟨t+1,q+1,0,by have:=I.out;omega,by have:=HT.out;have:=HL.out;omega,rfl,rfl,rfl,O (by rw[gX,if_neg (by rw[<-I.out];exact T.out)]),M⟩
  ·have bE:=O (show ∀j,a<=j->¬gp l j from λj h1 h2=>HC.out j h1 (by have:=h2.1;have:=HN.out;omega) h2)
   clear ht K;go_wp2_with (go_at_call 92;refine(bh _ _ _ _ (by omega)).mono ?_;rintro e w' ⟨rfl,rfl⟩)
   go_ret2;exact⟨rfl,_,_,rfl,.inr ⟨rfl,bE.out⟩⟩
theorem qX (A:Option Addr)(n c:Nat)(l:List UInt8)(a:Nat)(w:World)(G:Sl w A (l.map af))(D:Y l=n)(hsz:n<=2 ^ 40)(ha:a<=8*n):
  Calls OE 51 #[V A n c,U Z (a:Int)] w λe w'=>e=OJ (jp l a)/\w=w':=by
 have N:=O G;have T:=O D;have h0:decide ((a:Int)<0)=false:=by simp
 have C:=O (wz A n c l a w G D hsz ha);have M:jp l a=jp l a:=rfl;unfold jp qe cV at M⊢;rw[D];have j:=BN l (8*n - a) a;generalize dH l (8*n - a) a=z at*;clear G D M
 by_cases h1:8*n<=a
 ·have k1:(8*(n:Int))<=(a:Int):=by omega
  rw[if_pos (by omega)]
  go_enter OP,ON
  go_wp2_with (go_at_call 92;refine(bh _ _ _ _ (by omega)).mono ?_;rintro e w' ⟨rfl,rfl⟩)
  go_ret3;exact⟨rfl,rfl⟩
 ·have k1:¬(8*(n:Int))<=(a:Int):=by omega
  have aB:OB.wrap ((a:Int)+(z:Int))=(a:Int)+(z:Int):=by rw[J];omega
  by_cases h2:8*n<=a+z
  ·have k2:((a:Int)+(z:Int)==8*(n:Int))=true:=by simp;omega
   rw[if_pos h2];clear j
   go_enter OP,ON
   go_wp2_with (first|(go_at_call 92;refine(bh _ _ _ _ (by omega)).mono ?_;rintro e w' ⟨rfl,rfl⟩)|(go_at_call 93;refine C.out.mono ?_;rintro e w' ⟨rfl,rfl⟩))
   go_ret3;exact⟨rfl,rfl⟩
  ·have k2:((a:Int)+(z:Int)==8*(n:Int))=false:=by simp;omega
   rw[if_neg h2]
   by_cases I:z<15
   ·have k3:((z:Int)<15):=by omega
    rw[if_pos I];clear j
    go_enter OP,ON
    go_wp2_with (first|(go_at_call 92;refine(bh _ _ _ _ (by omega)).mono ?_;rintro e w' ⟨rfl,rfl⟩)|(go_at_call 93;refine C.out.mono ?_;rintro e w' ⟨rfl,rfl⟩))
    go_ret3;exact⟨rfl,rfl⟩
   ·have k3:¬((z:Int)<15):=by omega
    rw[if_neg I];have aC:OB.wrap ((a:Int)+(z:Int)+1)=(a:Int)+(z:Int)+1:=(by rw[J];omega);have bE:OB.wrap ((z:Int)+5)=(z:Int)+5:=by rw[J];omega
    by_cases K:8*n<a+z+5
    ·have B:=O (cZ A n c ((a:Int)+(z:Int)+1) 4 w (by omega) (by omega) (by omega) (by omega) (by omega) (by omega))
     rw[if_pos K];clear j
     go_enter OP,ON
     go_wp2_with (first|(go_at_call 92;refine(bh _ _ _ _ (by omega)).mono ?_;rintro e w' ⟨rfl,rfl⟩)|(go_at_call 93;refine C.out.mono ?_;rintro e w' ⟨rfl,rfl⟩)|(go_at_call 91;refine B.out.mono ?_;rintro e w' ⟨rfl,rfl⟩))
     go_ret3;exact⟨rfl,rfl⟩
    ·have B:=O (dL A n c l ((a:Int)+(z:Int)+1) 4 w N.out T.out (by omega) (by omega) (by omega) (by omega) (by omega))
     rw[show ((a:Int)+(z:Int)+1).toNat=a+z+1 by omega,show (4:Int).toNat=4 from rfl] at B;rw[if_neg K];generalize au l (a+z+1) 4=x at*;clear j
     go_enter OP,ON
     go_wp2_with (first|(go_at_call 92;refine(bh _ _ _ _ (by omega)).mono ?_;rintro e w' ⟨rfl,rfl⟩)|(go_at_call 93;refine C.out.mono ?_;rintro e w' ⟨rfl,rfl⟩)|(go_at_call 91;refine B.out.mono ?_;rintro e w' ⟨rfl,rfl⟩))
     go_ret3;refine⟨?_,rfl⟩;simp;omega
end Go.Proofs.YthhijgcfbjcgiaaGreatDoor
