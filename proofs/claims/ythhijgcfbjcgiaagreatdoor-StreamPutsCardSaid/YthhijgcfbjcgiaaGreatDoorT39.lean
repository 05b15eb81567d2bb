/- Start, PicG, PicF, PicP, RBit -/
import Derived.Test.YthhijgcfbjcgiaaGreatDoorT38
import Derived.Test.YthhijgcfbjcgiaaGreatDoorT32
namespace Go.Proofs.YthhijgcfbjcgiaaGreatDoor
open Go Go.RowKit
attribute [local go_sem] Oper.semAt_some
set_option maxHeartbeats 16000000
set_option maxRecDepth 100000
open Go.Lib renaming hid→O
open Go.Value renaming int→U,slice→V,pointer→OC,tuple→Oi,string→Ol,agg→Ot
open Go.IntKind renaming i64→Z,wrap_i64→OB,i64→OH
open List renaming length→Y,setIfInBounds_toArray→OA,set_cons_succ→OE,set_cons_zero→OF,drop_succ_cons→OJ,drop_zero→ON,length_append→OP,mem_nil_iff→OQ,map_append→OS,take_of_length_le→OT,mem_cons→OU,append_toArray→OW,append_assoc→OY,push_toArray→OZ,size_toArray→Oa,cons_append→Oc,length_cons→Od,length_take→Oe,length_nil→Og,nil_append→Oh,take_zero→Oj
open Go.Obj renaming cells→J
open Nat renaming le_refl→OD,reduceAdd→OV,lt_succ_self→Of,reduceSub→Om,ne_of_lt→Oo,le_succ→Oq
open Go.Proofs.YthhijgcfbjcgiaaGreatDoor.bY renaming take→OG,step→On
open Tryz renaming prog→OI,ntmps36→OK,func36→OL
open Go.Ending renaming returned→OM
open Int renaming cast_ofNat_Int→OO,eq_ofNat_of_zero_le→OR,toNat_natCast→OX
open Go.World renaming ownsRow_nil→Ob
def ny (h:Nat) (i m e:Int):List aM:=[(h+2,3,#[U Z i]),(h+3,3,#[U Z m]),(h+4,26,#[U Z e])]
def qx (h:Nat) (A:Option Addr) (m c:Nat) (a:Nat) (u:Value):List aM:=(h+6,3,#[u])::(h+5,25,#[V A m c])::(h,25,#[V A m c])::(h+1,3,#[U Z (a:Int)])::ny h 0 0 0
def va (l:List UInt8) (a:Nat):Int:=if (dq l a).2.2=0 then((dq l a).2.1:Int) - a else 0
def wm (l:List UInt8) (a:Nat):Value:=Oi #[U Z (dq l a).1,U Z (va l a),U Z (dq l a).2.2]
def Kb (l:List UInt8) (a k:Nat):Prop:=∀j,a<=j->j<a+k->aZ l j=0
def tV (w:World) (A:Option Addr) (m c:Nat) (l:List UInt8) (a:Nat):List Nat->World->Prop:=
 cS w (λpre (_:Value)=>Kb l a (Y pre)) (λ_ u=>qx w.heap.size A m c a u) (λ_ _=>[])
theorem JC {w W:World}{A:Option Addr}{m c:Nat}{l:List UInt8}{a:Nat}{pre:List Nat}(v:Value)(h:tV w A m c l a pre W):tV w A m c l a pre (W.setCell ⟨w.heap.size+6,0,none⟩ v):=by
 obtain⟨⟨u,B,j⟩⟩:=h;refine⟨⟨v,B,?_⟩⟩;have h2:=aV j (g:=w.heap.size+6) (by omega) 0 v (w.heap.size+6,3,#[u]) (by simp[qx]) rfl (by simp)
 simpa [df,qx,ny] using h2
theorem sJ {w W:World}{A:Option Addr}{m c:Nat}{a:Nat}{u:Value}(i k e:Int)(D:ay w (qx w.heap.size A m c a u) [] W):ay w (ny w.heap.size i k e) [] (((W.setCell ⟨w.heap.size+2,0,none⟩ (U Z i)).setCell ⟨w.heap.size+3,0,none⟩ (U Z k)).setCell ⟨w.heap.size+4,0,none⟩ (U Z e)):=by
 have h2:=aw (aw (aw (aw D)));have j:=aV h2 (g:=w.heap.size+2) (by omega) 0 (U Z i) (w.heap.size+2,3,#[U Z 0]) (by simp[ny]) rfl (by simp);have B:=aV j (g:=w.heap.size+3) (by omega) 0 (U Z k) (w.heap.size+3,3,#[U Z 0]) (by simp[ny,df]) rfl (by simp);have C:=aV B (g:=w.heap.size+4) (by omega) 0 (U Z e) (w.heap.size+4,26,#[U Z 0]) (by simp[ny,df]) rfl (by simp)
 simpa [df,ny] using C
theorem ET (h:Nat)(i k e:Int)(tmps:Array Value)(W:World)(j:aa (ny h i k e) W)(M:tmps.getD 4 undef=OC (some ⟨h+2,0,none⟩))(N:tmps.getD 5 undef=OC (some ⟨h+3,0,none⟩))(T:tmps.getD 6 undef=OC (some ⟨h+4,0,none⟩)):
  (results Tryz.f140 tmps).run OI W= .ok (Oi #[U Z i,U Z k,U Z e]) W:=by
 unfold ny at j;have G:W.cell? ⟨h+2,0,none⟩=some (U Z i):=j.head.cell 0;have I:W.cell? ⟨h+3,0,none⟩=some (U Z k):=j.tail.head.cell 0;have K:W.cell? ⟨h+4,0,none⟩=some (U Z e):=j.tail.tail.head.cell 0;have B:tmps[4]?.getD undef=OC (some ⟨h+2,0,none⟩):=by simpa using M
 have C:tmps[5]?.getD undef=OC (some ⟨h+3,0,none⟩):=by simpa using N
 have D:tmps[6]?.getD undef=OC (some ⟨h+4,0,none⟩):=by simpa using T
 simp[results,Tryz.results140,B,C,D,asAddr,G,I,K,go_sem]
theorem BD (A:Option Addr)(m c:Nat)(l:List UInt8)(a:Nat)(w:World)(hA:Sl w A (l.map ag))(hl:Y l=m)(hsz:m<=2 ^ 40)(ha:a<=8*m):
  Calls OI 140 #[V A m c,U Z (a:Int)] w λe w'=>e=OM (wm l a)/\Below w.heap.size w w':=by
 have HA:=O hA;have HL:=O hl;have K8:=O ha;have h0:¬((a:Int)<0):=by omega
 obtain⟨v1,kA⟩:∃v,(dq l a).1=v:=⟨_,rfl⟩;obtain⟨v2,kU⟩:∃v,va l a=v:=⟨_,rfl⟩;obtain⟨v3,rG⟩:∃v,(dq l a).2.2=v:=⟨_,rfl⟩;have HV:Hid ((dq l a).1=v1/\va l a=v2/\(dq l a).2.2=v3):=O ⟨kA,kU,rG⟩;unfold wm;rw[kA,kU,rG];clear hA hl ha kA kU rG;refine(callsIn_wide (n:=5)).1 ?_;refine callsIn_of_wp_marks Tryz.func140 rfl trivial ?_ rfl;simp only[Tryz.ntmps140,Oa,Od,Og,OV,Om,Array.replicate_succ,Array.replicate_zero,OZ,OW,Oh,Oc];refine wpIn_wide.2 ?_;go_wp2_with (go_at_call 139;refine(tY _ _ _ _ _).mono ?_;rintro e w' ⟨rfl,rfl⟩)
 simp only[Nat.add_assoc,OV]
 have eE:ay w (qx w.heap.size A m c a (U Z (a:Int))) [] (((((((w.alloc (J #[V A m c] 25)).alloc (J #[U Z (a:Int)] 3)).alloc (J #[U Z 0] 3)).alloc (J #[U Z 0] 3)).alloc (J #[U Z 0] 26)).alloc (J #[V A m c] 25)).alloc (J #[U Z (a:Int)] 3)):=by
  refine⟨((((((((Below.refl _ _).alloc (OD _) _).alloc (by simp) _).alloc (by simp;omega) _).alloc (by simp;omega) _).alloc (by simp;omega) _).alloc (by simp;omega) _).alloc (by simp;omega) _),?_,aF _⟩;unfold qx ny;refine aa.cons ?_ (aa.cons ?_ (aa.cons ?_ (aa.cons ?_ (aa.cons ?_ (aa.cons ?_ (aa.cons ?_ (ai _)))))))
  all_goals (repeat (first|(refine aE (ab.new _ _ _) ?_;simp[World.size_alloc];done)|refine ab.alloc ?_ _))
 have fJ:(((((((w.alloc (J #[V A m c] 25)).alloc (J #[U Z (a:Int)] 3)).alloc (J #[U Z 0] 3)).alloc (J #[U Z 0] 3)).alloc (J #[U Z 0] 26)).alloc (J #[V A m c] 25)).alloc (J #[U Z (a:Int)] 3)).heap.size=w.heap.size+7:=by simp
 generalize (((((((w.alloc (J #[V A m c] 25)).alloc (J #[U Z (a:Int)] 3)).alloc (J #[U Z 0] 3)).alloc (J #[U Z 0] 3)).alloc (J #[U Z 0] 26)).alloc (J #[V A m c] 25)).alloc (J #[U Z (a:Int)] 3))=W at eE fJ⊢;have av:Hid (w.heap.size<=W.heap.size):=O (by rw[fJ];omega);have Kx:=O fJ;have K9:=O (show ab W (w.heap.size+6) 3 #[U Z (a:Int)] from eE.2.1.head);have Kw:Hid (tV w A m c l a [] W):=O ⟨⟨U Z (a:Int),(λj h1 h2=>by simp at h2;omega),eE⟩⟩;clear eE fJ;refine(wpIn_wide (n:=5)).1 ?_
 refine sZ (α:=Nat) (enc:=tp l)
  (IS:= λpre W=>tV w A m c l a pre W/\ab W (w.heap.size+6) 3 #[U Z (a:Int)])
  (I:= λpre W=>tV w A m c l a pre W/\ab W (w.heap.size+6) 3 #[U Z ((a+Y pre:Nat):Int)])
  (I2:= λpre W=>tV w A m c l a pre W/\ab W (w.heap.size+6) 3 #[U Z (((a+Y pre:Nat):Int) - 1)])
  (IE:= λpre W=>tV w A m c l a pre W/\ab W (w.heap.size+6) 3 #[U Z ((a+Y pre:Nat):Int)])
  (S:= λxs=>oX l a xs/\8*m<=a+Y xs) (Sp:=oX l a)
  rfl (by decide) (gf:=183) (lb:= #[OC (some ⟨w.heap.size+6,0,none⟩),OC (some ⟨w.heap.size+5,0,none⟩)]) rfl trivial (enters_of Tryz.func183 (by kernel_rfl) rfl)
  (uu 4 (by decide) (w.heap.size+6) (w.heap.size+5) A m c l a HL.out hsz K8.out _ (λpre W v h=>JC v h) (λpre A B h hb=>gP pre A B h hb) ?hCs) (λ_=>rfl)
  (λcd pre W=>m9 w (ny w.heap.size v1 v2 v3) cd W)
  (λpre x g W=>tV w A m c l a pre W/\ab W (w.heap.size+6) 3 #[U Z ((a+Y pre:Nat):Int)])
  (OwnFrom.and (bq av.out _ _ _) (bj _ _ _)) (OwnFrom.and (bq av.out _ _ _) (bj _ _ _)) (OwnFrom.and (bq av.out _ _ _) (bj _ _ _))
  (λcd=>iu av.out _ _) (λx g=>OwnFrom.and (bq av.out _ _ _) (bj _ _ _)) ⟨Kw.out,K9.out⟩ ?round ?done ?stop
 case hCs=>
  rintro pre W' ⟨⟨u,hp,T⟩⟩;have G:=T.2.1;unfold qx at G;exact⟨G.tail.head,HA.out.below T.1⟩
 case round=>
  apply Exists.intro;refine And.intro ?_ ?_
  ·rintro lp pre x W' ⟨hI,hb⟩ K
   have HI:=O hI;have HB:=O hb;clear hI hb K;dsimp only[tp];gi_wp2
   obtain⟨g0,KC⟩:∃g0,W'.heap.size=g0:=⟨_,rfl⟩;exact⟨⟨g0,rfl,HI.out,HB.out⟩,KeepsFrom.refl _ _⟩
  ·rintro lp pre x g W' ⟨⟨⟨u,hp,T⟩⟩,hb⟩ K
   obtain⟨M,cE⟩:=yp K;have hu:=nA (show ab W' (w.heap.size+6) 3 #[u] from T.2.1.head) hb;simp at hu;subst hu;have HC:=O T;have HP:=O hp;have Ky:=O M;have KB:=O cE;have HB:=O hb;have dO:(pre++[x]).length=Y pre+1:=(by rw[OP,List.length_singleton]);have Ht:=O dO;have dy:=HL.out;have gj:x<8*m:=(by rw[<-dy];exact cE);have iP:a<=x:=(by omega);have G:=T.2.1;unfold qx ny at G;have y0:=G.tail.tail.head.cell 0;have y1:=G.tail.tail.tail.head.cell 0;(try dsimp only at y0 y1)
   by_cases aJ:aZ l x=0
   ·have dv:((aZ l x:Nat):Int)=0:=by omega
    have Kt:=O aJ;clear aJ dO dy gj iP G T hb K hp M cE;rw[dv];gi_wp2_with fail
    refine⟨KeepsFrom.refl _ _,trivial,⟨⟨U Z ((a+Y pre:Nat):Int),?_,HC.out⟩⟩,?_⟩
    ·rw[Ht.out]
     intro j h1 h2;rcases Nat.lt_or_ge j (a+Y pre) with h3|h3
     ·exact HP.out j h1 h3
     ·have:j=x:=by have:=Ky.out;omega
      rw[this];exact Kt.out
    ·refine cast (congrArg (λv:Int=>ab _ _ _ #[U Z v]) ?_) HB.out
     have:=Ht.out;omega
   ·have jY:=rH l x aJ
    have dv:((aZ l x:Nat):Int)=1:=(by omega);have C:=EV (l:=l) (p:=a) (z:=Y pre) (by omega) hp (by rw[<-M];exact aJ);have f0:=G.tail.tail.tail.tail.head.frozen 0;have f1:=G.tail.tail.tail.tail.tail.head.frozen 0;have f2:=G.tail.tail.tail.tail.tail.tail.head.frozen 0;have g0:=G.tail.tail.tail.tail.head.cell 0;have g1:=G.tail.tail.tail.tail.tail.head.cell 0;have g2:=G.tail.tail.tail.tail.tail.tail.head.cell 0;(try dsimp only at f0 f1 f2 g0 g1 g2);have hz:(Y pre:Int)=(x:Int) - (a:Int):=(by omega);have KG:OH.wrap ((x:Int) - (a:Int))=(x:Int) - (a:Int):=by rw[OB];omega
    by_cases cI:Y pre<15
    ·rw[if_pos cI] at C
     have Hu:(x:Int) - (a:Int)<15:=by omega
     have bM:v1=0/\v2=0/\v3=7:=by
      obtain⟨q1,N,q3⟩:=HV.out;unfold va at N;rw[C] at q1 N q3;exact⟨q1.symm,N.symm,q3.symm⟩
     obtain⟨rfl,rfl,rfl⟩:=bM;clear aJ dO dy gj iP G T hb K hp M cE jY C cI hz;rw[dv];gi_wp2_with fail
     exact⟨aq (aq (aq (KeepsFrom.refl _ _) _ _) _ _) _ _,rfl,sJ 0 0 7 HC.out⟩
    ·rw[if_neg cI] at C
     have Hu:¬(x:Int) - (a:Int)<15:=(by omega);have KD:OH.wrap ((x:Int)+1)=(x:Int)+1:=by rw[OB];omega
     by_cases h5:8*Y l<a+Y pre+5
     ·rw[if_pos h5] at C
      have bM:v1=0/\v2=0/\v3=5:=by
       obtain⟨q1,N,q3⟩:=HV.out;unfold va at N;rw[C] at q1 N q3;exact⟨q1.symm,N.symm,q3.symm⟩
      obtain⟨rfl,rfl,rfl⟩:=bM;have CR:=O (λW=>dj A m c ((x:Int)+1) 4 W (by omega) (by omega) (by omega) (by omega) (by omega));clear aJ dO dy gj iP G T hb K hp M cE jY C cI hz h5;rw[dv];gi_wp2_with (refine⟨trivial,?_⟩;gi_at_call 56;refine(callsIn_wide.2 (CR.out _)).mono ?_;rintro e w2 ⟨rfl,rfl⟩)
      exact⟨aq (aq (aq (KeepsFrom.refl _ _) _ _) _ _) _ _,rfl,sJ 0 0 5 HC.out⟩
     ·rw[if_neg h5] at C
      have bM:v1=((aB l (x+1) 4:Nat):Int)/\v2=(x:Int)+5 - (a:Int)/\v3=0:=by
       obtain⟨q1,N,q3⟩:=HV.out;unfold va at N;rw[C] at q1 N q3;rw[if_pos rfl] at N;dsimp only at q1 N q3;refine⟨by rw[<-q1,M],?_,q3.symm⟩;rw[<-N,M];push_cast;omega
      obtain⟨rfl,rfl,rfl⟩:=bM;have CR:=O (kD A m c l ((x:Int)+1) 4 W' (HA.out.below T.1) HL.out (by omega) (by omega) (by omega) (by omega) (by omega));rw[show ((x:Int)+1).toNat=x+1 by omega,show (4:Int).toNat=4 from rfl] at CR;have KE:OH.wrap ((x:Int)+5)=(x:Int)+5:=(by rw[OB];omega);have KF:OH.wrap ((x:Int)+5 - (a:Int))=(x:Int)+5 - (a:Int):=(by rw[OB];omega);have Ku:=O (bB T);have HY:Hid (ab W'.drew (w.heap.size+1) 3 #[U Z (a:Int)]):=O (by have h:=Ku.out.2.1;unfold qx at h;exact h.tail.tail.tail.head);generalize aB l (x+1) 4=nn at*;clear aJ dO dy gj iP G T hb K hp M cE jY C cI hz h5;rw[dv];gi_wp2_with (refine⟨trivial,?_⟩;gi_at_call 56;refine(callsIn_wide.2 CR.out).mono ?_;rintro e w2 ⟨rfl,rfl⟩)
      refine fm (λw'=>ab w' (w.heap.size+1) 3 #[U Z (a:Int)]) 6 (OG 0 (OG 1 (OG 2 (OG 3 (OG 4 (On 5 .done)))))) (by kernel_rfl) (by kernel_rfl) (by simp only[bY.out,Array.getD_eq_getD_getElem?,List.getElem?_toArray,List.getElem?_cons_zero,List.getElem?_cons_succ,Option.getD_some];rfl) (by simp only[List.map_cons,List.map_nil];rfl) (HY.out) (λPE K0=>?_)
      iterate 5
       refine af (v:=?_) rfl (by rfl) ?_ ?_
       rotate_left
       ·intro _ K3;(try dsimp only at K3);have z0:=K3.cell 0;(try dsimp only at z0);go_simp;(try with_reducible rfl)
       simp only[OA,OF,OE]
      refine bD _ (w':=?_) rfl (by rfl) ?_ ?_ ?_;rotate_left 1
      ·go_simp;(first|(with_reducible rfl)|(constructor<;>with_reducible rfl)|skip)
      ·exact HY.out.far (by simp) _
      refine K0 _ _ ?_;clear K0 PE;simp only[OJ,ON];go_wp2_with fail
      refine⟨rfl,?_⟩;gi_wp2_with fail
      exact⟨ff (aq (aq (aq (KeepsFrom.refl _ _) _ _) _ _) _ _),rfl,bB (sJ _ _ 0 HC.out)⟩
 case done=>
  rintro D xs W2 hD ⟨hS,K6⟩ ⟨⟨⟨u,hp,T⟩⟩,hb⟩ hK;have HC:=O T;have HK:=O hK;have HD:=O hD;have C:=EU (l:=l) (p:=a) (λj h1 h2=>hp j h1 (by have:=HL.out;omega))
  have bM:v1=0/\v2=0/\v3=5:=by
   obtain⟨q1,N,q3⟩:=HV.out;unfold va at N;rw[C] at q1 N q3;exact⟨q1.symm,N.symm,q3.symm⟩
  obtain⟨rfl,rfl,rfl⟩:=bM;have G:=T.2.1;unfold qx ny at G;have f0:=G.tail.tail.tail.tail.head.frozen 0;have f1:=G.tail.tail.tail.tail.tail.head.frozen 0;have f2:=G.tail.tail.tail.tail.tail.tail.head.frozen 0;have g0:=G.tail.tail.tail.tail.head.cell 0;have g1:=G.tail.tail.tail.tail.tail.head.cell 0;have g2:=G.tail.tail.tail.tail.tail.tail.head.cell 0;(try dsimp only at f0 f1 f2 g0 g1 g2);clear G T hb hS K6 hp hK hD C;gi_wp2_with fail
  go_wp2_with fail
  have Kz:=sJ 0 0 5 HC.out
  have JT:(((W2.setCell ⟨w.heap.size+2,0,none⟩ (U Z 0)).setCell ⟨w.heap.size+3,0,none⟩ (U Z 0)).setCell ⟨w.heap.size+4,0,none⟩ (U Z 5)).heap[D]? =some (.deferred (some [])):=by
   have KA:=HD.out;rw[Kx.out] at KA;rw[Below.heap_setCell _ _ _ D (by show D≠w.heap.size+4;omega),Below.heap_setCell _ _ _ D (by show D≠w.heap.size+3;omega),Below.heap_setCell _ _ _ D (by show D≠w.heap.size+2;omega)];exact HK.out
  have K4:=im (o':= .deferred none) Kz JT rfl (by have:=HD.out;have:=av.out;omega);exact eo JT (ET w.heap.size 0 0 5 _ _ K4.2.1 rfl rfl rfl) ⟨rfl,K4.1⟩
 case stop=>
  rintro D cd pre W2 hD K ⟨rfl,jg,K5,_⟩ hK;have Hl:=O jg;have Kv:=O K5;have HK:=O hK;have HD:=O hD;clear jg K5 hK K hD;gi_wp2_with fail
  exact eo HK.out (ET w.heap.size v1 v2 v3 _ _ (cL (o':= .deferred none) Kv.out HK.out rfl) rfl rfl rfl) ⟨rfl,cu Hl.out (Nat.le_trans av.out HD.out)⟩
def IZ (r:qc×Nat×Int) (p:Nat) (w:World) (e:Ending) (w':World):Prop:=
 ∃v,e=OM (Oi #[Ot #[U Z r.1.tm,U Z r.1.ty,v],U Z (kb r.2 p),U Z r.2.2])/\Below w.heap.size w w'/\w'.ownsRow w.heap.size 5 1 v r.1.sp.length (r.1.sp.map ag)
def ed (tm ty:Int) (v:Value):Array Value:= #[U Z tm,U Z ty,v]
def qw (h j gb g:Nat) (tm ty:Int) (v:Value):List aM:=[(j,32,ed tm ty v),(gb,161,#[OC (some ⟨g,0,none⟩)]),(h,32,ed 0 0 (V none 0 0))]
def tT (w:World) (j gb g:Nat) (tm ty:Int):List UInt8->World->Prop:=
 cS w (λ_ (_:Value)=>True) (λ_ v=>qw w.heap.size j gb g tm ty v) (λpre v=>[⟨w.heap.size,5,1,v,Y pre,pre.map ag⟩])
theorem Fv {L:List aM}{W j:World}{g:Nat}(h:aa L W)(D:W.grownBy j (some g))(C:∀p∈L,p.1≠g):aa L j:= λp B=>i7 (h p B) D (C p B)
theorem Gu {R:List a9}{W j:World}{g:Nat}{t:TypeId}{cs:Array Value}(h:ar R W)(G:ab W g t cs)(D:W.grownBy j (some g))(C:∀r∈R,r.e≠t):ar R j:= λr B=>rT (h r B) D G (C r B)
theorem G2 {w W C:World}{L:List aM}{R:List a9}{g:Nat}{t:TypeId}{cs:Array Value}(j:ay w L R W)(B:W.grownBy C (some g))(K:w.heap.size<=g)(I:ab W g t cs)(D:∀p∈L,p.1≠g) (G:∀r∈R,r.e≠t):ay w L R C:=
 ⟨rU j.1 B j.1.size K,Fv j.2.1 B D,Gu j.2.2 I B G⟩
theorem JW {w W B:World}{j gb g:Nat}{tm ty:Int}{pre:List UInt8}{cs:Array Value}(h:tT w j gb g tm ty pre W)(I:ab W g 163 cs)(M:W.grownBy B (some g))(T:w.heap.size<=g)(D:j≠g)(h2:gb≠g)(G:w.heap.size≠g):tT w j gb g tm ty pre B:=by
 obtain⟨⟨v,N,K⟩⟩:=h;refine⟨⟨v,N,G2 K M T I ?_ (by simp)⟩⟩;intro q C;simp only[qw,OU,OQ,or_false] at C;rcases C with rfl|rfl|rfl
 ·exact D
 ·exact h2
 ·exact G
theorem xR (h:Nat)(tm ty:Int)(v:Value)(n e:Int)(tmps:Array Value)(W:World)(j:ab W h 32 (ed tm ty v))(G:tmps.getD 4 undef=OC (some ⟨h,0,none⟩))(I:tmps.getD 5 undef=U Z n)(K:tmps.getD 6 undef=U Z e):
  (results Tryz.f86 tmps).run OI W= .ok (Oi #[Ot #[U Z tm,U Z ty,v],U Z n,U Z e]) W:=by
 unfold ed at j;have c0:=j.cell 0;have c1:=j.cell 1;have c2:=j.cell 2;simp at c0 c1 c2;have B:tmps[4]?.getD undef=OC (some ⟨h,0,none⟩):=by simpa using G
 have C:tmps[5]?.getD undef=U Z n:=by simpa using I
 have D:tmps[6]?.getD undef=U Z e:=by simpa using K
 simp[results,Tryz.results86,B,C,D,asAddr,c0,c1,c2,go_sem]
theorem Es {w W:World}{B gb g:Nat}{tm ty:Int}{v:Value}{R:List a9}(a b:Int)(u:Value)(I:ay w (qw w.heap.size B gb g tm ty v) R W)(_hne:B≠w.heap.size)(j:∀r∈R,r.e≠32):
  ay w [(w.heap.size,32,ed a b u)] R (((W.setCell ⟨w.heap.size,0,none⟩ (U Z a)).setCell ⟨w.heap.size,1,none⟩ (U Z b)).setCell ⟨w.heap.size,2,none⟩ u):=by
 have h2:ay w [(w.heap.size,32,ed 0 0 (V none 0 0))] R W:=aw (aw I);have C:=aV h2 (g:=w.heap.size) (OD _) 0 (U Z a) (w.heap.size,32,ed 0 0 (V none 0 0)) (by simp) rfl j;have D:=aV C (g:=w.heap.size) (OD _) 1 (U Z b) (w.heap.size,32,ed a 0 (V none 0 0)) (by simp[df,ed]) rfl j;have G:=aV D (g:=w.heap.size) (OD _) 2 u (w.heap.size,32,ed a b (V none 0 0)) (by simp[df,ed]) rfl j
 simpa [df,ed] using G
theorem FF {L:List aM}{W:World}{k:Nat}(h:aa L W)(j:∀q∈L,q.1≠k) (a b u:Value):aa L (((W.setCell ⟨k,0,none⟩ a).setCell ⟨k,1,none⟩ b).setCell ⟨k,2,none⟩ u):=
 ((h.far (p:=⟨k,0,none⟩) j a).far (p:=⟨k,1,none⟩) j b).far (p:=⟨k,2,none⟩) j u
theorem Ij (A:Option Addr)(n c:Nat)(l:List UInt8)(p:Nat)(w:World)(hA:Sl w A (l.map ag))(hl:Y l=n)(hsz:n<=2 ^ 40)(hp:p<=8*n):
  Calls OI 86 #[V A n c,U Z (p:Int)] w (IZ (iM l p) p w):=by
 have HA:=O hA;have HL:=O hl;have h0:¬((p:Int)<0):=by omega
 obtain⟨r,hr⟩:∃r,iM l p=r:=⟨_,rfl⟩;rw[hr];have HR:=O hr;have K9:=(Below.refl _ w).alloc (OD _) (J (ed 0 0 (V none 0 0)) 32);have KN:=K9.alloc K9.size (J (cW A n c p 0) 163);have KO:ab ((w.alloc (J (ed 0 0 (V none 0 0)) 32)).alloc (J (cW A n c p 0) 163)) w.heap.size 32 (ed 0 0 (V none 0 0)):=(ab.new _ _ _).alloc _;have KQ:ab ((w.alloc (J (ed 0 0 (V none 0 0)) 32)).alloc (J (cW A n c p 0) 163)) (w.heap.size+1) 163 (cW A n c p 0):=aE (ab.new _ _ _) (by simp);obtain⟨r1,C⟩:∃r,ib l p 0 5=r:=⟨_,rfl⟩
 have KL:∀W,ab W (w.heap.size+1) 163 (cW A n c p 0)->Below w.heap.size w W->Calls OI 141 #[OC (some ⟨w.heap.size+1,0,none⟩),U Z 5] W (GR (w.heap.size+1) A n c r1 W):= λW h1 h2=>by
  rw[<-C];exact ov (w.heap.size+1) A n c l p 0 5 W h1 (HA.out.below h2) hl hsz hp (by decide)
 have Kw:r1.2.1<=8*n:=by
  rw[<-C];unfold ib;rw[if_neg (by simp)]
  split
  ·exact hp
  ·dsimp only;omega
 obtain⟨r2,B⟩:∃r,ib l r1.2.1 r1.2.2 6=r:=⟨_,rfl⟩
 have KM:∀W,ab W (w.heap.size+1) 163 (cW A n c r1.2.1 r1.2.2)->Below w.heap.size w W->Calls OI 141 #[OC (some ⟨w.heap.size+1,0,none⟩),U Z 6] W (GR (w.heap.size+1) A n c r2 W):= λW h1 h2=>by
  rw[<-B];exact ov (w.heap.size+1) A n c l r1.2.1 r1.2.2 6 W h1 (HA.out.below h2) hl hsz Kw (by decide)
 have K5:(8*Y l<p+11/\r2.2.2=5/\r2.2.1<=8*n)\/(¬8*Y l<p+11/\r1.1=(aB l p 5:Nat)/\r2=(((aB l (p+5) 6:Nat):Int),p+11,(0:Int))):=by
  unfold ib at C;rw[if_neg (by simp)] at C
  by_cases h5:8*Y l<p+5
  ·rw[if_pos h5] at C
   subst C;unfold ib at B;rw[if_pos (by simp)] at B;subst B;exact .inl ⟨by omega,rfl,hp⟩
  ·rw[if_neg h5] at C
   subst C;unfold ib at B;rw[if_neg (by simp)] at B;dsimp only at B⊢
   by_cases h6:8*Y l<p+5+6
   ·rw[if_pos h6] at B
    subst B;exact .inl ⟨by omega,rfl,Kw⟩
   ·rw[if_neg h6] at B
    exact .inr ⟨by omega,rfl,B.symm⟩
 have KH:=O KL;have KI:=O KM;have M:=O K5;have KA:=O KO;have KB:=O KQ;have iP:=O KN;clear hA hl hr K9 KN KO KQ C B KL KM K5 Kw;refine(callsIn_wide (n:=5)).1 ?_;refine callsIn_of_wp_marks Tryz.func86 rfl trivial ?_ rfl;simp only[Tryz.ntmps86,Oa,Od,Og,OV,Om,Array.replicate_succ,Array.replicate_zero,OZ,OW,Oh,Oc];refine wpIn_wide.2 ?_;go_wp2_with fail
 refine(KH.out _ KB.out iP.out).mono ?_;rintro e w2 ⟨rfl,KR,Ku⟩;have jg:=O (rU iP.out Ku iP.out.size (Oq _));have KC:=O (i7 KA.out Ku (Oo (Of _)));have KE:=O KR;clear KR Ku;go_wp2_with fail
 refine(KI.out _ KE.out jg.out).mono ?_;rintro e w3 ⟨rfl,KT,Kv⟩;have jY:=O (rU jg.out Kv jg.out.size (Oq _));have KD:=O (i7 KC.out Kv (Oo (Of _)));have cE:=O KT;clear KT Kv KH KI iP jg KA KB KC KE;obtain⟨tm,Kz⟩:∃tm,r1.1=tm:=⟨_,rfl⟩;obtain⟨ty,p2,N⟩:=r2;rw[Kz];dsimp only at M cE⊢;rw[Kz] at M;obtain⟨g,hg⟩:∃g,w.heap.size+1=g:=⟨_,rfl⟩;rw[hg] at cE⊢;have HG:=O hg;obtain⟨j,KV⟩:∃j,w3.heap.size=j:=⟨_,rfl⟩;have K:=O KV;clear hg KV Kz r1;go_wp2_with (go_at_call 142;refine(Et _ _).mono ?_;rintro e w' ⟨rfl,rfl⟩)
 rw[K.out];have L9:g<w3.heap.size:=cE.out.lt;have La:w.heap.size<g:=by have:=HG.out;omega
 have dv:ay w (qw w.heap.size j (j+1) g tm ty (V none 0 0)) [⟨w.heap.size,5,1,V none 0 0,0,[]⟩] ((w3.alloc (J #[U Z tm,U Z ty,V none 0 0] 32)).alloc (J #[OC (some ⟨g,0,none⟩)] 161)):=by
  have h1:=jY.out.alloc jY.out.size (J #[U Z tm,U Z ty,V none 0 0] 32);refine⟨h1.alloc h1.size _,?_,ar.cons (Ob _ _ _ _) (aF _)⟩;unfold qw ed;refine aa.cons ?_ (aa.cons ?_ (aa.cons ?_ (ai _)))
  ·exact(aE (ab.new _ _ _) K.out).alloc _
  ·exact aE (ab.new _ _ _) (by simp[K.out])
  ·exact((KD.out).alloc _).alloc _
 have Kt:ab ((w3.alloc (J #[U Z tm,U Z ty,V none 0 0] 32)).alloc (J #[OC (some ⟨g,0,none⟩)] 161)) g 163 (cW A n c p2 N):=(cE.out.alloc _).alloc _;have JT:j≠g:=by have:=K.out;omega
 have K0:j+1≠g:=by have:=K.out;omega
 have K3:w.heap.size≠g:=by omega
 have K4:j≠w.heap.size:=by have:=K.out;omega
 generalize (w3.alloc (J #[U Z tm,U Z ty,V none 0 0] 32)).alloc (J #[OC (some ⟨g,0,none⟩)] 161)=W at dv Kt⊢;have kA:Hid (w.heap.size<=W.heap.size):=O dv.1.size;have KZ:Hid (w.heap.size<W.heap.size):=O dv.2.1.tail.tail.head.lt;have L4:=O Kt;have L5:Hid (tT w j (j+1) g tm ty [] W):=O ⟨⟨V none 0 0,trivial,dv⟩⟩
 have KX:p2<=8*n:=by
  rcases M.out with⟨_,_,h⟩|⟨h1,_,h⟩
  ·exact h
  ·have:p2=p+11:=(Prod.mk.inj (Prod.mk.inj h).2).1
   have:=HL.out;omega
 have HN:Hid (j≠g/\j+1≠g/\w.heap.size≠g/\j≠w.heap.size/\w.heap.size<=g/\w.heap.size<=j):=O ⟨JT,K0,K3,K4,by omega,by have:=jY.out.size;have:=K.out;omega⟩;have L7:=O KX;clear dv Kt JT K0 K3 K4 L9 La KX jY KD cE HG K w3;refine(wpIn_wide (n:=5)).1 ?_
 refine sZ (α:=UInt8) (enc:=BO)
  (IS:= λpre W=>tT w j (j+1) g tm ty pre W/\ab W g 163 (cW A n c p2 N))
  (I:= λpre W=>tT w j (j+1) g tm ty pre W/\ab W g 163 (cW A n c (p2+9*(Y pre+1)) 0))
  (I2:= λpre W=>tT w j (j+1) g tm ty pre W/\ab W g 163 (cW A n c (p2+9*Y pre) 0))
  (IE:= λpre W=>tT w j (j+1) g tm ty pre W/\ab W g 163 (cW A n c (eW l p2 N (Y pre)).1 (eW l p2 N (Y pre)).2))
  (S:=oW l p2 N) (Sp:=AF l p2)
  rfl (by decide) (gf:=184) (lb:= #[OC (some ⟨j+1,0,none⟩)]) rfl trivial (enters_of Tryz.func184 (by kernel_rfl) rfl)
  (ES 4 (by decide) g (j+1) A n c l p2 N HL.out hsz L7.out _ (λpre W W' cs h hb hg=>JW h hb hg HN.out.2.2.2.2.1 HN.out.1 HN.out.2.1 HN.out.2.2.1) ?hCs) (λ_=>rfl)
  (λ_ _ _=>False)
  (λpre x k W=>tT w j (j+1) g tm ty pre W/\ab W g 163 (cW A n c (p2+9*(Y pre+1)) 0))
  (OwnFrom.and (bq kA.out _ _ _) (bj _ _ _)) (OwnFrom.and (bq kA.out _ _ _) (bj _ _ _)) (OwnFrom.and (bq kA.out _ _ _) (bj _ _ _))
  (λcd _ _ _ _ h _ _=>h) (λx k=>OwnFrom.and (bq kA.out _ _ _) (bj _ _ _)) ⟨L5.out,L4.out⟩ ?round ?done ?stop
 case hCs=>
  rintro pre W' ⟨⟨v,hp,hc⟩⟩;exact⟨hc.2.1.tail.head,HA.out.below hc.1⟩
 case stop=>
  intro D cd pre W2 hD fJ hf;exact hf.elim
 case round=>
  apply Exists.intro;refine And.intro ?_ ?_
  ·rintro lp pre x W' ⟨hI,hb⟩ fJ
   have HI:=O hI;have HB:=O hb;clear hI hb fJ;dsimp only[BO];gi_wp2
   obtain⟨g0,Ld⟩:∃g0,W'.heap.size=g0:=⟨_,rfl⟩;exact⟨⟨g0,rfl,HI.out,HB.out⟩,KeepsFrom.refl _ _⟩
  ·rintro lp pre x k W' ⟨⟨⟨v,hp,hc⟩⟩,hb⟩ fJ
   obtain⟨A2,c2,gj⟩:=bg hc.2.2.head;dsimp only at gj;subst gj;have HC:=O hc;have HB:=O hb;have hx:=hc.2.1.head;unfold ed at hx;have y0:=hx.cell 2;have y1:=hx.frozen 2;(try dsimp only at y0 y1);have L6:Hid (Y pre<=32):=O (by have:=fJ.i.le;simp at this;omega);have Lb:x.toNat<256:=UInt8.toNat_lt _;have Lh:IntKind.u8.wrap (x.toNat:Int)=(x.toNat:Int):=(by rw[IntKind.wrap_u8];omega);clear hc hb hx fJ hp Lb;gi_wp2_with (gi_at_builtin;refine kY nC rfl rfl 1 [U .u8 (x.toNat:Int)] rfl HC.out rfl rfl (by intro u hu;simp at hu;subst hu;rfl) (by have:=L6.out;omega) ⟨OD _,HC.out.1.size⟩ (by simp[qw]) (by simp) ?_;intro v5 W5 Hl KU;obtain⟨A5,c5,e5⟩:=bg Hl.2.2.head;dsimp only at e5;subst e5;have L0:=O Hl;have KG:=O KU;have hy:=Hl.2.1.head;clear Hl KU;unfold ed at hy;have u0:=hy.cell 2;have u1:=hy.frozen 2;dsimp only at u0 u1;clear hy)
   have KW:(pre++[x]).length=Y pre+1:=(by simp);have KY:=aV L0.out (g:=j) HN.out.2.2.2.2.2 2 (V A5 (Y pre+1) c5) (j,32,ed tm ty (V A2 (Y pre) c2)) (by simp[qw]) rfl (by simp);refine⟨aq (iq (KeepsFrom.refl _ _) KG.out (gH HC.out.2.2.head)) _ _,trivial,⟨⟨V A5 (Y pre+1) c5,trivial,?_⟩⟩,?_⟩
   ·rw[KW,OS]
    have e1:j+1≠j:=(by omega);have e2:w.heap.size≠j:= λh=>HN.out.2.2.2.1 h.symm
    simpa [df,qw,ed,e2,ag] using KY
   ·rw[KW]
    exact((HB.out.grown KG.out (ba HC.out.2.2.head HB.out (by simp))).far (p:=⟨j,2,none⟩) (λh=>HN.out.1 h.symm) _)
 case done=>
  rintro D xs W2 hD hS ⟨⟨⟨v,hp,hc⟩⟩,hb⟩ hK;obtain⟨A2,c2,gj⟩:=bg hc.2.2.head;dsimp only at gj;subst gj;obtain⟨⟨q1,q2⟩,G⟩:∃q,eW l p2 N (Y xs)=q:=⟨_,rfl⟩;rw[G] at hb;dsimp only at hb
  have eE:(q2≠0/\r=(⟨0,0,[]⟩,0,q2))\/(q2=0/\r=(⟨tm,ty,xs⟩,q1,0)):=by
   have hr:=HR.out;unfold iM at hr;rcases M.out with⟨K8,rfl,_⟩|⟨K8,rfl,h⟩
   ·rw[if_pos K8] at hr
    unfold eW at G;rw[if_pos (by decide)] at G;obtain⟨_,rfl⟩:=Prod.mk.inj G;exact .inl ⟨by decide,hr.symm⟩
   ·have e1:ty=(aB l (p+5) 6:Nat):=(Prod.mk.inj h).1
    have e2:p2=p+11:=(Prod.mk.inj (Prod.mk.inj h).2).1;have e3:N=0:=(Prod.mk.inj (Prod.mk.inj h).2).2;rw[e3] at hS G;rw[if_neg K8,<-e2,hS.fin,G,<-e1] at hr;dsimp only at hr
    by_cases hz:q2=0
    ·subst hz
     rw[if_pos rfl,if_pos rfl] at hr;exact .inr ⟨rfl,hr.symm⟩
    ·rw[if_neg hz] at hr
     exact .inl ⟨hz,hr.symm⟩
  have Kx:p<=q1/\q1<=8*n+10\/q2≠0:=by
   rcases eE with⟨h,_⟩|⟨rfl,h⟩
   ·exact .inr h
   ·left
    unfold eW at G;have Li:=hS.q.le;have Le:=HL.out
    have h9:p<=p2:=by
     rcases M.out with⟨_,rfl,_⟩|⟨_,_,h⟩
     ·rw[if_pos (by decide)] at G
      exact absurd (Prod.mk.inj G).2 (by decide)
     ·have:p2=p+11:=(Prod.mk.inj (Prod.mk.inj h).2).1
      omega
    repeat' split at G
    all_goals (have:=(Prod.mk.inj G).1;omega)
  have HC:=O hc;have HK:=O hK;have HD:=O hD;have Ht:=O (show ab W2.drew g 163 (cW A n c q1 q2) from hb);have Lc:=O (show ay w (qw w.heap.size j (j+1) g tm ty (V A2 (Y xs) c2)) [⟨w.heap.size,5,1,V A2 (Y xs) c2,Y xs,xs.map ag⟩] W2.drew from bB hc);have T:=hc.2.1;unfold qw ed at T;have f0:=T.tail.tail.head.frozen 0;have f1:=T.tail.tail.head.frozen 1;have f2:=T.tail.tail.head.frozen 2;have y0:=T.tail.tail.head.cell 0;have y1:=T.tail.tail.head.cell 1;have y2:=T.tail.tail.head.cell 2;have dy:=hb;unfold cW at dy;have z2:=dy.cell 2;(try dsimp only at f0 f1 f2 y0 y1 y2 z2);have Hu:=O eE;have KK:∀X:World,X.heap[D]? =some (.deferred (some []))->X.drew.heap[D]? =some (.deferred (some [])):= λX h=>h;have L8:w.heap.size<D:=by have:=hD;have:=KZ.out;omega
  have dO:∀(a b:Int)(u:Value),((((W2.setCell ⟨w.heap.size,0,none⟩ (U Z a)).setCell ⟨w.heap.size,1,none⟩ (U Z b)).setCell ⟨w.heap.size,2,none⟩ u).drew).heap[D]? =some (.deferred (some [])):= λa b u=>by
   refine KK _ ?_;rw[Below.heap_setCell _ _ _ D (by show D≠w.heap.size;omega),Below.heap_setCell _ _ _ D (by show D≠w.heap.size;omega),Below.heap_setCell _ _ _ D (by show D≠w.heap.size;omega)];exact HK.out
  have kU:=O dO;have KJ:w.heap.size<=D:=(by omega);have KF:=O KJ;clear hc hb hK hD hS G T dy eE KK L8 dO KJ
  by_cases hz:q2=0
  ·subst hz
   rcases Hu.out with⟨h,_⟩|⟨_,Ky⟩
   ·exact absurd rfl h
   subst Ky
   have Lg:OH.wrap ((q1:Int) - (p:Int))=(q1:Int) - (p:Int):=by
    rcases Kx with h|h
    ·rw[OB];omega
    ·exact absurd rfl h
   clear Kx;gi_wp2_with fail
   go_wp2_with fail
   have av:Hid (aa [(j,32,ed tm ty (V A2 (Y xs) c2)),(g,163,cW A n c q1 0)] W2):=O (aa.cons HC.out.2.1.head (aa.cons Ht.out (ai _)));have K6:=O av.out.drew
   have rG:Hid (∀q∈[(j,32,ed tm ty (V A2 (Y xs) c2)),(g,163,cW A n c q1 0)],q.1≠w.heap.size):=O (by
    intro q G;simp only[OU,OQ,or_false] at G;rcases G with rfl|rfl
    ·exact HN.out.2.2.2.1
    ·exact Ne.symm HN.out.2.2.1)
   refine aP (λw'=>aa [(j,32,ed tm ty (V A2 (Y xs) c2)),(g,163,cW A n c q1 0)] w') 8 (OG 0 (OG 1 (OG 2 (OG 3 (OG 4 (OG 5 (OG 6 (On 7 .done)))))))) (K6.out) (λPE cI=>?_)
   iterate 7
    refine af (v:=?_) rfl (by rfl) ?_ ?_
    rotate_left
    ·intro _ aJ;(try dsimp only at aJ);have a:=aJ.head;have b:=aJ.tail.head;unfold ed at a;unfold cW at b;have a0:=a.cell 0;have a1:=a.cell 1;have a2:=a.cell 2;have b1:=b.cell 1;(try dsimp only at a0 a1 a2 b1);go_simp;(try with_reducible rfl)
    simp only[OA,OF,OE]
   refine bD _ (w':=?_) rfl (by rfl) ?_ ?_ ?_;rotate_left 1
   ·go_simp;(first|(with_reducible rfl)|(constructor<;>with_reducible rfl)|skip)
   ·exact aa.drew (FF av.out rG.out _ _ _)
   refine cI _ _ ?_;clear cI PE;simp only[OJ,ON];go_wp2_with fail
   refine⟨rfl,?_⟩;go_wp2_with fail
   have bM:=im (o':= .deferred none) (bB (Es tm ty (V A2 (Y xs) c2) HC.out HN.out.2.2.2.1 (by simp))) (kU.out tm ty (V A2 (Y xs) c2)) rfl KF.out;refine eo (kU.out tm ty (V A2 (Y xs) c2)) (xR w.heap.size tm ty (V A2 (Y xs) c2) ((q1:Int) - (p:Int)) 0 _ _ bM.2.1.head rfl rfl rfl) ⟨V A2 (Y xs) c2,?_,bM.1,bM.2.2.head⟩;unfold kb;rw[if_pos rfl]
  ·rcases Hu.out with⟨_,Ky⟩|⟨h,_⟩
   ·skip
    subst Ky;have Lf:(q2 !=0)=true:=(by simpa using hz);clear Kx;gi_wp2_with fail
    go_wp2_with fail
    have av:Hid (aa [(j,32,ed tm ty (V A2 (Y xs) c2)),(g,163,cW A n c q1 q2)] W2):=O (aa.cons HC.out.2.1.head (aa.cons Ht.out (ai _)));have K6:=O av.out.drew
    have rG:Hid (∀q∈[(j,32,ed tm ty (V A2 (Y xs) c2)),(g,163,cW A n c q1 q2)],q.1≠w.heap.size):=O (by
     intro q G;simp only[OU,OQ,or_false] at G;rcases G with rfl|rfl
     ·exact HN.out.2.2.2.1
     ·exact Ne.symm HN.out.2.2.1)
    refine aP (λw'=>aa [(j,32,ed tm ty (V A2 (Y xs) c2)),(g,163,cW A n c q1 q2)] w') 7 (OG 0 (OG 1 (OG 2 (OG 3 (OG 4 (On 5 (On 6 .done))))))) (K6.out) (λPE cI=>?_)
    iterate 5
     refine af (v:=?_) rfl (by rfl) ?_ ?_
     rotate_left
     ·intro _ aJ;(try dsimp only at aJ);have b:=aJ.tail.head;unfold cW at b;have b2:=b.cell 2;(try dsimp only at b2);go_simp;(try with_reducible rfl)
     simp only[OA,OF,OE]
    refine bD _ (w':=?_) rfl (by rfl) ?_ ?_ ?_;rotate_left 1
    ·go_simp;(first|(with_reducible rfl)|(constructor<;>with_reducible rfl)|skip)
    ·exact aa.drew (FF av.out rG.out _ _ _)
    refine aj (v:=?_) (w':=?_) rfl (by rfl) ?_ ?_ ?_;rotate_left 2
    ·go_simp;(try (constructor<;>with_reducible rfl))
    ·exact aa.drew (FF av.out rG.out _ _ _)
    simp only[OA,OF,OE];refine cI _ _ ?_;clear cI PE;simp only[OJ,ON];go_wp2_with fail
    refine⟨rfl,?_⟩;go_wp2_with fail
    have bM:=im (o':= .deferred none) (bB (Es 0 0 (V none 0 0) HC.out HN.out.2.2.2.1 (by simp))) (kU.out 0 0 (V none 0 0)) rfl KF.out;refine eo (kU.out 0 0 (V none 0 0)) (xR w.heap.size 0 0 (V none 0 0) 0 q2 _ _ bM.2.1.head rfl rfl rfl) ⟨V none 0 0,?_,bM.1,Ob _ _ _ _⟩;unfold kb;rw[if_neg hz]
   ·exact absurd h hz
theorem sj (tm ty:Int)(A:Option Addr)(n c:Nat)(w:World):Calls OI 37 #[Ot #[U Z tm,U Z ty,V A n c]] w λe w'=>e=OM (U Z (dJ ty))/\Below w.heap.size w w':=by
 have j:=O ((Below.refl _ w).alloc (OD _) (J #[U Z tm,U Z ty,V A n c] 32));unfold dJ
 go_enter Tryz.func37,Tryz.ntmps37
 go_wp2_with fail
 go_ret;exact⟨rfl,j.out⟩
def mo (tm ty:Int) (n:Nat):Bool:=decide (0<=tm)&&decide (tm<=31)&&decide (0<=ty)&&decide (ty<=63)&&decide (n<=32)
theorem uK (tm ty:Int)(A:Option Addr)(n c:Nat)(w:World):Calls OI 36 #[Ot #[U Z tm,U Z ty,V A n c]] w λe w'=>e=OM (U Z (if mo tm ty n then 0 else 2))/\Below w.heap.size w w':=by
 have j:=O ((Below.refl _ w).alloc (OD _) (J #[U Z tm,U Z ty,V A n c] 32))
 have he:mo tm ty n=(!decide (tm<0)&& !decide (31<tm)&& !decide (ty<0)&& !decide (63<ty)&& !decide ((32:Int)<(n:Int))):=by
  unfold mo;rw[Bool.eq_iff_iff];simp;omega
 rw[he];clear he
 cases B:decide (tm<0) with
 |true=>
  go_enter OL,OK
  go_wp2_with fail
  go_ret;exact⟨rfl,j.out⟩
 |false=>
  cases C:decide (31<tm) with
  |true=>
   go_enter OL,OK
   go_wp2_with fail
   go_ret;exact⟨rfl,j.out⟩
  |false=>
   cases D:decide (ty<0) with
   |true=>
    go_enter OL,OK
    go_wp2_with fail
    go_ret;exact⟨rfl,j.out⟩
   |false=>
    cases k4:decide (63<ty) with
    |true=>
     go_enter OL,OK
     go_wp2_with fail
     go_ret;exact⟨rfl,j.out⟩
    |false=>
     cases G:decide ((32:Int)<(n:Int)) with
     |true=>
      go_enter OL,OK
      go_wp2_with fail
      go_ret;exact⟨rfl,j.out⟩
     |false=>
      go_enter OL,OK
      go_wp2_with fail
      go_ret;exact⟨rfl,j.out⟩
theorem ot (n b:Nat)(hn:n<2 ^ 32)(hb:b<=32)(w:World):
  Calls OI 103 #[U Z (n:Int),U Z (b:Int)] w λe w'=>e=OM (Ol (bs (ak n b)))/\Below w.heap.size w w':=by
 have HN:=O hn;have k7:OH.wrap ((b:Int) - 1)=(b:Int) - 1:=by rw[OB];omega
 clear hn
 go_enter Tryz.func103,Tryz.ntmps103
 go_wp2_with fail
 go_loopg [6] b (λgk i=> λwr=>∃(j:Nat),j+gk=b/\i=U Z ((gk:Int) - 1)/\Hid (Lib.IsBuilder 174 5 w.heap.size w.heap.size (((ak n b).take j).map ag) wr)/\Hid (Below w.heap.size w wr))
 case atStart=>exact⟨0,by omega,rfl,O (by rw[Oj];exact qf w),O ((Below.refl _ _).alloc (OD _) _)⟩
 case round=>
  obtain⟨j,hj,rfl,HB,C⟩:=hrel
  cases gk with
  |zero=>
   have cE:j=b:=(by omega);have aJ:(ak n b).take j=ak n b:=OT (by rw[bf];omega);rw[aJ] at HB;have bM:Hid (Calls OI 153 #[OC (some ⟨w.heap.size,0,none⟩)] wr λe w'=>e=OM (Ol (bs (ak n b)))/\Below w.heap.size wr w'):=O (Tryz.Builder_String_any _ _ (ak n b) wr HB.out C.out.size);clear hj cE aJ;go_wp2_with (go_at_call 153;refine bM.out.mono ?_;rintro e w' ⟨rfl,B⟩;have D:=O B;clear B)
   go_ret;exact⟨rfl,C.out.trans D.out⟩
  |succ g=>
   have T:((g+1:Nat):Int) - 1=(g:Int):=(by omega);have dy:(0:Int)<=(g:Int):=(by omega);have dv:(g:Int)<=64:=(by omega);have eE:(g:Int).toNat=g:=(by omega);have dO:¬((g:Int)<0):=(by omega);obtain⟨q,hq⟩:∃q,n / 2 ^ g=q:=⟨_,rfl⟩;have fJ:((n:Int) / 2 ^ g)=(q:Int):=by rw[<-hq];exact_mod_cast rfl
   have K:q<2 ^ 62:=by
    have h1:q<=n:=(by rw[<-hq];exact Nat.div_le_self _ _);have h3:=HN.out;have h4:(2:Nat) ^ 32<2 ^ 62:=(by decide);omega
   have I:=xj q K;obtain⟨x,hx⟩:∃x,q % 2=x:=⟨_,rfl⟩;rw[hx] at I;have cI:x=0\/x=1:=(by omega);have av:b - 1 - j=g:=(by omega);have HL:Hid ((((ak n b).take j).map ag).length+1<=140737488355328):=O (by rw[List.length_map,Oe,bf];omega)
   have HT:Hid ((ak n b).take j++[if x=0 then(48:UInt8) else 49]=(ak n b).take (j+1)):=O (by
    rw[un n b j (by omega),av,hq,hx])
   have gj:OH.wrap ((g:Int) - 1)=(g:Int) - 1:=(by rw[OB];omega);have N:=O hj;rw[T];clear hj hq hx K av T;rcases cI with rfl|rfl
   ·simp only[Int.natCast_zero] at I
    go_wp2_with (go_at_call 152;refine(kE w.heap.size w.heap.size _ 48 wr HB.out HL.out C.out.size).mono ?_;rintro e w1 ⟨rfl,G,B⟩;have D:=O G;have M:=O B;clear G B)
    go_roundg g
    case measure=>omega
    case rel=>
     refine⟨j+1,by have:=N.out;omega,rfl,O ?_,O (C.out.trans M.out)⟩;rw[<-HT.out,OS];exact D.out
   ·simp only[OO] at I
    go_wp2_with (go_at_call 152;refine(kE w.heap.size w.heap.size _ 49 wr HB.out HL.out C.out.size).mono ?_;rintro e w1 ⟨rfl,G,B⟩;have D:=O G;have M:=O B;clear G B)
    go_roundg g
    case measure=>omega
    case rel=>
     refine⟨j+1,by have:=N.out;omega,rfl,O ?_,O (C.out.trans M.out)⟩;rw[<-HT.out,OS];exact D.out
theorem Ik (tm ty:Int)(sp:List UInt8)(A:Option Addr)(n c:Nat)(w:World)(hA:Sl w A (sp.map ag))(hn:Y sp=n)(gj:mo tm ty n=true):
  Calls OI 60 #[Ot #[U Z tm,U Z ty,V A n c]] w λe w'=>e=OM (Oi #[Ol (bs (kJ ⟨tm,ty,sp⟩)),U Z 0])/\Below w.heap.size w w':=by
 have HN:=O hn;have eE:Below w.heap.size w (w.alloc (J #[U Z tm,U Z ty,V A n c] 32)):=(Below.refl _ _).alloc (OD _) _;have aJ:=O eE;have iP:=O (hA.below eE);have B:ab (w.alloc (J #[U Z tm,U Z ty,V A n c] 32)) w.heap.size 32 #[U Z tm,U Z ty,V A n c]:=ab.new _ _ _;have bM:=O B;have CK:=O (λW=>uK tm ty A n c W);rw[gj] at CK;simp only[mo,Bool.and_eq_true,decide_eq_true_eq] at gj;obtain⟨⟨⟨⟨h1,h2⟩,h3⟩,h4⟩,h5⟩:=gj;obtain⟨a,rfl⟩:=OR h1;obtain⟨b,rfl⟩:=OR h3;have D1:=O (λW=>ot a 5 (by omega) (by decide) W);have D2:=O (λW=>ot b 6 (by omega) (by decide) W);simp only[OO] at D1 D2;unfold kJ;dsimp only;rw[OX,OX];have l1:=bf a 5;have l2:=bf b 6;generalize ak a 5=N at*;generalize ak b 6=T at*;obtain⟨hh,fJ⟩:∃hh,w.heap.size=hh:=⟨_,rfl⟩;have K4:=O fJ;rw[fJ] at B;have y0:=B.cell 0;have y1:=B.cell 1;have y2:=B.cell 2;(try dsimp only at y0 y1 y2);have he:bs []={data:= #[]}:=rfl;clear eE hA B h1 h2 h3 h4
 go_enter Tryz.func60,Tryz.ntmps60
 go_wp2_with (go_at_call 36;refine(CK.out _).mono ?_;rintro e w1 ⟨rfl,Hl⟩;have D:=O Hl;clear Hl)
 have Ht:ab w1 hh 32 #[U Z (a:Int),U Z (b:Int),V A n c]:=by rw[<-fJ];exact bM.out.below D.out bM.out.lt
 have G:=O (show ab w1.drew hh 32 #[U Z (a:Int),U Z (b:Int),V A n c] from Ht);have cE:=O (aJ.out.trans (D.out.mono aJ.out.size));have jg:=O (iP.out.below D.out);clear Ht bM D aJ iP CK y0 y1 y2;refine aP (λw'=>ab w' hh 32 #[U Z (a:Int),U Z (b:Int),V A n c]) 5 (OG 0 (OG 1 (OG 3 (OG 4 (On 2 .done))))) (G.out) (λPE kU=>?_)
 iterate 4
  refine af (v:=?_) rfl (by rfl) ?_ ?_
  rotate_left
  ·intro _ rG;(try dsimp only at rG);have c:=rG;have a0:=c.cell 0;have a1:=c.cell 1;(try dsimp only at a0 a1);go_simp;(try with_reducible rfl)
  simp only[OA,OF,OE]
 refine aG (f:=103) rfl (by rfl) (by first|(go_simp;done)|(go_simp;rfl)) (D1.out _) ?_;rintro e w2 ⟨rfl,K⟩;have I:=O (G.out.below K G.out.lt);have cI:=O (cE.out.drew.trans (K.mono cE.out.size));have jY:=O (jg.out.below ((Below.refl _ _).drew.trans K));refine⟨_,rfl,_,λ_ h=>h,I.out,?_⟩;simp only[OA,OF,OE];refine kU _ _ ?_;clear kU PE;simp only[OJ,ON];clear K G cE jg;go_wp2_with fail
 refine(D2.out _).mono ?_;rintro e w3 ⟨rfl,M⟩;have K3:=O (I.out.below M I.out.lt);have K6:=O (cI.out.trans (M.mono cI.out.size));have JT:=O (jY.out.below M);have Hu:=K3.out;have y2:=Hu.cell 2;(try dsimp only at y2);clear M I cI jY Hu;go_wp2_with fail
 refine⟨rfl,?_⟩;go_wp2_with fail
 go_loopg [5,23] n (λgk t i=> λwr=>∃(j:Nat),j+gk=n/\i=U Z (j:Int)/\t=Ol (bs ((N++T)++(sp.take j).flatMap λb=>49::ak b.toNat 8))/\Hid (Below w.heap.size w wr)/\Hid (Sl wr A (sp.map ag)))
 case atStart=>exact⟨0,by omega,rfl,by rw[Oj,List.flatMap_nil,List.append_nil],K6,JT⟩
 case round=>
  obtain⟨j,hj,rfl,rfl,dv,kA⟩:=hrel;have av:(N++T++(sp.take j).flatMap λb=>49::ak b.toNat 8).length<=10000:=by rw[OP,OP,rA,Oe];have:=HN.out;omega
  cases gk with
  |zero=>
   have C:j=n:=(by omega);have K9:¬((j:Int)<(n:Int)):=(by omega);have HR:Hid ((N++T++(sp.take j).flatMap λb=>49::ak b.toNat 8)++[48]=N++(T++dL sp)):=O (by rw[C,OT (by rw[HN.out];exact OD _)];unfold dL;simp only[OY]);generalize (N++T++(sp.take j).flatMap λb=>49::ak b.toNat 8)=L at HR av⊢;clear hj C;go_wp2_with fail
   go_ret2;exact⟨by rw[<-HR.out];rfl,by have h:=dv.out;rw[K4.out] at h;exact h⟩
  |succ g=>
   have K9:((j:Int)<(n:Int)):=(by omega);have Kt:¬((j:Int)<0):=(by omega);have C:j<(Y sp):=(by rw[HN.out];omega);obtain⟨b8,hb⟩:∃b,sp[j]=b:=⟨_,rfl⟩;obtain⟨ad,rfl,_,hc⟩:=kA.out.byte j C;rw[hb] at hc;have dy:b8.toNat<256:=UInt8.toNat_lt _;have Ku:OH.wrap ((j:Int)+1)=(j:Int)+1:=(by rw[OB];omega);have Kv:OH.wrap (b8.toNat:Int)=(b8.toNat:Int):=(by rw[OB];omega);have HR:Hid ((N++T++(sp.take j).flatMap λb=>49::ak b.toNat 8)++([49]++ak b8.toNat 8)=N++T++(sp.take (j+1)).flatMap λb=>49::ak b.toNat 8):=O (by rw[pP sp j C,hb];simp only[OY];rfl);generalize (N++T++(sp.take j).flatMap λb=>49::ak b.toNat 8)=L at HR av⊢;have C1:=O (λW=>ot b8.toNat 8 (by omega) (by decide) W);simp only[OO] at C1;have K5:=O hj;have l8:=bf b8.toNat 8;generalize ak b8.toNat 8=L3 at*;generalize b8.toNat=bn at*;clear hj C hb dy;go_wp2_with fail
   refine(C1.out _).mono ?_;rintro e w4 ⟨rfl,dO⟩;have K8:=O (dv.out.trans (dO.mono dv.out.size));have K0:=O (kA.out.below dO);clear dO;go_wp2_with fail
   go_roundg g
   case measure=>omega
   case rel=>exact⟨j+1,by have:=K5.out;omega,rfl,by rw[<-HR.out];rfl,K8,K0⟩
end Go.Proofs.YthhijgcfbjcgiaaGreatDoor
