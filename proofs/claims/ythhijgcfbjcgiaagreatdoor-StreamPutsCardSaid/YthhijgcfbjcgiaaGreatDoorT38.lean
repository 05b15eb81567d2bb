/- MGet, Find -/
import Derived.Test.YthhijgcfbjcgiaaGreatDoorT37
namespace Go.Proofs.YthhijgcfbjcgiaaGreatDoor
open Go Go.RowKit
attribute [local go_sem] Oper.semAt_some
set_option maxHeartbeats 16000000
set_option maxRecDepth 100000
open Go.IntKind renaming i64→O,wrap_i64→OV,i64→Oa
open Go.Value renaming int→U,slice→Y,pointer→X,bool→OA,tuple→OW,agg→Oe
open Go.Lib renaming hid→Z
open List renaming length→V,setIfInBounds_toArray→OB,append_toArray→OC,set_cons_succ→OD,set_cons_zero→OE,length_nil→OF,push_toArray→OG,size_toArray→OH,cons_append→OJ,length_cons→OK,nil_append→OM,mem_singleton→OT,drop_succ_cons→OX,length_append→OY,mem_map→OZ,drop_zero→Oc,mem_cons→Od
open Go.Obj renaming cells→J
open Go.Ending renaming returned→OI
open Nat renaming reduceAdd→OL,reduceSub→OO,le_trans→OQ,le_refl→Ob
open Tryz renaming prog→ON,ntmps145→OP,func145→OR
open Go.Proofs.YthhijgcfbjcgiaaGreatDoor.bY renaming take→OS,step→Of
open Go.World renaming ownsRow_nil→OU
def dC (m:aX) (v:Value):Array Value:= #[U O m.ad,U O m.kd,U O m.qu,U O m.x,U O m.y,U O m.pa,v]
structure wg (w:World) (r:aX×Int×Int) (e:Ending) (W':World):Prop where
 below:Below w.heap.size w W'
 ex:∃v,∃xs:List dB,e=OI (OW #[Oe (dC r.1 v),U O r.2.1,U O r.2.2])/\r.1.bl=xs.map (·.1)/\W'.ownsRow w.heap.size 93 2 v (V xs) (az ia xs)/\∀p∈xs,W'.ownsRow w.heap.size 189 2 (Y p.2.1 p.1.l.length p.2.2) p.1.l.length (az bd p.1.l)
theorem ka (h:Nat)(m:aX)(v:Value)(n e:Int)(tmps:Array Value)(W:World)(j:ab W h 55 (dC m v))(K:tmps.getD 8 undef=X (some ⟨h,0,none⟩))(M:tmps.getD 9 undef=U O n)(C:tmps.getD 10 undef=U O e):
  (results Tryz.f145 tmps).run ON W= .ok (OW #[Oe (dC m v),U O n,U O e]) W:=by
 unfold dC at*;have c0:=j.cell 0;have c1:=j.cell 1;have c2:=j.cell 2;have c3:=j.cell 3;have c4:=j.cell 4;have c5:=j.cell 5;have I:=j.cell 6;simp at c0 c1 c2 c3 c4 c5 I;have D:tmps[8]?.getD undef=X (some ⟨h,0,none⟩):=by simpa using K
 have G:tmps[9]?.getD undef=U O n:=by simpa using M
 have B:tmps[10]?.getD undef=U O e:=by simpa using C
 simp[results,Tryz.results145,D,G,B,asAddr,c0,c1,c2,c3,c4,c5,I,go_sem]
theorem Bd {W:World}{h:Nat}{m:aX}{v:Value}(B:ab W h 55 (dC m v))(a:aX)(u:Value):ab (((((((W.setCell ⟨h,0,none⟩ (U O a.ad)).setCell ⟨h,1,none⟩ (U O a.kd)).setCell ⟨h,2,none⟩ (U O a.qu)).setCell ⟨h,3,none⟩ (U O a.x)).setCell ⟨h,4,none⟩ (U O a.y)).setCell ⟨h,5,none⟩ (U O a.pa)).setCell ⟨h,6,none⟩ u) h 55 (dC a u):=by
 have j:=((((((B.set_ 0 (U O a.ad)).set_ 1 (U O a.kd)).set_ 2 (U O a.qu)).set_ 3 (U O a.x)).set_ 4 (U O a.y)).set_ 5 (U O a.pa)).set_ 6 u;unfold dC at*;simp only[OB,OE,OD] at j;exact j
theorem F1 {w W:World}{h:Nat}(B:Below w.heap.size w W)(j:w.heap.size<=h)(a:aX)(u:Value):Below w.heap.size w (((((((W.setCell ⟨h,0,none⟩ (U O a.ad)).setCell ⟨h,1,none⟩ (U O a.kd)).setCell ⟨h,2,none⟩ (U O a.qu)).setCell ⟨h,3,none⟩ (U O a.x)).setCell ⟨h,4,none⟩ (U O a.y)).setCell ⟨h,5,none⟩ (U O a.pa)).setCell ⟨h,6,none⟩ u):=
 ((((((B.setCell j _).setCell j _).setCell j _).setCell j _).setCell j _).setCell j _).setCell j _
theorem qm {w W:World}(e:Int)(j:Below w.heap.size w W):wg w (m0,0,e) (OI (OW #[Oe (dC m0 (Y none 0 0)),U O 0,U O e])) W:=
 ⟨j,Y none 0 0,[],rfl,rfl,OU _ _ _ _,λp B=>by cases B⟩
theorem dw.setE {K W:World}{g B:Nat}{A:Option Addr}{n c:Nat}{l:List UInt8}{M:aY}{L:List aM}{ts:List Nat}{u:Nat}{cs:Array Value}(h:dw K g A n c l M L ts u W)(I:K.heap.size<=B)(G:ab W B 26 cs)(v:Value)(hL:aa L (W.setCell ⟨B,0,none⟩ v)):dw K g A n c l M L ts u (W.setCell ⟨B,0,none⟩ v):=by
 obtain⟨⟨s,bl,v',xs,N,C,T⟩,hc⟩:=h;refine⟨⟨s,bl,v',xs,N,⟨C.below.setCell (p:=⟨B,0,none⟩) I _,C.cell.far (p:=⟨B,0,none⟩) (aT C.cell G (by simp)) v,?_,λq hq=>?_⟩,T⟩,hL⟩
 ·exact mt C.row (λg' D j=>j.far (p:=⟨B,0,none⟩) (aT j G (by simp)) v)
 ·exact mt (C.bl q hq) (λg' D j=>j.far (p:=⟨B,0,none⟩) (aT j G (by simp)) v)
structure IV (w:World) (g:Nat) (A:Option Addr) (n c:Nat) (pt:Bool×Bool×Bool×Bool×Bool) (x y:Int) (bc h8 ge:Nat) (E:Int) (cd:Code) (W:World):Prop where
 cd:cd= .exit 1
 ne:E≠0
 st:kB g A n c pt x y [(bc,206,#[X (some ⟨g,0,none⟩)])] W
 mm:ab W h8 55 (dC m0 (Y none 0 0))
 ee:ab W ge 26 #[U O E]
 below:Below w.heap.size w W
theorem H6 {w:World}{g:Nat}{A:Option Addr}{n c:Nat}{pt:Bool×Bool×Bool×Bool×Bool}{x y:Int}{G h8 I:Nat}{E:Int}{cd:Code}{B:Nat}(hB:w.heap.size<=B):OwnFrom B (λ(_:List jq) W=>IV w g A n c pt x y G h8 I E cd W):=by
 rintro pre W W' row ⟨K,h2,⟨M,s,N,T⟩,h6,h7,C⟩ D j;exact⟨K,h2,⟨M.grown D (λr e=>(j r e).2),s,dk N D (λr e=>(j r e).2),T⟩,dk h6 D (λr e=>(j r e).2),dk h7 D (λr e=>(j r e).2),js C D (λr e=>OQ hB (j r e).1) C.size⟩
theorem Bq (l:List UInt8):∀(ts:List Nat){s B:aY}{bl j:List bH},br l ts s bl=((B,j),0)->B.ad=s.ad
 |[],s,B,bl,j,h=>by
  simp only[br,Prod.mk.injEq,and_true] at h;obtain⟨rfl,rfl⟩:=h;rfl
 |t::ts,s,B,bl,j,h=>by
  rw[de] at h
  split at h
  ·rename_i he
   rw[(Prod.mk.inj h).2] at he
   cases he
  ·have C:=Bq l ts h
   have h2:(ax s t).ad=s.ad:=by unfold ax;split<;>rfl
   have D:(aC l (ax s t) t).1.1.ad=(ax s t).ad:=by
    unfold aC
    split
    ·rfl
    ·split<;>rfl
    ·split<;>rfl
    ·split<;>rfl
    ·rfl
    ·rfl
   rw[C,D,h2]
theorem Hx {w W:World}{h:Nat}{m:aX}{v:Value}{R:List a9}(B:ay w [(h,55,dC m v)] R W)(D:w.heap.size<=h)(C:∀r∈R,r.e≠55) (a:aX) (u:Value):
  ay w [(h,55,dC a u)] R (((((((W.setCell ⟨h,0,none⟩ (U O a.ad)).setCell ⟨h,1,none⟩ (U O a.kd)).setCell ⟨h,2,none⟩ (U O a.qu)).setCell ⟨h,3,none⟩ (U O a.x)).setCell ⟨h,4,none⟩ (U O a.y)).setCell ⟨h,5,none⟩ (U O a.pa)).setCell ⟨h,6,none⟩ u):=by
 have one:∀{W:World}{cs:Array Value}(i:Nat)(u:Value),ay w [(h,55,cs)] R W->ay w [(h,55,cs.setIfInBounds i u)] R (W.setCell ⟨h,i,none⟩ u):= λ{W cs} i u B=>by
  have h2:=aV B D i u (h,55,cs) (by simp) rfl C
  simpa [df] using h2
 have j:=one 6 u (one 5 (U O a.pa) (one 4 (U O a.y) (one 3 (U O a.x) (one 2 (U O a.qu) (one 1 (U O a.kd) (one 0 (U O a.ad) B))))));unfold dC at j⊢;simp only[OB,OE,OD] at j;exact j
def Ba (b:Nat) (v:Value) (xs:List dB):List a9:=⟨b,93,2,v,V xs,az ia xs⟩::xs.map λp=>⟨b,189,2,Y p.2.1 p.1.l.length p.2.2,p.1.l.length,az bd p.1.l⟩
theorem GV {b:Nat}{v:Value}{xs:List dB}:∀r∈Ba b v xs,r.e≠55:=by
 intro r j;unfold Ba at j;rcases Od.1 j with rfl|j
 ·simp
 ·obtain⟨p,_,rfl⟩:=OZ.1 j
  simp
theorem Bc {w W:World}{h:Nat}{m:aX}{v:Value}{xs:List dB}{n e:Int}(j:ay w [(h,55,dC m v)] (Ba w.heap.size v xs) W)(B:m.bl=xs.map (·.1)):wg w (m,n,e) (OI (OW #[Oe (dC m v),U O n,U O e])) W:=
 ⟨j.1,v,xs,rfl,B,j.2.2.head,λp C=>j.2.2.tail ⟨w.heap.size,189,2,Y p.2.1 p.1.l.length p.2.2,p.1.l.length,az bd p.1.l⟩ (OZ.2 ⟨p,C,rfl⟩)⟩
theorem Hy {j W:World}{g:Nat}{A:Option Addr}{n c:Nat}{s:aY}{xs:List dB}{L:List aM}(h:ii j g A n c s xs W)(B:aa L W):ay j L (Ba j.heap.size s.v xs) W:=by
 refine⟨h.below,B,ar.cons h.row (λr D=>?_)⟩;obtain⟨p,C,rfl⟩:=OZ.1 D;exact h.bl p C
theorem Kf {W:World}{h D:Nat}{m:aX}{v:Value}{x:Option (List Deferred)}(C:ab W h 55 (dC m v))(B:W.heap[D]? =some (.deferred x)):D≠h:=by
 rintro rfl;have j:W.heap[D]? =some (J (dC m v) 55 (0,0)):=C;rw[B] at j
 cases j
theorem F2 {W:World}{h D:Nat}(j:D≠h)(u0 u1 u2 u3 u4 u5 u6:Value):(((((((W.setCell ⟨h,0,none⟩ u0).setCell ⟨h,1,none⟩ u1).setCell ⟨h,2,none⟩ u2).setCell ⟨h,3,none⟩ u3).setCell ⟨h,4,none⟩ u4).setCell ⟨h,5,none⟩ u5).setCell ⟨h,6,none⟩ u6).heap[D]? =W.heap[D]? :=by
 rw[Below.heap_setCell _ _ _ D j,Below.heap_setCell _ _ _ D j,Below.heap_setCell _ _ _ D j,Below.heap_setCell _ _ _ D j,Below.heap_setCell _ _ _ D j,Below.heap_setCell _ _ _ D j,Below.heap_setCell _ _ _ D j]
theorem Bb {w W:World}{h D:Nat}{m:aX}{v:Value}{R:List a9}(C:ay w [(h,55,dC m v)] R W)(M:w.heap.size<=h)(K:∀r∈R,r.e≠55) (B:W.heap[D]? =some (.deferred (some []))) (I:w.heap.size<=D) (a:aX) (u:Value):
  (((((((W.setCell ⟨h,0,none⟩ (U O a.ad)).setCell ⟨h,1,none⟩ (U O a.kd)).setCell ⟨h,2,none⟩ (U O a.qu)).setCell ⟨h,3,none⟩ (U O a.x)).setCell ⟨h,4,none⟩ (U O a.y)).setCell ⟨h,5,none⟩ (U O a.pa)).setCell ⟨h,6,none⟩ u).drew.heap[D]? =some (.deferred (some []))/\
  ay w [(h,55,dC a u)] R ((((((((W.setCell ⟨h,0,none⟩ (U O a.ad)).setCell ⟨h,1,none⟩ (U O a.kd)).setCell ⟨h,2,none⟩ (U O a.qu)).setCell ⟨h,3,none⟩ (U O a.x)).setCell ⟨h,4,none⟩ (U O a.y)).setCell ⟨h,5,none⟩ (U O a.pa)).setCell ⟨h,6,none⟩ u).drew.putObj D (.deferred none)):=by
 have hd:∀N:World,N.heap[D]? =some (.deferred (some []))->N.drew.heap[D]? =some (.deferred (some [])):= λN h=>h;have j:=(F2 (Kf C.2.1.head B) (U O a.ad) (U O a.kd) (U O a.qu) (U O a.x) (U O a.y) (U O a.pa) u).trans B;have G:=Hx C M K a u;generalize ((((((W.setCell ⟨h,0,none⟩ (U O a.ad)).setCell ⟨h,1,none⟩ (U O a.kd)).setCell ⟨h,2,none⟩ (U O a.qu)).setCell ⟨h,3,none⟩ (U O a.x)).setCell ⟨h,4,none⟩ (U O a.y)).setCell ⟨h,5,none⟩ (U O a.pa)).setCell ⟨h,6,none⟩ u=N at j G⊢;exact⟨hd N j,im (bB G) (hd N j) rfl I⟩
def gu (g j C B:Nat):List aM:=(j,206,#[X (some ⟨g,0,none⟩)])::[(C,55,dC m0 (Y none 0 0)),(B,26,#[U O 0])]
theorem lQ {W:World}{g C G j:Nat}(h:aa (gu g C G j) W):aa (gu g C G j) (W.setCell ⟨j,0,none⟩ (U O 0)):=by
 unfold gu at*;have D:=h.head;have h2:=h.tail.head;have B:=h.tail.tail.head;refine aa.cons (D.far (p:=⟨j,0,none⟩) (aT D B (by simp)) _) (aa.cons (h2.far (p:=⟨j,0,none⟩) (aT h2 B (by simp)) _) (aa.cons ?_ (ai _)));exact B.set_ 0 (U O 0)
theorem nH {w W:World}{g M N j:Nat}{A:Option Addr}{n c:Nat}{l:List UInt8}{C:aY}{ts:List Nat}{t:Nat}{er E:Int}(I:w.heap.size<=j)(hE:(jF l C).2=E)(h:tU w g A n c l C (gu g M N j) ts t er W)(B:er≠0):IV w g A n c (aC l C 0).1.1.pt C.x C.y M N j E (.exit 1) (W.setCell ⟨j,0,none⟩ (U O er)):=by
 obtain⟨hb,D,⟨s,T,h1⟩,_,K⟩:=h;have he:E=er:=hE.symm.trans (K B);unfold gu at D;have k1:=D.head;have k2:=D.tail.head;have G:=D.tail.tail.head;refine⟨rfl,by rw[he];exact B,⟨aa.cons (k1.far (p:=⟨j,0,none⟩) (aT k1 G (by simp)) _) (ai _),s,T.far (p:=⟨j,0,none⟩) (aT T G (by simp)) _,h1⟩,k2.far (p:=⟨j,0,none⟩) (aT k2 G (by simp)) _,?_,hb.setCell (p:=⟨j,0,none⟩) I _⟩;rw[he];exact G.set_ 0 (U O er)
theorem Eb (A:Option Addr)(n c:Nat)(l:List UInt8)(i ad:Int)(x:bA)(w:World)(hA:Sl w A (l.map ag))(hn:V l=n)(hsz:n<=2 ^ 47)(hT:Ts w)(hi: -9223372036854775808<=i/\i<=9223372036854775807):
  Calls ON 145 #[Y A n c,U O i,U O ad,dY x] w (wg w (cH l i ad x)):=by
 obtain⟨r,hr⟩:∃r,cH l i ad x=r:=⟨_,rfl⟩;have Hu:=Z (λW=>qK x ad W);have KJ:=Z (λW h1 h2 h3=>mP x ad W h1 h2 h3);have kU:=Z (λv h1 h2=>F3 l i ad x v h1 h2);rw[hr] at kU⊢;have HA:=Z hA;have HN:=Z hn;have HT:=Z hT;clear hA hn hT;have KX:Below w.heap.size w (w.alloc (J #[U O x.ad,OA x.had,U O x.x,U O x.y] 102)):=(Below.refl _ _).alloc (Ob _) _;have Lg:=KX.alloc KX.size (J #[U O 0,U O 0,U O 0,U O 0,U O 0,U O 0,Y none 0 0] 55);have Lj:ab ((w.alloc (J #[U O x.ad,OA x.had,U O x.x,U O x.y] 102)).alloc (J #[U O 0,U O 0,U O 0,U O 0,U O 0,U O 0,Y none 0 0] 55)) (w.heap.size+1) 55 (dC m0 (Y none 0 0)):=aE (ab.new _ _ _) (by simp);have gj:=Z Lg;have kA:=Z Lj;clear KX Lg Lj
 by_cases h1:i<0\/ad<1\/33<ad
 ·have L8:r=(m0,0,3):=by rw[<-hr];unfold cH;rw[if_pos h1]
  subst L8;unfold dY;clear hr kU Hu KJ;rcases Decidable.em (i<0) with h2|h2
  ·skip
   refine(callsIn_wide (n:=5)).1 ?_;refine callsIn_of_wp_marks OR rfl trivial ?_ rfl;simp only[OP,OH,OK,OF,OL,OO,Array.replicate_succ,Array.replicate_zero,OG,OC,OM,OJ];refine wpIn_wide.2 ?_;go_wp2_with fail
   go_step3
   go_wp2_with fail
   rw[Exit.noGoto_ret];exact iy (ka (w.heap.size+1) m0 (Y none 0 0) 0 3 _ _ kA.out rfl rfl rfl) (qm 3 gj.out)
  ·rcases Decidable.em (ad<1) with h3|h3
   ·skip
    refine(callsIn_wide (n:=5)).1 ?_;refine callsIn_of_wp_marks OR rfl trivial ?_ rfl;simp only[OP,OH,OK,OF,OL,OO,Array.replicate_succ,Array.replicate_zero,OG,OC,OM,OJ];refine wpIn_wide.2 ?_;go_wp2_with fail
    go_step3
    go_wp2_with fail
    rw[Exit.noGoto_ret];exact iy (ka (w.heap.size+1) m0 (Y none 0 0) 0 3 _ _ kA.out rfl rfl rfl) (qm 3 gj.out)
   ·have h4:33<ad:=by omega
    refine(callsIn_wide (n:=5)).1 ?_;refine callsIn_of_wp_marks OR rfl trivial ?_ rfl;simp only[OP,OH,OK,OF,OL,OO,Array.replicate_succ,Array.replicate_zero,OG,OC,OM,OJ];refine wpIn_wide.2 ?_;go_wp2_with fail
    go_step3
    go_wp2_with fail
    rw[Exit.noGoto_ret];exact iy (ka (w.heap.size+1) m0 (Y none 0 0) 0 3 _ _ kA.out rfl rfl rfl) (qm 3 gj.out)
 have KR:=Z h1;have k1:¬i<0:=by omega
 have k2:¬ad<1:=by omega
 have k3:¬33<ad:=by omega
 clear h1
 cases hx:da x ad with
 |false=>
  have L8:r=(m0,0,2):=(by rw[<-hr];unfold cH;rw[if_neg KR.out,hx];rfl);subst L8;rw[hx] at Hu;have K3:=Hu;unfold dY at K3⊢;clear hr kU Hu KJ;refine(callsIn_wide (n:=5)).1 ?_;refine callsIn_of_wp_marks OR rfl trivial ?_ rfl;simp only[OP,OH,OK,OF,OL,OO,Array.replicate_succ,Array.replicate_zero,OG,OC,OM,OJ];refine wpIn_wide.2 ?_;go_wp2_with fail
  go_step3
  go_wp2_with (go_at_call 105;refine(K3.out _).mono ?_;rintro e w2 ⟨rfl,rG⟩;have K4:=Z rG;have K5:=Z (kA.out.below rG kA.out.lt);clear rG;have cE:=K5.out;unfold dC m0 at cE;have z0:=cE.frozen 0;have z1:=cE.frozen 1;have z2:=cE.frozen 2;have z3:=cE.frozen 3;have z4:=cE.frozen 4;have z5:=cE.frozen 5;have z6:=cE.frozen 6;have y0:=cE.cell 0;have y1:=cE.cell 1;have y2:=cE.cell 2;have y3:=cE.cell 3;have y4:=cE.cell 4;have y5:=cE.cell 5;have y6:=cE.cell 6;clear cE;simp at y0 y1 y2 y3 y4 y5 y6)
  rw[Exit.noGoto_ret];exact iy (ka (w.heap.size+1) m0 (Y none 0 0) 0 2 _ _ (Bd K5.out m0 (Y none 0 0)) rfl rfl rfl) (qm 2 (F1 (gj.out.trans (K4.out.mono gj.out.size)) (by omega) m0 (Y none 0 0)))
 |true=>
  rw[hx] at Hu;have Ky:=hx;unfold da at Ky;simp only[Bool.and_eq_true,decide_eq_true_eq] at Ky;have Kv:=Z (λW=>KJ.out W Ky.1.1.1.1 Ky.1.1.1.2 (by omega));have Ku:=Z (uL hx);have KN:=Z (λv=>kU.out v KR.out hx);have K3:=Hu;obtain⟨⟨px,py⟩,L7⟩:∃pr,cZ ad (ad - x.ad) x.had x.x x.y=pr:=⟨_,rfl⟩;rw[L7] at Kv Ku;have Le:Hid (∀v,sn i ad x v=⟨i,(false,false,false,false,false),ad,0,0,0,0,0,v,px,py⟩):=Z (λv=>by unfold sn;rw[L7]);unfold dY at K3 Kv⊢;dsimp only at Kv;clear hr kU Hu KJ Ky L7 hx;refine(callsIn_wide (n:=5)).1 ?_;refine callsIn_of_wp_marks OR rfl trivial ?_ rfl;simp only[OP,OH,OK,OF,OL,OO,Array.replicate_succ,Array.replicate_zero,OG,OC,OM,OJ];refine wpIn_wide.2 ?_;go_wp2_with fail
  go_step3
  go_wp2_with (first|(go_at_call 105;refine(K3.out _).mono ?_;rintro e w2 ⟨rfl,rG⟩;have K4:=Z (gj.out.trans (rG.mono gj.out.size));have K5:=Z (kA.out.below rG kA.out.lt);have K8:=((ab.new w 102 #[U O x.ad,OA x.had,U O x.x,U O x.y]).alloc (J #[U O 0,U O 0,U O 0,U O 0,U O 0,U O 0,Y none 0 0] 55)).below rG (by simp;omega);clear rG;have L9:=Z K8;have x0:=K8.cell 0;have x1:=K8.cell 1;have x2:=K8.cell 2;have x3:=K8.cell 3;clear K8;(try dsimp only at x0 x1 x2 x3);obtain⟨g,hg⟩:∃g,w2.heap.size=g:=⟨_,rfl⟩;have Kz:=L9.out.alloc (J #[Y A n c,U O i,OA false,OA false,OA false,OA false,OA false,U O ad,U O 0,U O 0,U O 0,U O 0,U O 0,Y none 0 0,U O 0,U O 0] 208);have u0:=Kz.cell 0;have u1:=Kz.cell 1;have u2:=Kz.cell 2;have u3:=Kz.cell 3;clear Kz;(try dsimp only at u0 u1 u2 u3);have KW:=Z (aE (ab.new w2 208 #[Y A n c,U O i,OA false,OA false,OA false,OA false,OA false,U O ad,U O 0,U O 0,U O 0,U O 0,U O 0,Y none 0 0,U O 0,U O 0]) hg);have KV:=Z (K5.out.alloc (J #[Y A n c,U O i,OA false,OA false,OA false,OA false,OA false,U O ad,U O 0,U O 0,U O 0,U O 0,U O 0,Y none 0 0,U O 0,U O 0] 208));have KT:=Z (K4.out.alloc K4.out.size (J #[Y A n c,U O i,OA false,OA false,OA false,OA false,OA false,U O ad,U O 0,U O 0,U O 0,U O 0,U O 0,Y none 0 0,U O 0,U O 0] 208));have HG:=Z (show w.heap.size+2<=g by have h:=K4.out.size;have h2:=K5.out.lt;rw[hg] at h2;omega))|(go_at_call 108;refine(Kv.out _).mono ?_;rintro e w3 ⟨rfl,KK⟩;clear u0 u1 u2 u3 x0 x1 x2 x3;have K9:=KW.out.below KK KW.out.lt;have Lc:=Z (KV.out.below KK KV.out.lt);have KE:=Z (KT.out.trans (KK.mono KT.out.size));clear KK;have u14:=K9.cell 14;have u15:=K9.cell 15;have Lp:=K9.frozen 14;have Lq:=K9.frozen 15;have KO:=Z K9;clear K9;(try dsimp only at u14 u15 Lp Lq)))
  have fJ:w.heap.size<=g:=by have:=HG.out;omega
  have L0:ii w g A n c ⟨i,(false,false,false,false,false),ad,0,0,0,0,0,Y none 0 0,px,py⟩ [] (((w3.setCell ⟨g,14,none⟩ (U O px)).setCell ⟨g,15,none⟩ (U O py)).alloc (J #[U O 0] 26)):=by
   refine⟨(((KE.out.setCell (p:=⟨g,14,none⟩) fJ _).setCell (p:=⟨g,15,none⟩) fJ _).alloc (by have h:=KE.out.size;simpa using h) _),?_,OU _ _ _ _,λp hp=>by cases hp⟩;have h1:=((KO.out.set_ 14 (U O px)).set_ 15 (U O py)).alloc (J #[U O 0] 26);simp only[OB,OE,OD] at h1;exact h1
  have KI:ab (((w3.setCell ⟨g,14,none⟩ (U O px)).setCell ⟨g,15,none⟩ (U O py)).alloc (J #[U O 0] 26)) (w.heap.size+1) 55 (dC m0 (Y none 0 0)):=((Lc.out.far (p:=⟨g,14,none⟩) (by have:=HG.out;show w.heap.size+1≠g;omega) _).far (p:=⟨g,15,none⟩) (by have:=HG.out;show w.heap.size+1≠g;omega) _).alloc _;have KH:ab (((w3.setCell ⟨g,14,none⟩ (U O px)).setCell ⟨g,15,none⟩ (U O py)).alloc (J #[U O 0] 26)) w3.heap.size 26 #[U O 0]:=aE (ab.new _ _ _) (by simp);generalize ((w3.setCell ⟨g,14,none⟩ (U O px)).setCell ⟨g,15,none⟩ (U O py)).alloc (J #[U O 0] 26)=W5 at L0 KI KH⊢;obtain⟨ge,L6⟩:∃ge,w3.heap.size=ge:=⟨_,rfl⟩;rw[L6] at KH⊢;obtain⟨N,Ln⟩:∃N,w.heap.size+1=N:=⟨_,rfl⟩;rw[Ln] at KI⊢;have Lb:=Z (show w.heap.size<=N by omega);have dy:=Z (show w.heap.size<=ge by rw[<-L6];exact KE.out.size);have Kw:=Z L0;have Ht:=Z KI;have eE:=Z KH;clear L0 KI KH L6 Ln KE KO Lc KT KV KW L9 K5 K4 gj kA HG u14 u15 Lp Lq hg;obtain⟨bc,Ll⟩:∃bc,W5.heap.size=bc:=⟨_,rfl⟩;go_step3
  go_wp2_with (go_at_call 188;refine(Gq _ _).mono ?_;rintro e w' ⟨rfl,rfl⟩)
  have Li:∀q∈gu g bc N ge,q.2.1≠93/\q.1≠g:=by
   have e1:N≠g:=aT Ht.out Kw.out.cell (by simp);have e2:ge≠g:=aT eE.out Kw.out.cell (by simp);have e3:bc≠g:=(by have:=Kw.out.cell.lt;omega);intro q hq;simp only[gu,Od,List.mem_nil_iff,or_false] at hq;rcases hq with rfl|rfl|rfl
   ·exact⟨by simp,e3⟩
   ·exact⟨by simp,e1⟩
   ·exact⟨by simp,e2⟩
  have jY:=Z Li;obtain⟨C,KD⟩:∃C:aY,(⟨i,(false,false,false,false,false),ad,0,0,0,0,0,Y none 0 0,px,py⟩:aY)=C:=⟨_,rfl⟩;have Lt:=Z KD;have K6:Hid (C.a=i/\C.x=px/\C.y=py):=Z (by rw[<-KD];exact⟨rfl,rfl,rfl⟩);have Lk:ii w g A n c C [] (W5.alloc (J #[X (some ⟨g,0,none⟩)] 206)):=by rw[<-KD];exact Kw.out.mono ((Below.refl _ _).alloc (Ob _) _)
  have Lh:dw w g A n c l C (gu g bc N ge) [] 0 (W5.alloc (J #[X (some ⟨g,0,none⟩)] 206)):=
   ⟨⟨C,[],C.v,[],rfl,Lk,rfl⟩,aa.cons (aE (ab.new _ _ _) Ll) (aa.cons (Ht.out.alloc _) (aa.cons (eE.out.alloc _) (ai _)))⟩
  have Ku:=Z (show aA C.x=true/\aA C.y=true by rw[K6.out.2.1,K6.out.2.2];exact Ku.out)
  have Kt:Hid (∀(ts:List Nat)(s:aY)(v:Value)(bl:List bH)(xs:List dB),(∃us,ts=0::us)->br l ts C []=((s,bl),0)->xs.map (·.1)=bl->(∃u,ts++[u]<+:ea l C)->0<=s.a/\s.a<=8*(V l:Int)/\V xs<=100/\s.x=C.x/\s.y=C.y):=Z (by
   rintro ts s v bl xs ⟨us,rfl⟩ j hm ⟨u,hu⟩;have hk:=(jI l j).1
   have N:C.a<=8*(V l:Int):=by
    by_cases h:C.a<=8*(V l:Int)
    ·exact h
    ·exact absurd hk (oF (ns:=aN) rm (by omega)).2
   have b:=rz l _ j (by rw[K6.out.1];omega) N;have Lw:=hu.length_le;have LH:=GG l C;rw[OY] at Lw;have e:V xs=(V bl):=(by rw[<-hm,List.length_map]);have b3:=b.2.2.1;rw[OF] at b3;exact⟨b.1,b.2.1,by omega,b.2.2.2.1,b.2.2.2.2⟩)
  have K0:=Z (KN.out (Y none 0 0));rw[Le.out] at K0;rw[KD] at K0;obtain⟨E,hE⟩:∃E,(jF l C).2=E:=⟨_,rfl⟩;have jg:=Z hE;clear KD Li Lk hE;have KU:=Z Lh;clear Lh;have iP:Hid (w.heap.size<=(W5.alloc (J #[X (some ⟨g,0,none⟩)] 206)).heap.size):=Z (by obtain⟨⟨s,bl,v,xs,_,hr,_⟩,_⟩:=KU.out;exact hr.below.size);generalize W5.alloc (J #[X (some ⟨g,0,none⟩)] 206)=W6 at KU iP⊢;clear Kw Ht eE Le KN Kv K3 Ll;refine(wpIn_wide (n:=5)).1 ?_
  refine J2 (α:=jq) (enc:= λx=> #[mE g x]) (IS:=I6 w g A n c l C (gu g bc N ge)) (I:=I3 w g A n c l C (gu g bc N ge)) (I2:=I4 w g A n c l C (gu g bc N ge)) (IE:=I5 w g A n c l C (gu g bc N ge)) (S:= λxs=>cB xs=ea l C) (Sp:= λpre=>cB pre<+:ea l C)
   (St:=kB g A n c (aC l C 0).1.1.pt C.x C.y [(bc,206,#[X (some ⟨g,0,none⟩)])])
   rfl (by decide) (gf:=223) (lb:= #[X (some ⟨bc,0,none⟩)]) rfl trivial (enters_of Tryz.func223 (by kernel_rfl) rfl)
   (EW 4 (by decide) w g bc A n c l C [(N,55,dC m0 (Y none 0 0)),(ge,26,#[U O 0])] fJ (λq hq=>(jY.out q hq).2)) (λ_=>rfl)
   (λcd _ W=>IV w g A n c (aC l C 0).1.1.pt C.x C.y bc N ge E cd W) (λcd pre W h=>h.st)
   (λpre x _ W=>I3 w g A n c l C (gu g bc N ge) pre x W)
   (qp iP.out (λ_:List jq=>[]) 0) (qp iP.out cB 5) (qp iP.out cB 0) (λcd=>H6 iP.out) (λx k=>OwnFrom.and (qp iP.out cB x.1) (Il x)) KU.out ?round ?done ?stop
  case round=>
   apply Exists.intro;refine And.intro ?_ ?_
   ·rintro lp pre x W' hI bM
    have HI:=Z hI;clear hI bM;dsimp only;gi_wp2
    obtain⟨g0,LI⟩:∃g0,W'.heap.size=g0:=⟨_,rfl⟩;exact⟨⟨g0,rfl,HI.out⟩,KeepsFrom.refl _ _⟩
   ·rintro lp pre ⟨t,b0,b1,b2⟩ k W' ⟨hI,hP⟩ bM
    have hI:dw w g A n c l C (gu g bc N ge) (cB pre) t W':=hI;have K:cB pre++[t]<+:ea l C:=(by rw[<-bX pre (t,b0,b1,b2)];exact bM);rcases yA l C K with⟨M,rfl⟩|⟨us,M,Lz,Lx,Ly⟩
    ·skip
     have A0:∀{s:aY}{bl:List bH},br l (cB pre) C []=((s,bl),0)->s.a=i:= λj=>by
      rw[M] at j;simp only[br,Prod.mk.injEq,and_true] at j;rw[<-j.1];exact K6.out.1
     have hC:Calls ON 224 #[X (some ⟨g,0,none⟩)] W' λe W2=>∃er,e=OI (U O er)/\(∀B,KeepsFrom B W' W2)/\tU w g A n c l C (gu g bc N ge) (cB pre) 0 er W2:=by
      refine kf hI K jY.out (λs v bl xs j hr hm=>?_);exact EY hr fJ HA.out HN.out hsz (by rw[(bi s 0).1,A0 j];omega) (by rw[(bi s 0).1,A0 j];omega)
     have HC:=Z hC;have HS:=Z bM;clear hC hI hP bM K M;dsimp only[mE];gi_wp2_with (refine⟨trivial,?_⟩;gi_at_call 224;refine(callsIn_wide.2 HC.out).mono ?_;rintro e w2 ⟨er,rfl,aJ,hE⟩;have av:=Z aJ;have HE:=Z hE;have G:=hE.cl.tail.tail.head;clear aJ hE HC;have y0:=G.cell 0;have y1:=G.frozen 0;have T:=Z G;clear G;(try dsimp only at y0 y1);have y2:=(T.out.set_ 0 (U O er)).cell 0;(try dsimp only at y2))
     ·exact⟨aq (av.out _) _ _,nH dy.out jg.out HE.out (by rename_i h;simpa using h)⟩
     ·have he:er=0:=by rename_i h;simpa using h
      subst he;refine⟨aq (av.out _) _ _,trivial,?_⟩;show dw w g A n c l C (gu g bc N ge) (cB (pre++[_])) 0 _;rw[bX];exact(HE.out.ok rfl).setE dy.out T.out (U O 0) (lQ HE.out.cl)
    ·have M:∃us,cB pre=0::us:=⟨us,M⟩
     have ht:t=1\/t=2\/t=3\/t=4\/t=5:=(by omega);clear Lz Lx Ly;rcases ht with rfl|rfl|rfl|rfl|rfl
     ·skip
      have hC:Calls ON 225 #[X (some ⟨g,0,none⟩)] W' λe W2=>∃er,e=OI (U O er)/\(∀B,KeepsFrom B W' W2)/\tU w g A n c l C (gu g bc N ge) (cB pre) 1 er W2:=by
       refine kf hI K jY.out (λs v bl xs j hr hm=>?_);obtain⟨B0,B1,BL,BX,BY⟩:=Kt.out (cB pre) s v bl xs M j hm ⟨_,K⟩;have B0:0<=({ax s 1 with v:=v}:aY).a:=(by show 0<=(ax s 1).a;rw[(bi s 1).1];exact B0);have B1:({ax s 1 with v:=v}:aY).a<=8*(V l:Int):=(by show (ax s 1).a<=_;rw[(bi s 1).1];exact B1);have BX:({ax s 1 with v:=v}:aY).x=C.x:=(by show (ax s 1).x=_;rw[(bi s 1).2.1];exact BX);have BY:({ax s 1 with v:=v}:aY).y=C.y:=(by show (ax s 1).y=_;rw[(bi s 1).2.2.1];exact BY);exact E2 hr fJ HA.out HN.out hsz B0 B1
      have HC:=Z hC;have HS:=Z bM;clear hC hI hP bM K M;dsimp only[mE];gi_wp2_with (refine⟨trivial,?_⟩;gi_at_call 225;refine(callsIn_wide.2 HC.out).mono ?_;rintro e w2 ⟨er,rfl,aJ,hE⟩;have av:=Z aJ;have HE:=Z hE;have G:=hE.cl.tail.tail.head;clear aJ hE HC;have y0:=G.cell 0;have y1:=G.frozen 0;have T:=Z G;clear G;(try dsimp only at y0 y1);have y2:=(T.out.set_ 0 (U O er)).cell 0;(try dsimp only at y2))
      ·exact⟨aq (av.out _) _ _,nH dy.out jg.out HE.out (by rename_i h;simpa using h)⟩
      ·have he:er=0:=by rename_i h;simpa using h
       subst he;refine⟨aq (av.out _) _ _,trivial,?_⟩;show dw w g A n c l C (gu g bc N ge) (cB (pre++[_])) 0 _;rw[bX];exact(HE.out.ok rfl).setE dy.out T.out (U O 0) (lQ HE.out.cl)
     ·skip
      have hC:Calls ON 255 #[X (some ⟨b0,0,none⟩),X (some ⟨b1,0,none⟩),X (some ⟨b2,0,none⟩)] W' λe W2=>∃er,e=OI (U O er)/\(∀B,KeepsFrom B W' W2)/\tU w g A n c l C (gu g bc N ge) (cB pre) 2 er W2:=by
       refine kf hI K jY.out (λs v bl xs j hr hm=>?_);obtain⟨B0,B1,BL,BX,BY⟩:=Kt.out (cB pre) s v bl xs M j hm ⟨_,K⟩;have B0:0<=({ax s 2 with v:=v}:aY).a:=(by show 0<=(ax s 2).a;rw[(bi s 2).1];exact B0);have B1:({ax s 2 with v:=v}:aY).a<=8*(V l:Int):=(by show (ax s 2).a<=_;rw[(bi s 2).1];exact B1);have BX:({ax s 2 with v:=v}:aY).x=C.x:=(by show (ax s 2).x=_;rw[(bi s 2).2.1];exact BX);have BY:({ax s 2 with v:=v}:aY).y=C.y:=(by show (ax s 2).y=_;rw[(bi s 2).2.2.1];exact BY);exact EZ hr fJ HA.out HN.out hsz B0 B1 (by rw[BX];exact Ku.out.1) hP.1 (by rw[BX];exact hP.2.1) hP.2.2
      have HC:=Z hC;have HS:=Z bM;clear hC hI hP bM K M;dsimp only[mE];gi_wp2_with (refine⟨trivial,?_⟩;gi_at_call 255;refine(callsIn_wide.2 HC.out).mono ?_;rintro e w2 ⟨er,rfl,aJ,hE⟩;have av:=Z aJ;have HE:=Z hE;have G:=hE.cl.tail.tail.head;clear aJ hE HC;have y0:=G.cell 0;have y1:=G.frozen 0;have T:=Z G;clear G;(try dsimp only at y0 y1);have y2:=(T.out.set_ 0 (U O er)).cell 0;(try dsimp only at y2))
      ·exact⟨aq (av.out _) _ _,nH dy.out jg.out HE.out (by rename_i h;simpa using h)⟩
      ·have he:er=0:=by rename_i h;simpa using h
       subst he;refine⟨aq (av.out _) _ _,trivial,?_⟩;show dw w g A n c l C (gu g bc N ge) (cB (pre++[_])) 0 _;rw[bX];exact(HE.out.ok rfl).setE dy.out T.out (U O 0) (lQ HE.out.cl)
     ·skip
      have hC:Calls ON 255 #[X (some ⟨b0,0,none⟩),X (some ⟨b1,0,none⟩),X (some ⟨b2,0,none⟩)] W' λe W2=>∃er,e=OI (U O er)/\(∀B,KeepsFrom B W' W2)/\tU w g A n c l C (gu g bc N ge) (cB pre) 3 er W2:=by
       refine kf hI K jY.out (λs v bl xs j hr hm=>?_);obtain⟨B0,B1,BL,BX,BY⟩:=Kt.out (cB pre) s v bl xs M j hm ⟨_,K⟩;have B0:0<=({ax s 3 with v:=v}:aY).a:=(by show 0<=(ax s 3).a;rw[(bi s 3).1];exact B0);have B1:({ax s 3 with v:=v}:aY).a<=8*(V l:Int):=(by show (ax s 3).a<=_;rw[(bi s 3).1];exact B1);have BX:({ax s 3 with v:=v}:aY).x=C.x:=(by show (ax s 3).x=_;rw[(bi s 3).2.1];exact BX);have BY:({ax s 3 with v:=v}:aY).y=C.y:=(by show (ax s 3).y=_;rw[(bi s 3).2.2.1];exact BY);exact E0 hr fJ HA.out HN.out hsz B0 B1 (by rw[BY];exact Ku.out.2) hP.1 (by rw[BY];exact hP.2.1) hP.2.2
      have HC:=Z hC;have HS:=Z bM;clear hC hI hP bM K M;dsimp only[mE];gi_wp2_with (refine⟨trivial,?_⟩;gi_at_call 255;refine(callsIn_wide.2 HC.out).mono ?_;rintro e w2 ⟨er,rfl,aJ,hE⟩;have av:=Z aJ;have HE:=Z hE;have G:=hE.cl.tail.tail.head;clear aJ hE HC;have y0:=G.cell 0;have y1:=G.frozen 0;have T:=Z G;clear G;(try dsimp only at y0 y1);have y2:=(T.out.set_ 0 (U O er)).cell 0;(try dsimp only at y2))
      ·exact⟨aq (av.out _) _ _,nH dy.out jg.out HE.out (by rename_i h;simpa using h)⟩
      ·have he:er=0:=by rename_i h;simpa using h
       subst he;refine⟨aq (av.out _) _ _,trivial,?_⟩;show dw w g A n c l C (gu g bc N ge) (cB (pre++[_])) 0 _;rw[bX];exact(HE.out.ok rfl).setE dy.out T.out (U O 0) (lQ HE.out.cl)
     ·skip
      have hC:Calls ON 227 #[X (some ⟨g,0,none⟩)] W' λe W2=>∃er,e=OI (U O er)/\(∀B,KeepsFrom B W' W2)/\tU w g A n c l C (gu g bc N ge) (cB pre) 4 er W2:=by
       refine kf hI K jY.out (λs v bl xs j hr hm=>?_);obtain⟨B0,B1,BL,BX,BY⟩:=Kt.out (cB pre) s v bl xs M j hm ⟨_,K⟩;have B0:0<=({ax s 4 with v:=v}:aY).a:=(by show 0<=(ax s 4).a;rw[(bi s 4).1];exact B0);have B1:({ax s 4 with v:=v}:aY).a<=8*(V l:Int):=(by show (ax s 4).a<=_;rw[(bi s 4).1];exact B1);have BX:({ax s 4 with v:=v}:aY).x=C.x:=(by show (ax s 4).x=_;rw[(bi s 4).2.1];exact BX);have BY:({ax s 4 with v:=v}:aY).y=C.y:=(by show (ax s 4).y=_;rw[(bi s 4).2.2.1];exact BY);exact zS hr fJ HA.out (HT.out) HN.out hsz B0 B1
      have HC:=Z hC;have HS:=Z bM;clear hC hI hP bM K M;dsimp only[mE];gi_wp2_with (refine⟨trivial,?_⟩;gi_at_call 227;refine(callsIn_wide.2 HC.out).mono ?_;rintro e w2 ⟨er,rfl,aJ,hE⟩;have av:=Z aJ;have HE:=Z hE;have G:=hE.cl.tail.tail.head;clear aJ hE HC;have y0:=G.cell 0;have y1:=G.frozen 0;have T:=Z G;clear G;(try dsimp only at y0 y1);have y2:=(T.out.set_ 0 (U O er)).cell 0;(try dsimp only at y2))
      ·exact⟨aq (av.out _) _ _,nH dy.out jg.out HE.out (by rename_i h;simpa using h)⟩
      ·have he:er=0:=by rename_i h;simpa using h
       subst he;refine⟨aq (av.out _) _ _,trivial,?_⟩;show dw w g A n c l C (gu g bc N ge) (cB (pre++[_])) 0 _;rw[bX];exact(HE.out.ok rfl).setE dy.out T.out (U O 0) (lQ HE.out.cl)
     ·skip
      have hC:Calls ON 228 #[X (some ⟨g,0,none⟩)] W' λe W2=>∃er,e=OI (U O er)/\(∀B,KeepsFrom B W' W2)/\tU w g A n c l C (gu g bc N ge) (cB pre) 5 er W2:=by
       refine kf hI K jY.out (λs v bl xs j hr hm=>?_);obtain⟨B0,B1,BL,BX,BY⟩:=Kt.out (cB pre) s v bl xs M j hm ⟨_,K⟩;have B0:0<=({ax s 5 with v:=v}:aY).a:=(by show 0<=(ax s 5).a;rw[(bi s 5).1];exact B0);have B1:({ax s 5 with v:=v}:aY).a<=8*(V l:Int):=(by show (ax s 5).a<=_;rw[(bi s 5).1];exact B1);have BX:({ax s 5 with v:=v}:aY).x=C.x:=(by show (ax s 5).x=_;rw[(bi s 5).2.1];exact BX);have BY:({ax s 5 with v:=v}:aY).y=C.y:=(by show (ax s 5).y=_;rw[(bi s 5).2.2.1];exact BY);exact EX hr fJ HA.out (HT.out) HN.out hsz B0 B1 BL
      have HC:=Z hC;have HS:=Z bM;clear hC hI hP bM K M;dsimp only[mE];gi_wp2_with (refine⟨trivial,?_⟩;gi_at_call 228;refine(callsIn_wide.2 HC.out).mono ?_;rintro e w2 ⟨er,rfl,aJ,hE⟩;have av:=Z aJ;have HE:=Z hE;have G:=hE.cl.tail.tail.head;clear aJ hE HC;have y0:=G.cell 0;have y1:=G.frozen 0;have T:=Z G;clear G;(try dsimp only at y0 y1);have y2:=(T.out.set_ 0 (U O er)).cell 0;(try dsimp only at y2))
      ·exact⟨aq (av.out _) _ _,nH dy.out jg.out HE.out (by rename_i h;simpa using h)⟩
      ·have he:er=0:=by rename_i h;simpa using h
       subst he;refine⟨aq (av.out _) _ _,trivial,?_⟩;show dw w g A n c l C (gu g bc N ge) (cB (pre++[_])) 0 _;rw[bX];exact(HE.out.ok rfl).setE dy.out T.out (U O 0) (lQ HE.out.cl)
  case done=>
   rintro D xs W2 hD hS Lv hK;obtain⟨⟨s,bl,v,JT,j,hr,hm⟩,L4⟩:=Lv;rw[hS] at j;rw[Jj l j] at hr;obtain⟨A2,c2,hv⟩:=bg hr.row;dsimp only at hv;subst hv;have KB:jF l C=((s,bl),0):=(uN l C).trans j
   have KC:r=(⟨ad,s.kd,s.qu,s.mx,s.my,s.pa,bl⟩,s.a - i,0):=by
    rcases K0.out with⟨_,_,h3⟩|⟨_,s',LG,h2,h3⟩
    ·rw[KB] at h3;exact absurd rfl h3
    ·rw[KB] at h2
     obtain⟨rfl,rfl⟩:=Prod.mk.inj h2;exact h3
   have had:s.ad=ad:=(by rw[Bq l _ j,<-Lt.out]);have hk:=(jI l j).1
   have Lf:C.a<=8*(V l:Int):=by
    by_cases h:C.a<=8*(V l:Int)
    ·exact h
    ·exact absurd hk (oF (ns:=aN) rm (by omega)).2
   have hb:=rz l _ j (by rw[K6.out.1];omega) Lf;have Lo:Oa.wrap (s.a - i)=s.a - i:=(by have h1:=K6.out.1;have h2:=HN.out;have h3:=hb.1;have h4:=hb.2.1;rw[OV];omega);have KG:=Z KC;have HM:=Z hm;have HK:=Z hK;have HD:=Z hD;have Lu:=Z Lo;clear KC hm hb Lo hk Lf hS KB j hK hD;have Ls:=Z hr;have KZ:ay w [(N,55,dC m0 (Y none 0 0))] (Ba w.heap.size (Y A2 (V JT) c2) JT) W2:=Hy hr (aa.cons L4.tail.head (ai _));have Ld:=Z KZ;have KF:=Z (show ab W2.drew g 208 (f9 A n c {s with v:=Y A2 (V JT) c2}) from hr.cell);have dv:=KZ.2.1.head;have Lm:=L4.tail.tail.head;clear hr KZ L4;have y0:=Lm.cell 0;have q0:=dv.frozen 0;have q1:=dv.frozen 1;have q2:=dv.frozen 2;have q3:=dv.frozen 3;have q4:=dv.frozen 4;have q5:=dv.frozen 5;have q6:=dv.frozen 6;have r0:=dv.cell 0;have r1:=dv.cell 1;have r2:=dv.cell 2;have r3:=dv.cell 3;have r4:=dv.cell 4;have r5:=dv.cell 5;have r6:=dv.cell 6;unfold dC m0 at r0 r1 r2 r3 r4 r5 r6;simp at r0 r1 r2 r3 r4 r5 r6;(try dsimp only at y0 q0 q1 q2 q3 q4 q5 q6);clear Lm dv;obtain⟨sa,pt,KM,kd,qu,mx,my,pa,sv,sx,sy⟩:=s;dsimp only at had;subst had;unfold f9 at KF;dsimp only at KF KG Ls Ld;have Hl:=Z (λ(W:World) (i:Nat) (u:Value) (h:aa [(g,208,#[Y A n c,U O sa,OA pt.1,OA pt.2.1,OA pt.2.2.1,OA pt.2.2.2.1,OA pt.2.2.2.2,U O KM,U O kd,U O qu,U O mx,U O my,U O pa,Y A2 (V JT) c2,U O sx,U O sy])] W)=>aa.far h (p:=⟨N,i,none⟩) (λq hq=>by rw[OT] at hq;subst hq;exact λe=>(jY.out _ (by simp[gu];exact .inr (.inl rfl)):_/\N≠g).2 e.symm) u);gi_wp2_with fail
   go_wp2_with fail
   refine aP (λw'=>aa [(g,208,#[Y A n c,U O sa,OA pt.1,OA pt.2.1,OA pt.2.2.1,OA pt.2.2.2.1,OA pt.2.2.2.2,U O KM,U O kd,U O qu,U O mx,U O my,U O pa,Y A2 (V JT) c2,U O sx,U O sy])] w') 11 (OS 0 (OS 1 (OS 2 (OS 3 (OS 4 (OS 5 (OS 6 (OS 7 (OS 8 (OS 9 (Of 10 .done))))))))))) (aa.cons KF.out (ai _)) (λPE Kx=>?_)
   iterate 10
    refine af (v:=?_) rfl (by rfl) ?_ ?_
    rotate_left
    ·intro _ dO;(try dsimp only at dO);have z1:=dO.head.cell 1;have z7:=dO.head.cell 7;have z8:=dO.head.cell 8;have z9:=dO.head.cell 9;have LA:=dO.head.cell 10;have LB:=dO.head.cell 11;have LC:=dO.head.cell 12;have LD:=dO.head.cell 13;dsimp only at z1 z7 z8 z9 LA LB LC LD;go_simp;(try with_reducible rfl)
    simp only[OB,OE,OD]
   refine bD _ (w':=?_) rfl (by rfl) ?_ ?_ ?_;rotate_left 1
   ·go_simp;(first|(with_reducible rfl)|(constructor<;>with_reducible rfl)|skip)
   ·exact aa.drew (Hl.out _ _ _ (Hl.out _ _ _ (Hl.out _ _ _ (Hl.out _ _ _ (Hl.out _ _ _ (Hl.out _ _ _ (Hl.out _ _ _ (aa.cons KF.out (ai _)))))))))
   refine Kx _ _ ?_;clear Kx PE;simp only[OX,Oc];go_wp2_with fail
   refine⟨rfl,?_⟩;go_wp2_with fail
   rw[Exit.noGoto_ret,KG.out];obtain⟨KY,KA⟩:=Bb Ld.out Lb.out GV HK.out (OQ iP.out HD.out) ⟨KM,kd,qu,mx,my,pa,bl⟩ (Y A2 (V JT) c2);exact eo KY (ka N ⟨KM,kd,qu,mx,my,pa,bl⟩ (Y A2 (V JT) c2) (sa - i) 0 _ _ KA.2.1.head rfl (congrArg (Value.int O) Lu.out) rfl) (Bc KA HM.out.symm)
  case stop=>
   rintro D cd pre W2 hD bM hX hK;obtain⟨rfl,KL,_,cI,L5,KQ⟩:=hX
   have KC:r=(m0,0,E):=by
    rcases K0.out with⟨_,h2,_⟩|⟨h1,_⟩
    ·rw[h2,jg.out]
    ·rw[jg.out] at h1;exact absurd h1 KL
   have KG:=Z KC;have LF:=Z KL;have Ht:=Z cI;have eE:=Z L5;have La:=Z KQ;have HK:=Z hK;have HD:=Z hD;have y0:=L5.cell 0;have q0:=cI.frozen 0;have q1:=cI.frozen 1;have q2:=cI.frozen 2;have q3:=cI.frozen 3;have q4:=cI.frozen 4;have q5:=cI.frozen 5;have q6:=cI.frozen 6;have r0:=cI.cell 0;have r1:=cI.cell 1;have r2:=cI.cell 2;have r3:=cI.cell 3;have r4:=cI.cell 4;have r5:=cI.cell 5;have r6:=cI.cell 6;unfold dC m0 at r0 r1 r2 r3 r4 r5 r6;simp at r0 r1 r2 r3 r4 r5 r6;(try dsimp only at y0 q0 q1 q2 q3 q4 q5 q6);have LE:(E !=0)=true:=(by simpa using KL);clear KC cI L5 KQ hK hD bM KL;gi_wp2_with fail
   have Lr:=Z (show ab W2.drew ge 26 #[U O E] from eE.out);go_wp2_with fail
   refine aP (λw'=>aa [(ge,26,#[U O E])] w') 4 (OS 0 (OS 1 (Of 2 (Of 3 .done)))) (aa.cons Lr.out (ai _)) (λPE Kx=>?_)
   iterate 2
    refine af (v:=?_) rfl (by rfl) ?_ ?_
    rotate_left
    ·intro _ dO;(try dsimp only at dO);have z1:=dO.head.cell 0;dsimp only at z1;go_simp;(try with_reducible rfl)
    simp only[OB,OE,OD]
   refine bD _ (w':=?_) rfl (by rfl) ?_ ?_ ?_;rotate_left 1
   ·go_simp;(first|(with_reducible rfl)|(constructor<;>with_reducible rfl)|skip)
   ·have hf:∀(W:World)(i:Nat)(u:Value),aa [(ge,26,#[U O E])] W->aa [(ge,26,#[U O E])] (W.setCell ⟨N,i,none⟩ u):= λW i u h=>aa.far h (p:=⟨N,i,none⟩) (λq hq=>by rw[OT] at hq;subst hq;exact aT eE.out Ht.out (by simp)) u
    exact aa.drew (hf _ _ _ (hf _ _ _ (hf _ _ _ (hf _ _ _ (hf _ _ _ (hf _ _ _ (hf _ _ _ (aa.cons eE.out (ai _)))))))))
   refine aj (v:=?_) (w':=?_) rfl (by rfl) ?_ ?_ ?_;rotate_left 2
   ·go_simp;(try (constructor<;>with_reducible rfl))
   ·have hf:∀(W:World)(i:Nat)(u:Value),aa [(ge,26,#[U O E])] W->aa [(ge,26,#[U O E])] (W.setCell ⟨N,i,none⟩ u):= λW i u h=>aa.far h (p:=⟨N,i,none⟩) (λq hq=>by rw[OT] at hq;subst hq;exact aT eE.out Ht.out (by simp)) u
    exact aa.drew (hf _ _ _ (hf _ _ _ (hf _ _ _ (hf _ _ _ (hf _ _ _ (hf _ _ _ (hf _ _ _ (aa.cons eE.out (ai _)))))))))
   simp only[OB,OE,OD];refine Kx _ _ ?_;clear Kx PE;simp only[OX,Oc];go_wp2_with fail
   refine⟨rfl,?_⟩;go_wp2_with fail
   rw[Exit.noGoto_ret,KG.out];obtain⟨KY,KA⟩:=Bb (R:=Ba w.heap.size (Y none 0 0) []) ⟨La.out,aa.cons Ht.out (ai _),ar.cons (OU _ _ _ _) (aF _)⟩ Lb.out GV HK.out (OQ iP.out HD.out) m0 (Y none 0 0);exact eo KY (ka N m0 (Y none 0 0) 0 E _ _ KA.2.1.head rfl rfl rfl) (Bc KA rfl)
def ky (h:Nat) (i e:Int):List aM:=[(h,3,#[U O i]),(h+1,26,#[U O e])]
def oL (h:Nat) (A:Option Addr) (m c:Nat) (r:Nat) (u:Value):List aM:=(h+4,3,#[u])::(h+3,25,#[Y A m c])::(h+2,3,#[U O (r:Int)])::ky h 0 0
def Dx (l:List UInt8) (a q:Nat):Prop:=a<=q/\jv l q/\∀j,a<=j->j<q->¬jv l j
def Fe (l:List UInt8) (a:Nat) (w:World) (e:Ending) (w':World):Prop:=Below w.heap.size w w'/\((∃q:Nat,e=OI (OW #[U O (q:Int),U O 0])/\Dx l a q)\/(e=OI (OW #[U O 0,U O 5])/\∀j,a<=j->¬jv l j))
def tS (w:World) (A:Option Addr) (m c:Nat) (l:List UInt8) (a:Nat):List Nat->World->Prop:=
 cS w (λpre (_:Value)=>lX l a (V pre)) (λpre u=>oL w.heap.size A m c (iY l a (V pre)) u) (λ_ _=>[])
theorem Ji {w W:World}{A:Option Addr}{m c:Nat}{l:List UInt8}{a:Nat}{pre:List Nat}(v:Value)(h:tS w A m c l a pre W):tS w A m c l a pre (W.setCell ⟨w.heap.size+4,0,none⟩ v):=by
 obtain⟨⟨u,B,j⟩⟩:=h;refine⟨⟨v,B,?_⟩⟩;have h2:=aV j (g:=w.heap.size+4) (by omega) 0 v (w.heap.size+4,3,#[u]) (by simp[oL]) rfl (by simp)
 simpa [df,oL,ky] using h2
theorem DX (h:Nat)(i e:Int)(tmps:Array Value)(W:World)(j:aa (ky h i e) W)(I:tmps.getD 4 undef=X (some ⟨h,0,none⟩))(K:tmps.getD 5 undef=X (some ⟨h+1,0,none⟩)):
  (results Tryz.f83 tmps).run ON W= .ok (OW #[U O i,U O e]) W:=by
 unfold ky at j;have D:W.cell? ⟨h,0,none⟩=some (U O i):=j.head.cell 0;have G:W.cell? ⟨h+1,0,none⟩=some (U O e):=j.tail.head.cell 0;have B:tmps[4]?.getD undef=X (some ⟨h,0,none⟩):=by simpa using I
 have C:tmps[5]?.getD undef=X (some ⟨h+1,0,none⟩):=by simpa using K
 simp[results,Tryz.results83,B,C,asAddr,D,G,go_sem]
theorem DF (A:Option Addr)(m c:Nat)(l:List UInt8)(a:Nat)(w:World)(hA:Sl w A (l.map ag))(hl:V l=m)(hsz:m<=2 ^ 40)(ha:a<=8*m):
  Calls ON 83 #[Y A m c,U O (a:Int)] w (Fe l a w):=by
 have HA:=Z hA;have HL:=Z hl;have Kv:=Z ha;have h0:¬((a:Int)<0):=by omega
 clear hA hl ha;refine(callsIn_wide (n:=5)).1 ?_;refine callsIn_of_wp_marks Tryz.func83 rfl trivial ?_ rfl;simp only[Tryz.ntmps83,OH,OK,OF,OL,OO,Array.replicate_succ,Array.replicate_zero,OG,OC,OM,OJ];refine wpIn_wide.2 ?_;go_wp2_with fail
 go_step3
 go_wp2_with fail
 go_step3
 go_wp2_with (go_at_call 139;refine(tY _ _ _ _ _).mono ?_;rintro e w' ⟨rfl,rfl⟩)
 simp only[Nat.add_assoc,OL]
 have dv:ay w (oL w.heap.size A m c 0 (U O (a:Int))) [] (((((w.alloc (J #[U O 0] 3)).alloc (J #[U O 0] 26)).alloc (J #[U O 0] 3)).alloc (J #[Y A m c] 25)).alloc (J #[U O (a:Int)] 3)):=by
  refine⟨((((((Below.refl _ _).alloc (Ob _) _).alloc (by simp) _).alloc (by simp;omega) _).alloc (by simp;omega) _).alloc (by simp;omega) _),?_,aF _⟩;unfold oL ky;refine aa.cons ?_ (aa.cons ?_ (aa.cons ?_ (aa.cons ?_ (aa.cons ?_ (ai _)))))
  all_goals (repeat (first|(refine aE (ab.new _ _ _) ?_;simp[World.size_alloc];done)|refine ab.alloc ?_ _))
 have fJ:(((((w.alloc (J #[U O 0] 3)).alloc (J #[U O 0] 26)).alloc (J #[U O 0] 3)).alloc (J #[Y A m c] 25)).alloc (J #[U O (a:Int)] 3)).heap.size=w.heap.size+5:=by simp
 generalize ((((w.alloc (J #[U O 0] 3)).alloc (J #[U O 0] 26)).alloc (J #[U O 0] 3)).alloc (J #[Y A m c] 25)).alloc (J #[U O (a:Int)] 3)=W at dv fJ⊢;have N:Hid (w.heap.size<=W.heap.size):=Z (by rw[fJ];omega);have Kz:=Z fJ;have Kw:=Z (show ab W (w.heap.size+4) 3 #[U O (a:Int)] from dv.2.1.head);have Ky:Hid (tS w A m c l a [] W):=Z ⟨⟨U O (a:Int),zu l a,dv⟩⟩;clear dv fJ;refine(wpIn_wide (n:=5)).1 ?_
 refine sZ (α:=Nat) (enc:=tp l)
  (IS:= λpre W=>tS w A m c l a pre W/\ab W (w.heap.size+4) 3 #[U O (a:Int)])
  (I:= λpre W=>tS w A m c l a pre W/\ab W (w.heap.size+4) 3 #[U O ((a+V pre:Nat):Int)])
  (I2:= λpre W=>tS w A m c l a pre W/\ab W (w.heap.size+4) 3 #[U O (((a+V pre:Nat):Int) - 1)])
  (IE:= λpre W=>tS w A m c l a pre W/\ab W (w.heap.size+4) 3 #[U O ((a+V pre:Nat):Int)])
  (S:= λxs=>oX l a xs/\8*m<=a+V xs) (Sp:=oX l a)
  rfl (by decide) (gf:=183) (lb:= #[X (some ⟨w.heap.size+4,0,none⟩),X (some ⟨w.heap.size+3,0,none⟩)]) rfl trivial (enters_of Tryz.func183 (by kernel_rfl) rfl)
  (uu 4 (by decide) (w.heap.size+4) (w.heap.size+3) A m c l a HL.out hsz Kv.out _ (λpre W v h=>Ji v h) (λpre A B h hb=>gP pre A B h hb) ?hCs) (λ_=>rfl)
  (λcd pre W=>m9 w (ky w.heap.size (((a+V pre:Nat):Int) - 16) 0) cd W/\Dx l a (a+V pre - 16)/\16<=a+V pre)
  (λpre x g W=>tS w A m c l a pre W/\ab W (w.heap.size+4) 3 #[U O ((a+V pre:Nat):Int)])
  (OwnFrom.and (bq N.out _ _ _) (bj _ _ _)) (OwnFrom.and (bq N.out _ _ _) (bj _ _ _)) (OwnFrom.and (bq N.out _ _ _) (bj _ _ _))
  (λcd=>?hIx) (λx g=>OwnFrom.and (bq N.out _ _ _) (bj _ _ _)) ⟨Ky.out,Kw.out⟩ ?round ?done ?stop
 case hCs=>
  rintro pre W' ⟨⟨u,hp,hc⟩⟩;have K:=hc.2.1;unfold oL at K;exact⟨K.tail.head,HA.out.below hc.1⟩
 case hIx=>
  rintro s W1 W2 row ⟨⟨h1,h2⟩,h3⟩ hg hr;exact⟨⟨h1,h2.grown hg (λr e=>⟨OQ N.out (hr r e).1,(hr r e).2⟩)⟩,h3⟩
 case round=>
  apply Exists.intro;refine And.intro ?_ ?_
  ·rintro lp pre x W' ⟨hI,hb⟩ av
   have HI:=Z hI;have HB:=Z hb;clear hI hb av;dsimp only[tp];gi_wp2
   obtain⟨g0,KD⟩:∃g0,W'.heap.size=g0:=⟨_,rfl⟩;exact⟨⟨g0,rfl,HI.out,HB.out⟩,KeepsFrom.refl _ _⟩
  ·rintro lp pre x g W' ⟨⟨⟨u,hp,hc⟩⟩,hb⟩ av
   obtain⟨K9,Kt⟩:=yp av;have hu:=nA (show ab W' (w.heap.size+4) 3 #[u] from hc.2.1.head) hb;simp at hu;subst hu;have HC:=Z hc;have HP:=Z hp;have G:=Z K9;have kA:=Z Kt;have K:=hc.2.1;unfold oL ky at K;have y0:=K.tail.tail.head.cell 0;have y1:=K.tail.tail.head.frozen 0;have y2:=K.tail.tail.tail.head.cell 0;have y3:=K.tail.tail.tail.head.frozen 0;have y4:=K.tail.tail.tail.tail.head.cell 0;have y5:=K.tail.tail.tail.tail.head.frozen 0;(try dsimp only at y0 y1 y2 y3 y4 y5);clear K hc hb av hp K9 Kt;have eE:=tL l a (V pre);obtain⟨r,hr⟩:∃r,iY l a (V pre)=r:=⟨_,rfl⟩;have HR:=Z hr;rw[hr] at y0 eE;have T:V pre<=8*(V l):=(by have:=G.out;have:=kA.out;omega);have dy:=HL.out;have gj:=kA.out;rw[dy] at T gj;have dO:(pre++[x]).length=V pre+1:=(by rw[OY,List.length_singleton]);have C:=Z dO
   by_cases aJ:aZ l x=0
   ·have cI:((aZ l x:Nat):Int)=0:=by omega
    have KC:Oa.wrap ((r:Int)+1)=(r:Int)+1:=(by rw[OV];omega);have Ht:=Z aJ;clear aJ hr eE T gj dy dO;rw[cI];gi_wp2_with fail
    refine⟨aq (KeepsFrom.refl _ _) _ _,trivial,⟨⟨U O ((a+V pre:Nat):Int),?_,?_⟩⟩,?_⟩
    ·rw[C.out];exact vM HP.out (by rw[<-G.out];exact Ht.out)
    ·have h2:=aV HC.out (g:=w.heap.size+2) (by omega) 0 (U O ((r:Int)+1)) (w.heap.size+2,3,#[U O (r:Int)]) (by simp[oL,HR.out]) rfl (by simp)
     have e1:iY l a (pre++[x]).length=r+1:=(by rw[C.out,iY,if_pos (by rw[<-G.out];exact Ht.out),HR.out]);rw[e1]
     simpa [df,oL,ky,HR.out] using h2
    ·have h2:=HC.out.2.1.head.far (p:=⟨w.heap.size+2,0,none⟩) (by simp) (U O ((r:Int)+1))
     refine cast (congrArg (λv:Int=>ab _ _ _ #[U O v]) ?_) h2;have:=C.out;omega
   ·have kU:=rH l x aJ
    have cI:((aZ l x:Nat):Int)=1:=(by omega);have Hl:=Z kU;rcases Nat.lt_or_ge r 15 with M|M
    ·have cE:¬((15:Int)<=(r:Int)):=by omega
     have rG:decide ((15:Int)<=(r:Int))=false:=(by simpa using cE);have JT:=Z M;clear aJ kU hr eE T gj dy dO M;rw[cI];gi_wp2_with fail
     refine⟨aq (KeepsFrom.refl _ _) _ _,trivial,⟨⟨U O ((a+V pre:Nat):Int),?_,?_⟩⟩,?_⟩
     ·rw[C.out];exact Ch HP.out (by rw[HR.out];exact JT.out)
     ·have h2:=aV HC.out (g:=w.heap.size+2) (by omega) 0 (U O 0) (w.heap.size+2,3,#[U O (r:Int)]) (by simp[oL,HR.out]) rfl (by simp)
      have e1:iY l a (pre++[x]).length=0:=(by rw[C.out,iY,if_neg (by rw[<-G.out,Hl.out];decide)]);rw[e1]
      simpa [df,oL,ky,HR.out] using h2
     ·have h2:=HC.out.2.1.head.far (p:=⟨w.heap.size+2,0,none⟩) (by simp) (U O 0)
      refine cast (congrArg (λv:Int=>ab _ _ _ #[U O v]) ?_) h2;have:=C.out;omega
    ·have cE:((15:Int)<=(r:Int)):=by omega
     have rG:decide ((15:Int)<=(r:Int))=true:=(by simpa using cE);have bM:=BG HP.out (by rw[<-G.out];exact kA.out) (by rw[HR.out];exact M) (by rw[<-G.out];exact Hl.out);have jg:15<=x:=(by have:=G.out;omega);have KC:Oa.wrap ((x:Int) - 15)=(x:Int) - 15:=(by rw[OV];omega);have jY:=Z bM;have K0:=Z jg;clear aJ kU hr eE T gj dy dO M bM jg;rw[cI];gi_wp2_with fail
     refine⟨aq (aq (KeepsFrom.refl _ _) _ _) _ _,⟨rfl,?_⟩,?_,?_⟩
     ·have e1:((a+(pre++[x]).length:Nat):Int) - 16=(x:Int) - 15:=by have:=G.out;rw[C.out];omega
      rw[e1];have h2:=aw (aw (aw HC.out));have h3:=aV h2 (g:=w.heap.size) (by omega) 0 (U O ((x:Int) - 15)) (w.heap.size,3,#[U O 0]) (by simp[ky]) rfl (by simp);have h4:=aV h3 (g:=w.heap.size+1) (by omega) 0 (U O 0) (w.heap.size+1,26,#[U O 0]) (by simp[ky,df]) rfl (by simp)
      simpa [df,ky] using h4
     ·have e1:a+(pre++[x]).length - 16=a+V pre - 15:=by rw[C.out];omega
      rw[e1];have h:=jY.out;exact⟨by omega,h.2⟩
     ·have:=G.out;have:=K0.out;rw[C.out];omega
 case done=>
  rintro D xs W2 hD ⟨hS,K8⟩ ⟨⟨⟨u,hp,hc⟩⟩,hb⟩ hK;have HC:=Z hc;have HK:=Z hK;have HD:=Z hD;have HN:Hid (∀j,a<=j->¬jv l j):=Z (λj h1 h2=>hp j h1 (by have:=h2.1;have:=HL.out;omega) h2);have K:=hc.2.1;unfold oL ky at K;have y2:=K.tail.tail.tail.head.cell 0;have y3:=K.tail.tail.tail.head.frozen 0;have y4:=K.tail.tail.tail.tail.head.cell 0;have y5:=K.tail.tail.tail.tail.head.frozen 0;(try dsimp only at y2 y3 y4 y5);clear K hc hb hS K8 hp hK hD;gi_wp2_with fail
  go_wp2_with fail
  have KA:ay w (ky w.heap.size 0 5) [] ((W2.setCell ⟨w.heap.size,0,none⟩ (U O 0)).setCell ⟨w.heap.size+1,0,none⟩ (U O 5)):=by
   have h2:=aw (aw (aw HC.out));have h3:=aV h2 (g:=w.heap.size) (by omega) 0 (U O 0) (w.heap.size,3,#[U O 0]) (by simp[ky]) rfl (by simp);have h4:=aV h3 (g:=w.heap.size+1) (by omega) 0 (U O 5) (w.heap.size+1,26,#[U O 0]) (by simp[ky,df]) rfl (by simp)
   simpa [df,ky] using h4
  have K4:((W2.setCell ⟨w.heap.size,0,none⟩ (U O 0)).setCell ⟨w.heap.size+1,0,none⟩ (U O 5)).heap[D]? =some (.deferred (some [])):=by
   have KB:=HD.out;rw[Kz.out] at KB;rw[Below.heap_setCell _ _ _ D (by show D≠w.heap.size+1;omega),Below.heap_setCell _ _ _ D (by show D≠w.heap.size;omega)];exact HK.out
  have K5:=im (o':= .deferred none) KA K4 rfl (by have:=HD.out;have:=N.out;omega);exact eo K4 (DX w.heap.size 0 5 _ _ K5.2.1 rfl rfl) ⟨K5.1,.inr ⟨rfl,HN.out⟩⟩
 case stop=>
  rintro D cd pre W2 hD av ⟨⟨rfl,iP,K6,_⟩,bM,K3⟩ hK;have Hu:=Z iP;have Kx:=Z K6;have HK:=Z hK;have HD:=Z hD;have jY:=Z bM;have Ku:=Z K3;clear iP K6 hK av hD bM K3;gi_wp2_with fail
  exact eo HK.out (DX w.heap.size _ 0 _ _ (cL (o':= .deferred none) Kx.out HK.out rfl) rfl rfl) ⟨cu Hu.out (OQ N.out HD.out),.inl ⟨a+V pre - 16,by rw[show ((a+V pre - 16:Nat):Int)=((a+V pre:Nat):Int) - 16 by have:=Ku.out;omega],jY.out⟩⟩
end Go.Proofs.YthhijgcfbjcgiaaGreatDoor
