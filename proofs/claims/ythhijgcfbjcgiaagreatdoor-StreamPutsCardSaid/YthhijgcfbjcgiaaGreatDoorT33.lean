/- RFrm, Ref09 -/
import Derived.Test.YthhijgcfbjcgiaaGreatDoorT31
namespace Go.Proofs.YthhijgcfbjcgiaaGreatDoor
open Go Go.RowKit
attribute [local go_sem] Oper.semAt_some
set_option maxHeartbeats 16000000
set_option maxRecDepth 100000
open Go.Lib renaming hid→O
open Go.IntKind renaming wrap_i64→U,i64→V,i64→Y
open List renaming setIfInBounds_toArray→Z,set_cons_succ→J,set_cons_zero→OA,length→OF,drop_succ_cons→OH,drop_eq_getElem_cons→OP,getElem?_eq_getElem→OQ,drop_eq_nil_of_le→OS,getElem?_toArray→OT,length_map→OZ,length_set→Oa,drop_zero→Ob,drop_nil→Oc,map_set→Oe
open Go.Value renaming int→X,bool→OC,slice→OJ,tuple→OW
open Go.Proofs.YthhijgcfbjcgiaaGreatDoor.bY renaming take→OB,step→OU
open Nat renaming le_refl→OD
open Tryz renaming prog→OE,ntmps82→OL,func82→OM,ntmps44→OV,func44→OX,ntmps136→Od,func136→Of,ntmps42→Og,func42→Oh
open Go.Ending renaming returned→OG
open Go.Obj renaming cells→OI
open Int renaming toNat_natCast→OK,tdiv_eq_ediv_of_nonneg→ON,tmod_eq_emod_of_nonneg→OO,eq_ofNat_of_zero_le→OR
open Bool renaming and_eq_true→OY
theorem C9 (f:Int)(j:f=0\/f=1)(w:World):Calls OE 138 #[X Y f] w λe w'=>e=OG (OW #[X Y (jO f),X Y (jC f),X Y (jO f*jC f*3 / 2),X Y 0])/\w=w':=by
 rcases j with rfl|rfl
 all_goals
  go_enter Tryz.func138,Tryz.ntmps138
  go_wp2_with fail
  refine bodyPost_ret (by simp[results,Tryz.results138,go_sem];exact⟨by kernel_rfl,by kernel_rfl,by kernel_rfl⟩) rfl ⟨rfl,rfl⟩
theorem Bf (w:World)(e:TypeId)(xs:List Value)(j:OF xs<=maxLen):(w.alloc (OI xs.toArray e)).ownsRow w.heap.size e 1 (OJ (some ⟨w.heap.size,0,none⟩) (OF xs) (OF xs)) (OF xs) xs:=
 ⟨by simp,.inr ⟨w.heap.size,OF xs,xs.toArray,rfl,OD _,ab.new _ _ _,OD _,j,by simp,by simp⟩⟩
def tb (f:Int) (w:World) (e:Ending) (w':World):Prop:=∃A c,e=OG (OW #[OJ A (aK f).length c,X Y 0])/\w'.ownsRow w.heap.size 3 1 (OJ A (aK f).length c) (aK f).length ((aK f).map aH)/\Below w.heap.size w w'
theorem pL (f:Int)(j:f=0\/f=1)(w:World):Calls OE 42 #[X Y f] w (tb f w):=by
 rcases j with rfl|rfl
 ·skip
  go_enter Oh,Og
  go_wp2_with fail
  go_ret2;exact⟨_,_,rfl,Bf w 3 ((aK 0).map aH) (by decide),(Below.refl _ _).alloc (OD _) _⟩
 ·skip
  go_enter Oh,Og
  go_wp2_with fail
  go_ret2;exact⟨_,_,rfl,Bf w 3 ((aK 1).map aH) (by decide),(Below.refl _ _).alloc (OD _) _⟩
theorem C6 (f g:Int)(hf:f=0\/f=1)(hg:g∈aK f)(w:World):Calls OE 182 #[X Y f,X Y g] w λe w'=>(∃k:Int,e=OG (OW #[X Y k,X Y 0]))/\Below w.heap.size w w':=by
 have C:=O (pL f hf w);have M:Hid ((aK f).length<=12):=O (ip f);have fJ:(g==0)=false:=by have:=jB hg;simp;omega
 have HG:=O hg;unfold tb at C;obtain⟨l,hl⟩:∃l,aK f=l:=⟨_,rfl⟩;rw[hl] at C M HG;obtain⟨n,hn⟩:∃n,OF l=n:=⟨_,rfl⟩;rw[hn] at C M;have N:=O hn;clear hg hf hl hn
 go_enter Tryz.func182,Tryz.ntmps182
 go_wp2_with (go_at_call 42;refine C.out.mono ?_;rintro e w2 ⟨A,c,rfl,hs,hb⟩;have HA:=O (fG hs);have HB:=O hb;clear hs hb)
 go_loopg [8] n (λgk i=> λwr=>∃(j:Nat),j+gk=n/\i=X Y (j:Int)/\wr=w2/\Hid (∀k (h:k<OF l),k<j->l[k]≠g))
 case atStart=>exact⟨0,by omega,rfl,rfl,O (λk h h2=>by omega)⟩
 case round=>
  obtain⟨j,I,rfl,rfl,HJ⟩:=hrel
  cases gk with
  |zero=>
   obtain⟨k,hk,dv⟩:=List.getElem_of_mem HG.out;exact absurd dv (HJ.out k hk (by have:=N.out;omega))
  |succ gk=>
   have eE:=M.out;have gj:((j:Int)<(n:Int)):=(by omega);have cI:j<(OF l):=(by rw[N.out];omega);obtain⟨ad,hA,_,hc⟩:=HA.out.int j cI;subst hA;obtain⟨y,hy⟩:∃y,l[j]=y:=⟨_,rfl⟩;rw[hy] at hc;have dy:V.wrap ((j:Int)+1)=(j:Int)+1:=(by rw[U];omega);have iP:V.wrap ((n:Int) - 1)=(n:Int) - 1:=(by rw[U];omega);have HY:=O hy;have K:=O I
   cases he:(y==g) with
   |true=>
    by_cases B:j+1=n
    ·have hq:((j:Int)==(n:Int) - 1)=true:=by simp;omega
     clear I B;go_wp2_with fail
     go_ret2;exact⟨⟨_,rfl⟩,HB.out⟩
    ·have hq:((j:Int)==(n:Int) - 1)=false:=by simp;omega
     obtain⟨G,cE⟩:∃G,j+1=G:=⟨_,rfl⟩;have D:G<(OF l):=(by rw[N.out];omega);obtain⟨av,aJ,_,bM⟩:=HA.out.int G D;obtain rfl:ad=av:=by simpa using aJ
     obtain⟨z,hz⟩:∃z,l[G]=z:=⟨_,rfl⟩;rw[hz] at bM;have dO:((G:Int)<(n:Int)):=(by omega);have jg:V.wrap ((j:Int)+1)=(G:Int):=(by rw[U];omega);clear hz I B dy cE D;go_wp2_with fail
     go_ret2;exact⟨⟨_,rfl⟩,HB.out⟩
   |false=>
    have T:Hid (y≠g):=O (λe=>by subst e;simp at he);clear I;go_wp2_with fail
    go_roundg gk
    case measure=>omega
    case rel=>
     refine⟨j+1,by have:=K.out;omega,rfl,rfl,O λk h hk=>?_⟩;rcases Nat.lt_or_ge k j with h1|h1
     ·exact HJ.out k h h1
     ·obtain rfl:k=j:=by omega
      rw[HY.out];exact T.out
theorem ya (f g a:Int)(hf:f=0\/f=1)(T:g∈aK f)(ha:1<=a/\a<=33)(w:World):Calls OE 136 #[X Y f,X Y g,X Y a] w λe w'=>e=OG (OW #[X Y (gp f g a),X Y (gq g a),X Y 0])/\Below w.heap.size w w':=by
 have C:=O (C6 f g hf T w);obtain⟨av,aJ⟩:=jB T;obtain⟨M,N⟩:=ha;have k0:(g==0)=false:=by simp;omega
 have k1:decide (a<1)=false:=by simp;omega
 have k2:decide (33<a)=false:=by simp;omega
 have w1:V.wrap (a - 1)=a - 1:=by rw[U];omega
 have w2:V.wrap (g - 1)=g - 1:=by rw[U];omega
 have t1:(a - 1).tmod 11=(a - 1) % 11:=OO (by omega);have t2:(a - 1).tdiv 11=(a - 1) / 11:=ON (by omega);have t3:(g - 1).tmod 2=(g - 1) % 2:=OO (by omega);have t4:(g - 1).tdiv 2=(g - 1) / 2:=ON (by omega);have b1:0<=(a - 1) % 11/\(a - 1) % 11<11:=by omega
 have b2:0<=(a - 1) / 11/\(a - 1) / 11<3:=by omega
 have b3:0<=(g - 1) % 2/\(g - 1) % 2<2:=by omega
 have b4:0<=(g - 1) / 2/\(g - 1) / 2<6:=by omega
 unfold gp gq;generalize (a - 1) % 11=G at*;generalize (a - 1) / 11=j at*;generalize (g - 1) % 2=I at*;generalize (g - 1) / 2=B at*;have v1:V.wrap j=j:=by rw[U];omega
 have v2:V.wrap B=B:=by rw[U];omega
 have v3:V.wrap (G*16)=G*16:=by rw[U];omega
 have v4:V.wrap (j*16)=j*16:=by rw[U];omega
 have v5:V.wrap (I*176)=I*176:=by rw[U];omega
 have v6:V.wrap (B*48)=B*48:=by rw[U];omega
 have v7:V.wrap (G*16+I*176)=G*16+I*176:=by rw[U];omega
 have v8:V.wrap (j*16+B*48)=j*16+B*48:=by rw[U];omega
 clear b1 b2 b3 b4 av aJ M N T;rcases hf with rfl|rfl
 ·skip
  go_enter Of,Od
  go_wp2_with (go_at_call 182;refine C.out.mono ?_;rintro e w3 ⟨⟨k,rfl⟩,D⟩;have K:=O D;clear D)
  go_ret3;exact⟨by simp,K.out⟩
 ·skip
  go_enter Of,Od
  go_wp2_with (go_at_call 182;refine C.out.mono ?_;rintro e w3 ⟨⟨k,rfl⟩,D⟩;have K:=O D;clear D)
  go_ret3;exact⟨by simp,K.out⟩
theorem sC (n:Int)(j: -15<=n/\n<=15)(w:World):Calls OE 137 #[X Y n] w λe w'=>e=OG (OC true)/\w=w':=by
 obtain⟨B,h2⟩:=j;have C:decide (-15<=n)=true:=by simp;omega
 have D:decide (n<=15)=true:=by simp;omega
 go_enter Tryz.func137,Tryz.ntmps137
 go_wp2_with fail
 go_ret;exact⟨rfl,rfl⟩
theorem Da (f g a x y:Int)(hf:f=0\/f=1)(hg:g∈aK f)(ha:1<=a/\a<=33)(hx: -15<=x/\x<=15)(hy: -15<=y/\y<=15)(w:World):
  Calls OE 82 #[.agg #[X Y f,X Y g,X Y a],X Y x,X Y y] w λe w'=>e=OG (X Y (if ph f g a x y then 0 else 12))/\Below w.heap.size w w':=by
 have av:=rP hf (jB hg) ha;have C:=O (λW=>ya f g a hf hg ha W);have D:=O (λW=>C9 f hf W);have PX:=O (λW=>sC x hx W);have PY:=O (λW=>sC y hy W);generalize jO f*jC f*3 / 2=sz at*;unfold ph;generalize gp f g a=p at*;generalize gq g a=q at*;generalize jO f=wd at*;generalize jC f=hi at*;obtain⟨c1,c2,c3,c4⟩:=av;obtain⟨x1,x2⟩:=hx;obtain⟨y1,y2⟩:=hy;have v1:V.wrap (p+x)=p+x:=by rw[U];omega
 have v2:V.wrap (q+y)=q+y:=by rw[U];omega
 have v3:V.wrap (p+x+16)=p+x+16:=by rw[U];omega
 have v4:V.wrap (q+y+16)=q+y+16:=by rw[U];omega
 have j:=O ((Below.refl _ w).alloc (OD _) (OI #[X Y f,X Y g,X Y a] 118));have B:=O (ab.new w 118 #[X Y f,X Y g,X Y a])
 have T:(decide (0<=p+x)&&decide (p+x+16<=wd)&&decide (0<=q+y)&&decide (q+y+16<=hi))= !(decide (p+x<0)||decide (wd<p+x+16)||decide (q+y<0)||decide (hi<q+y+16)):=by
  rw[Bool.eq_iff_iff];simp only[OY,decide_eq_true_eq,Bool.not_eq_true',Bool.or_eq_false_iff,decide_eq_false_iff_not];omega
 rw[T];clear T hf hg ha c1 c2 c3 c4 x1 x2 y1 y2
 cases k1:decide (p+x<0) with
 |true=>
  go_enter OM,OL
  go_wp2_with (first|(go_at_call 136;refine(C.out _).mono ?_;rintro e w2 ⟨rfl,I⟩;have G:=O (j.out.trans (I.mono j.out.size));have K:=B.out.below I B.out.lt;have N:=K.cell 0;(try dsimp only at N);clear K I)|(go_at_call 138;refine(D.out _).mono ?_;rintro e M ⟨rfl,rfl⟩)|(go_at_call 137;refine(PX.out _).mono ?_;rintro e M ⟨rfl,rfl⟩)|(go_at_call 137;refine(PY.out _).mono ?_;rintro e M ⟨rfl,rfl⟩))
  go_ret;exact⟨rfl,G.out⟩
 |false=>
  cases k2:decide (wd<p+x+16) with
  |true=>
   go_enter OM,OL
   go_wp2_with (first|(go_at_call 136;refine(C.out _).mono ?_;rintro e w2 ⟨rfl,I⟩;have G:=O (j.out.trans (I.mono j.out.size));have K:=B.out.below I B.out.lt;have N:=K.cell 0;(try dsimp only at N);clear K I)|(go_at_call 138;refine(D.out _).mono ?_;rintro e M ⟨rfl,rfl⟩)|(go_at_call 137;refine(PX.out _).mono ?_;rintro e M ⟨rfl,rfl⟩)|(go_at_call 137;refine(PY.out _).mono ?_;rintro e M ⟨rfl,rfl⟩))
   go_ret;exact⟨rfl,G.out⟩
  |false=>
   cases k3:decide (q+y<0) with
   |true=>
    go_enter OM,OL
    go_wp2_with (first|(go_at_call 136;refine(C.out _).mono ?_;rintro e w2 ⟨rfl,I⟩;have G:=O (j.out.trans (I.mono j.out.size));have K:=B.out.below I B.out.lt;have N:=K.cell 0;(try dsimp only at N);clear K I)|(go_at_call 138;refine(D.out _).mono ?_;rintro e M ⟨rfl,rfl⟩)|(go_at_call 137;refine(PX.out _).mono ?_;rintro e M ⟨rfl,rfl⟩)|(go_at_call 137;refine(PY.out _).mono ?_;rintro e M ⟨rfl,rfl⟩))
    go_ret;exact⟨rfl,G.out⟩
   |false=>
    cases k4:decide (hi<q+y+16) with
    |true=>
     go_enter OM,OL
     go_wp2_with (first|(go_at_call 136;refine(C.out _).mono ?_;rintro e w2 ⟨rfl,I⟩;have G:=O (j.out.trans (I.mono j.out.size));have K:=B.out.below I B.out.lt;have N:=K.cell 0;(try dsimp only at N);clear K I)|(go_at_call 138;refine(D.out _).mono ?_;rintro e M ⟨rfl,rfl⟩)|(go_at_call 137;refine(PX.out _).mono ?_;rintro e M ⟨rfl,rfl⟩)|(go_at_call 137;refine(PY.out _).mono ?_;rintro e M ⟨rfl,rfl⟩))
     go_ret;exact⟨rfl,G.out⟩
    |false=>
     go_enter OM,OL
     go_wp2_with (first|(go_at_call 136;refine(C.out _).mono ?_;rintro e w2 ⟨rfl,I⟩;have G:=O (j.out.trans (I.mono j.out.size));have K:=B.out.below I B.out.lt;have N:=K.cell 0;(try dsimp only at N);clear K I)|(go_at_call 138;refine(D.out _).mono ?_;rintro e M ⟨rfl,rfl⟩)|(go_at_call 137;refine(PX.out _).mono ?_;rintro e M ⟨rfl,rfl⟩)|(go_at_call 137;refine(PY.out _).mono ?_;rintro e M ⟨rfl,rfl⟩))
     go_ret;exact⟨rfl,G.out⟩
theorem Dc (m:aX)(A:Option Addr)(n c:Nat)(f g:Int)(T:wh m)(hf:f=0\/f=1)(hg:g∈aK f)(w:World):
  Calls OE 44 #[X Y f,X Y g,dU m A n c] w λe w'=>e=OG (OC (iL f g m))/\Below w.heap.size w w':=by
 have C:=O (λW=>ox m.kd W);unfold lY rx at C;have hx:=T.px;have hy:=T.py;simp only[aA,OY,decide_eq_true_eq] at hx hy;have D:=O (λW=>Da f g m.ad m.x m.y hf hg ⟨T.a1,T.a2⟩ (by omega) (by omega) W);obtain⟨ad,kd,qu,x,y,pa,bl⟩:=m;unfold iL dU;dsimp only at C D⊢;have I:=O ((Below.refl _ w).alloc (OD _) (OI #[X Y ad,X Y kd,X Y qu,X Y x,X Y y,X Y pa,OJ A n c] 55));have K:=O (ab.new w 55 #[X Y ad,X Y kd,X Y qu,X Y x,X Y y,X Y pa,OJ A n c]);generalize pI kd=bI at*;generalize pQ kd=bQ at*;generalize pV kd=bV at*;generalize pF kd=bF at*;generalize pC kd=bC at*;generalize ph f g ad x y=b1 at*;generalize (if eT kd then(0:Int) else 18)=er at*;clear T hx hy hf hg;have N:Hid (∀W,Calls OE 78 #[X Y kd] W λe w'=>e=OG (OW #[.agg #[OC bI,OC bQ,OC bV,OC bF,OC bC],X Y er])/\Below W.heap.size W w'):=O (λW=>C.out W);clear C
 cases bV with
 |false=>
  go_enter OX,OV
  go_wp2_with (go_at_call 78;refine(N.out _).mono ?_;rintro e w2 ⟨rfl,B⟩;have j:=O (I.out.trans (B.mono I.out.size));have G:=(K.out.below B K.out.lt).alloc (OI #[OC bI,OC bQ,OC false,OC bF,OC bC] 110);have z0:=G.cell 0;have z3:=G.cell 3;have z4:=G.cell 4;(try dsimp only at z0 z3 z4);clear G B)
  go_ret;exact⟨rfl,j.out.alloc j.out.size _⟩
 |true=>
  cases b1 with
  |false=>
   go_enter OX,OV
   go_wp2_with (first|(go_at_call 78;refine(N.out _).mono ?_;rintro e w2 ⟨rfl,B⟩;have j:=O (I.out.trans (B.mono I.out.size));have G:=(K.out.below B K.out.lt).alloc (OI #[OC bI,OC bQ,OC true,OC bF,OC bC] 110);have z0:=G.cell 0;have z3:=G.cell 3;have z4:=G.cell 4;(try dsimp only at z0 z3 z4);clear G B)|(go_at_call 82;refine(D.out _).mono ?_;rintro e w3 ⟨rfl,B⟩;have M:=O ((j.out.alloc j.out.size _).trans (B.mono (j.out.alloc j.out.size _).size));clear B))
   go_ret;exact⟨rfl,M.out⟩
  |true=>
   go_enter OX,OV
   go_wp2_with (first|(go_at_call 78;refine(N.out _).mono ?_;rintro e w2 ⟨rfl,B⟩;have j:=O (I.out.trans (B.mono I.out.size));have G:=(K.out.below B K.out.lt).alloc (OI #[OC bI,OC bQ,OC true,OC bF,OC bC] 110);have z0:=G.cell 0;have z3:=G.cell 3;have z4:=G.cell 4;(try dsimp only at z0 z3 z4);clear G B)|(go_at_call 82;refine(D.out _).mono ?_;rintro e w3 ⟨rfl,B⟩;have M:=O ((j.out.alloc j.out.size _).trans (B.mono (j.out.alloc j.out.size _).size));clear B))
   go_ret;exact⟨rfl,M.out⟩
theorem zL (w:World):Calls OE 181 #[] w λe w'=>(∃g,e=OG (OJ (some ⟨g,0,none⟩) 64 64)/\w.heap.size<=g/\ab w' g 3 lc)/\Below w.heap.size w w':=by
 go_enter Tryz.func181,Tryz.ntmps181
 go_wp2_with fail
 go_ret;exact⟨⟨_,rfl,OD _,ab.new w 3 lc⟩,(Below.refl _ _).alloc (OD _) _⟩
theorem yi (W:World):(Instr.makeSlice 61 (X Y 64) (X Y 64)).run OE W= .ok (OJ (some ⟨W.heap.size,0,none⟩) 64 64) (W.alloc (OI (cX.map aH).toArray 3)):=by
 kernel_rfl
def I8 (l:List (Int×Int)) (j:Int) (w:World) (e:Ending) (w':World):Prop:=∃v,e=OG (OW #[v,X Y (bG l j)])/\Below w.heap.size w w'/\
 (bG l j=0->∃b,v=OJ (some ⟨b,0,none⟩) 64 64/\ab w' b 3 ((qt l j).map aH).toArray)/\(bG l j≠0->v=OJ none 0 0)
theorem x7 (l:List (Int×Int))(A:Option Addr)(n c:Nat)(fr:Int)(Ky:fr=0\/fr=1)(w:World)(hS:Sl w A (az bd l))(hn:OF l=n)(hsz:n<=1099511627776):
  Calls OE 134 #[OJ A n c,X Y fr] w (I8 l fr w):=by
 obtain⟨E,hE⟩:∃E,bG l fr=E:=⟨_,rfl⟩;obtain⟨BL,K0⟩:∃B,qt l fr=B:=⟨_,rfl⟩;unfold I8;rw[hE,K0];have HE:=O hE;have K4:=O K0;have HS:=O hS;have HN:=O hn;have CO:=O (λW=>zL W);clear hE K0 hS hn;rcases Ky with rfl|rfl
 all_goals
  go_enter Tryz.func134,Tryz.ntmps134
  go_wp2_with fail
  refine aP (λ_=>True) 6 (OB 1 (.fork 0 (OU 2 (OU 3 (OU 4 (OU 5 .done)))) 2 (OU 0 (OU 3 (OU 4 (OU 5 .done)))))) (trivial) (λPE av=>?_)
  refine af (v:=?_) rfl (by rfl) ?_ ?_
  rotate_left
  ·intro _ cI;(try dsimp only at cI);go_simp;(try with_reducible rfl)
  simp only[Z,OA,J]
  have gj:Below w.heap.size w w.drew:=(Below.refl _ _).drew
  refine⟨?_,?_⟩
  ·refine aj (v:=OJ (some ⟨w.heap.size,0,none⟩) 64 64) (w':=w.drew.alloc (OI (cX.map aH).toArray 3)) rfl (by rfl) ?_ trivial ?_
   ·go_simp
    rw[yi];rfl
   simp only[Z,OA,J];refine aG (f:=181) (args:= #[]) rfl (by rfl) (by first|(go_simp;done)|(go_simp;rfl)) (CO.out _) ?_;rintro e w2 ⟨⟨b8,rfl,Ht,fJ⟩,iP⟩;refine⟨_,rfl,_,λ_ h=>h,trivial,?_⟩;simp only[Z,OA,J];refine aj (v:=?_) (w':=?_) rfl (by rfl) ?_ ?_ ?_;rotate_left 2
   ·go_simp;(try (constructor<;>with_reducible rfl))
   ·trivial
   simp only[Z,OA,J];refine aj (v:=?_) (w':=?_) rfl (by rfl) ?_ ?_ ?_;rotate_left 2
   ·go_simp;(try (constructor<;>with_reducible rfl))
   ·trivial
   simp only[Z,OA,J];refine aj (v:=?_) (w':=?_) rfl (by rfl) ?_ ?_ ?_;rotate_left 2
   ·go_simp;(try (constructor<;>with_reducible rfl))
   ·trivial
   simp only[Z,OA,J];refine av _ _ ?_;clear av PE;simp only[OH,Oc];have Kt:=(ab.new w.drew 3 (cX.map aH).toArray).below iP (ab.new w.drew 3 (cX.map aH).toArray).lt;have cE:=gj.alloc gj.size (OI (cX.map aH).toArray 3);have eE:Hid (ay w [(w.heap.size,3,(cX.map aH).toArray),(b8,3,lc)] [] w2):=O ⟨cE.trans (iP.mono cE.size),aa.cons Kt (aa.cons fJ (ai _)),aF _⟩;have Kz:w.heap.size+1<=b8:=(by simpa using Ht);have K5:Hid (w.heap.size<=w.heap.size/\b8≠w.heap.size):=O ⟨OD _,by omega⟩;clear Kt cE gj iP fJ Ht Kz;obtain⟨g,hg⟩:∃g,w.heap.size=g:=⟨_,rfl⟩;rw[hg] at eE⊢;have HG:Hid (w.heap.size<=g/\b8≠g):=O ⟨by omega,by rw[<-hg];exact K5.out.2⟩;have M:Hid (∀W:World,Below w.heap.size w W->Below g w W):=O (λW h=>by rw[<-hg];exact h);clear K5;go_wp2_with fail
   refine⟨rfl,?_⟩;go_wp2_with fail
   go_loopg [7,9] n (λgg v7 v9=> λwr=>∃(j a:Nat)(B:List Int),j+gg=n/\v7=X Y (a:Int)/\v9=X Y (j:Int)/\a<=64/\OF B=64/\Hid (bG (l.drop j) (a:Int)=E)/\Hid (gE B (l.drop j) (a:Int)=BL)/\Hid (ay w [(g,3,(B.map aH).toArray),(b8,3,lc)] [] wr))
   case atStart=>exact⟨0,_,cX,by omega,rfl,rfl,by decide,by decide,HE,K4,eE⟩
   case round=>
    obtain⟨j,a,B,hj,rfl,rfl,ha,kU,HP,HQ,G⟩:=hrel
    cases gk with
    |zero=>
     have K3:¬((j:Int)<(n:Int)):=(by omega);have hp:=HP.out;have hq:=HQ.out;rw[OS (by rw[HN.out];omega)] at hp hq;have jY:=O (show (0:Int)=E from hp);have Hu:=O (show B=BL from hq);clear hp hq;go_wp2_with fail
     go_ret2;refine⟨_,by rw[<-jY.out];rfl,(by first|exact G.out.1|exact M.out _ G.out.1),λ_=>⟨g,rfl,by rw[<-Hu.out];exact G.out.2.1.head⟩,λh=>absurd jY.out.symm h⟩
    |succ gg=>
     have K3:((j:Int)<(n:Int)):=(by omega);have dv:j<(OF l):=(by rw[HN.out];omega);obtain⟨ad,rfl,Kx,c0,c1⟩:=fH (HS.out.below G.out.1) j dv;have hp:=HP.out;have hq:=HQ.out;rw[OP dv] at hp hq;obtain⟨⟨p1,D⟩,rG⟩:∃p,l[j]=p:=⟨_,rfl⟩;rw[rG] at c0 c1 hp hq;rw[kv] at hp;dsimp only at c0 c1 hp;have hq:gE (B.set (iZ ((a:Int)+p1).toNat).toNat D) (l.drop (j+1)) ((a:Int)+p1+1)=BL:=hq;have I:=O hp;have kA:=O hq;have jg:=O kU;have KB:V.wrap ((j:Int)+1)=(j:Int)+1:=(by rw[U];omega);have K9:V.wrap (63 - (a:Int))=63 - (a:Int):=(by rw[U];omega);clear hp hq rG dv kU
     cases hz:(D==0) with
     |true=>
      have C:=O (show (10:Int)=E by have h:=I.out;rw[hz] at h;exact h);go_wp2_with fail
      go_ret2;exact⟨_,by rw[<-C.out];rfl,(by first|exact G.out.1|exact M.out _ G.out.1),λh=>absurd (C.out.trans h) (by decide),λ_=>rfl⟩
     |false=>
      by_cases K:D< -127
      ·have e1:decide (-127<=D)=false:=by simp;omega
       have e2:decide (D< -127)=true:=(by simpa using K);have C:=O (show (10:Int)=E by have h:=I.out;rw[hz,e1] at h;exact h);clear K;go_wp2_with fail
       go_ret2;exact⟨_,by rw[<-C.out];rfl,(by first|exact G.out.1|exact M.out _ G.out.1),λh=>absurd (C.out.trans h) (by decide),λ_=>rfl⟩
      have e1:decide (-127<=D)=true:=(by simp;omega);have e2:decide (D< -127)=false:=by simpa using K
      by_cases N:127<D
      ·have e3:decide (D<=127)=false:=by simp;omega
       have e4:decide (127<D)=true:=(by simpa using N);have C:=O (show (10:Int)=E by have h:=I.out;rw[hz,e1,e3] at h;exact h);clear K N;go_wp2_with fail
       go_ret2;exact⟨_,by rw[<-C.out];rfl,(by first|exact G.out.1|exact M.out _ G.out.1),λh=>absurd (C.out.trans h) (by decide),λ_=>rfl⟩
      have e3:decide (D<=127)=true:=(by simp;omega);have e4:decide (127<D)=false:=by simpa using N
      by_cases T:p1<0
      ·have d0:decide (p1<0)=true:=decide_eq_true T
       have C:=O (show (11:Int)=E by have h:=I.out;rw[hz,e1,e3,d0] at h;exact h);clear T K N;go_wp2_with fail
       go_ret2;exact⟨_,by rw[<-C.out];rfl,(by first|exact G.out.1|exact M.out _ G.out.1),λh=>absurd (C.out.trans h) (by decide),λ_=>rfl⟩
      have d0:decide (p1<0)=false:=decide_eq_false T
      by_cases bM:63 - (a:Int)<p1
      ·have d1:decide (63 - (a:Int)<p1)=true:=decide_eq_true bM
       have C:=O (show (11:Int)=E by have h:=I.out;rw[hz,e1,e3,d0,d1] at h;exact h);clear T bM K N;go_wp2_with fail
       go_ret2;exact⟨_,by rw[<-C.out];rfl,(by first|exact G.out.1|exact M.out _ G.out.1),λh=>absurd (C.out.trans h) (by decide),λ_=>rfl⟩
      have d1:decide (63 - (a:Int)<p1)=false:=decide_eq_false bM;have C:=O (show bG (l.drop (j+1)) ((a:Int)+p1+1)=E by have h:=I.out;rw[hz,e1,e3,d0,d1] at h;exact h);obtain⟨r,rfl⟩:=OR (by omega:0<=p1);obtain⟨q,Hl⟩:∃q,q=a+r:=⟨_,rfl⟩;have K6:q<=63:=(by omega);obtain⟨z,dO⟩:∃z:Nat,iZ q=(z:Int):=⟨(iZ q).toNat,by have:=iT q (by omega);omega⟩;have Ku:z<=63:=(by have:=iT q (by omega);omega);have dy:(a:Int)+(r:Int)=(q:Int):=(by omega);have JT:=O (show gE (B.set z D) (l.drop (j+1)) ((q:Int)+1)=BL by have h:=kA.out;rw[dy,OK,dO,OK] at h;exact h);rw[dy] at C;have aJ:=O (bB G.out)
      have x8:wr.drew.cell? ⟨b8,q,none⟩=some (X Y (z:Int)):=by
       have h:=aJ.out.2.1.tail.head;dsimp only at h;rw[h.cell,wL q (by omega),dO]
      have fz:=aJ.out.2.1.head.frozen z
      obtain⟨vz,xz⟩:∃vz,wr.drew.cell? ⟨g,z,none⟩=some vz:=by
       have h:=aJ.out.2.1.head;dsimp only at h;rw[h.cell,OT];exact⟨_,OQ (by rw[OZ,jg.out];omega)⟩
      have KA:¬((q:Int)<0):=(by omega);have K8:(q:Int)<64:=(by omega);have KE:¬((z:Int)<0):=(by omega);have Kv:(z:Int)<64:=(by omega);have KC:V.wrap ((q:Int)+1)=(q:Int)+1:=(by rw[U];omega);have KD:V.wrap ((a:Int)+(r:Int))=(q:Int):=(by rw[dy,U];omega);have Kw:=O Hl;have c2:wr.drew.cell? ⟨(ad.add (j*2)).block,(ad.add (j*2)).off+1,none⟩=some (X Y D):=c1;clear T bM dO Hl I kA K N;go_wp2_with fail
      refine aP (λw'=>w'.cell? ⟨b8,q,none⟩=some (X Y (z:Int))/\w'.cell? ⟨(ad.add (j*2)).block,(ad.add (j*2)).off+1,none⟩=some (X Y D)) 11 (OB 0 (OB 1 (OB 2 (OB 3 (OB 4 (OB 5 (OB 6 (OB 7 (OB 8 (OB 9 (OB 10 .done))))))))))) (⟨x8,c2⟩) (λPE av=>?_)
      iterate 11
       refine af (v:=?_) rfl (by rfl) ?_ ?_
       rotate_left
       ·intro _ cI;(try dsimp only at cI);obtain⟨s0,s1⟩:=cI;go_simp;(try with_reducible rfl)
       simp only[Z,OA,J]
      refine av _ _ ?_;clear av PE;simp only[OH,Ob];go_wp2_with fail
      refine⟨rfl,?_⟩;go_wp2_with fail
      go_roundg gg
      case measure=>omega
      case rel=>
       refine⟨j+1,q+1,B.set z D,by omega,by simp,by simp,by omega,by rw[Oa];exact jg.out,C,JT,O ?_⟩;have h:=gL aJ.out HG.out.1 z (X Y D) (by simpa using HG.out.2) (by simp);rw[Z,show ((B.map aH).set z (Value.int Y D))=(B.set z D).map aH by rw[Oe];rfl] at h;exact h
  ·refine aG (f:=181) (args:= #[]) rfl (by rfl) (by first|(go_simp;done)|(go_simp;rfl)) (CO.out _) ?_
   rintro e w2 ⟨⟨b8,rfl,Ht,fJ⟩,iP⟩;refine⟨_,rfl,_,λ_ h=>h,trivial,?_⟩;simp only[Z,OA,J];refine aj (v:=OJ (some ⟨w2.heap.size,0,none⟩) 64 64) (w':=w2.alloc (OI (cX.map aH).toArray 3)) rfl (by rfl) ?_ trivial ?_
   ·go_simp
    rw[yi];rfl
   simp only[Z,OA,J];refine aj (v:=?_) (w':=?_) rfl (by rfl) ?_ ?_ ?_;rotate_left 2
   ·go_simp;(try (constructor<;>with_reducible rfl))
   ·trivial
   simp only[Z,OA,J];refine aj (v:=?_) (w':=?_) rfl (by rfl) ?_ ?_ ?_;rotate_left 2
   ·go_simp;(try (constructor<;>with_reducible rfl))
   ·trivial
   simp only[Z,OA,J];refine aj (v:=?_) (w':=?_) rfl (by rfl) ?_ ?_ ?_;rotate_left 2
   ·go_simp;(try (constructor<;>with_reducible rfl))
   ·trivial
   simp only[Z,OA,J];refine av _ _ ?_;clear av PE;simp only[OH,Oc];have cE:=gj.trans (iP.mono gj.size);have eE:Hid (ay w [(w2.heap.size,3,(cX.map aH).toArray),(b8,3,lc)] [] (w2.alloc (OI (cX.map aH).toArray 3))):=O ⟨cE.alloc cE.size _,aa.cons (ab.new _ _ _) (aa.cons (fJ.alloc _) (ai _)),aF _⟩;have M:Hid (∀W:World,Below w.heap.size w W->Below w.heap.size w W):=O (λW h=>h);have HG:Hid (w.heap.size<=w2.heap.size/\b8≠w2.heap.size):=O ⟨cE.size,by have:=fJ.lt;omega⟩;clear cE gj iP fJ Ht;generalize w2.alloc (OI (cX.map aH).toArray 3)=w4 at eE⊢;generalize w2.heap.size=g at eE HG⊢;go_wp2_with fail
   refine⟨rfl,?_⟩;go_wp2_with fail
   go_loopg [7,9] n (λgg v7 v9=> λwr=>∃(j a:Nat)(B:List Int),j+gg=n/\v7=X Y (a:Int)/\v9=X Y (j:Int)/\a<=64/\OF B=64/\Hid (bG (l.drop j) (a:Int)=E)/\Hid (gE B (l.drop j) (a:Int)=BL)/\Hid (ay w [(g,3,(B.map aH).toArray),(b8,3,lc)] [] wr))
   case atStart=>exact⟨0,_,cX,by omega,rfl,rfl,by decide,by decide,HE,K4,eE⟩
   case round=>
    obtain⟨j,a,B,hj,rfl,rfl,ha,kU,HP,HQ,G⟩:=hrel
    cases gk with
    |zero=>
     have K3:¬((j:Int)<(n:Int)):=(by omega);have hp:=HP.out;have hq:=HQ.out;rw[OS (by rw[HN.out];omega)] at hp hq;have jY:=O (show (0:Int)=E from hp);have Hu:=O (show B=BL from hq);clear hp hq;go_wp2_with fail
     go_ret2;refine⟨_,by rw[<-jY.out];rfl,(by first|exact G.out.1|exact M.out _ G.out.1),λ_=>⟨g,rfl,by rw[<-Hu.out];exact G.out.2.1.head⟩,λh=>absurd jY.out.symm h⟩
    |succ gg=>
     have K3:((j:Int)<(n:Int)):=(by omega);have dv:j<(OF l):=(by rw[HN.out];omega);obtain⟨ad,rfl,Kx,c0,c1⟩:=fH (HS.out.below G.out.1) j dv;have hp:=HP.out;have hq:=HQ.out;rw[OP dv] at hp hq;obtain⟨⟨p1,D⟩,rG⟩:∃p,l[j]=p:=⟨_,rfl⟩;rw[rG] at c0 c1 hp hq;rw[kv] at hp;dsimp only at c0 c1 hp;have hq:gE (B.set (iZ ((a:Int)+p1).toNat).toNat D) (l.drop (j+1)) ((a:Int)+p1+1)=BL:=hq;have I:=O hp;have kA:=O hq;have jg:=O kU;have KB:V.wrap ((j:Int)+1)=(j:Int)+1:=(by rw[U];omega);have K9:V.wrap (63 - (a:Int))=63 - (a:Int):=(by rw[U];omega);clear hp hq rG dv kU
     cases hz:(D==0) with
     |true=>
      have C:=O (show (10:Int)=E by have h:=I.out;rw[hz] at h;exact h);go_wp2_with fail
      go_ret2;exact⟨_,by rw[<-C.out];rfl,(by first|exact G.out.1|exact M.out _ G.out.1),λh=>absurd (C.out.trans h) (by decide),λ_=>rfl⟩
     |false=>
      by_cases K:D< -127
      ·have e1:decide (-127<=D)=false:=by simp;omega
       have e2:decide (D< -127)=true:=(by simpa using K);have C:=O (show (10:Int)=E by have h:=I.out;rw[hz,e1] at h;exact h);clear K;go_wp2_with fail
       go_ret2;exact⟨_,by rw[<-C.out];rfl,(by first|exact G.out.1|exact M.out _ G.out.1),λh=>absurd (C.out.trans h) (by decide),λ_=>rfl⟩
      have e1:decide (-127<=D)=true:=(by simp;omega);have e2:decide (D< -127)=false:=by simpa using K
      by_cases N:127<D
      ·have e3:decide (D<=127)=false:=by simp;omega
       have e4:decide (127<D)=true:=(by simpa using N);have C:=O (show (10:Int)=E by have h:=I.out;rw[hz,e1,e3] at h;exact h);clear K N;go_wp2_with fail
       go_ret2;exact⟨_,by rw[<-C.out];rfl,(by first|exact G.out.1|exact M.out _ G.out.1),λh=>absurd (C.out.trans h) (by decide),λ_=>rfl⟩
      have e3:decide (D<=127)=true:=(by simp;omega);have e4:decide (127<D)=false:=by simpa using N
      by_cases T:p1<0
      ·have d0:decide (p1<0)=true:=decide_eq_true T
       have C:=O (show (11:Int)=E by have h:=I.out;rw[hz,e1,e3,d0] at h;exact h);clear T K N;go_wp2_with fail
       go_ret2;exact⟨_,by rw[<-C.out];rfl,(by first|exact G.out.1|exact M.out _ G.out.1),λh=>absurd (C.out.trans h) (by decide),λ_=>rfl⟩
      have d0:decide (p1<0)=false:=decide_eq_false T
      by_cases bM:63 - (a:Int)<p1
      ·have d1:decide (63 - (a:Int)<p1)=true:=decide_eq_true bM
       have C:=O (show (11:Int)=E by have h:=I.out;rw[hz,e1,e3,d0,d1] at h;exact h);clear T bM K N;go_wp2_with fail
       go_ret2;exact⟨_,by rw[<-C.out];rfl,(by first|exact G.out.1|exact M.out _ G.out.1),λh=>absurd (C.out.trans h) (by decide),λ_=>rfl⟩
      have d1:decide (63 - (a:Int)<p1)=false:=decide_eq_false bM;have C:=O (show bG (l.drop (j+1)) ((a:Int)+p1+1)=E by have h:=I.out;rw[hz,e1,e3,d0,d1] at h;exact h);obtain⟨r,rfl⟩:=OR (by omega:0<=p1);obtain⟨q,Hl⟩:∃q,q=a+r:=⟨_,rfl⟩;have K6:q<=63:=(by omega);obtain⟨z,dO⟩:∃z:Nat,iZ q=(z:Int):=⟨(iZ q).toNat,by have:=iT q (by omega);omega⟩;have Ku:z<=63:=(by have:=iT q (by omega);omega);have dy:(a:Int)+(r:Int)=(q:Int):=(by omega);have JT:=O (show gE (B.set z D) (l.drop (j+1)) ((q:Int)+1)=BL by have h:=kA.out;rw[dy,OK,dO,OK] at h;exact h);rw[dy] at C;have aJ:=O (bB G.out)
      have x8:wr.drew.cell? ⟨b8,q,none⟩=some (X Y (z:Int)):=by
       have h:=aJ.out.2.1.tail.head;dsimp only at h;rw[h.cell,wL q (by omega),dO]
      have fz:=aJ.out.2.1.head.frozen z
      obtain⟨vz,xz⟩:∃vz,wr.drew.cell? ⟨g,z,none⟩=some vz:=by
       have h:=aJ.out.2.1.head;dsimp only at h;rw[h.cell,OT];exact⟨_,OQ (by rw[OZ,jg.out];omega)⟩
      have KA:¬((q:Int)<0):=(by omega);have K8:(q:Int)<64:=(by omega);have KE:¬((z:Int)<0):=(by omega);have Kv:(z:Int)<64:=(by omega);have KC:V.wrap ((q:Int)+1)=(q:Int)+1:=(by rw[U];omega);have KD:V.wrap ((a:Int)+(r:Int))=(q:Int):=(by rw[dy,U];omega);have Kw:=O Hl;have c2:wr.drew.cell? ⟨(ad.add (j*2)).block,(ad.add (j*2)).off+1,none⟩=some (X Y D):=c1;clear T bM dO Hl I kA K N;go_wp2_with fail
      refine aP (λw'=>w'.cell? ⟨b8,q,none⟩=some (X Y (z:Int))/\w'.cell? ⟨(ad.add (j*2)).block,(ad.add (j*2)).off+1,none⟩=some (X Y D)) 11 (OB 0 (OB 1 (OB 2 (OB 3 (OB 4 (OB 5 (OB 6 (OB 7 (OB 8 (OB 9 (OB 10 .done))))))))))) (⟨x8,c2⟩) (λPE av=>?_)
      iterate 11
       refine af (v:=?_) rfl (by rfl) ?_ ?_
       rotate_left
       ·intro _ cI;(try dsimp only at cI);obtain⟨s0,s1⟩:=cI;go_simp;(try with_reducible rfl)
       simp only[Z,OA,J]
      refine av _ _ ?_;clear av PE;simp only[OH,Ob];go_wp2_with fail
      refine⟨rfl,?_⟩;go_wp2_with fail
      go_roundg gg
      case measure=>omega
      case rel=>
       refine⟨j+1,q+1,B.set z D,by omega,by simp,by simp,by omega,by rw[Oa];exact jg.out,C,JT,O ?_⟩;have h:=gL aJ.out HG.out.1 z (X Y D) (by simpa using HG.out.2) (by simp);rw[Z,show ((B.map aH).set z (Value.int Y D))=(B.set z D).map aH by rw[Oe];rfl] at h;exact h
end Go.Proofs.YthhijgcfbjcgiaaGreatDoor
