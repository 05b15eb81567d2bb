/- Fits, PicS, Pen, PenW, PenP2, Grp -/
import Derived.Test.YthhijgcfbjcgiaaGreatDoorS26
import Derived.Test.YthhijgcfbjcgiaaGreatDoorS17
import Derived.Test.YthhijgcfbjcgiaaGreatDoorS18
import Derived.Test.YthhijgcfbjcgiaaGreatDoorS03
import Derived.Test.YthhijgcfbjcgiaaGreatDoorS04
import Derived.Test.YthhijgcfbjcgiaaGreatDoorS02
import Derived.Test.YthhijgcfbjcgiaaGreatDoorS10
import Derived.Test.YthhijgcfbjcgiaaGreatDoorS16
import Derived.Laws.BitsAllLaws
import Derived.Test.YthhijgcfbjcgiaaGreatDoorS01
import Derived.Deep.LoopGhost
namespace Go.Proofs.YthhijgcfbjcgiaaGreatDoor
open Go Go.RowKit
attribute [local go_sem] Oper.semAt_some
open Go.Lib renaming hid→zAA
open Go.IntKind renaming wrap_i64→zAB,i64→zAC,u8→zAV
open Int renaming cast_ofNat_Int→zAD,tmod_eq_emod_of_nonneg→zAM,toNat_natCast→zAZ,natCast_zero→zA3
open Nat renaming le_refl→zAE,sub_self→zAY,mod_eq_of_lt→zA5,reduceSub→zAa,zero_mul→zAd,one_mul→zAe
open List renaming length_append→zAF,setIfInBounds_toArray→zAG,getElem?_eq_getElem→zAH,append_assoc→zAI,set_cons_succ→zAK,set_cons_zero→zAL,getElem?_cons_succ→zAO,getElem?_cons_zero→zAP,length_map→zAQ,nil_append→zAR,take_of_length_le→zAS,getElem?_toArray→zAT,length_singleton→zAU,map_cons→zAW,drop_succ_cons→zAX,getElem?_map→zA0,take_add_one→zA1,length_take→zA4,append_nil→zA6,map_append→zA7,drop_zero→zA8,take_zero→zA9,map_nil→zAc,getD→zAf
open Bool renaming and_eq_true→zAJ
open Option renaming getD_some→zAN
open Go.World renaming ownsRow_nil→zA2,setCell→zAb
def GB (w:World) (e:Ending) (w':World):Prop:=w=w'∧∃k:Nat,e= .returned (.int .i64 (k:Int))
set_option maxRecDepth 100000 in
set_option maxHeartbeats 2000000 in
theorem DK (A:Option Addr) (n c:Nat) (l:List Int) (x:Int) (w:World) (hA:Sl w A (l.map aY)) (hn:l.length=n) (hsz:n≤1000) (hx:x∈l):Calls Tryz.prog 251 #[.slice A n c,.int .i64 x] w (GB w):=by
 have HA:=zAA hA;have HN:=zAA hn;have HX:=zAA hx
 clear hA hn hx
 go_enter Tryz.func251,Tryz.ntmps251
 go_wp2_with fail
 go_loopg [8] n (fun gk i=>fun wr=>∃(j:Nat),j+gk=n∧i= .int .i64 (j:Int)∧wr=w∧Hid (∀k (h:k<l.length),k<j→l[k]≠x))
 case atStart=>exact ⟨0,by omega,rfl,rfl,zAA (fun k h h2=>by omega)⟩
 case round=>
  obtain ⟨j,hj,rfl,rfl,HJ⟩:=hrel
  cases gk with
  |zero=>
   obtain ⟨k,hk,hkx⟩:=List.getElem_of_mem HX.out
   exact absurd hkx (HJ.out k hk (by have:=HN.out;omega))
  |succ g=>
   have hlt:((j:Int)<(n:Int)):=by omega
   have hj0:¬((j:Int)<0):=by omega
   have hjl:j<l.length:=by rw [HN.out];omega
   obtain ⟨ad,rfl,_,hc⟩:=HA.out.int j hjl
   obtain ⟨y,hy⟩:∃y,l[j]=y:=⟨_,rfl⟩
   rw [hy] at hc
   have hw1:zAC.wrap ((j:Int)+1)=(j:Int)+1:=by rw [zAB];omega
   have HY:=zAA hy;have HJJ:=zAA hj
   cases he:(x==y) with
   |true=>
    clear hj
    go_wp2_with fail
    go_ret
    exact ⟨rfl,j,rfl⟩
   |false=>
    have HNE:Hid (y≠x):=zAA (fun e=>by subst e;simp at he)
    clear hj
    go_wp2_with fail
    go_roundg g
    case measure=>omega
    case rel=>
     refine ⟨j+1,by have:=HJJ.out;omega,rfl,rfl,zAA fun k h hk=>?_⟩
     rcases Nat.lt_or_ge k j with h1|h1
     ·exact HJ.out k h h1
     ·obtain rfl:k=j:=by omega
      rw [HY.out];exact HNE.out
theorem wH (A:Option Addr) (n c:Nat) (l:List Int) (x:Int) (w:World) (hA:Sl w A (l.map aY)) (hn:l.length=n) (hsz:n≤1000) (hx:x∈l):Calls Tryz.prog 217 #[.slice A n c,.int .i64 x] w fun e w'=>e= .returned (.bool true)∧w=w':=by
 have C:=zAA (DK A n c l x w hA hn hsz hx)
 clear hA hn hx
 go_enter Tryz.func217,Tryz.ntmps217
 go_wp2_with (go_at_call 251;refine C.out.mono ?_;rintro e w2 ⟨rfl,k,rfl⟩;have hk:(0:Int)≤(k:Int):=by omega)
 go_ret
 exact ⟨rfl,rfl⟩
theorem lY (f:Int) (hf:f=0∨f=1) (w:World):Calls Tryz.prog 38 #[.int .i64 f] w fun e w'=>∃A c,e= .returned (.tuple #[.slice A (aQ f).length c,.int .i64 0])∧w'.ownsRow w.heap.size 3 1 (.slice A (aQ f).length c) (aQ f).length ((aQ f).map aY)∧Below w.heap.size w w':=by
 have C:=zAA (qH f hf w);have D:=zAA (wR f hf w)
 unfold tg at D
 clear hf
 generalize (aQ f).length=n at*
 generalize (aQ f).map aY=xs at*
 go_enter Tryz.func38,Tryz.ntmps38
 go_wp2_with (first|(go_at_call 73;refine C.out.mono ?_;rintro e w2 ⟨rfl,rfl⟩)|(go_at_call 74;refine D.out.mono ?_;rintro e w2 ⟨A,c,rfl,hs,hb⟩;have HS:=zAA hs;have HB:=zAA hb;clear hs hb))
 go_ret2
 exact ⟨A,c,rfl,HS.out,HB.out⟩
theorem sg {f g:Int} (hg:g∈aQ f):1≤g∧g≤12:=by
 unfold aQ at hg
 split at hg
 ·simp at hg;omega
 ·simp at hg;omega
theorem wP (f g a:Int) (hf:f=0∨f=1) (hg:g∈aQ f) (ha:1≤a∧a≤33) (w:World):Calls Tryz.prog 178 #[.int .i64 f,.int .i64 g,.int .i64 a] w fun e w'=>e= .returned (.tuple #[.int .i64 (iC f g a),.int .i64 (iD g a),.int .i64 0])∧Below w.heap.size w w':=by
 have C:=zAA (lY f hf w)
 have D:=zAA (fun A n c W h1 h2 h3=>wH A n c (aQ f) g W h1 h2 h3 hg)
 have E:=zAA (fun W=>wQ f g a hf (sg hg) ha W)
 have HL:Hid ((aQ f).length≤12):=zAA (ky f)
 obtain ⟨ha1,ha2⟩:=ha
 have k1:decide (a<1)=false:=by simp;omega
 have k2:decide (33<a)=false:=by simp;omega
 obtain ⟨n,hn⟩:∃n,(aQ f).length=n:=⟨_,rfl⟩
 rw [hn] at C
 have HN:=zAA hn
 generalize iC f g a=vx at*
 generalize iD g a=vy at*
 clear hf hg ha1 ha2 hn
 go_enter Tryz.func178,Tryz.ntmps178
 go_wp2_with (first|(go_at_call 38;refine C.out.mono ?_;rintro e w2 ⟨A,c,rfl,hs,hb⟩;have HS:=zAA (jc hs);have HB:=zAA hb;clear hs hb)|(go_at_call 217;refine (D.out _ _ _ _ HS.out HN.out (by have:=HL.out;have:=HN.out;omega)).mono ?_;rintro e w3 ⟨rfl,rfl⟩)|(go_at_call 218;refine (E.out _).mono ?_;rintro e w4 ⟨rfl,rfl⟩))
 go_ret3
 exact ⟨rfl,HB.out⟩
def xa (w h x y:Int):Bool:=decide (0≤x)&&decide (x<w)&&decide (0≤y)&&decide (y<h)
set_option maxRecDepth 100000 in
theorem DW (v:Value) (w h x y:Int) (W:World) (hv:v= .slice none 0 0):Calls Tryz.prog 180 #[.agg #[v,.int .i64 w,.int .i64 h],.int .i64 x,.int .i64 y] W fun e W'=>e= .returned (.bool (xa w h x y))∧Below W.heap.size W W':=by
 subst hv
 have HB:=zAA ((Below.refl _ W).alloc (zAE _) (.cells #[.slice none 0 0,.int .i64 w,.int .i64 h] 201))
 unfold xa
 cases h1:decide (0≤x) with
 |false=>
  go_enter Tryz.func180,Tryz.ntmps180
  go_wp2_with fail
  go_ret
  exact ⟨rfl,HB.out⟩
 |true=>
  cases h2:decide (x<w) with
  |false=>
   go_enter Tryz.func180,Tryz.ntmps180
   go_wp2_with fail
   go_ret
   exact ⟨rfl,HB.out⟩
  |true=>
   cases h3:decide (0≤y) with
   |false=>
    go_enter Tryz.func180,Tryz.ntmps180
    go_wp2_with fail
    go_ret
    exact ⟨rfl,HB.out⟩
   |true=>
    cases h4:decide (y<h) with
    |false=>
     go_enter Tryz.func180,Tryz.ntmps180
     go_wp2_with fail
     go_ret
     exact ⟨rfl,HB.out⟩
    |true=>
     go_enter Tryz.func180,Tryz.ntmps180
     go_wp2_with fail
     go_ret
     exact ⟨rfl,HB.out⟩
theorem I0 (f g a x y:Int):xb f g a x y=(xa (nh f) (m9 f) (iC f g a+x) (iD g a+y)&&xa (nh f) (m9 f) (iC f g a+x+15) (iD g a+y+15)):=by
 unfold xb xa
 generalize iC f g a=p
 generalize iD g a=q
 generalize nh f=w
 generalize m9 f=h
 rw [Bool.eq_iff_iff]
 simp only [zAJ,decide_eq_true_eq]
 omega
theorem BG {f g a:Int} (hf:f=0∨f=1) (hg:1≤g∧g≤12) (ha:1≤a∧a≤33):0≤iC f g a∧iC f g a≤1000∧0≤iD g a∧iD g a≤1000:=by
 unfold iC iD
 rcases hf with rfl|rfl
 ·rw [if_neg (by decide)];omega
 ·rw [if_pos rfl];omega
set_option maxRecDepth 100000 in
set_option maxHeartbeats 4000000 in
theorem zj (f g a x y:Int) (hf:f=0∨f=1) (hg:g∈aQ f) (ha:1≤a∧a≤33) (hx: -15≤x∧x≤15) (hy: -15≤y∧y≤15) (w:World):
  Calls Tryz.prog 131 #[.agg #[.int .i64 f,.int .i64 g,.int .i64 a],.int .i64 x,.int .i64 y] w fun e w'=>e= .returned (.int .i64 (if xb f g a x y then 0 else 12))∧Below w.heap.size w w':=by
 rw [I0]
 have hcr:=BG hf (sg hg) ha
 have C:=zAA (fun W=>wP f g a hf hg ha W)
 have D:=zAA (fun W=>BO f hf W)
 obtain ⟨mx,hmx,hml⟩:∃mx:Int,(∀(ts:Array TypeId) (t:TypeId) (W:World),(Builtin.max_ ts t #[.int .i64 x,.int .i64 (-x),.int .i64 y,.int .i64 (-y)]).run Tryz.prog W= .ok (.int .i64 mx) W)∧mx≤15:=by
  refine ⟨_,fun _ _ _=>rfl,?_⟩
  repeat' split
  all_goals omega
 have hmn2:¬(min x y< -15):=by omega
 have k1:decide (15<mx)=false:=by simp;omega
 have k2:decide (min x y< -15)=false:=by simpa using hmn2
 have n1:zAC.wrap (-x)= -x:=by rw [zAB];omega
 have n2:zAC.wrap (-y)= -y:=by rw [zAB];omega
 generalize nh f*m9 f*3 / 2=sz at*
 have M:=zAA (fun u v W=>DW (.slice none 0 0) (nh f) (m9 f) u v W rfl)
 generalize iC f g a=p at*
 generalize iD g a=q at*
 generalize nh f=wd at*
 generalize m9 f=hi at*
 obtain ⟨c1,c2,c3,c4⟩:=hcr
 obtain ⟨x1,x2⟩:=hx
 obtain ⟨y1,y2⟩:=hy
 have v1:zAC.wrap (p+x)=p+x:=by rw [zAB];omega
 have v2:zAC.wrap (q+y)=q+y:=by rw [zAB];omega
 have v3:zAC.wrap (p+x+15)=p+x+15:=by rw [zAB];omega
 have v4:zAC.wrap (q+y+15)=q+y+15:=by rw [zAB];omega
 have HB0:=zAA ((Below.refl _ w).alloc (zAE _) (.cells #[.int .i64 f,.int .i64 g,.int .i64 a] 118))
 have HS0:=zAA (ab.new w 118 #[.int .i64 f,.int .i64 g,.int .i64 a])
 have MA:=zAA (fun W=>M.out (p+x) (q+y) W);have MB:=zAA (fun W=>M.out (p+x+15) (q+y+15) W)
 generalize xa wd hi (p+x) (q+y)=b1 at*
 generalize xa wd hi (p+x+15) (q+y+15)=b2 at*
 clear hf hg ha hml c1 c2 c3 c4 x1 x2 y1 y2 M
 go_enter Tryz.func131,Tryz.ntmps131
 go_wp2_with (first|(go_at_call 178;refine (C.out _).mono ?_;rintro e w2 ⟨rfl,hb⟩;have HB2:=zAA (HB0.out.trans (hb.mono HB0.out.size));have hz:=HS0.out.below hb HS0.out.lt;have z0:=hz.cell 0;(try dsimp only at z0);clear hz hb)|(go_at_call 179;refine (D.out _).mono ?_;rintro e w3 ⟨rfl,rfl⟩))
 obtain ⟨k,hk⟩:∃k,w2.heap.size=k:=⟨_,rfl⟩
 have hp:=aD (ab.new w2 201 #[.slice none 0 0,.int .i64 wd,.int .i64 hi]) hk
 have hb3:=HB2.out.alloc HB2.out.size (.cells #[.slice none 0 0,.int .i64 wd,.int .i64 hi] 201)
 rw [hk]
 generalize w2.alloc (.cells #[.slice none 0 0,.int .i64 wd,.int .i64 hi] 201)=w3 at hp hb3⊢
 have HP:=zAA hp;have HB3:=zAA hb3
 clear hp hb3 hk z0
 refine (MA.out _).mono ?_
 rintro e w4 ⟨rfl,hb⟩
 have hz:=HP.out.below hb HP.out.lt
 have z0:=hz.cell 0;have z1:=hz.cell 1;have z2:=hz.cell 2
 (try dsimp only at z0 z1 z2)
 have HB4:=zAA (HB3.out.trans (hb.mono HB3.out.size))
 clear hz hb HP HB3
 cases b1 with
 |false=>
  go_wp2_with fail
  go_ret
  exact ⟨rfl,HB4.out⟩
 |true=>
  cases b2 with
  |false=>
   go_wp2_with (go_at_call 180;refine (MB.out _).mono ?_;rintro e w5 ⟨rfl,hb⟩;have HB5:=zAA (HB4.out.trans (hb.mono HB4.out.size));clear hb)
   go_ret
   exact ⟨rfl,HB5.out⟩
  |true=>
   go_wp2_with (go_at_call 180;refine (MB.out _).mono ?_;rintro e w5 ⟨rfl,hb⟩;have HB5:=zAA (HB4.out.trans (hb.mono HB4.out.size));clear hb)
   go_ret
   exact ⟨rfl,HB5.out⟩
set_option maxRecDepth 100000 in
set_option maxHeartbeats 2000000 in
theorem qV (m:aU) (A:Option Addr) (n c:Nat) (f g:Int) (hm:rN m) (hf:f=0∨f=1) (hg:g∈aQ f) (w:World):
  Calls Tryz.prog 77 #[.int .i64 f,.int .i64 g,fx m A n c] w fun e w'=>e= .returned (.bool (kf f g m))∧Below w.heap.size w w':=by
 have C:=zAA (fun W=>nw m.kd W)
 rw [show kP m.kd=qq m.kd by unfold kP;rw [hm.kd];rfl,show mK m.kd=0 by unfold mK;rw [hm.kd];rfl] at C
 have hx:=hm.px;have hy:=hm.py
 simp only [aH,zAJ,decide_eq_true_eq] at hx hy
 have D:=zAA (fun W=>zj f g m.ad m.x m.y hf hg ⟨hm.a1,hm.a2⟩ (by omega) (by omega) W)
 obtain ⟨ad,kd,qu,x,y,pa,bl⟩:=m
 unfold kf fx
 unfold qq at C
 dsimp only at C D⊢
 have HB0:=zAA ((Below.refl _ w).alloc (zAE _) (.cells #[.int .i64 ad,.int .i64 kd,.int .i64 qu,.int .i64 x,.int .i64 y,.int .i64 pa,.slice A n c] 55))
 have HM0:=zAA (ab.new w 55 #[.int .i64 ad,.int .i64 kd,.int .i64 qu,.int .i64 x,.int .i64 y,.int .i64 pa,.slice A n c])
 generalize pI kd=bI at*
 generalize pQ kd=bQ at*
 generalize pV kd=bV at*
 generalize pF kd=bF at*
 generalize pC kd=bC at*
 generalize xb f g ad x y=b1 at*
 clear hm hx hy hf hg
 have HCC:Hid (∀W,Calls Tryz.prog 106 #[.int .i64 kd] W fun e w'=>e= .returned (.tuple #[.agg #[.bool bI,.bool bQ,.bool bV,.bool bF,.bool bC],.int .i64 0])∧Below W.heap.size W w'):=zAA (fun W=>C.out W)
 clear C
 cases bV with
 |false=>
  go_enter Tryz.func77,Tryz.ntmps77
  go_wp2_with (first|(go_at_call 106;refine (HCC.out _).mono ?_;rintro e w2 ⟨rfl,hb⟩;have HB2:=zAA (HB0.out.trans (hb.mono HB0.out.size));have hz:=(HM0.out.below hb HM0.out.lt).alloc (.cells #[.bool bI,.bool bQ,.bool false,.bool bF,.bool bC] 110);have z0:=hz.cell 0;have z3:=hz.cell 3;have z4:=hz.cell 4;(try dsimp only at z0 z3 z4);clear hz hb)|(go_at_call 131;refine (D.out _).mono ?_;rintro e w3 ⟨rfl,hb3⟩;have HB3:=zAA ((HB2.out.alloc HB2.out.size (.cells #[.bool bI,.bool bQ,.bool false,.bool bF,.bool bC] 110)).trans (hb3.mono (HB2.out.alloc HB2.out.size _).size));clear hb3))
  go_ret
  exact ⟨rfl,HB2.out.alloc HB2.out.size _⟩
 |true=>
  cases b1 with
  |false=>
   go_enter Tryz.func77,Tryz.ntmps77
   go_wp2_with (first|(go_at_call 106;refine (HCC.out _).mono ?_;rintro e w2 ⟨rfl,hb⟩;have HB2:=zAA (HB0.out.trans (hb.mono HB0.out.size));have hz:=(HM0.out.below hb HM0.out.lt).alloc (.cells #[.bool bI,.bool bQ,.bool true,.bool bF,.bool bC] 110);have z0:=hz.cell 0;have z3:=hz.cell 3;have z4:=hz.cell 4;(try dsimp only at z0 z3 z4);clear hz hb)|(go_at_call 131;refine (D.out _).mono ?_;rintro e w3 ⟨rfl,hb3⟩;have HB3:=zAA ((HB2.out.alloc HB2.out.size (.cells #[.bool bI,.bool bQ,.bool true,.bool bF,.bool bC] 110)).trans (hb3.mono (HB2.out.alloc HB2.out.size _).size));clear hb3))
   go_ret
   exact ⟨rfl,HB3.out⟩
  |true=>
   go_enter Tryz.func77,Tryz.ntmps77
   go_wp2_with (first|(go_at_call 106;refine (HCC.out _).mono ?_;rintro e w2 ⟨rfl,hb⟩;have HB2:=zAA (HB0.out.trans (hb.mono HB0.out.size));have hz:=(HM0.out.below hb HM0.out.lt).alloc (.cells #[.bool bI,.bool bQ,.bool true,.bool bF,.bool bC] 110);have z0:=hz.cell 0;have z3:=hz.cell 3;have z4:=hz.cell 4;(try dsimp only at z0 z3 z4);clear hz hb)|(go_at_call 131;refine (D.out _).mono ?_;rintro e w3 ⟨rfl,hb3⟩;have HB3:=zAA ((HB2.out.alloc HB2.out.size (.cells #[.bool bI,.bool bQ,.bool true,.bool bF,.bool bC] 110)).trans (hb3.mono (HB2.out.alloc HB2.out.size _).size));clear hb3))
   go_ret
   exact ⟨rfl,HB3.out⟩
structure Ah (l:List UInt8) (p:Nat) (pre:List UInt8):Prop where
 i:tj l p pre
 le:p+9*pre.length≤8*l.length
def eR (l:List UInt8) (p:Nat) (bad:Int) (k:Nat):Nat×Int:=
 if bad≠0 then (p+9*k,bad) else if 8*l.length<p+9*k+1 then (p+9*k,5) else if aP l (p+9*k)=0 then (p+9*k+1,0) else if k=32 then (p+9*k+1,4) else (p+9*k+1,5)
structure o6 (l:List UInt8) (p:Nat) (bad:Int) (xs:List UInt8):Prop where
 q:Ah l p xs
 z:bad≠0→xs=[]
 t:bad=0→8*l.length<p+9*xs.length+1∨aP l (p+9*xs.length)=0∨xs.length=32∨8*l.length<p+9*xs.length+9
theorem o6.fin {l:List UInt8} {p:Nat} {xs:List UInt8} (h:o6 l p 0 xs):cB l 32 p=(xs,if (eR l p 0 xs.length).2=0 then (eR l p 0 xs.length).1 else 0,(eR l p 0 xs.length).2):=by
 have he:=h.q.i.eq
 have h32:=h.q.i.le
 have ht:=h.t rfl
 rw [he]
 unfold eR
 simp only [ne_eq,not_true_eq_false,if_false]
 generalize p+9*xs.length=s at ht⊢
 by_cases h1:8*l.length<s+1
 ·rw [if_pos h1,Bf h1];simp
 rw [if_neg h1]
 by_cases hb:aP l s=0
 ·rw [if_pos hb,sP (by omega) hb];simp
 rw [if_neg hb]
 by_cases h3:xs.length=32
 ·rw [if_pos h3,h3,zAY,ye (by omega) hb];simp
 ·rw [if_neg h3,show 32 - xs.length=(31 - xs.length)+1 by omega,yh (by omega) hb (by omega)];simp
def IN (gc:Nat) (w:World):Int:=match w.cell? ⟨gc,1,none⟩ with|some (.int .i64 x)=>x|_=>0
theorem Ao {w:World} {gc:Nat} {t:TypeId} {A:Option Addr} {n c p:Nat} {bad:Int} (h:ab w gc t (cU A n c p bad)):IN gc w=p:=by
 unfold IN
 have h1:=h.cell 1
 unfold cU at h1
 rw [h1]
 rfl
def BJ (x:UInt8):Array Value:= #[.int .u8 (x.toNat:Int)]
theorem Ef (g:Nat) (w:World):Calls Tryz.prog 142 #[.pointer (some ⟨g,0,none⟩)] w fun e w'=>e= .returned (.func (.func 184) #[] #[.pointer (some ⟨w.heap.size,0,none⟩)])∧w'=w.alloc (.cells #[.pointer (some ⟨g,0,none⟩)] 161):=by
 go_enter Tryz.func142,Tryz.ntmps142
 go_wp2_with fail
 go_ret
 exact ⟨by simp,rfl⟩
set_option maxRecDepth 100000 in
set_option maxHeartbeats 8000000 in
theorem Eu (N:Nat) (hN:1≤N) (g gb:Nat) (A:Option Addr) (n c:Nat) (l:List UInt8) (p:Nat) (bad:Int) (hl:l.length=n) (hsz:n≤2 ^ 40) (hp:p≤8*n) (C:List UInt8→World→Prop)
  (hCg:∀pre W W' cs,C pre W→ab W g 163 cs→W.grownBy W' (some g)→C pre W')
  (hCs:∀pre W,C pre W→ab W gb 161 #[.pointer (some ⟨g,0,none⟩)]∧Sl W A (l.map af)):
  wj Fence.wide N Tryz.prog 184 #[.pointer (some ⟨gb,0,none⟩)] BJ
   (fun pre W=>C pre W∧ab W g 163 (cU A n c p bad))
   (fun pre W=>C pre W∧ab W g 163 (cU A n c (p+9*(pre.length+1)) 0))
   (fun pre W=>C pre W∧ab W g 163 (cU A n c (p+9*pre.length) 0))
   (fun pre W=>C pre W∧ab W g 163 (cU A n c (eR l p bad pre.length).1 (eR l p bad pre.length).2))
   (o6 l p bad) (Ah l p):=by
 intro lp K Jx W hK hY h00 hk0
 refine callsIn_of_wp Tryz.func184 rfl trivial ?_ rfl
 simp only [Tryz.ntmps184,List.size_toArray,List.length_cons,List.length_nil,Nat.reduceAdd,zAa,Array.replicate_succ,Array.replicate_zero,List.push_toArray,List.append_toArray,zAR,List.cons_append]
 have HY:=zAA hY;have HCg:=zAA hCg;have HCs:=zAA hCs;have HK:=zAA hK;have HL:=zAA hl
 have H0:=zAA h00;have HK0:=zAA hk0;have HP8:=zAA hp
 have z0:=(hCs _ _ h00.1).1.cell 0
 (try dsimp only at z0)
 clear hY hCg hCs hK hl h00 hk0 hp
 gi_wp2_with fail
 gi_loopw [4] (fun m wr=>∃(pre:List UInt8),m= .int .i64 (pre.length:Int)∧Hid (Ah l p pre)∧Hid (bad≠0→pre=[])∧Hid (C pre wr)∧Hid (ab wr g 163 (cU A n c (p+9*pre.length) bad))∧Hid (K wr)) (fun _ wr=>8*n - (IN g wr).toNat)
 case atStart=>exact ⟨[],rfl,zAA ⟨yi _ _,by have:=HP8.out;have:=HL.out;simp;omega⟩,zAA (fun _=>rfl),zAA H0.out.1,zAA H0.out.2,HK0⟩
 case round=>
  obtain ⟨pre,rfl,HQ,HZ,HC,HB,HKr⟩:=hrel
  obtain ⟨s,hs⟩:∃s,p+9*pre.length=s:=⟨_,rfl⟩
  rw [hs] at HB
  have hsl:s≤8*n:=by have:=HQ.out.le;have:=HL.out;omega
  obtain ⟨hb1,hA⟩:=HCs.out _ _ HC.out
  have C1:=oA g A n c l s bad 1 wr HB.out hA HL.out hsz hsl (by decide)
  obtain ⟨r,hr⟩:∃r,gZ l s bad 1=r:=⟨_,rfl⟩
  rw [hr] at C1
  simp only [zAD] at C1
  have HA:=zAA hA
  have HSL:=zAA hsl;have HS:=zAA hs
  unfold gZ at hr
  have hq0:=HQ.out
  have hl0:=HL.out
  have hGO:∀W2,wr.grownBy W2 (some g)→C pre W2∧K W2:=fun W2 hg=>⟨HCg.out _ _ _ _ HC.out HB.out hg,Fv HK.out HKr.out hg HB.out⟩
  have HGO:=zAA hGO
  have HC1:=zAA C1
  clear hb1 hA C1 hsl hGO
  have fin:∀(W2:World) (q:Nat×Int),eR l p bad pre.length=q→o6 l p bad pre→wr.grownBy W2 (some g)→ab W2 g 163 (cU A n c q.1 q.2)→
    (∃v,Ending.returned (.tuple #[])= .returned v)∧((∃xs,o6 l p bad xs∧(C xs W2∧ab W2 g 163 (cU A n c (eR l p bad xs.length).1 (eR l p bad xs.length).2))∧K W2)∨(∃pre,Ah l p pre∧Jx pre W2)):=fun W2 q hq he hg hb=>by
   subst hq
   exact ⟨⟨_,rfl⟩,.inl ⟨pre,he,⟨(HGO.out W2 hg).1,hb⟩,(HGO.out W2 hg).2⟩⟩
  have HF:=zAA fin
  clear fin
  by_cases hbad:bad≠0
  ·rw [if_pos hbad] at hr
   subst hr
   have hz:=HZ.out hbad
   have hq:eR l p bad pre.length=(s,bad):=by unfold eR;rw [if_pos hbad,hs]
   have HE:=zAA (show o6 l p bad pre from ⟨HQ.out,fun _=>hz,fun h=>absurd h hbad⟩)
   have HFQ:=zAA hq
   clear hz hq hbad hs hq0 hl0
   gi_wp2_with (refine ⟨trivial,?_⟩;gi_at_call 141;refine (callsIn_wide.2 HC1.out).mono ?_;rintro e w2 ⟨rfl,hb2,hg2⟩;have HB2:=zAA hb2;have HG2:=zAA hg2;clear hb2 hg2)
   refine bodyPost_end (results_none rfl _ _ _) rfl ?_
   exact HF.out _ _ HFQ.out HE.out HG2.out HB2.out
  have hb0:bad=0:=by omega
  subst hb0
  rw [if_neg hbad] at hr
  by_cases h1:8*l.length<s+1
  ·rw [if_pos h1] at hr
   subst hr
   have hq:eR l p 0 pre.length=(s,5):=by unfold eR;rw [if_neg hbad,hs,if_pos h1]
   have HE:=zAA (show o6 l p 0 pre from ⟨HQ.out,fun h=>absurd rfl h,fun _=> .inl (by rw [hs];exact h1)⟩)
   have HFQ:=zAA hq
   clear hq hbad hs h1 hq0 hl0
   gi_wp2_with (refine ⟨trivial,?_⟩;gi_at_call 141;refine (callsIn_wide.2 HC1.out).mono ?_;rintro e w2 ⟨rfl,hb2,hg2⟩;have HB2:=zAA hb2;have HG2:=zAA hg2;clear hb2 hg2)
   refine bodyPost_end (results_none rfl _ _ _) rfl ?_
   exact HF.out _ _ HFQ.out HE.out HG2.out HB2.out
  rw [if_neg h1,l5] at hr
  by_cases hbt:aP l s=0
  ·rw [hbt] at hr
   subst hr
   have hq:eR l p 0 pre.length=(s+1,0):=by unfold eR;rw [if_neg hbad,hs,if_neg h1,if_pos hbt]
   have HE:=zAA (show o6 l p 0 pre from ⟨HQ.out,fun h=>absurd rfl h,fun _=> .inr (.inl (by rw [hs];exact hbt))⟩)
   have HFQ:=zAA hq
   clear hq hbad hs h1 hbt hq0 hl0
   simp only [zA3] at HC1
   gi_wp2_with (refine ⟨trivial,?_⟩;gi_at_call 141;refine (callsIn_wide.2 HC1.out).mono ?_;rintro e w2 ⟨rfl,hb2,hg2⟩;have HB2:=zAA hb2;have HG2:=zAA hg2;clear hb2 hg2)
   refine bodyPost_end (results_none rfl _ _ _) rfl ?_
   exact HF.out _ _ HFQ.out HE.out HG2.out HB2.out
  rw [rQ l s hbt] at hr
  subst hr
  simp only [zAD] at HC1
  have h32:=hq0.i.le
  have hb1':∀W2,wr.grownBy W2 (some g)→W2.cell? ⟨gb,0,none⟩=some (.pointer (some ⟨g,0,none⟩)):=fun W2 hg=>(HCs.out _ _ (HGO.out W2 hg).1).1.cell 0
  have HB1:=zAA hb1'
  clear hb1'
  by_cases h3:pre.length=32
  ·have hq:eR l p 0 pre.length=(s+1,4):=by unfold eR;rw [if_neg hbad,hs,if_neg h1,if_neg hbt,if_pos h3]
   have HE:=zAA (show o6 l p 0 pre from ⟨HQ.out,fun h=>absurd rfl h,fun _=> .inr (.inr (.inl h3))⟩)
   have HFQ:=zAA hq
   have hk:((pre.length:Int)==32)=true:=by rw [h3];rfl
   clear hq hbad hs h1 hbt hq0 hl0 h3 h32
   gi_wp2_with (refine ⟨trivial,?_⟩;gi_at_call 141;refine (callsIn_wide.2 HC1.out).mono ?_;rintro e w2 ⟨rfl,hb2,hg2⟩;have HB2:=zAA hb2;have HG2:=zAA hg2;have y0:=HB1.out _ hg2;have y1:=hb2.frozen 2;have hc2:=hb2.cell 2;unfold cU at hc2;(try dsimp only at y1 hc2);clear hb2 hg2)
   have hset:=HB2.out.set_ 2 (.int .i64 4)
   unfold cU at hset
   simp only [zAG,zAL,zAK] at hset
   refine bodyPost_ret (results_none rfl _ _ _) rfl ?_
   exact HF.out _ _ HFQ.out HE.out (HG2.out.trans (gO _ _ _ _)) hset
  have hk:((pre.length:Int)==32)=false:=by simp;omega
  have C2:∀W2,wr.grownBy W2 (some g)→ab W2 g 163 (cU A n c (s+1) 0)→Calls Tryz.prog 141 #[.pointer (some ⟨g,0,none⟩),.int .i64 8] W2 (Gu g A n c (gZ l (s+1) 0 8) W2):=fun W2 hg hb=>
   oA g A n c l (s+1) 0 8 W2 hb ((HCs.out _ _ (HGO.out W2 hg).1).2) HL.out hsz (by omega) (by decide)
  obtain ⟨r2,hr2⟩:∃r,gZ l (s+1) 0 8=r:=⟨_,rfl⟩
  rw [hr2] at C2
  unfold gZ at hr2
  rw [if_neg hbad] at hr2
  by_cases h9:8*l.length<s+1+8
  ·rw [if_pos h9] at hr2
   subst hr2
   have hq:eR l p 0 pre.length=(s+1,5):=by unfold eR;rw [if_neg hbad,hs,if_neg h1,if_neg hbt,if_neg h3]
   have HE:=zAA (show o6 l p 0 pre from ⟨HQ.out,fun h=>absurd rfl h,fun _=> .inr (.inr (.inr (by rw [hs];omega)))⟩)
   have HFQ:=zAA hq
   have HC2:=zAA C2
   clear hq hbad hs h1 hbt hq0 hl0 h3 h32 h9 C2
   gi_wp2_with (refine ⟨trivial,?_⟩;gi_at_call 141;refine (callsIn_wide.2 HC1.out).mono ?_;rintro e w2 ⟨rfl,hb2,hg2⟩;have HB2:=zAA hb2;have HG2:=zAA hg2;have y0:=HB1.out _ hg2;clear hb2 hg2 HC1)
   refine ⟨trivial,?_⟩
   gi_at_call 141
   refine (callsIn_wide.2 (HC2.out _ HG2.out HB2.out)).mono ?_
   rintro e w3 ⟨rfl,hb3,hg3⟩
   have HB3:=zAA hb3;have HG3:=zAA (HG2.out.trans hg3);have y1:=HB1.out _ (HG2.out.trans hg3)
   have hc2:=hb3.cell 2
   unfold cU at hc2
   (try dsimp only at hc2)
   clear hb3 hg3
   gi_wp2_with (refine wpListIn_skip (by rfl) (by rfl) ?_)
   refine bodyPost_ret (results_none rfl _ _ _) rfl ?_
   exact HF.out _ _ HFQ.out HE.out HG3.out HB3.out
  rw [if_neg h9] at hr2
  subst hr2
  have hx:=gm l (s+1) 8
  have hnx:=hq0.i.next (by omega) (by rw [hs];exact hbt) (by rw [hs];omega)
  rw [hs] at hnx
  have hnl:(pre++[UInt8.ofNat (aF l (s+1) 8)]).length=pre.length+1:=by rw [zAF,zAU]
  have hsp:Ah l p (pre++[UInt8.ofNat (aF l (s+1) 8)]):=⟨hnx,by rw [hnl];omega⟩
  have hs9:s+1+8=p+9*(pre.length+1):=by omega
  obtain ⟨x,hxx⟩:∃x,aF l (s+1) 8=x:=⟨_,rfl⟩
  rw [hxx] at C2 hsp hnl hx
  have hwx:zAV.wrap (x:Int)=(x:Int):=by rw [IntKind.wrap_u8];omega
  have hto:((UInt8.ofNat x).toNat:Int)=(x:Int):=by rw [gp _ (by omega)]
  have HC2:=zAA C2;have HSP:=zAA hsp;have HNL:=zAA hnl;have HS9:=zAA hs9;have HTO:=zAA hto
  have hwl:zAC.wrap ((pre.length:Int)+1)=(pre.length:Int)+1:=by rw [zAB];omega
  have HLT:=zAA (show s<8*n by omega)
  have HX1:=zAA (show p+9*(pre.length+1)≤8*n by omega)
  clear hbad h1 hbt hq0 hl0 h3 h32 h9 C2 hsp hnl hs9 hxx hx hto hnx
  gi_wp2_with (refine ⟨trivial,?_⟩;gi_at_call 141;refine (callsIn_wide.2 HC1.out).mono ?_;rintro e w2 ⟨rfl,hb2,hg2⟩;have HB2:=zAA hb2;have HG2:=zAA hg2;have y0:=HB1.out _ hg2;clear hb2 hg2 HC1)
  refine ⟨trivial,?_⟩
  gi_at_call 141
  refine (callsIn_wide.2 (HC2.out _ HG2.out HB2.out)).mono ?_
  rintro e w3 ⟨rfl,hb3,hg3⟩
  have HB3:=zAA hb3;have HG3:=zAA (HG2.out.trans hg3);have y1:=HB1.out _ (HG2.out.trans hg3)
  have hc2:=hb3.cell 2
  unfold cU at hc2
  (try dsimp only at hc2)
  clear hb3 hg3
  obtain ⟨fn,tmps,assign,body,hyy,hR⟩:=HY.out pre (UInt8.ofNat x) w3 ⟨(HGO.out _ HG3.out).1,by rw [←HS9.out];exact HB3.out⟩ (HGO.out _ HG3.out).2 HSP.out
  have HR:=zAA hR
  dsimp only [BJ] at hyy
  rw [HTO.out] at hyy
  clear hR
  gi_wp2_with fail
  refine HR.out.mono ?_
  rintro e W3 (⟨rfl,hI3,hk3⟩|⟨rfl,hJx3⟩)
  ·have HI3:=zAA hI3;have HK3:=zAA hk3
   clear hI3 hk3 hyy y0 y1 hc2
   gi_wp2_with fail
   refine ⟨⟨pre++[UInt8.ofNat x],by rw [HNL.out];rfl,HSP,zAA (fun h=>absurd rfl h),zAA HI3.out.1,zAA HI3.out.2,HK3⟩,?_⟩
   have h9:=Ao HI3.out.2;have h10:=Ao HB.out
   rw [h9,h10,HNL.out]
   have:=HLT.out;have:=HS.out;have:=HX1.out
   omega
  ·have HJ:=zAA hJx3
   clear hyy hJx3
   gi_wp2_with fail
   refine bodyPost_ret (results_none rfl _ _ _) rfl ?_
   exact ⟨⟨_,rfl⟩,.inr ⟨_,HSP.out,HJ.out⟩⟩
def Br (w0:World) (h:Nat) (L:List UInt8) (v:Value) (W:World):Prop:=ay w0 [(h,95,#[v,.int .i64 (L.length:Int),.bool true])] [⟨w0.heap.size,5,1,v,(aO L).length,(aO L).map af⟩] W
structure PB (h:Nat) (W W':World):Prop where
 size:W.heap.size≤W'.heap.size
 blk:∀(k:Nat) (t:TypeId) (cs:Array Value),k≠h→t≠5→ab W k t cs→ab W' k t cs
theorem tK (h:Nat) (W:World):PB h W W:=⟨zAE _,fun _ _ _ _ _ hb=>hb⟩
theorem PB.trans {h:Nat} {A B C:World} (x:PB h A B) (y:PB h B C):PB h A C:=⟨Nat.le_trans x.size y.size,fun k t cs h1 h2 hb=>y.blk k t cs h1 h2 (x.blk k t cs h1 h2 hb)⟩
theorem rA {h:Nat} {A W W':World} (x:PB h A W) (hb:Below W.heap.size W W'):PB h A W':=x.trans ⟨hb.size,fun _k _t _cs _ _ hk=>hk.below hb hk.lt⟩
theorem FN {h:Nat} {A W:World} (x:PB h A W) (o:Obj):PB h A (W.alloc o):=rA x ((Below.refl _ _).alloc (zAE _) o)
theorem AR {h:Nat} {A W:World} (x:PB h A W):PB h A W.drew:=rA x (Below.refl _ _).drew
theorem xM {h:Nat} {A W:World} (x:PB h A W) (i:Nat) (v:Value):PB h A (W.setCell ⟨h,i,none⟩ v):=x.trans ⟨by simp [zAb],fun k t cs h1 _ hk=>hk.far (p:=⟨h,i,none⟩) h1 v⟩
theorem AS {h g:Nat} {A W:World} {cs:Array Value} (x:PB h A W) (hg:ab W g 5 cs) (i:Nat) (v:Value):PB h A (W.setCell ⟨g,i,none⟩ v):=x.trans ⟨by simp [zAb],fun k t cs' _ h2 hk=>hk.far (p:=⟨g,i,none⟩) (fun e=>by
 have e:k=g:=e
 subst e
 unfold ab at hg hk
 rw [hg] at hk
 injection hk with hk
 injection hk with _ ht
 exact h2 ht.symm) v⟩
theorem FO {h:Nat} {A W W':World} {base n:Nat} {v:Value} {xs:List Value} (x:PB h A W) (hg:W.grownBy W' v.ownBlock) (ho:W.ownsRow base 5 1 v n xs):PB h A W':=
 x.trans ⟨hg.size,fun _k _t _cs _ h2 hk=>hk.grown hg (bg ho hk (Ne.symm h2))⟩
theorem AZ {W:World} {base g n c:Nat} {xs:List Value} {e:TypeId} (ho:W.ownsRow base e 1 (.slice (some ⟨g,0,none⟩) n c) n xs):∃cs,ab W g e cs:=by
 rcases ho.2 with ⟨h,_⟩|⟨g',cap,cur,h,_,hh,_⟩
 ·cases h
 ·cases h;exact ⟨cur,hh⟩
structure dQ (w0:World) (h:Nat) (L:List UInt8) (W:World):Prop where
 ex:∃v,Br w0 h L v W
theorem dQ.below {w0:World} {h:Nat} {L:List UInt8} {W W':World} (hp:dQ w0 h L W) (hw:Below W.heap.size W W'):dQ w0 h L W':=by
 obtain ⟨v,hc⟩:=hp
 exact ⟨v,bz hc hw⟩
theorem xN (h:Nat) (v:Value) (n:Int) (w:World) (hb:ab w h 95 #[v,.int .i64 n,.bool true]):Calls Tryz.prog 65 #[.pointer (some ⟨h,0,none⟩)] w fun e w'=>e= .returned (.bool false)∧w=w':=by
 have z2:=hb.cell 2
 (try dsimp only at z2)
 clear hb
 go_enter Tryz.func65,Tryz.ntmps65
 go_wp2_with fail
 go_ret
 exact ⟨rfl,rfl⟩
theorem FQ (h:Nat) (v:Value) (n k:Int) (w:World) (hb:ab w h 95 #[v,.int .i64 n,.bool true]) (h0:0≤n) (h1:0≤k) (h2:n+k≤16777216):Calls Tryz.prog 100 #[.pointer (some ⟨h,0,none⟩),.int .i64 k] w fun e w'=>e= .returned (.bool false)∧w=w':=by
 have z1:=hb.cell 1
 have hw:zAC.wrap (n+k)=n+k:=by rw [zAB];omega
 have hn:¬16777216<n+k:=by omega
 (try dsimp only at z1)
 clear hb
 go_enter Tryz.func100,Tryz.ntmps100
 go_wp2_with fail
 go_ret
 exact ⟨rfl,rfl⟩
theorem qC (w:World):Calls Tryz.prog 30 #[] w fun e w'=>e= .returned (.pointer (some ⟨w.heap.size,0,none⟩))∧dQ w w.heap.size [] w':=by
 go_enter Tryz.func30,Tryz.ntmps30
 go_wp2_with fail
 go_ret
 exact ⟨rfl,⟨.slice none 0 0,(Below.refl _ w).alloc (zAE _) _,aa.cons (ab.new _ _ _) (ag _),ap.cons (zA2 _ _ _ _) (aE _)⟩⟩
theorem I9 (q b:Nat) (i:Nat) (hb:b<2 ^ i) (h:q % 2 ^ i=0):q|||b=q+b:=by
 have e:q=2 ^ i*(q / 2 ^ i):=by have:=Nat.div_add_mod q (2 ^ i);omega
 rw [e,←Nat.two_pow_add_eq_or_of_lt hb]
theorem GK (L:List UInt8) (x r:Nat) (hx:x<2) (hr:L.length % 8=r) (h0:0<r):fE L (L.length / 8)|||(x*2 ^ (7 - r))=fE L (L.length / 8)+x*2 ^ (7 - r):=by
 have h8:r<8:=by omega
 refine I9 _ _ (8 - r) ?_ (by have:=Dq L (by omega);rwa [hr] at this)
 have e:2 ^ (8 - r)=2*2 ^ (7 - r):=by rw [show 8 - r=(7 - r)+1 by omega,Nat.pow_succ,Nat.mul_comm]
 rw [e]
 have:0<2 ^ (7 - r):=Nat.pow_pos (by decide)
 rcases (show x=0∨x=1 by omega) with rfl|rfl<;>omega
theorem J4 (M:List UInt8):M.map af=av (fun b=>[af b]) M:=by
 induction M with
 |nil=>rfl
 |cons b M ih=>rw [zAW,ih];rfl
theorem tL {w0 W:World} {g h n c k:Nat} {M:List UInt8} (hc:ay w0 [(h,95,#[.slice (some ⟨g,0,none⟩) n c,.int .i64 (k:Int),.bool true])] [⟨w0.heap.size,5,1,.slice (some ⟨g,0,none⟩) n c,n,M.map af⟩] W):h≠g∧w0.heap.size≤g:=by
 have hr:=hc.2.2.head
 dsimp only at hr
 rcases hr.2 with ⟨h',_⟩|⟨g',cap',cur,h',hb,hg,_⟩
 ·simp at h'
 ·simp only [Value.slice.injEq,Option.some.injEq,Addr.mk.injEq,and_true,true_and] at h'
  obtain ⟨rfl,rfl⟩:=h'
  refine ⟨?_,hb⟩
  have h1:ab W g 5 cur:=hg
  exact aS hc.2.1.head h1 (by simp)
theorem AT {w0 W:World} {g h n c k:Nat} {M:List UInt8} (hc:ay w0 [(h,95,#[.slice (some ⟨g,0,none⟩) n c,.int .i64 (k:Int),.bool true])] [⟨w0.heap.size,5,1,.slice (some ⟨g,0,none⟩) n c,n,M.map af⟩] W) (hh:w0.heap.size≤h) (i:Nat) (b:UInt8):
  ay w0 [(h,95,#[.slice (some ⟨g,0,none⟩) n c,.int .i64 ((k:Int)+1),.bool true])] [⟨w0.heap.size,5,1,.slice (some ⟨g,0,none⟩) n c,n,(M.set i b).map af⟩] ((W.setCell ⟨g,i,none⟩ (af b)).setCell ⟨h,1,none⟩ (.int .i64 ((k:Int)+1))):=by
 obtain ⟨hne,hb⟩:=tL hc
 have h1:ay w0 [(h,95,#[.slice (some ⟨g,0,none⟩) n c,.int .i64 (k:Int),.bool true])] [⟨w0.heap.size,5,1,.slice (some ⟨g,0,none⟩) n c,n,(M.set i b).map af⟩] (W.setCell ⟨g,i,none⟩ (af b)):=by
  refine ⟨hc.1.setCell (p:=⟨g,i,none⟩) hb _,hc.2.1.far (p:=⟨g,i,none⟩) (fun q hq=>by rw [List.mem_singleton] at hq;subst hq;exact hne) _,ap.cons ?_ (aE _)⟩
  have h2:=(hc.2.2.head.stored i (af b)).1
  rw [List.map_set]
  exact h2
 have h2:=aT h1 hh 1 (.int .i64 ((k:Int)+1)) (h,95,#[.slice (some ⟨g,0,none⟩) n c,.int .i64 (k:Int),.bool true]) (by simp) rfl (by simp)
 simpa [cZ] using h2
set_option maxRecDepth 100000 in
set_option maxHeartbeats 16000000 in
theorem xO (w0:World) (h g n c:Nat) (M:List UInt8) (k i q y r x:Nat) (hk:k<16777216) (hx:x<2) (hr:k % 8=r) (hi:k / 8=i) (hin:i<n) (hM:n=M.length) (hq:(M.getD i 0).toNat=q) (hy:y=x*2 ^ (7 - r)) (hh:w0.heap.size≤h) (W:World)
  (hc:ay w0 [(h,95,#[.slice (some ⟨g,0,none⟩) n c,.int .i64 (k:Int),.bool true])] [⟨w0.heap.size,5,1,.slice (some ⟨g,0,none⟩) n c,n,M.map af⟩] W) (hr0:0<r):
  Calls Tryz.prog 101 #[.pointer (some ⟨h,0,none⟩),.int .i64 (x:Int)] W fun e w'=>(∃u,e= .returned u)∧ay w0 [(h,95,#[.slice (some ⟨g,0,none⟩) n c,.int .i64 ((k:Int)+1),.bool true])] [⟨w0.heap.size,5,1,.slice (some ⟨g,0,none⟩) n c,n,(M.set i (UInt8.ofNat (q|||y))).map af⟩] w'∧(∀B,KeepsFrom B W w')∧PB h W w':=by
 have HRB:=zAA (AZ hc.2.2.head)
 have hb:=hc.2.1.head
 have hfar:=tL hc
 have hcell:W.cell? ⟨g,i,none⟩=some (.int .u8 (q:Int)):=by
  have h1:=hc.2.2.head.cellAt i (by show i<n*1;omega)
  (try dsimp only at h1)
  rw [h1,zA0,zAH (by omega),Option.map_some]
  have e:M.getD i 0=M[i]'(by omega):=by simp [zAf,zAH (show i<M.length by omega)]
  rw [←hq,e];rfl
 have hfz:=hc.2.2.head.frozenAt i
 (try dsimp only at hfz)
 have hq8:q<256:=by rw [←hq];exact UInt8.toNat_lt _
 have hr8:r<8:=by omega
 have hy8:y<256:=by
  rw [hy]
  have:r=0∨r=1∨r=2∨r=3∨r=4∨r=5∨r=6∨r=7:=by omega
  rcases this with rfl|rfl|rfl|rfl|rfl|rfl|rfl|rfl<;>omega
 have hor:q|||y<256:=Nat.or_lt_two_pow (n:=8) hq8 hy8
 have HOR:=zAA (u8_or_nat q y hq8 hy8)
 have hval:af (UInt8.ofNat (q|||y))= .int .u8 ((q|||y:Nat):Int):=by unfold af;rw [gp _ hor]
 have HS:=zAA (AT hc hh i (UInt8.ofNat (q|||y)))
 rw [hval] at HS
 obtain ⟨z,hz⟩:∃z,q|||y=z:=⟨_,rfl⟩
 rw [hz] at HS HOR hor⊢
 have hCD:Hid (aa [(h,95,#[.slice (some ⟨g,0,none⟩) n c,.int .i64 (k:Int),.bool true])] W.drew∧W.drew.cell? ⟨g,i,none⟩=some (.int .u8 (q:Int))):=zAA ⟨hc.2.1.drew,hcell⟩
 have hrem:((k:Int) % 8)=(r:Int):=by omega
 have hquo:((k:Int) / 8)=(i:Int):=by omega
 have hrt:(k:Int).tmod 8=(r:Int):=by rw [zAM (by omega)];exact hrem
 have hz0:=hb.cell 0;have hz1:=hb.cell 1;have hf0:=hb.frozen 0;have hf1:=hb.frozen 1
 have hb2:=hb.far (p:=⟨g,i,none⟩) hfar.1 (.int .u8 (z:Int))
 have hw1:=hb2.cell 1;have hw2:=hb2.frozen 1
 have hin2:((i:Int)<(n:Int)):=by omega
 have hin0:¬((i:Int)<0):=by omega
 have hwi:zAC.wrap (i:Int)=(i:Int):=by rw [zAB];omega
 have hin3:(i:Int).toNat=i:=by omega
 have hwk:zAC.wrap ((k:Int)+1)=(k:Int)+1:=by rw [zAB];omega
 (try dsimp only at hz0 hz1 hf0 hf1 hw1 hw2)
 clear hb hb2 hval hfar hz hq hi hin hM hor hq8 hy8 hc
 have hxs:x=0∨x=1:=by omega
 have hrs:r=1∨r=2∨r=3∨r=4∨r=5∨r=6∨r=7:=by omega
 have hsh:∀W:World,Sem.run Tryz.prog (Op.shift .shl .u8 (zAV.wrap (x:Int)) .i64 (zAC.wrap (7 - (r:Int)))) W= .ok (.int .u8 (y:Int)) W:=fun W=>by
  subst hy
  rcases hxs with rfl|rfl<;>rcases hrs with rfl|rfl|rfl|rfl|rfl|rfl|rfl<;>rfl
 clear hr hr0 hr8 hx hk
 rcases hxs with rfl|rfl<;>rcases hrs with rfl|rfl|rfl|rfl|rfl|rfl|rfl
 all_goals
  simp only [zAd,zAe,zAa,Nat.reducePow] at hy
  subst hy
  have hor2:=HOR.out
  (try simp only [zAD,Int.reduceSub] at hor2 hrem hrt hsh⊢)
  go_enter Tryz.func101,Tryz.ntmps101
  go_wp2_with fail
  refine ai (fun w'=>aa [(h,95,#[.slice (some ⟨g,0,none⟩) n c,.int .i64 (k:Int),.bool true])] w'∧w'.cell? ⟨g,i,none⟩=some (.int .u8 (q:Int))) 20 (.take 0 (.take 1 (.take 2 (.take 3 (.take 4 (.take 5 (.take 6 (.take 7 (.take 8 (.take 9 (.take 10 (.take 11 (.take 12 (.take 13 (.take 14 (.take 15 (.take 16 (.take 17 (.take 18 (.take 19 (.done))))))))))))))))))))) (by kernel_rfl) (by kernel_rfl) (by simp only [aR.out,Array.getD_eq_getD_getElem?,zAT,zAP,zAO,zAN];rfl) (by simp only [zAW,zAc];rfl) (hCD.out) (fun PE hPE=>?_)
  iterate 20
   refine ah (v:=?_) rfl (by rfl) ?_ ?_
   rotate_left
   ·intro _ hSw;(try dsimp only at hSw);have z0:=hSw.1.head.cell 0;have z1:=hSw.1.head.cell 1;have z2:=hSw.2;(try dsimp only at z0 z1 z2);go_simp;(try with_reducible rfl)
   simp only [zAG,zAL,zAK]
  refine hPE _ _ ?_
  clear hPE PE
  simp only [zAX,zA8]
  go_wp2_with fail
  refine ⟨rfl,?_⟩
  go_wp2_with fail
  refine bodyPost_end (results_none rfl _ _ _) rfl ⟨⟨_,rfl⟩,?_⟩
  obtain ⟨cs0,hb0⟩:=HRB.out
  exact ⟨bM HS.out,fun B=>fb (ak (ak (KeepsFrom.refl B W) _ _) _ _),AR (xM (AS (tK h W) hb0 _ _) _ _)⟩
set_option maxRecDepth 100000 in
set_option maxHeartbeats 8000000 in
theorem vP (w0:World) (h:Nat) (v:Value) (M:List UInt8) (k x n:Nat) (hk:k<16777216) (hx:x<2) (hr:k % 8=0) (hM:M.length=n) (hi:k / 8=n) (hh:w0.heap.size≤h) (W:World)
  (hc:ay w0 [(h,95,#[v,.int .i64 (k:Int),.bool true])] [⟨w0.heap.size,5,1,v,n,M.map af⟩] W):
  Calls Tryz.prog 101 #[.pointer (some ⟨h,0,none⟩),.int .i64 (x:Int)] W fun e w'=>(∃u,e= .returned u)∧∃v',ay w0 [(h,95,#[v',.int .i64 ((k:Int)+1),.bool true])] [⟨w0.heap.size,5,1,v',n+1,(M++[UInt8.ofNat (x*128)]).map af⟩] w'∧(∀B,KeepsFrom B W w')∧PB h W w':=by
 obtain ⟨A,c,hv⟩:=bj hc.2.2.head
 dsimp only at hv
 subst hv
 have hb:=hc.2.1.head
 have HC:=zAA hc
 have hz0:=hb.cell 0;have hz1:=hb.cell 1;have hf0:=hb.frozen 0;have hf1:=hb.frozen 1
 (try dsimp only at hz0 hz1 hf0 hf1)
 have hrem:((k:Int) % 8)=0:=by omega
 have hquo:((k:Int) / 8)=(n:Int):=by omega
 have hrt:(k:Int).tmod 8=0:=by rw [zAM (by omega)];exact hrem
 have hwi:zAC.wrap (n:Int)=(n:Int):=by rw [zAB];omega
 have hin3:(n:Int).toNat=n:=by omega
 have hwk:zAC.wrap ((k:Int)+1)=(k:Int)+1:=by rw [zAB];omega
 have hn8:n<16777216:=by omega
 have HN8:=zAA hn8;have HMM:=zAA hM
 clear hb hc hn8 hM hi hr hk
 go_enter Tryz.func101,Tryz.ntmps101
 go_wp2_with (at_builtin;refine dK jn rfl rfl rfl ((ao HC.out (.cells #[.int .u8 0] 5)).2.2.head) rfl (m:=1) (news:=[.int .u8 0]) rfl (ab.sl (ab.new W 5 _) 0) ?c2 ?c4 ?c5 ?_)
 case c2=>intro u hu;simp at hu;subst hu;rfl
 case c4=>have:=HN8.out;omega
 case c5=>have:=HC.out.1.size;simp;omega
 intro v5 W5 h2 h3 _
 have hc5:=nX (ao HC.out (.cells #[.int .u8 0] 5)) h3 h2 (zAE _) (by simp) (by simp)
 have HKF:=zAA (fun B=>ie (ce (KeepsFrom.refl B W) (.cells #[.int .u8 0] 5)) h3 (gw (ao HC.out (.cells #[.int .u8 0] 5)).2.2.head))
 have HPF:=zAA (FO (FN (tK h W) (.cells #[.int .u8 0] 5)) h3 (ao HC.out (.cells #[.int .u8 0] 5)).2.2.head)
 obtain ⟨g5,c5,hv5,hg5,hl5⟩:=uR hc5.2.2.head (by show 0<n+1;omega)
 dsimp only at hv5
 subst hv5
 have HC5:=zAA hc5
 have hb5:=hc5.2.1.head
 have s0:=hb5.cell 0;have s1:=hb5.cell 1;have s2:=hb5.frozen 0;have s3:=hb5.frozen 1
 (try dsimp only at s0 s1 s2 s3)
 clear hc5 hb5 hz0 hz1 hf0 hf1 h2 h3
 go_wp2_with fail
 have hC6:ay w0 [(h,95,#[.slice (some ⟨g5,0,none⟩) (n+1) c5,.int .i64 (k:Int),.bool true])] [⟨w0.heap.size,5,1,.slice (some ⟨g5,0,none⟩) (n+1) c5,n+1,(M++[0]).map af⟩] (W5.setCell ⟨h,0,none⟩ (.slice (some ⟨g5,0,none⟩) (n+1) c5)):=by
  have h2:=aT HC5.out hh 0 (.slice (some ⟨g5,0,none⟩) (n+1) c5) (h,95,#[.slice A n c,.int .i64 (k:Int),.bool true]) (by simp) rfl (by simp)
  have e0:[(0:UInt8)].map af=[Value.int .u8 0]:=rfl
  rw [zA7,e0]
  simpa [cZ] using h2
 have HC6:=zAA hC6
 have HK6:=zAA (fun B=>ak (HKF.out B) ⟨h,0,none⟩ (.slice (some ⟨g5,0,none⟩) (n+1) c5))
 have HP6:=zAA (xM HPF.out 0 (.slice (some ⟨g5,0,none⟩) (n+1) c5))
 have HRB:=zAA (AZ hC6.2.2.head)
 clear HKF HPF
 have hb6:=hC6.2.1.head
 have hfar:=tL hC6
 have hcell:(W5.setCell ⟨h,0,none⟩ (.slice (some ⟨g5,0,none⟩) (n+1) c5)).cell? ⟨g5,n,none⟩=some (.int .u8 0):=by
  have h1:=hC6.2.2.head.cellAt n (by show n<(n+1)*1;omega)
  (try dsimp only at h1)
  rw [h1,zA7,List.getElem?_append_right (by rw [zAQ,HMM.out];exact zAE _),zAQ,HMM.out,zAY]
  rfl
 have hfz:=hC6.2.2.head.frozenAt n
 (try dsimp only at hfz)
 have hCD:Hid (aa [(h,95,#[.slice (some ⟨g5,0,none⟩) (n+1) c5,.int .i64 (k:Int),.bool true])] (W5.setCell ⟨h,0,none⟩ (.slice (some ⟨g5,0,none⟩) (n+1) c5)).drew∧(W5.setCell ⟨h,0,none⟩ (.slice (some ⟨g5,0,none⟩) (n+1) c5)).drew.cell? ⟨g5,n,none⟩=some (.int .u8 0)):=zAA ⟨hC6.2.1.drew,hcell⟩
 have hset:=AT hC6 hh n (UInt8.ofNat (x*128))
 have hval:af (UInt8.ofNat (x*128))= .int .u8 ((x*128:Nat):Int):=by unfold af;rw [gp _ (by omega)]
 have hlist:(M++[0]).set n (UInt8.ofNat (x*128))=M++[UInt8.ofNat (x*128)]:=by
  rw [List.set_append_right _ _ (by rw [HMM.out];exact zAE _),HMM.out,zAY]
  rfl
 rw [hval,hlist] at hset
 have HS:=zAA hset
 have hz0:=hb6.cell 0;have hz1:=hb6.cell 1;have hf1:=hb6.frozen 1
 have hb7:=hb6.far (p:=⟨g5,n,none⟩) hfar.1 (.int .u8 ((x*128:Nat):Int))
 have hw1:=hb7.cell 1;have hw2:=hb7.frozen 1
 (try dsimp only at hz0 hz1 hf1 hw1 hw2)
 have hin2:((n:Int)<(n:Int)+1):=by omega
 have hxs:x=0∨x=1:=by omega
 have hor0:bits .or .u8 0 0=0:=by decide
 have hor1:bits .or .u8 0 128=128:=by decide
 have hsh0:∀W:World,Sem.run Tryz.prog (Op.shift .shl .u8 (zAV.wrap 0) .i64 (zAC.wrap 7)) W= .ok (.int .u8 0) W:=fun W=>rfl
 have hsh1:∀W:World,Sem.run Tryz.prog (Op.shift .shl .u8 (zAV.wrap 1) .i64 (zAC.wrap 7)) W= .ok (.int .u8 128) W:=fun W=>rfl
 clear hset hval hlist hb6 hb7 hfar hC6 hx HC HN8 HMM s0 s1 s2 s3
 generalize W5.setCell ⟨h,0,none⟩ (.slice (some ⟨g5,0,none⟩) (n+1) c5)=W6 at*
 rcases hxs with rfl|rfl
 all_goals
  (try simp only [zAD,zAd,zAe] at hw1 hw2 HS⊢)
  refine ai (fun w'=>aa [(h,95,#[.slice (some ⟨g5,0,none⟩) (n+1) c5,.int .i64 (k:Int),.bool true])] w'∧w'.cell? ⟨g5,n,none⟩=some (.int .u8 0)) 20 (.take 0 (.take 1 (.take 2 (.take 3 (.take 4 (.take 5 (.take 6 (.take 7 (.take 8 (.take 9 (.take 10 (.take 11 (.take 12 (.take 13 (.take 14 (.take 15 (.take 16 (.take 17 (.take 18 (.take 19 (.done))))))))))))))))))))) (by kernel_rfl) (by kernel_rfl) (by simp only [aR.out,Array.getD_eq_getD_getElem?,zAT,zAP,zAO,zAN];rfl) (by simp only [zAW,zAc];rfl) (hCD.out) (fun PE hPE=>?_)
  iterate 20
   refine ah (v:=?_) rfl (by rfl) ?_ ?_
   rotate_left
   ·intro _ hSw;(try dsimp only at hSw);have z0:=hSw.1.head.cell 0;have z1:=hSw.1.head.cell 1;have z2:=hSw.2;(try dsimp only at z0 z1 z2);go_simp;(try with_reducible rfl)
   simp only [zAG,zAL,zAK]
  refine hPE _ _ ?_
  clear hPE PE
  simp only [zAX,zA8]
  go_wp2_with fail
  refine ⟨rfl,?_⟩
  go_wp2_with fail
  refine bodyPost_end (results_none rfl _ _ _) rfl ⟨⟨_,rfl⟩,?_⟩
  obtain ⟨cs0,hb0⟩:=HRB.out
  exact ⟨_,bM HS.out,fun B=>fb (ak (ak (HK6.out B) _ _) _ _),AR (xM (AS HP6.out hb0 _ _) _ _)⟩
theorem Ed (w0:World) (h:Nat) (L:List UInt8) (x:Nat) (hx:x<2) (hl:L.length<16777216) (hh:w0.heap.size≤h) (w:World) (hp:dQ w0 h L w):
  Calls Tryz.prog 101 #[.pointer (some ⟨h,0,none⟩),.int .i64 (x:Int)] w fun e w'=>(∃u,e= .returned u)∧dQ w0 h (L++[if x=0 then 48 else 49]) w'∧(∀B,KeepsFrom B w w')∧PB h w w':=by
 obtain ⟨v,hc⟩:=hp
 unfold Br at hc
 have hbit:rh (if x=0 then 48 else 49)=x:=by
  rcases (show x=0∨x=1 by omega) with rfl|rfl<;>rfl
 have hlen:(L++[if x=0 then (48:UInt8) else 49]).length=L.length+1:=by simp
 by_cases hr:L.length % 8=0
 ·refine (vP w0 h v (aO L) L.length x (aO L).length hl hx hr rfl (by rw [ct];omega) hh w hc).mono ?_
  rintro e w' ⟨hu,v',hc',hkf⟩
  refine ⟨hu,⟨v',?_⟩,hkf⟩
  unfold Br
  have e1:=Cg L (if x=0 then 48 else 49) hr
  rw [hbit,hr] at e1
  have e2:(aO (L++[if x=0 then (48:UInt8) else 49])).length=(aO L).length+1:=by rw [e1,zAF];rfl
  rw [e2,e1,hlen]
  exact hc'
 ·have hpos:0<(aO L).length:=by rw [ct];omega
  obtain ⟨g,c,hv,_,_⟩:=uR hc.2.2.head hpos
  dsimp only at hv
  subst hv
  have hin:L.length / 8<(aO L).length:=by rw [ct];omega
  have hq:((aO L).getD (L.length / 8) 0).toNat=fE L (L.length / 8):=by
   rw [zAf,mM L _ (by rw [ct] at hin;exact hin),zAN,gp _ (wE L _)]
  refine (xO w0 h g (aO L).length c (aO L) L.length (L.length / 8) (fE L (L.length / 8)) (x*2 ^ (7 - L.length % 8)) (L.length % 8) x hl hx rfl rfl hin rfl hq rfl hh w hc (by omega)).mono ?_
  rintro e w' ⟨hu,hc',hkf⟩
  refine ⟨hu,⟨.slice (some ⟨g,0,none⟩) (aO L).length c,?_⟩,hkf⟩
  unfold Br
  have e1:=Ch L (if x=0 then 48 else 49) hr
  rw [hbit] at e1
  rw [GK L x _ hx rfl (by omega),←e1] at hc'
  have e2:(aO (L++[if x=0 then (48:UInt8) else 49])).length=(aO L).length:=by rw [e1,List.length_set]
  rw [e2,hlen]
  exact hc'
theorem un (n b j:Nat) (hj:j<b):(ax n b).take (j+1)=(ax n b).take j++[if n / 2 ^ (b - 1 - j) % 2=0 then 48 else 49]:=by
 rw [zA1]
 congr 1
 have:(ax n b)[j]? =some (if n / 2 ^ (b - 1 - j) % 2=0 then 48 else 49):=by
  unfold ax
  rw [zA0,List.getElem?_range hj]
  rfl
 rw [this]
 rfl
theorem wZ (a:Nat) (ha:a<2 ^ 62):bits .and .i64 (a:Int) 1=((a % 2:Nat):Int):=by
 show zAC.wrap ((BitVec.ofInt 64 (a:Int)&&& BitVec.ofInt 64 1).toNat:Int)=_
 have e1:BitVec.ofInt 64 (a:Int)=BitVec.ofNat 64 a:=by simp
 have e2:BitVec.ofInt 64 1=BitVec.ofNat 64 1:=rfl
 rw [e1,e2,BitVec.toNat_and,BitVec.toNat_ofNat,BitVec.toNat_ofNat,zA5 (by omega),zA5 (by decide),Nat.and_one_is_mod,zAB]
 omega
set_option maxRecDepth 100000 in
theorem vQ (A:Option Addr) (n c:Nat) (l:List UInt8) (w:World) (hA:Sl w A (l.map af)) (hn:l.length=n) (hsz:n≤2 ^ 40) (hc0:A=none→c=0):
  Calls Tryz.prog 66 #[.slice A n c] w fun e w'=>(∃A' c',e= .returned (.slice A' n c')∧w'.ownsRow w.heap.size 5 1 (.slice A' n c') n (l.map af))∧Below w.heap.size w w':=by
 have HA:=zAA hA;have HN:=zAA hn
 cases A with
 |none=>
  have hl:l=[]:=by
   cases l with
   |nil=>rfl
   |cons b l=>
    obtain ⟨ad,e,_⟩:=hA 0 (af b) rfl
    cases e
  subst hl
  have hn0:n=0:=hn.symm
  subst hn0
  have hc:=hc0 rfl
  subst hc
  clear hA hn hc0
  have heq:∀W:World,Sem.run Tryz.prog (binOp .eql 25 (.slice none 0 0) (.slice none 0 0)) W= .ok (.bool true) W:=fun W=>by kernel_rfl
  go_enter Tryz.func66,Tryz.ntmps66
  go_wp2_with fail
  go_ret
  exact ⟨⟨_,_,rfl,zA2 _ _ _ _⟩,Below.refl _ _⟩
 |some a=>
  clear hA hn hc0
  have heq:∀W:World,Sem.run Tryz.prog (binOp .eql 25 (.slice (some a) n c) (.slice none 0 0)) W= .ok (.bool false) W:=fun W=>rfl
  have hlit:=World.ownsRow_lit (base:=w.heap.size) (e:=5) (size:=1) w #[] 0 (zAE _) (Nat.zero_le _) rfl
  have hb0:Below w.heap.size w (w.alloc (.cells #[] 5)):=(Below.refl _ w).alloc (zAE _) _
  have HLI:=zAA hlit;have HB0:=zAA hb0
  have HA2:=zAA (HA.out.below hb0)
  clear hlit hb0
  go_enter Tryz.func66,Tryz.ntmps66
  go_wp2_with (at_builtin;refine dK jn rfl rfl rfl HLI.out rfl (m:=n) (news:=l.map af) (by rw [zAQ,HN.out,Nat.mul_one]) HA2.out ?c2 ?c4 ?c5 ?_)
  case c2=>intro u hu;rfl
  case c4=>omega
  intro v5 W5 h2 h3 _
  have h2:W5.ownsRow w.heap.size 5 1 v5 n (l.map af):=by simpa using h2
  obtain ⟨A5,c5,hv5⟩:=bj h2
  subst hv5
  have HO5:=zAA h2
  have hbb:=jk HB0.out h3 (fun r e=>by cases e;exact zAE _) HB0.out.size
  have HBB:=zAA hbb
  clear h2 h3 hbb
  go_wp2_with fail
  go_ret
  exact ⟨⟨A5,c5,rfl,HO5.out⟩,HBB.out⟩
theorem Hu {w:World} {base e n c:Nat} {A:Option Addr} {xs:List Value} (h:w.ownsRow base e 1 (.slice A n c) n xs):n≤c∧Sl w A xs:=by
 refine ⟨?_,jc h⟩
 rcases h.2 with ⟨h7,h8⟩|⟨g7,cap7,cur7,h7,_,_,h8,_⟩
 ·omega
 ·have:=(Value.slice.inj h7).2.2;omega
theorem sF (w0:World) (h:Nat) (L:List UInt8) (hl:L.length≤16777216) (w:World) (hp:dQ w0 h L w):
  Calls Tryz.prog 32 #[.pointer (some ⟨h,0,none⟩)] w fun e w'=>(∃A' c',e= .returned (.slice A' (aO L).length c')∧w'.ownsRow w.heap.size 5 1 (.slice A' (aO L).length c') (aO L).length ((aO L).map af))∧Below w.heap.size w w':=by
 obtain ⟨v,hc⟩:=hp
 have hn:(aO L).length≤2 ^ 40:=by rw [ct];omega
 obtain ⟨A,c,hv,hS⟩:=dg hc.2.2.head
 dsimp only at hv hS
 subst hv
 have hc0:A=none→c=0:=fun e=>by
  subst e
  rcases hc.2.2.head.2 with ⟨h1,_⟩|⟨g,cap,cur,h1,_⟩
  ·exact (Value.slice.inj h1).2.2
  ·have:=(Value.slice.inj h1).1;cases this
 have C1:=zAA (xN h _ (L.length:Int) w hc.2.1.head)
 have C2:=zAA (vQ A (aO L).length c (aO L) w hS rfl hn hc0)
 have z0:=hc.2.1.head.cell 0
 (try dsimp only at z0)
 clear hc hS hn hc0
 generalize aO L=M at*
 generalize M.length=n at*
 go_enter Tryz.func32,Tryz.ntmps32
 go_wp2_with (first|(go_at_call 65;refine C1.out.mono ?_;rintro e w2 ⟨rfl,rfl⟩)|(go_at_call 66;refine C2.out.mono ?_;rintro e w2 ⟨⟨A',c',rfl,hs⟩,hb⟩;have HS:=zAA hs;have HB:=zAA hb;clear hs hb z0))
 go_ret
 exact ⟨⟨A',c',rfl,HS.out⟩,HB.out⟩
theorem va (sp:List UInt8) (j:Nat) (hj:j<sp.length):((sp.take (j+1)).flatMap fun b=>49::ax b.toNat 8)=((sp.take j).flatMap fun b=>49::ax b.toNat 8)++(49::ax sp[j].toNat 8):=by
 rw [zA1,zAH hj,List.flatMap_append]
 simp
theorem yc (sp:List UInt8):(sp.flatMap fun b=>49::ax b.toNat 8).length=9*sp.length:=by
 have:=iq sp
 unfold dw at this
 rw [zAF,zAU] at this
 omega
set_option maxRecDepth 100000 in
set_option maxHeartbeats 4000000 in
theorem fY (s:List UInt8) (n b:Nat) (hn:n<2 ^ 32) (hb:b≤32) (hl:s.length≤1000000) (w:World):
  Calls Tryz.prog 102 #[.string (bs s),.int .i64 (n:Int),.int .i64 (b:Int)] w fun e w'=>e= .returned (.string (bs (s++ax n b)))∧w=w':=by
 have HL:=zAA hl;have HN:=zAA hn
 have k7:zAC.wrap ((b:Int) - 1)=(b:Int) - 1:=by rw [zAB];omega
 clear hl hn
 go_enter Tryz.func102,Tryz.ntmps102
 go_wp2_with fail
 go_loopg [0,7] b (fun gk t i=>fun wr=>∃(j:Nat),j+gk=b∧i= .int .i64 ((gk:Int) - 1)∧t= .string (bs (s++(ax n b).take j))∧wr=w)
 case atStart=>exact ⟨0,by omega,rfl,by rw [zA9,zA6],rfl⟩
 case round=>
  obtain ⟨j,hj,rfl,rfl,rfl⟩:=hrel
  cases gk with
  |zero=>
   have hjb:j=b:=by omega
   have HE:=zAA hjb
   clear hj hjb
   go_wp2_with fail
   go_ret
   exact ⟨by rw [HE.out,zAS (by rw [aJ];exact zAE _)];rfl,rfl⟩
  |succ g=>
   have hg1:((g+1:Nat):Int) - 1=(g:Int):=by omega
   have hg0:(0:Int)≤(g:Int):=by omega
   have hg64:(g:Int)≤64:=by omega
   have hgn:(g:Int).toNat=g:=by omega
   have hgg:¬((g:Int)<0):=by omega
   obtain ⟨q,hq⟩:∃q,n / 2 ^ g=q:=⟨_,rfl⟩
   have hqi:((n:Int) / 2 ^ g)=(q:Int):=by rw [←hq];exact_mod_cast rfl
   have hq62:q<2 ^ 62:=by
    have h1:q≤n:=by rw [←hq];exact Nat.div_le_self _ _
    have h3:=HN.out
    have h4:(2:Nat) ^ 32<2 ^ 62:=by decide
    omega
   have hand:=wZ q hq62
   obtain ⟨x,hx⟩:∃x,q % 2=x:=⟨_,rfl⟩
   rw [hx] at hand
   have hx2:x=0∨x=1:=by omega
   have hgb:b - 1 - j=g:=by omega
   have hlen:(s++(ax n b).take j).length≤1000032:=by rw [zAF,zA4,aJ];have:=HL.out;omega
   have HT:Hid ((s++(ax n b).take j)++[if x=0 then (48:UInt8) else 49]=s++(ax n b).take (j+1)):=zAA (by
    rw [un n b j (by omega),zAI,hgb,hq,hx])
   have hwg:zAC.wrap ((g:Int) - 1)=(g:Int) - 1:=by rw [zAB];omega
   have HJJ:=zAA hj
   rw [hg1]
   generalize s++(ax n b).take j=L at HT hlen
   clear hj hq hx hq62 hgb hg1
   rcases hx2 with rfl|rfl
   ·skip
    simp only [zA3] at hand
    go_wp2_with fail
    go_roundg g
    case measure=>omega
    case rel=>exact ⟨j+1,by have:=HJJ.out;omega,rfl,by rw [←HT.out];rfl,rfl⟩
   ·skip
    simp only [zAD] at hand
    go_wp2_with fail
    go_roundg g
    case measure=>omega
    case rel=>exact ⟨j+1,by have:=HJJ.out;omega,rfl,by rw [←HT.out];rfl,rfl⟩
set_option maxRecDepth 100000 in
set_option maxHeartbeats 4000000 in
theorem y8 (s sp:List UInt8) (A:Option Addr) (n c:Nat) (w:World) (hA:Sl w A (sp.map af)) (hn:sp.length=n) (hs:n≤1000) (hl:s.length≤1000):
  Calls Tryz.prog 125 #[.string (bs s),.slice A n c] w fun e w'=>e= .returned (.string (bs (s++dw sp)))∧w=w':=by
 have HL:=zAA hl;have HN:=zAA hn;have HA:=zAA hA
 have hd1:ax 1 1=[49]:=rfl
 have hd0:ax 0 1=[48]:=rfl
 have HD1:=zAA hd1;have HD0:=zAA hd0
 clear hl hn hA hd1 hd0
 go_enter Tryz.func125,Tryz.ntmps125
 go_wp2_with fail
 go_loopg [0,9] n (fun gk t i=>fun wr=>∃(j:Nat),j+gk=n∧i= .int .i64 (j:Int)∧t= .string (bs (s++(sp.take j).flatMap fun b=>49::ax b.toNat 8))∧wr=w)
 case atStart=>exact ⟨0,by omega,rfl,by rw [zA9,List.flatMap_nil,zA6],rfl⟩
 case round=>
  obtain ⟨j,hj,rfl,rfl,rfl⟩:=hrel
  have hlen:(s++(sp.take j).flatMap fun b=>49::ax b.toNat 8).length≤10000:=by rw [zAF,yc,zA4];have:=HL.out;omega
  cases gk with
  |zero=>
   have hjb:j=n:=by omega
   have HE:=zAA hjb
   have hlt:¬((j:Int)<(n:Int)):=by omega
   have HR:Hid ((s++(sp.take j).flatMap fun b=>49::ax b.toNat 8)++ax 0 1=s++dw sp):=zAA (by rw [HD0.out,HE.out,zAS (by rw [HN.out];exact zAE _),zAI];rfl)
   generalize (s++(sp.take j).flatMap fun b=>49::ax b.toNat 8)=L at HR hlen⊢
   have C:=zAA (fY L 0 1 (by decide) (by decide) (by omega) wr)
   simp only [zAD] at C
   clear hj hjb
   go_wp2_with (go_at_call 102;refine C.out.mono ?_;rintro e w2 ⟨rfl,rfl⟩)
   go_ret
   exact ⟨by rw [HR.out];rfl,rfl⟩
  |succ g=>
   have hlt:((j:Int)<(n:Int)):=by omega
   have hj0:¬((j:Int)<0):=by omega
   have hjb:j<sp.length:=by rw [HN.out];omega
   obtain ⟨b,hb⟩:∃b,sp[j]=b:=⟨_,rfl⟩
   obtain ⟨ad,rfl,_,hc⟩:=HA.out.byte j hjb
   rw [hb] at hc
   have hb256:b.toNat<256:=UInt8.toNat_lt _
   have hw1:zAC.wrap ((j:Int)+1)=(j:Int)+1:=by rw [zAB];omega
   have hwb:zAC.wrap (b.toNat:Int)=(b.toNat:Int):=by rw [zAB];omega
   have HR:Hid (((s++(sp.take j).flatMap fun b=>49::ax b.toNat 8)++ax 1 1)++ax b.toNat 8=s++(sp.take (j+1)).flatMap fun b=>49::ax b.toNat 8):=zAA (by rw [HD1.out,va sp j hjb,hb,zAI,zAI];rfl)
   generalize (s++(sp.take j).flatMap fun b=>49::ax b.toNat 8)=L at HR hlen⊢
   have C1:=zAA (fY L 1 1 (by decide) (by decide) (by omega) wr)
   have C2:=zAA (fY (L++ax 1 1) b.toNat 8 (by omega) (by decide) (by rw [zAF,aJ];omega) wr)
   simp only [zAD] at C1 C2
   have HJJ:=zAA hj
   generalize (L++ax 1 1)++ax b.toNat 8=L2 at*
   generalize L++ax 1 1=L1 at*
   generalize b.toNat=bn at*
   clear hj hjb hb hb256 hlen
   go_wp2_with fail
   refine C1.out.mono ?_
   rintro e w2 ⟨rfl,rfl⟩
   go_wp2_with fail
   refine C2.out.mono ?_
   rintro e w2 ⟨rfl,rfl⟩
   go_wp2_with fail
   go_roundg g
   case measure=>omega
   case rel=>exact ⟨j+1,by have:=HJJ.out;omega,rfl,by rw [←HR.out],rfl⟩
def iW (qu:Int) (n:Nat):Bool:=decide (1≤qu)&&decide (qu≤31)&&decide (n≤32)
set_option maxRecDepth 100000 in
theorem ux (qu:Int) (sp:List UInt8) (A:Option Addr) (n c:Nat) (w:World) (hA:Sl w A (sp.map af)) (hn:sp.length=n):
  Calls Tryz.prog 75 #[.int .i64 qu,.slice A n c] w fun e w'=>e= .returned (if iW qu n then .tuple #[.string (bs (ax qu.toNat 5++dw sp)),.int .i64 0] else .tuple #[.string (bs []),.int .i64 2])∧w=w':=by
 have HN:=zAA hn;have HA:=zAA hA
 clear hA hn
 have he:bs []={data:= #[]}:=rfl
 rw [he]
 cases hok:iW qu n with
 |true=>
  simp only [iW,zAJ,decide_eq_true_eq] at hok
  obtain ⟨⟨h1,h2⟩,h3⟩:=hok
  obtain ⟨q,rfl⟩:=Int.eq_ofNat_of_zero_le (by omega:0≤qu)
  have k1:decide ((q:Int)<1)=false:=by simp;omega
  have k2:decide ((31:Int)<(q:Int))=false:=by simp;omega
  have k3:decide ((32:Int)<(n:Int))=false:=by simp;omega
  have C1:=zAA (fY [] q 5 (by omega) (by decide) (by simp) w)
  have C2:=zAA (y8 ([]++ax q 5) sp A n c w HA.out HN.out (by omega) (by simp [aJ]))
  rw [he] at C1
  simp only [zAD] at C1
  rw [zAZ]
  rw [zAR] at C1 C2
  generalize ax q 5++dw sp=L2 at*
  generalize ax q 5=L1 at*
  clear h1 h2 h3
  go_enter Tryz.func75,Tryz.ntmps75
  go_wp2_with fail
  refine C1.out.mono ?_
  rintro e w2 ⟨rfl,rfl⟩
  go_wp2_with fail
  refine C2.out.mono ?_
  rintro e w2 ⟨rfl,rfl⟩
  go_wp2_with fail
  go_ret2
  exact ⟨rfl,rfl⟩
 |false=>
  cases k1:decide (qu<1) with
  |true=>
   clear hok
   go_enter Tryz.func75,Tryz.ntmps75
   go_wp2_with fail
   go_ret2
   exact ⟨rfl,rfl⟩
  |false=>
   cases k2:decide (31<qu) with
   |true=>
    clear hok
    go_enter Tryz.func75,Tryz.ntmps75
    go_wp2_with fail
    go_ret2
    exact ⟨rfl,rfl⟩
   |false=>
    have k3:decide ((32:Int)<(n:Int))=true:=by
     simp only [iW,Bool.and_eq_false_iff,decide_eq_false_iff_not] at hok k1 k2
     simp
     omega
    clear hok
    go_enter Tryz.func75,Tryz.ntmps75
    go_wp2_with fail
    go_ret2
    exact ⟨rfl,rfl⟩
set_option maxRecDepth 100000 in
theorem qI (n:Nat) (hn:n≤15) (w:World):
  Calls Tryz.prog 59 #[.int .i64 (n:Int)] w fun e w'=>e= .returned (.tuple #[.string (bs (dA n)),.int .i64 0])∧w=w':=by
 have k1:decide ((n:Int)<0)=false:=by simp
 have k2:decide ((15:Int)<(n:Int))=false:=by simp;omega
 have he:bs []={data:= #[]}:=rfl
 have C1:=zAA (fY [] 1 16 (by decide) (by decide) (by simp) w)
 have C2:=zAA (fY ([]++ax 1 16) n 4 (by omega) (by decide) (by simp [aJ]) w)
 rw [he] at C1
 rw [zAR] at C1 C2
 simp only [zAD] at C1 C2
 unfold dA
 rw [zAZ]
 generalize ax 1 16++ax n 4=L2 at*
 generalize ax 1 16=L1 at*
 go_enter Tryz.func59,Tryz.ntmps59
 go_wp2_with fail
 refine C1.out.mono ?_
 rintro e w2 ⟨rfl,rfl⟩
 go_wp2_with fail
 refine C2.out.mono ?_
 rintro e w2 ⟨rfl,rfl⟩
 go_wp2_with fail
 go_ret2
 exact ⟨rfl,rfl⟩
set_option maxRecDepth 100000 in
theorem y7 (n:Nat) (qu:Int) (sp:List UInt8) (A:Option Addr) (k c:Nat) (w:World) (hA:Sl w A (sp.map af)) (hk:sp.length=k) (hn0:1≤n) (hn:n≤15) (hok:iW qu k=true):
  Calls Tryz.prog 61 #[.int .i64 (n:Int),.int .i64 qu,.slice A k c] w fun e w'=>e= .returned (.tuple #[.string (bs (dA n++(ax qu.toNat 5++dw sp))),.int .i64 0])∧w=w':=by
 have k0:((n:Int)==0)=false:=by simp;omega
 have C1:=zAA (qI n hn w)
 have C2:=zAA (ux qu sp A k c w hA hk)
 rw [hok,if_pos rfl] at C2
 have hk32:k≤32:=by simp only [iW,zAJ,decide_eq_true_eq] at hok;omega
 have l1:(dA n).length=20:=cP _
 have l2:(ax qu.toNat 5++dw sp).length≤1000:=by rw [zAF,aJ,iq];omega
 generalize ax qu.toNat 5++dw sp=s2 at*
 generalize dA (n:Int)=s1 at*
 clear hA hk hok hk32
 go_enter Tryz.func61,Tryz.ntmps61
 go_wp2_with (first|(go_at_call 59;refine C1.out.mono ?_;rintro e w2 ⟨rfl,rfl⟩)|(go_at_call 75;refine C2.out.mono ?_;rintro e w2 ⟨rfl,rfl⟩))
 go_ret2
 exact ⟨rfl,rfl⟩
end Go.Proofs.YthhijgcfbjcgiaaGreatDoor
