/- SAddr, SAddrP, SAddrG -/
import Derived.Test.YthhijgcfbjcgiaaGreatDoorS02
import Derived.Test.YthhijgcfbjcgiaaGreatDoorS01
import Derived.Test.YthhijgcfbjcgiaaGreatDoorShelf
import Derived.Test.YthhijgcfbjcgiaaGreatDoorS05
import Derived.Deep.AppendLies
import Derived.WalkMore
import Derived.Deep.LoopGhost
namespace Go.Proofs.YthhijgcfbjcgiaaGreatDoor
open Go Go.RowKit
open Go.Lib renaming hid→zAA,repeatL→zA2
open List renaming isPrefixOf_iff_prefix→zAB,setIfInBounds_toArray→zAC,getElem?_take→zAE,set_cons_succ→zAF,set_cons_zero→zAG,take_of_length_le→zAH,map_cons→zAJ,map_nil→zAK,any_cons→zAL,getElem?_cons_succ→zAN,getElem?_cons_zero→zAO,getElem?_toArray→zAP,replicate→zAQ,drop_succ_cons→zAR,any_eq_false→zAS,all_eq_true→zAU,getElem_map→zAV,length_cons→zAW,drop_zero→zAZ,all_cons→zA1,range'→zA3
open Bool renaming eq_false_iff→zAD,and_eq_true→zAT,eq_iff_iff→zAY,false_or→zA0
open Nat renaming le_refl→zAI
open Int renaming eq_ofNat_of_zero_le→zAM
open Option renaming getD_some→zAX
set_option maxHeartbeats 400000 in
theorem wq (A:Option Addr) (n c:Nat) (l:List UInt8) (i:Int) (w:World) (hr:Sl w A (l.map af)) (hn:l.length=n) (h0:0≤i) (h1:i≤8*n) (hsz:n≤2 ^ 47):
  Calls Tryz.prog 185 #[.slice A n c,.int .i64 i] w fun e w'=>e= .returned (.string (bs (aC l i.toNat (min 15 (8*n - i.toNat)))))∧w=w':=by
 obtain ⟨k,rfl⟩:=zAM h0
 go_enter Tryz.func185,Tryz.ntmps185
 go_wp2
 go_loop [5,9] (fun o j=>∃m:Nat,m≤15∧k+m≤8*n∧j= .int .i64 (m:Int)∧o= .string (bs (aC l k m))) (fun _ j=>15 - (intOf j).toNat)
 case atStart=>exact ⟨0,by omega,by omega,rfl,rfl⟩
 case round=>
  obtain ⟨m,hm,hk,rfl,rfl⟩:=hrel
  have hlen:(aC l k m).length≤15:=by rw [bi];omega
  by_cases hlt:m<15
  ·by_cases hin:k+m<8*n
   ·have hb:=gT l (k+m)
    have Hs:=zAA (kW l k m)
    have H1:=zAA (l5 l (k+m))
    by_cases hz:aP l (k+m)=0
    ·have hz48:cW l (k+m)=48:=by simp [cW,hz]
     have Hz:=zAA hz48;clear hz48
     go_wp2_with (go_at_call 56;refine (fM 0 _ _ _ l _ _ _ (by rw [show ((k:Int)+m).toNat=k+m by omega];exact (congrArg Nat.cast (H1.out.trans hz))) hr hn (by omega) (by omega) (by omega) (by omega) hsz).mono ?_;rintro e w' ⟨rfl,rfl⟩)
     exact ⟨⟨m+1,by omega,by omega,rfl,by rw [Hs.out,Hz.out]⟩,by simp [intOf];omega⟩
    ·have hz49:cW l (k+m)=49:=by simp [cW,hz]
     have Hz:=zAA hz49;clear hz49
     have hz1:aP l (k+m)=1:=by omega
     have Hz1:=zAA hz1
     clear hz1 hz
     go_wp2_with (go_at_call 56;refine (fM 1 _ _ _ l _ _ _ (by rw [show ((k:Int)+m).toNat=k+m by omega];exact (congrArg Nat.cast (H1.out.trans Hz1.out))) hr hn (by omega) (by omega) (by omega) (by omega) hsz).mono ?_;rintro e w' ⟨rfl,rfl⟩)
     exact ⟨⟨m+1,by omega,by omega,rfl,by rw [Hs.out,Hz.out]⟩,by simp [intOf];omega⟩
   ·go_wp2_with (go_at_call 56;refine (de _ _ _ _ _ _ (by omega) (by omega) (by omega) (by omega) hsz).mono ?_;rintro e w' ⟨rfl,rfl⟩)
    go_ret
    exact ⟨AX (congrArg (aC l k) (by omega)),rfl⟩
  ·go_wp2
   go_ret
   exact ⟨AX (congrArg (aC l k) (by omega)),rfl⟩
theorem zy (c:Nat):zA2 [48] c=zAQ c 48:=by
 induction c with
 |zero=>rfl
 |succ c ih=>simp [zA2,ih,List.replicate_succ]
def sT (n many:Nat):List UInt8:=zAQ (many - (n.log2+1)) 48++jI n (n.log2+1)
set_option maxHeartbeats 400000 in
theorem ws (n many:Int) (h1:1≤n) (h2:n<2 ^ 30) (hm:(n.toNat.log2:Int)+1≤many) (hm2:many≤100) (w:World) (hT:Tz w):
  Calls Tryz.prog 155 #[.int .i64 n,.int .i64 many] w fun e w'=>e= .returned (.string (bs (sT n.toNat many.toNat)))∧Below w.heap.size w w':=by
 have HT:=zAA hT;clear hT
 have hk:2 ^ n.toNat.log2≤n.toNat:=Nat.log2_self_le (by omega)
 have hk2:n.toNat<2 ^ (n.toNat.log2+1):=Nat.lt_log2_self
 have hkk:n.toNat.log2<32:=(Nat.log2_lt (by omega)).2 (by omega)
 unfold sT
 generalize n.toNat.log2=k at hk hk2 hkk hm
 obtain ⟨m,rfl⟩:∃m:Nat,many=m:=⟨many.toNat,by omega⟩
 have hl:=qB n.toNat (k+1)
 have h1:(0:Int)≤m - (k+1):=by omega
 have e1:bs [48]={data:= #[48]}:=rfl
 have hr:=fun (w:World)=>Tryz.strings_Repeat (bs [48]) (m - (k+1)) w (by omega) (by rw [iA];simp;omega)
 rw [eA,zy] at hr
 have hr2:∀w:World,Calls Tryz.prog 186 #[.string {data:= #[48]},.int .i64 ((m:Int) - ((k:Int)+1))] w fun e w'=>e= .returned (.string (bs (zAQ (m - (k+1)) 48)))∧Below w.heap.size w w':=fun w=>by
  have:=hr w
  rw [show (((m - (k+1):Nat)):Int)=(m:Int) - ((k:Int)+1) by omega] at this
  exact this
 have Hr:=zAA hr2
 clear hr hr2 e1
 go_enter Tryz.func155,Tryz.ntmps155
 go_wp2_with (first|(go_at_call 198;refine (Fi n k hk hk2 hkk _ HT.out).mono ?_;rintro e w1 ⟨rfl,hb1⟩)|(go_at_call 186;refine (Hr.out _).mono ?_;rintro e w2 ⟨rfl,hb2⟩))
 go_ret
 exact ⟨rfl,hb1.trans (hb2.mono hb1.size)⟩
def ke (first bits:Int) (m:Nat):List Value:=(List.range m).map fun (j:Nat)=>Value.string (bs (sT (first.toNat - j) bits.toNat))
theorem BI (first bits:Int) (m:Nat):ke first bits (m+1)=ke first bits m++[.string (bs (sT (first.toNat - m) bits.toNat))]:=by simp [ke,List.range_succ]
theorem GW:(Tryz.prog.info? 9).map (fun i=>(i.zero,i.size,i.bytes))=some (some (.string ⟨#[]⟩),1,16):=by kernel_rfl
set_option maxRecDepth 100000 in
set_option maxHeartbeats 1000000 in
theorem jG (first bits:Int) (many:Nat) (hf:many≤first) (hf2:first<2 ^ 30) (hb0:∀j:Nat,j<many→((first - j).toNat.log2:Int)+1≤bits) (hb2:bits≤100)
  (Bo base n:Nat) (v:Value) (xs:List Value) (w:World) (hT:Tz w) (hTB:7<base) (hown:w.ownsRow base 9 1 v n xs) (hbox:ab w Bo 138 #[v]) (hbase:base≤Bo) (hn:n+many≤1000):
  Calls Tryz.prog 154 #[.int .i64 first,.int .i64 many,.int .i64 bits,.pointer (some ⟨Bo,0,none⟩)] w fun e w'=>e= .returned (.tuple #[])∧
   (∃v',w'.ownsRow base 9 1 v' (n+many) (xs++ke first bits many)∧ab w' Bo 138 #[v']∧Below base w w'):=by
 have HT:=zAA hT;clear hT
 have Hb0:=zAA hb0;clear hb0
 obtain ⟨i0,hi,hz0,hz1,hz2⟩:=info_parts GW
 go_enter Tryz.func154,Tryz.ntmps154
 go_wp2_with fail
 go_loopw [9] (fun i wr=>∃(j:Nat) (v:Value),j≤many∧i= .int .i64 (j:Int)∧wr.ownsRow base 9 1 v (n+j) (xs++ke first bits j)∧ab wr Bo 138 #[v]∧Below base w wr) (fun i _=>many - (intOf i).toNat)
 case atStart=>exact ⟨0,v,by omega,rfl,by simpa [ke] using hown,hbox,Below.refl _ _⟩
 case round=>
  obtain ⟨j,v,hj,rfl,hown,hbox,hbel⟩:=hrel
  by_cases hlt:j<many
  ·have hc:wr.cell? ⟨Bo,0,none⟩=some v:=by rw [hbox.cell];rfl
   have hf0:=hbox.frozen 0
   have hne:=bg hown hbox (by decide)
   have Htx:=zAA (fun W (h:Tz W)=>ws (first - j) bits (by omega) (by omega) (Hb0.out j hlt) hb2 W h)
   rw [show (first - (j:Int)).toNat=first.toNat - j by omega] at Htx
   have HTr:=zAA (HT.out.belowB hbel hTB)
   have hwr:IntKind.i64.wrap (first - (j:Int))=first - j:=IntWalk.i64_in _ (by omega)
   go_wp2_with fail
   refine eK (fun w'=>w'.cell? ⟨Bo,0,none⟩=some v) 7 [(0,true),(1,true),(2,true),(3,true),(4,true),(5,false),(6,false)] (by kernel_rfl) (by kernel_rfl) (fun _ _ d _ _ h=>by cases d<;>exact h) (by decide) (by simp only [zAJ,zAK,Array.getD_eq_getD_getElem?,zAP,zAO,zAN,zAX];rfl) (by simp only [zAJ,zAK];rfl) (hc) (fun PE hPE=>?_)
   iterate 5
    refine jd (v:=?_) rfl (by rfl) ?_ ?_
    rotate_left
    ·intro _ hSw;(try dsimp only at hSw);go_simp;(try with_reducible rfl)
    simp only [zAC,zAG,zAF]
   refine Eh rfl (by rfl) (by first|(go_simp;done)|(go_simp;rfl)) (Htx.out _ (by exact HTr.out)) ?_
   rintro e w1 ⟨rfl,hb1⟩
   replace hb1:=Jk hb1
   have hbx1:ab w1 Bo 138 #[v]:=hbox.below hb1 hbox.lt
   have ho1:w1.ownsRow base 9 1 v (n+j) (xs++ke first bits j):=cG hown hb1 (zAI _)
   have hbel1:Below base w w1:=hbel.trans (hb1.mono (by have:=hbox.lt;omega))
   refine ⟨_,rfl,by rw [hbx1.cell];rfl,?_⟩
   simp only [zAC,zAG,zAF]
   refine Ck (v:=?_) (w':=?_) rfl (by rfl) ?_ ?_ ?_
   rotate_left 2
   ·go_simp;(try (constructor<;>with_reducible rfl))
   ·rw [(hbx1.alloc _).cell];rfl
   simp only [zAC,zAG,zAF]
   (refine hPE _ _ ?_;simp only [zAR,zAZ];clear hPE PE)
   have ha:=ho1.alloc (.cells #[.string (bs (sT (first.toNat - j) bits.toNat))] 9)
   go_wp2_with (refine wpList_append_lies _ rfl _ _ _ rfl base 9 i0 _ 1 16 Tryz.underlying138 hi hz0 hz1 hz2 rfl (by omega) v (n+j) _ rfl ha ⟨w1.heap.size,0,none⟩ 1 1 [_] rfl rfl (JH _ _ _) (by simp [Value.oneCell']) (by omega) (by unfold maxLen;omega) (by omega) (by have:=hbel1.size;have:=hbx1.lt;simp;omega) (w1.heap.size+1) (by simp) ?_;intro gg cap w2 hown2 hgrow hat hlt2;have hbx2:ab w2 Bo 138 #[v]:=(hbx1.alloc _).grown hgrow hne;have hkeep2:w2.cell? ⟨Bo,0,none⟩=some v:=(by rw [hbx2.cell];rfl);have hf2:=hbx2.frozen 0)
   refine ⟨⟨j+1,_,by omega,rfl,?_,hbx2.set_ 0 _,?_⟩,by simp [intOf];omega⟩
   ·rw [BI,←List.append_assoc]
    exact fc hown2 _ _ (bg hown2 hbx2 (by decide))
   ·exact ((hbel1.alloc (by have:=hbel1.size;have:=hbx1.lt;omega) _).grown hgrow (by have:=hbx1.lt;simp;omega) (fun k hk=>(hown.lt k hk).1)).setCell (p:=⟨Bo,0,none⟩) hbase _
  ·obtain rfl:j=many:=by omega
   go_wp2_with fail
   go_end0
   exact ⟨rfl,v,hown,hbox,hbel⟩
def vX:List Value:=[.string ⟨#[48,48,48,48,48,48,48,49,49,49,49]⟩,.string ⟨#[49]⟩,.string ⟨#[48,49,49]⟩,.string ⟨#[48,49,48]⟩,.string ⟨#[48,48,49,49]⟩,.string ⟨#[48,48,49,48]⟩,.string ⟨#[48,48,48,49,49]⟩,.string ⟨#[48,48,48,49,48]⟩,.string ⟨#[48,48,48,48,49,49,49]⟩,.string ⟨#[48,48,48,48,49,49,48]⟩]
def Dv:List Value:=vX++ke 11 8 6++ke 23 10 6++ke 35 11 12
set_option maxRecDepth 100000 in
set_option maxHeartbeats 1000000 in
theorem oS (w:World) (hT:Tz w):
  Calls Tryz.prog 104 #[] w fun e w'=>∃A c,e= .returned (.slice A 34 c)∧Sl w' A Dv∧Below w.heap.size w w':=by
 have HT:=zAA hT;clear hT
 have H1:=zAA (jG 11 8 6 (by decide) (by decide) (by decide) (by decide))
 have H2:=zAA (jG 23 10 6 (by decide) (by decide) (by decide) (by decide))
 have H3:=zAA (jG 35 11 12 (by decide) (by decide) (by decide) (by decide))
 go_enter Tryz.func104,Tryz.ntmps104
 go_wp2_with fail
 have hG:7<w.heap.size:=HT.out.lt
 have HG:=zAA hG;clear hG
 refine (H1.out _ w.heap.size 10 _ vX _ (HT.out.below (((Below.refl _ _).alloc (zAI _) _).alloc (by simp) _)) HG.out ((World.ownsRow_lit w vX.toArray 10 (zAI _) (by decide) (by rfl)).alloc _)
  (by have:=ab.new (w.alloc (.cells vX.toArray 9)) 138 #[.slice (some ⟨w.heap.size,0,none⟩) 10 10];rwa [World.size_alloc] at this) (by omega) (by decide)).mono ?_
 rintro e w1 ⟨rfl,v1,ho1,hb1,hl1⟩
 replace hl1:=(((Below.refl w.heap.size w).alloc (zAI _) _).alloc (by simp) _).trans hl1
 have hc1:w1.cell? ⟨w.heap.size+1,0,none⟩=some v1:=by rw [hb1.cell];rfl
 go_wp2_with fail
 refine (H2.out _ w.heap.size _ _ _ _ (HT.out.below hl1) HG.out ho1 hb1 (by omega) (by decide)).mono ?_
 rintro e w2 ⟨rfl,v2,ho2,hb2,hl2⟩
 go_wp2_with fail
 replace hl2:=hl1.trans hl2
 refine (H3.out _ w.heap.size _ _ _ _ (HT.out.below hl2) HG.out ho2 hb2 (by omega) (by decide)).mono ?_
 rintro e w3 ⟨rfl,v3,ho3,hb3,hl3⟩
 replace hl3:=hl2.trans hl3
 have hc3:w3.cell? ⟨w.heap.size+1,0,none⟩=some v3:=by rw [hb3.cell];rfl
 go_wp2_with fail
 go_ret
 obtain ⟨A,c,rfl,hS⟩:=dg ho3
 exact ⟨A,c,rfl,hS,hl3⟩
theorem uj:Dv=aN.map bE:=by kernel_rfl
set_option maxHeartbeats 400000 in
theorem yM (d:Int) (w:World) (hT:Tz w) (hd: -9223372036854775808≤d∧d≤9223372036854775807):
  Calls Tryz.prog 62 #[.int .i64 d] w fun e w'=>e= .returned (.tuple #[.string (bs (pL d).1),.int .i64 (pL d).2])∧Below w.heap.size w w':=by
 have HT:=zAA hT;clear hT
 by_cases h0:d<0
 ·have e0:decide (d<0)=true:=by simpa using h0
  go_enter Tryz.func62,Tryz.ntmps62
  go_wp2_with fail
  go_ret2
  refine ⟨?_,Below.refl _ _⟩
  rw [pL,if_pos (.inl h0)];rfl
 ·have e0:decide (d<0)=false:=by simpa using h0
  by_cases h1:34≤d
  ·go_enter Tryz.func62,Tryz.ntmps62
   go_wp2_with fail
   go_ret2
   refine ⟨?_,Below.refl _ _⟩
   rw [pL,if_pos (.inr h1)];rfl
  ·obtain ⟨k,rfl⟩:=zAM (by omega:0≤d)
   have hk:k<aN.length:=by rw [eO];omega
   have Hk:=zAA hk;clear hk
   have hput:pL (k:Int)=(aN[k]'Hk.out,0):=by
    rw [pL,if_neg (by omega)];simp [List.getD,Hk.out]
   rw [hput];clear hput
   go_enter Tryz.func62,Tryz.ntmps62
   go_wp2_with fail
   refine (oS _ HT.out).mono ?_
   rintro e w1 ⟨A,c,rfl,hS,hb⟩
   rw [uj] at hS
   obtain ⟨ad,rfl,_,hc⟩:=hS.at_ k (by simpa using Hk.out)
   rw [zAV] at hc
   unfold bE at hc
   go_wp2_with fail
   go_ret2
   exact ⟨rfl,hb⟩
theorem wn (a d:Int) (w:World) (ha: -9223372036854775808≤a∧a≤9223372036854775807) (hd: -9223372036854775808≤d∧d≤9223372036854775807):
  Calls Tryz.prog 144 #[.int .i64 a,.int .i64 d] w fun e w'=>e= .returned (.tuple #[.int .i64 (sw a d).1,.int .i64 (sw a d).2])∧w=w':=by
 unfold sw
 by_cases h1:a<0
 ·have e1:decide (a<0)=true:=by simpa using h1
  rw [if_pos (by omega)]
  go_enter Tryz.func144,Tryz.ntmps144
  go_wp2;go_ret2;exact ⟨rfl,rfl⟩
 have e1:decide (a<0)=false:=by simpa using h1
 by_cases h2:33<a
 ·have e2:decide (33<a)=true:=by simpa using h2
  rw [if_pos (by omega)]
  go_enter Tryz.func144,Tryz.ntmps144
  go_wp2;go_ret2;exact ⟨rfl,rfl⟩
 have e2:decide (33<a)=false:=by simpa using h2
 by_cases h3:d<1
 ·have e3:decide (d<1)=true:=by simpa using h3
  rw [if_pos (by omega)]
  go_enter Tryz.func144,Tryz.ntmps144
  go_wp2;go_ret2;exact ⟨rfl,rfl⟩
 have e3:decide (d<1)=false:=by simpa using h3
 by_cases h4:33<d
 ·have e4:decide (33<d)=true:=by simpa using h4
  rw [if_pos (by omega)]
  go_enter Tryz.func144,Tryz.ntmps144
  go_wp2;go_ret2;exact ⟨rfl,rfl⟩
 have e4:decide (33<d)=false:=by simpa using h4
 rw [if_neg (by omega)]
 by_cases h5:33<a+d
 ·rw [if_pos h5]
  go_enter Tryz.func144,Tryz.ntmps144
  go_wp2;go_ret2;exact ⟨rfl,rfl⟩
 ·rw [if_neg h5]
  go_enter Tryz.func144,Tryz.ntmps144
  go_wp2;go_ret2;exact ⟨rfl,rfl⟩
def jj (c s:List UInt8):Bool:=c.take (min c.length s.length)==s.take (min c.length s.length)
def gE (s:List UInt8):List (List UInt8)→Nat→Bool→Int×Int×Int
 |[],_,more=>if more then (0,0,5) else (0,0,7)
 |c::cs,n,more=>if jj c s then (if c.length≤s.length then ((n:Int),(c.length:Int),0) else gE s cs (n+1) true) else gE s cs (n+1) more
def tD (l:List UInt8) (i:Int):Int×Int×Int:=
 if i<0 then (0,0,3) else if 8*(l.length:Int)<i then (0,0,5) else
 let s:=aC l i.toNat (min 15 (8*l.length - i.toNat))
 if s=a8 then (34,0,0) else gE s aN 0 (s.isPrefixOf a8)
theorem EU (c s:List UInt8) (h:∀t,t<min c.length s.length→c[t]? =s[t]?):jj c s=true:=by
 unfold jj
 rw [beq_iff_eq]
 apply List.ext_getElem?
 intro t
 rw [zAE,zAE]
 split
 ·rename_i ht;exact h t ht
 ·rfl
theorem De (c s:List UInt8) (t:Nat) (ht:t<min c.length s.length) (h:c[t]?≠s[t]?):jj c s=false:=by
 unfold jj
 rw [beq_eq_false_iff_ne]
 intro he
 apply h
 have:=congrArg (fun l=>l[t]?) he
 rw [zAE,zAE,if_pos ht,if_pos ht] at this
 exact this
def eB (s:List UInt8):List (List UInt8)→Nat→Option (Int×Int)
 |[],_=>none
 |c::cs,n=>if c.isPrefixOf s then some ((n:Int),(c.length:Int)) else eB s cs (n+1)
theorem wt (c t:List UInt8) (h:c.length≤t.length):jj c t=c.isPrefixOf t:=by
 rw [←qR c t h]
 unfold jj
 rw [Nat.min_eq_left h,zAH (zAI _),zAY,beq_iff_eq,beq_iff_eq]
 exact eq_comm
theorem vD (c t:List UInt8) (h:t.length≤c.length):jj c t=t.isPrefixOf c:=by
 rw [←qR t c h]
 unfold jj
 rw [Nat.min_eq_right h,zAH (l:=t) (zAI _)]
theorem ol (t:List UInt8):∀(cs:List (List UInt8)) (n:Nat) (more:Bool),gE t cs n more=
  match eB t cs n with
  |some (k,len)=>(k,len,0)
  |none=>if more||cs.any (fun c=>t.isPrefixOf c) then (0,0,5) else (0,0,7)
 |[],n,more=>by simp [gE,eB]
 |c::cs,n,more=>by
  by_cases h:c.length≤t.length
  ·rw [gE,eB,wt c t h]
   by_cases hp:c.isPrefixOf t=true
   ·rw [if_pos hp,if_pos hp,if_pos h]
   ·have hp':c.isPrefixOf t=false:=zAD.2 hp
    rw [hp',if_neg (by simp),if_neg (by simp),ol t cs (n+1) more]
    have hq:t.isPrefixOf c=false:=by
     rw [zAD]
     intro hq
     have h1:=zAB.1 hq
     have he:t=c:=h1.eq_of_length (Nat.le_antisymm h1.length_le h)
     rw [he] at hp'
     rw [zAB.2 (List.prefix_refl c)] at hp'
     cases hp'
    simp only [zAL,hq,zA0]
  ·have hp:c.isPrefixOf t=false:=ki c t h
   rw [gE,eB,vD c t (by omega),hp,if_neg (by simp:¬(false=true)),if_neg h]
   by_cases hq:t.isPrefixOf c=true
   ·rw [if_pos hq,ol t cs (n+1) true]
    simp only [zAL,hq,Bool.true_or,Bool.or_true]
   ·have hq':t.isPrefixOf c=false:=zAD.2 hq
    rw [if_neg hq,ol t cs (n+1) more]
    simp only [zAL,hq',zA0]
theorem Co (c s:List UInt8) (h:c.length≤15):c.isPrefixOf (s.take 15)=c.isPrefixOf s:=by
 rw [zAY,zAB,zAB,List.prefix_take_iff]
 exact ⟨fun h1=>h1.1,fun h1=>⟨h1,h⟩⟩
theorem n6 (s:List UInt8):∀(cs:List (List UInt8)) (n:Nat),cs.all (fun c=>decide (c.length≤15))=true→eB (s.take 15) cs n=eB s cs n
 |[],_,_=>rfl
 |c::cs,n,h=>by
  simp only [zA1,zAT,decide_eq_true_eq] at h
  rw [eB,eB,Co c s h.1,n6 s cs (n+1) h.2]
theorem wM (s:List UInt8):∀(cs:List (List UInt8)) (n:Nat) (d:List UInt8) (k:Int),bK s (cs++[d]) ((zA3 n cs.length).map (fun (k:Nat)=>(k:Int))++[k])=
  match eB s cs n with
  |some r=>some r
  |none=>if d.isPrefixOf s then some (k,(d.length:Int)) else none
 |[],n,d,k=>by simp [bK,eB]
 |c::cs,n,d,k=>by
  simp only [List.cons_append,zAW,List.range'_succ,zAJ]
  rw [bK,eB]
  split
  ·rfl
  ·exact wM s cs (n+1) d k
theorem qG (s:List UInt8):∀(cs:List (List UInt8)) (n:Nat),cs.all (fun c=> !c.isPrefixOf s)=true→eB s cs n=none
 |[],_,_=>rfl
 |c::cs,n,h=>by
  simp only [zA1,zAT,Bool.not_eq_true'] at h
  rw [eB,h.1,if_neg (by simp),qG s cs (n+1) h.2]
theorem uo (s:List UInt8):∀(cs:List (List UInt8)) (n:Nat) (r:Int×Int),eB s cs n=some r→r.1<(n:Int)+cs.length
 |[],_,_,h=>by cases h
 |c::cs,n,r,h=>by
  rw [eB] at h
  split at h
  ·cases h;simp;omega
  ·have:=uo s cs (n+1) r h
   simp only [zAW]
   omega
theorem lU:aN.all (fun c=>decide (c.length≤15))=true:=by kernel_rfl
theorem vF:aN.all (fun c=>decide (c.length≤11))=true:=by kernel_rfl
theorem Du:aN.all (fun c=> !c.isPrefixOf a8)=true:=by kernel_rfl
theorem Eg (s:List UInt8):(if s.take 15=a8 then (34,0,0) else gE (s.take 15) aN 0 ((s.take 15).isPrefixOf a8))=mG (jL fC ot s):=by
 have hf:=wM s aN 0 a8 34
 have hns:ot=(zA3 0 aN.length).map (fun (k:Nat)=>(k:Int))++[34]:=rfl
 have hcs:fC=aN++[a8]:=rfl
 unfold jL
 rw [hcs,hns,hf]
 by_cases hz:s.take 15=a8
 ·rw [if_pos hz,←n6 s aN 0 lU,hz,qG _ _ _ Du]
  have hp:a8.isPrefixOf s=true:=by
   rw [zAB,←hz];exact List.take_prefix _ _
  simp [hp,mG]
 ·rw [if_neg hz,ol,n6 s aN 0 lU]
  cases hfi:eB s aN 0 with
  |some r=>
   obtain ⟨k,len⟩:=r
   have:=uo s aN 0 _ hfi
   rw [eO] at this
   simp only [mG]
   rw [if_neg (by simp at this⊢;omega)]
  |none=>
   have hp:a8.isPrefixOf s=false:=by
    rw [zAD]
    intro h
    have h1:=List.prefix_iff_eq_take.1 (zAB.1 h)
    exact hz h1.symm
   simp only [hp,List.any_append,zAL,List.any_nil,Bool.or_false]
   rw [if_neg (by simp:¬(false=true))]
   by_cases hl:s.length≤15
   ·rw [zAH hl,Bool.or_comm]
    simp only [mG]
    split
    ·rfl
    ·rfl
   ·have e1:s.isPrefixOf a8=false:=ki _ _ (by simp [a8];omega)
    have e2:(aN.any fun c=>s.isPrefixOf c)=false:=by
     rw [zAS]
     intro c hc
     have:=zAU.1 lU c hc
     simp only [decide_eq_true_eq] at this
     rw [ki _ _ (by omega)];simp
    have hl15:(s.take 15).length=15:=by rw [List.length_take];omega
    have e3:(s.take 15).isPrefixOf a8=false:=by
     rw [zAD]
     intro h
     exact hz ((zAB.1 h).eq_of_length (by rw [hl15];rfl))
    have e4:(aN.any fun c=>(s.take 15).isPrefixOf c)=false:=by
     rw [zAS]
     intro c hc
     have:=zAU.1 vF c hc
     simp only [decide_eq_true_eq] at this
     rw [ki _ _ (by omega)];simp
    rw [e1,e2,e3,e4]
    rfl
theorem wA (l:List UInt8) (k m:Nat):(aC l k (min 24 m)).take 15=aC l k (min 15 m):=by
 unfold aC
 rw [←List.map_take,List.take_range]
 congr 2
 omega
theorem GQ (l:List UInt8) (i:Int):tD l i=ca l i:=by
 unfold tD ca ac
 by_cases h1:i<0
 ·rw [if_pos h1,if_pos h1];rfl
 ·rw [if_neg h1,if_neg h1]
  by_cases h2:8*(l.length:Int)<i
  ·rw [if_pos h2,show 8*l.length - i.toNat=0 by omega]
   simp only [Nat.min_zero,aC,List.range_zero,zAK]
   kernel_rfl
  ·rw [if_neg h2,←Eg,wA]
set_option maxRecDepth 100000 in
set_option maxHeartbeats 2000000 in
theorem yL (A:Option Addr) (n c:Nat) (l:List UInt8) (i:Int) (w:World) (hT:Tz w) (hr:Sl w A (l.map af)) (hn:l.length=n) (hsz:n≤2 ^ 47) (hi: -9223372036854775808≤i∧i≤9223372036854775807):
  Calls Tryz.prog 143 #[.slice A n c,.int .i64 i] w fun e w'=>e= .returned (.tuple #[.int .i64 (tD l i).1,.int .i64 (tD l i).2.1,.int .i64 (tD l i).2.2])∧Below w.heap.size w w':=by
 have HT:=zAA hT;clear hT
 unfold tD
 by_cases h1:i<0
 ·have e1:decide (i<0)=true:=by simpa using h1
  rw [if_pos h1]
  go_enter Tryz.func143,Tryz.ntmps143
  go_wp2_with fail
  go_step3
  go_wp2;(try rw [Exit.noGoto_ret]);go_ret3;exact ⟨rfl,Below.refl _ _⟩
 have e1:decide (i<0)=false:=by simpa using h1
 rw [if_neg h1,hn]
 by_cases h2:8*(n:Int)<i
 ·rw [if_pos h2]
  go_enter Tryz.func143,Tryz.ntmps143
  go_wp2_with fail
  go_step3
  go_wp2;(try rw [Exit.noGoto_ret]);go_ret3;exact ⟨rfl,Below.refl _ _⟩
 rw [if_neg h2]
 have Hseen:=zAA (wq A n c l i w hr hn (by omega) (by omega) hsz)
 have hsl:(aC l i.toNat (min 15 (8*n - i.toNat))).length≤15:=by rw [bi];omega
 generalize aC l i.toNat (min 15 (8*n - i.toNat))=s at Hseen hsl
 show Calls _ _ _ _ fun e w'=>e= .returned (.tuple #[.int .i64 (if s=a8 then (34,0,0) else gE s aN 0 (s.isPrefixOf a8):Int×Int×Int).1,.int .i64 (if s=a8 then (34,0,0) else gE s aN 0 (s.isPrefixOf a8):Int×Int×Int).2.1,.int .i64 (if s=a8 then (34,0,0) else gE s aN 0 (s.isPrefixOf a8):Int×Int×Int).2.2])∧Below w.heap.size w w'
 have hrep:∀W:World,Calls Tryz.prog 186 #[.string {data:= #[48]},.int .i64 15] W fun e w'=>e= .returned (.string (bs a8))∧Below W.heap.size W w':=fun W=>Tryz.strings_Repeat ⟨#[48]⟩ 15 W (by decide) (by decide)
 have Hrep:=zAA hrep;clear hrep
 by_cases hs:s=a8
 ·rw [if_pos hs]
  have hbe:(s==a8)=true:=by rw [hs];exact beq_self_eq_true _
  clear hs
  go_enter Tryz.func143,Tryz.ntmps143
  go_wp2_with fail
  go_step3
  go_wp2_with (first|(go_at_call 84;refine (dd _ _ _ _ hsz).mono ?_;rintro e w' ⟨rfl,rfl⟩)|(go_at_call 185;refine Hseen.out.mono ?_;rintro e w' ⟨rfl,rfl⟩)|(go_at_call 186;refine (Hrep.out _).mono ?_;rintro e w1 ⟨rfl,hb1⟩))
  (try rw [Exit.noGoto_ret]);go_ret3;exact ⟨rfl,hb1⟩
 rw [if_neg hs]
 have hbe:(s==a8)=false:=by rw [beq_eq_false_iff_ne];exact hs
 clear hs
 have hpre:∀W:World,Calls Tryz.prog 187 #[.string (bs a8),.string (bs s)] W fun e w'=>e= .returned (.bool (s.isPrefixOf a8))∧W=w':=fun W=>by
  have:=Tryz.strings_HasPrefix (bs a8) (bs s) W
  rw [eA,eA] at this
  exact this.mono fun e w' h=>⟨h.1,h.2.symm⟩
 have Hpre:=zAA hpre;clear hpre
 generalize s.isPrefixOf a8=m0 at Hpre⊢
 generalize hR:gE s aN 0 m0=R
 have HR:=zAA hR;clear hR
 go_enter Tryz.func143,Tryz.ntmps143
 go_wp2_with fail
 go_step3
 go_wp2_with (first|(go_at_call 84;refine (dd _ _ _ _ hsz).mono ?_;rintro e w' ⟨rfl,rfl⟩)|(go_at_call 185;refine Hseen.out.mono ?_;rintro e w' ⟨rfl,rfl⟩)|(go_at_call 186;refine (Hrep.out _).mono ?_;rintro e w1 ⟨rfl,hb1⟩)|(go_at_call 187;refine (Hpre.out _).mono ?_;rintro e w' ⟨rfl,rfl⟩))
 go_step3
 go_wp2_with fail
 refine (oS _ (HT.out.below hb1)).mono ?_
 rintro e w2 ⟨A1,c1,rfl,hS,hb2⟩
 rw [uj] at hS
 replace hb2:=hb1.trans (hb2.mono hb1.size)
 go_wp2_with fail
 go_loopg [9,31] 34 (fun g more idx wr=>∃(k:Nat) (m:Bool),k+g=34∧idx= .int .i64 (k:Int)∧more= .bool m∧Hid (gE s (aN.drop k) k m=R)∧Sl wr A1 (aN.map bE)∧Below w.heap.size w wr)
 case atStart=>exact ⟨0,m0,by omega,rfl,rfl,HR,hS,hb2⟩
 case round=>
  obtain ⟨k,m,hkg,rfl,rfl,HL,hS,hb2⟩:=hrel
  cases gk with
  |zero=>
   have hk:¬((k:Int)<34):=by omega
   obtain rfl:k=34:=by omega
   have hL:=HL.out
   clear HL
   cases m with
   |true=>
    go_wp2_with fail
    (try rw [Exit.noGoto_ret]);go_ret3
    exact ⟨by rw [←hL];rfl,hb2⟩
   |false=>
    go_wp2_with fail
    (try rw [Exit.noGoto_ret]);go_ret3
    exact ⟨by rw [←hL];rfl,hb2⟩
  |succ g=>
   have hk:((k:Int)<34):=by omega
   have hkl:k<aN.length:=by rw [eO];omega
   obtain ⟨ad,rfl,_,hc⟩:=hS.at_ k (by simpa using hkl)
   rw [zAV] at hc
   unfold bE at hc
   have HL2:=HL.out
   rw [List.drop_eq_getElem_cons hkl] at HL2
   generalize aN[k]=cd at hc HL2
   have HL2:=zAA HL2
   obtain ⟨mn,hmn⟩:∃mn:Nat,mn=min cd.length s.length:=⟨_,rfl⟩
   have hmin:min (cd.length:Int) (s.length:Int)=(mn:Int):=by omega
   have hm1:mn≤cd.length:=by omega
   have hm2:mn≤s.length:=by omega
   have Hmn:=zAA hmn;clear hmn
   go_wp2_with fail
   clear hmin
   go_loopg [41] mn (fun g2 t wx=>∃j:Nat,j+g2=mn∧t= .int .i64 (j:Int)∧Hid (∀t,t<j→cd[t]? =s[t]?)∧Sl wx (some ad) (aN.map bE)∧Below w.heap.size w wx)
   case atStart=>exact ⟨0,by omega,rfl,zAA (fun t ht=>absurd ht (by omega)),hS,hb2⟩
   case round=>
    obtain ⟨j,hj,rfl,Hag,hS,hb2⟩:=hrel
    cases gk with
    |zero=>
     obtain rfl:j=mn:=by omega
     have hjz:¬((j:Int)<(j:Int)):=by omega
     have hagr:jj cd s=true:=EU cd s (by rw [←Hmn.out];exact Hag.out)
     have hL3:=HL2.out
     rw [gE,hagr,if_pos rfl] at hL3
     by_cases hle:cd.length≤s.length
     ·rw [if_pos hle] at hL3
      have Hl3:=zAA hL3
      clear hL3 HL2 hagr
      go_wp2_with fail
      (try rw [Exit.noGoto_ret]);go_ret3
      exact ⟨by rw [←Hl3.out];rfl,hb2⟩
     ·rw [if_neg hle] at hL3
      have Hl3:=zAA hL3
      clear hL3 HL2 hagr
      go_wp2_with fail
      go_roundg g
      case measure=>omega
      case rel=>exact ⟨k+1,true,by omega,rfl,rfl,Hl3,hS,hb2⟩
    |succ g2=>
     have hjz:((j:Int)<(mn:Int)):=by omega
     have hjc:j<cd.length:=by omega
     have hjs:j<s.length:=by omega
     go_wp2_with fail
     refine eK (fun _=>True) 6 [(0,true),(1,true),(2,true),(3,true),(4,true),(5,true)] (by kernel_rfl) (by kernel_rfl) (fun _ _ d _ _ h=>by cases d<;>exact h) (by decide) (by simp only [zAJ,zAK,Array.getD_eq_getD_getElem?,zAP,zAO,zAN,zAX];rfl) (by simp only [zAJ,zAK];rfl) (trivial) (fun PE hPE=>?_)
     iterate 6
      refine jd (v:=?_) rfl (by rfl) ?_ ?_
      rotate_left
      ·intro _ hSw;(try dsimp only at hSw);go_simp;(try with_reducible rfl)
      simp only [zAC,zAG,zAF]
     (refine hPE _ _ ?_;simp only [zAR,zAZ];clear hPE PE)
     by_cases heq:cd[j]=s[j]
     ·have hq:((s[j].toNat:Int) !=(cd[j].toNat:Int))=false:=by rw [heq];simp
      go_wp2_with fail
      go_roundg g2
      case measure=>omega
      case rel=>
       refine ⟨j+1,by omega,rfl,zAA (fun t ht=>?_),hS,hb2.drew⟩
       by_cases htj:t<j
       ·exact Hag.out t htj
       ·obtain rfl:t=j:=by omega
        simp [hjc,hjs,heq]
     ·have hq:((s[j].toNat:Int) !=(cd[j].toNat:Int))=true:=by
       rw [bne_iff_ne];intro h;exact heq (UInt8.toNat_inj.1 (by omega))
      have hagr:jj cd s=false:=De cd s j (by omega) (by simp [hjc,hjs,heq])
      have hL3:=HL2.out
      rw [gE,hagr,if_neg (by simp)] at hL3
      have Hl3:=zAA hL3
      clear hL3 HL2 hagr heq
      go_wp2_with fail
      go_roundg g
      case measure=>omega
      case rel=>exact ⟨k+1,m,by omega,rfl,rfl,Hl3,hS,hb2.drew⟩
end Go.Proofs.YthhijgcfbjcgiaaGreatDoor
