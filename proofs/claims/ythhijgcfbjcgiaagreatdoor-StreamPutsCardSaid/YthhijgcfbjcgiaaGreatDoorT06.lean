/- SAddr, SAddrP, SAddrG -/
import Derived.Test.YthhijgcfbjcgiaaGreatDoorT02
import Derived.Test.YthhijgcfbjcgiaaGreatDoorShelf
import Derived.Test.YthhijgcfbjcgiaaGreatDoorT05
import Derived.Deep.AppendLies
namespace Go.Proofs.YthhijgcfbjcgiaaGreatDoor
open Go Go.RowKit
set_option maxHeartbeats 16000000
set_option maxRecDepth 100000
open List renaming length→O,isPrefixOf_iff_prefix→Z,setIfInBounds_toArray→Y,getElem?_take→OE,set_cons_succ→OF,set_cons_zero→OG,take_of_length_le→OI,any_cons→OK,replicate→OO,drop_succ_cons→OP,any_eq_false→OS,all_eq_true→OV,getElem_map→OW,length_cons→OX,drop_zero→Oa,all_cons→Oc,range'→Of
open Go.Lib renaming hid→U,repeatL→Oe
open Go.Value renaming string→V,int→J,tuple→OZ,slice→Od
open Go.IntKind renaming i64→X
open Tryz renaming prog→OA,ntmps144→OD,func144→OH,ntmps143→OL,func143→OM,strings_Repeat→OQ,ntmps62→OR,func62→OT
open Go.Ending renaming returned→OB
open Bool renaming eq_false_iff→OC,and_eq_true→OU,eq_iff_iff→OY,false_or→Ob
open Nat renaming le_refl→OJ,cast→Og
open Int renaming eq_ofNat_of_zero_le→ON
theorem ws (A:Option Addr)(n c:Nat)(l:List UInt8)(i:Int)(w:World)(hr:Sl w A (l.map ag))(hn:O l=n)(h0:0<=i)(h1:i<=8*n)(hsz:n<=2 ^ 47):
  Calls OA 185 #[Od A n c,J X i] w λe w'=>e=OB (V (bs (aI l i.toNat (min 15 (8*n - i.toNat)))))/\w=w':=by
 obtain⟨k,rfl⟩:=ON h0
 go_enter Tryz.func185,Tryz.ntmps185
 go_wp2
 go_loop [5,9] (λo j=>∃m:Nat,m<=15/\k+m<=8*n/\j=J X (m:Int)/\o=V (bs (aI l k m))) (λ_ j=>15 - (intOf j).toNat)
 case atStart=>exact⟨0,by omega,by omega,rfl,rfl⟩
 case round=>
  obtain⟨m,hm,hk,rfl,rfl⟩:=hrel;have T:(aI l k m).length<=15:=by rw[bo];omega
  by_cases aJ:m<15
  ·by_cases av:k+m<8*n
   ·have hb:=fC l (k+m)
    have N:=U (iH l k m);have M:=U (kc l (k+m))
    by_cases G:aZ l (k+m)=0
    ·have B:dH l (k+m)=48:=by simp[dH,G]
     have I:=U B;clear B;go_wp2_with (go_at_call 56;refine(fS 0 _ _ _ l _ _ _ (by rw[show ((k:Int)+m).toNat=k+m by omega];exact(congrArg Og (M.out.trans G))) hr hn (by omega) (by omega) (by omega) (by omega) hsz).mono ?_;rintro e w' ⟨rfl,rfl⟩)
     exact⟨⟨m+1,by omega,by omega,rfl,by rw[N.out,I.out]⟩,by simp[intOf];omega⟩
    ·have C:dH l (k+m)=49:=by simp[dH,G]
     have I:=U C;clear C;have D:aZ l (k+m)=1:=(by omega);have K:=U D;clear D G;go_wp2_with (go_at_call 56;refine(fS 1 _ _ _ l _ _ _ (by rw[show ((k:Int)+m).toNat=k+m by omega];exact(congrArg Og (M.out.trans K.out))) hr hn (by omega) (by omega) (by omega) (by omega) hsz).mono ?_;rintro e w' ⟨rfl,rfl⟩)
     exact⟨⟨m+1,by omega,by omega,rfl,by rw[N.out,I.out]⟩,by simp[intOf];omega⟩
   ·go_wp2_with (go_at_call 56;refine(dj _ _ _ _ _ _ (by omega) (by omega) (by omega) (by omega) hsz).mono ?_;rintro e w' ⟨rfl,rfl⟩)
    go_ret;exact⟨Bm (congrArg (aI l k) (by omega)),rfl⟩
  ·go_wp2
   go_ret;exact⟨Bm (congrArg (aI l k) (by omega)),rfl⟩
theorem zP (c:Nat):Oe [48] c=OO c 48:=by
 induction c with
 |zero=>rfl
 |succ c ih=>simp[Oe,ih,List.replicate_succ]
def sM (n j:Nat):List UInt8:=OO (j - (n.log2+1)) 48++jV n (n.log2+1)
theorem wt (n j:Int)(h1:1<=n)(h2:n<2 ^ 30)(hm:(n.toNat.log2:Int)+1<=j)(av:j<=100)(w:World)(M:Tz w):
  Calls OA 155 #[J X n,J X j] w λe w'=>e=OB (V (bs (sM n.toNat j.toNat)))/\Below w.heap.size w w':=by
 have T:=U M;clear M;have N:2 ^ n.toNat.log2<=n.toNat:=Nat.log2_self_le (by omega);have C:n.toNat<2 ^ (n.toNat.log2+1):=Nat.lt_log2_self;have D:n.toNat.log2<32:=(Nat.log2_lt (by omega)).2 (by omega);unfold sM;generalize n.toNat.log2=k at N C D hm;obtain⟨m,rfl⟩:∃m:Nat,j=m:=⟨j.toNat,by omega⟩;have hl:=qz n.toNat (k+1);have h1:(0:Int)<=m - (k+1):=by omega
 have e1:bs [48]={data:= #[48]}:=rfl;have K:= λ(w:World)=>OQ (bs [48]) (m - (k+1)) w (by omega) (by rw[iJ];simp;omega);rw[eH,zP] at K
 have G:∀w:World,Calls OA 186 #[V {data:= #[48]},J X ((m:Int) - ((k:Int)+1))] w λe w'=>e=OB (V (bs (OO (m - (k+1)) 48)))/\Below w.heap.size w w':= λw=>by
  have:=K w;rw[show (((m - (k+1):Nat)):Int)=(m:Int) - ((k:Int)+1) by omega] at this;exact this
 have Hr:=U G;clear K G e1
 go_enter Tryz.func155,Tryz.ntmps155
 go_wp2_with (first|(go_at_call 198;refine(FJ n k N C D _ T.out).mono ?_;rintro e w1 ⟨rfl,B⟩)|(go_at_call 186;refine(Hr.out _).mono ?_;rintro e w2 ⟨rfl,I⟩))
 go_ret;exact⟨rfl,B.trans (I.mono B.size)⟩
def kt (first bits:Int) (m:Nat):List Value:=(List.range m).map λ(j:Nat)=>Value.string (bs (sM (first.toNat - j) bits.toNat))
theorem BN (first bits:Int)(m:Nat):kt first bits (m+1)=kt first bits m++[V (bs (sM (first.toNat - m) bits.toNat))]:=by simp[kt,List.range_succ]
theorem Hg:(OA.info? 9).map (λi=>(i.zero,i.size,i.bytes))=some (some (V ⟨#[]⟩),1,16):=by kernel_rfl
theorem jT (first bits:Int)(B:Nat)(hf:B<=first)(jg:first<2 ^ 30)(dv:∀j:Nat,j<B->((first - j).toNat.log2:Int)+1<=bits) (iP:bits<=100)
  (M base n:Nat) (v:Value) (xs:List Value) (w:World) (hT:Tz w) (gj:7<base) (G:w.ownsRow base 9 1 v n xs) (C:ab w M 138 #[v]) (bM:base<=M) (hn:n+B<=1000):
  Calls OA 154 #[J X first,J X B,J X bits,.pointer (some ⟨M,0,none⟩)] w λe w'=>e=OB (OZ #[])/\
   (∃v',w'.ownsRow base 9 1 v' (n+B) (xs++kt first bits B)/\ab w' M 138 #[v']/\Below base w w'):=by
 have HT:=U hT;clear hT;have eE:=U dv;clear dv;obtain⟨i0,hi,rG,Hl,Ht⟩:=info_parts Hg
 go_enter Tryz.func154,Tryz.ntmps154
 go_wp2_with fail
 go_loopw [9] (λi wr=>∃(j:Nat)(v:Value),j<=B/\i=J X (j:Int)/\wr.ownsRow base 9 1 v (n+j) (xs++kt first bits j)/\ab wr M 138 #[v]/\Below base w wr) (λi _=>B - (intOf i).toNat)
 case atStart=>exact⟨0,v,by omega,rfl,by simpa [kt] using G,C,Below.refl _ _⟩
 case round=>
  obtain⟨j,v,hj,rfl,G,C,T⟩:=hrel
  by_cases jY:j<B
  ·have hc:wr.cell? ⟨M,0,none⟩=some v:=by rw[C.cell];rfl
   have K3:=C.frozen 0;have kA:=ba G C (by decide);have cE:=U (λW (h:Tz W)=>wt (first - j) bits (by omega) (by omega) (eE.out j jY) iP W h);rw[show (first - (j:Int)).toNat=first.toNat - j by omega] at cE;have dO:=U (HT.out.belowB T gj);have K4:IntKind.i64.wrap (first - (j:Int))=first - j:=IntWalk.i64_in _ (by omega);go_wp2_with fail
   refine dx (λw'=>w'.cell? ⟨M,0,none⟩=some v) 7 [(0,true),(1,true),(2,true),(3,true),(4,true),(5,false),(6,false)] (hc) (λPE cI=>?_)
   iterate 5
    refine bh (v:=?_) rfl (by rfl) ?_ ?_
    rotate_left
    ·intro _ fJ;(try dsimp only at fJ);go_simp;(try with_reducible rfl)
    simp only[Y,OG,OF]
   refine kM rfl (by rfl) (by first|(go_simp;done)|(go_simp;rfl)) (cE.out _ (by exact dO.out)) ?_;rintro e w1 ⟨rfl,N⟩
   replace N:=JF N
   have D:ab w1 M 138 #[v]:=C.below N C.lt;have kU:w1.ownsRow base 9 1 v (n+j) (xs++kt first bits j):=bL G N (OJ _);have I:Below base w w1:=T.trans (N.mono (by have:=C.lt;omega));refine⟨_,rfl,by rw[D.cell];rfl,?_⟩;simp only[Y,OG,OF];refine Cr (v:=?_) (w':=?_) rfl (by rfl) ?_ ?_ ?_;rotate_left 2
   ·go_simp;(try (constructor<;>with_reducible rfl))
   ·rw[(D.alloc _).cell];rfl
   simp only[Y,OG,OF]
   (refine cI _ _ ?_;simp only[OP,Oa];clear cI PE)
   have ha:=kU.alloc (.cells #[V (bs (sM (first.toNat - j) bits.toNat))] 9);go_wp2_with (refine wpList_append_lies _ rfl _ _ _ rfl base 9 i0 _ 1 16 Tryz.underlying138 hi rG Hl Ht rfl (by omega) v (n+j) _ rfl ha ⟨w1.heap.size,0,none⟩ 1 1 [_] rfl rfl (JU _ _ _) (by simp[Value.oneCell']) (by omega) (by unfold maxLen;omega) (by omega) (by have:=I.size;have:=D.lt;simp;omega) (w1.heap.size+1) (by simp) ?_;intro gg JT w2 aJ av K0 Hu;have K:ab w2 M 138 #[v]:=(D.alloc _).grown av kA;have dy:w2.cell? ⟨M,0,none⟩=some v:=(by rw[K.cell];rfl);have jg:=K.frozen 0)
   refine⟨⟨j+1,_,by omega,rfl,?_,K.set_ 0 _,?_⟩,by simp[intOf];omega⟩
   ·rw[BN,<-List.append_assoc]
    exact ek aJ _ _ (ba aJ K (by decide))
   ·exact((I.alloc (by have:=I.size;have:=D.lt;omega) _).grown av (by have:=D.lt;simp;omega) (λk hk=>(G.lt k hk).1)).setCell (p:=⟨M,0,none⟩) bM _
  ·obtain rfl:j=B:=by omega
   go_wp2_with fail
   go_end0
   exact⟨rfl,v,G,C,T⟩
def vY:List Value:=[V ⟨#[48,48,48,48,48,48,48,49,49,49,49]⟩,V ⟨#[49]⟩,V ⟨#[48,49,49]⟩,V ⟨#[48,49,48]⟩,V ⟨#[48,48,49,49]⟩,V ⟨#[48,48,49,48]⟩,V ⟨#[48,48,48,49,49]⟩,V ⟨#[48,48,48,49,48]⟩,V ⟨#[48,48,48,48,49,49,49]⟩,V ⟨#[48,48,48,48,49,49,48]⟩]
def DQ:List Value:=vY++kt 11 8 6++kt 23 10 6++kt 35 11 12
theorem oP (w:World)(hT:Tz w):
  Calls OA 104 #[] w λe w'=>∃A c,e=OB (Od A 34 c)/\Sl w' A DQ/\Below w.heap.size w w':=by
 have G:=U hT;clear hT;have H1:=U (jT 11 8 6 (by decide) (by decide) (by decide) (by decide));have H2:=U (jT 23 10 6 (by decide) (by decide) (by decide) (by decide));have H3:=U (jT 35 11 12 (by decide) (by decide) (by decide) (by decide))
 go_enter Tryz.func104,Tryz.ntmps104
 go_wp2_with fail
 have hG:7<w.heap.size:=G.out.lt;have I:=U hG;clear hG
 refine(H1.out _ w.heap.size 10 _ vY _ (G.out.below (((Below.refl _ _).alloc (OJ _) _).alloc (by simp) _)) I.out ((World.ownsRow_lit w vY.toArray 10 (OJ _) (by decide) (by rfl)).alloc _)
  (by have:=ab.new (w.alloc (.cells vY.toArray 9)) 138 #[Od (some ⟨w.heap.size,0,none⟩) 10 10];rwa [World.size_alloc] at this) (by omega) (by decide)).mono ?_
 rintro e w1 ⟨rfl,v1,N,D,j⟩
 replace j:=(((Below.refl w.heap.size w).alloc (OJ _) _).alloc (by simp) _).trans j
 have aJ:w1.cell? ⟨w.heap.size+1,0,none⟩=some v1:=by rw[D.cell];rfl
 go_wp2_with fail
 refine(H2.out _ w.heap.size _ _ _ _ (G.out.below j) I.out N D (by omega) (by decide)).mono ?_;rintro e w2 ⟨rfl,v2,T,K,B⟩;go_wp2_with fail
 replace B:=j.trans B
 refine(H3.out _ w.heap.size _ _ _ _ (G.out.below B) I.out T K (by omega) (by decide)).mono ?_;rintro e w3 ⟨rfl,v3,av,M,C⟩
 replace C:=B.trans C
 have bM:w3.cell? ⟨w.heap.size+1,0,none⟩=some v3:=by rw[M.cell];rfl
 go_wp2_with fail
 go_ret;obtain⟨A,c,rfl,hS⟩:=cO av;exact⟨A,c,rfl,hS,C⟩
theorem uh:DQ=aU.map aR:=by kernel_rfl
theorem yX (d:Int)(w:World)(G:Tz w)(hd: -9223372036854775808<=d/\d<=9223372036854775807):
  Calls OA 62 #[J X d] w λe w'=>e=OB (OZ #[V (bs (iX d).1),J X (iX d).2])/\Below w.heap.size w w':=by
 have M:=U G;clear G
 by_cases C:d<0
 ·have N:decide (d<0)=true:=by simpa using C
  go_enter OT,OR
  go_wp2_with fail
  go_ret2;refine⟨?_,Below.refl _ _⟩;rw[iX,if_pos (.inl C)];rfl
 ·have N:decide (d<0)=false:=by simpa using C
  by_cases T:34<=d
  ·go_enter OT,OR
   go_wp2_with fail
   go_ret2;refine⟨?_,Below.refl _ _⟩;rw[iX,if_pos (.inr T)];rfl
  ·obtain⟨k,rfl⟩:=ON (by omega:0<=d)
   have K:k<(O aU):=(by rw[dP];omega);have B:=U K;clear K
   have j:iX (k:Int)=(aU[k]'B.out,0):=by
    rw[iX,if_neg (by omega)];simp[List.getD,B.out]
   rw[j];clear j
   go_enter OT,OR
   go_wp2_with fail
   refine(oP _ M.out).mono ?_;rintro e w1 ⟨A,c,rfl,D,hb⟩;rw[uh] at D;obtain⟨ad,rfl,_,I⟩:=D.at_ k (by simpa using B.out);rw[OW] at I;unfold aR at I;go_wp2_with fail
   go_ret2;exact⟨rfl,hb⟩
theorem wq (a d:Int)(w:World)(N: -9223372036854775808<=a/\a<=9223372036854775807)(hd: -9223372036854775808<=d/\d<=9223372036854775807):
  Calls OA 144 #[J X a,J X d] w λe w'=>e=OB (OZ #[J X (se a d).1,J X (se a d).2])/\w=w':=by
 unfold se
 by_cases j:a<0
 ·have G:decide (a<0)=true:=by simpa using j
  rw[if_pos (by omega)]
  go_enter OH,OD
  go_wp2;go_ret2;exact⟨rfl,rfl⟩
 have G:decide (a<0)=false:=by simpa using j
 by_cases h2:33<a
 ·have I:decide (33<a)=true:=by simpa using h2
  rw[if_pos (by omega)]
  go_enter OH,OD
  go_wp2;go_ret2;exact⟨rfl,rfl⟩
 have I:decide (33<a)=false:=by simpa using h2
 by_cases B:d<1
 ·have K:decide (d<1)=true:=by simpa using B
  rw[if_pos (by omega)]
  go_enter OH,OD
  go_wp2;go_ret2;exact⟨rfl,rfl⟩
 have K:decide (d<1)=false:=by simpa using B
 by_cases C:33<d
 ·have M:decide (33<d)=true:=by simpa using C
  rw[if_pos (by omega)]
  go_enter OH,OD
  go_wp2;go_ret2;exact⟨rfl,rfl⟩
 have M:decide (33<d)=false:=by simpa using C
 rw[if_neg (by omega)]
 by_cases D:33<a+d
 ·rw[if_pos D]
  go_enter OH,OD
  go_wp2;go_ret2;exact⟨rfl,rfl⟩
 ·rw[if_neg D]
  go_enter OH,OD
  go_wp2;go_ret2;exact⟨rfl,rfl⟩
def jr (c s:List UInt8):Bool:=c.take (min (O c) (O s))==s.take (min (O c) (O s))
def gQ (s:List UInt8):List (List UInt8)->Nat->Bool->Int×Int×Int
 |[],_,more=>if more then(0,0,5) else(0,0,7)
 |c::cs,n,more=>if jr c s then(if (O c)<=(O s) then((n:Int),(O c:Int),0) else gQ s cs (n+1) true) else gQ s cs (n+1) more
def tu (l:List UInt8) (i:Int):Int×Int×Int:=
 if i<0 then(0,0,3) else if 8*(O l:Int)<i then(0,0,5) else
 let s:=aI l i.toNat (min 15 (8*O l - i.toNat))
 if s=bW then(34,0,0) else gQ s aU 0 (s.isPrefixOf bW)
theorem Fi (c s:List UInt8)(h:∀t,t<min (O c) (O s)->c[t]? =s[t]?):jr c s=true:=by
 unfold jr;rw[beq_iff_eq];apply List.ext_getElem?;intro t;rw[OE,OE]
 split
 ·rename_i ht;exact h t ht
 ·rfl
theorem DC (c s:List UInt8)(t:Nat)(ht:t<min (O c) (O s))(h:c[t]?≠s[t]?):jr c s=false:=by
 unfold jr;rw[beq_eq_false_iff_ne];intro he;apply h;have:=congrArg (λl=>l[t]?) he;rw[OE,OE,if_pos ht,if_pos ht] at this;exact this
def eI (s:List UInt8):List (List UInt8)->Nat->Option (Int×Int)
 |[],_=>none
 |c::cs,n=>if c.isPrefixOf s then some ((n:Int),(O c:Int)) else eI s cs (n+1)
theorem wv (c t:List UInt8)(h:O c<=O t):jr c t=c.isPrefixOf t:=by
 rw[<-nt c t h];unfold jr;rw[Nat.min_eq_left h,OI (OJ _),OY,beq_iff_eq,beq_iff_eq];exact eq_comm
theorem vw (c t:List UInt8)(h:O t<=O c):jr c t=t.isPrefixOf c:=by
 rw[<-nt t c h];unfold jr;rw[Nat.min_eq_right h,OI (l:=t) (OJ _)]
theorem oc (t:List UInt8):∀(cs:List (List UInt8))(n:Nat)(more:Bool),gQ t cs n more=
  match eI t cs n with
  |some (k,len)=>(k,len,0)
  |none=>if more||cs.any (λc=>t.isPrefixOf c) then(0,0,5) else(0,0,7)
 |[],n,more=>by simp[gQ,eI]
 |c::cs,n,more=>by
  by_cases h:O c<=O t
  ·rw[gQ,eI,wv c t h]
   by_cases C:c.isPrefixOf t=true
   ·rw[if_pos C,if_pos C,if_pos h]
   ·have j:c.isPrefixOf t=false:=OC.2 C
    rw[j,if_neg (by simp),if_neg (by simp),oc t cs (n+1) more]
    have B:t.isPrefixOf c=false:=by
     rw[OC];intro B;have G:=Z.1 B;have he:t=c:=G.eq_of_length (Nat.le_antisymm G.length_le h);rw[he] at j;rw[Z.2 (List.prefix_refl c)] at j
     cases j
    simp only[OK,B,Ob]
  ·have C:c.isPrefixOf t=false:=i9 c t h
   rw[gQ,eI,vw c t (by omega),C,if_neg (by simp:¬(false=true)),if_neg h]
   by_cases B:t.isPrefixOf c=true
   ·rw[if_pos B,oc t cs (n+1) true]
    simp only[OK,B,Bool.true_or,Bool.or_true]
   ·have D:t.isPrefixOf c=false:=OC.2 B
    rw[if_neg B,oc t cs (n+1) more];simp only[OK,D,Ob]
theorem Cv (c s:List UInt8)(h:O c<=15):c.isPrefixOf (s.take 15)=c.isPrefixOf s:=by
 rw[OY,Z,Z,List.prefix_take_iff];exact⟨λj=>j.1,λj=>⟨j,h⟩⟩
theorem nX (s:List UInt8):∀(cs:List (List UInt8))(n:Nat),cs.all (λc=>decide (O c<=15))=true->eI (s.take 15) cs n=eI s cs n
 |[],_,_=>rfl
 |c::cs,n,h=>by
  simp only[Oc,OU,decide_eq_true_eq] at h;rw[eI,eI,Cv c s h.1,nX s cs (n+1) h.2]
theorem wS (s:List UInt8):∀(cs:List (List UInt8))(n:Nat)(d:List UInt8)(k:Int),cy s (cs++[d]) ((Of n (O cs)).map (λ(k:Nat)=>(k:Int))++[k])=
  match eI s cs n with
  |some r=>some r
  |none=>if d.isPrefixOf s then some (k,(O d:Int)) else none
 |[],n,d,k=>by simp[cy,eI]
 |c::cs,n,d,k=>by
  simp only[List.cons_append,OX,List.range'_succ,List.map_cons];rw[cy,eI]
  split
  ·rfl
  ·exact wS s cs (n+1) d k
theorem qD (s:List UInt8):∀(cs:List (List UInt8))(n:Nat),cs.all (λc=> !c.isPrefixOf s)=true->eI s cs n=none
 |[],_,_=>rfl
 |c::cs,n,h=>by
  simp only[Oc,OU,Bool.not_eq_true'] at h;rw[eI,h.1,if_neg (by simp),qD s cs (n+1) h.2]
theorem uo (s:List UInt8):∀(cs:List (List UInt8))(n:Nat)(r:Int×Int),eI s cs n=some r->r.1<(n:Int)+O cs
 |[],_,_,h=>by cases h
 |c::cs,n,r,h=>by
  rw[eI] at h
  split at h
  ·cases h;simp;omega
  ·have:=uo s cs (n+1) r h
   simp only[OX];omega
theorem ma:aU.all (λc=>decide (O c<=15))=true:=by kernel_rfl
theorem vB:aU.all (λc=>decide (O c<=11))=true:=by kernel_rfl
theorem DP:aU.all (λc=> !c.isPrefixOf bW)=true:=by kernel_rfl
theorem Eu (s:List UInt8):(if s.take 15=bW then(34,0,0) else gQ (s.take 15) aU 0 ((s.take 15).isPrefixOf bW))=qh (jZ fD tD s):=by
 have hf:=wS s aU 0 bW 34;have I:tD=(Of 0 (O aU)).map (λ(k:Nat)=>(k:Int))++[34]:=rfl;have D:fD=aU++[bW]:=rfl;unfold jZ;rw[D,I,hf]
 by_cases j:s.take 15=bW
 ·rw[if_pos j,<-nX s aU 0 ma,j,qD _ _ _ DP]
  have K:bW.isPrefixOf s=true:=by
   rw[Z,<-j];exact List.take_prefix _ _
  simp[K,qh]
 ·rw[if_neg j,oc,nX s aU 0 ma]
  cases G:eI s aU 0 with
  |some r=>
   obtain⟨k,len⟩:=r;have:=uo s aU 0 _ G;rw[dP] at this;simp only[qh];rw[if_neg (by simp at this⊢;omega)]
  |none=>
   have K:bW.isPrefixOf s=false:=by
    rw[OC];intro h;have h1:=List.prefix_iff_eq_take.1 (Z.1 h);exact j h1.symm
   simp only[K,List.any_append,OK,List.any_nil,Bool.or_false];rw[if_neg (by simp:¬(false=true))]
   by_cases hl:O s<=15
   ·rw[OI hl,Bool.or_comm]
    simp only[qh]
    split
    ·rfl
    ·rfl
   ·have M:s.isPrefixOf bW=false:=i9 _ _ (by simp[bW];omega)
    have N:(aU.any λc=>s.isPrefixOf c)=false:=by
     rw[OS];intro c C;have:=OV.1 ma c C;simp only[decide_eq_true_eq] at this;rw[i9 _ _ (by omega)];simp
    have B:(s.take 15).length=15:=by rw[List.length_take];omega
    have T:(s.take 15).isPrefixOf bW=false:=by
     rw[OC];intro h;exact j ((Z.1 h).eq_of_length (by rw[B];rfl))
    have e4:(aU.any λc=>(s.take 15).isPrefixOf c)=false:=by
     rw[OS];intro c C;have:=OV.1 vB c C;simp only[decide_eq_true_eq] at this;rw[i9 _ _ (by omega)];simp
    rw[M,N,T,e4];rfl
theorem wB (l:List UInt8)(k m:Nat):(aI l k (min 24 m)).take 15=aI l k (min 15 m):=by
 unfold aI;rw[<-List.map_take,List.take_range];congr 2;omega
theorem G9 (l:List UInt8)(i:Int):tu l i=eA l i:=by
 unfold tu eA ac
 by_cases j:i<0
 ·rw[if_pos j,if_pos j];rfl
 ·rw[if_neg j,if_neg j]
  by_cases h2:8*(O l:Int)<i
  ·rw[if_pos h2,show 8*O l - i.toNat=0 by omega]
   simp only[Nat.min_zero,aI,List.range_zero,List.map_nil]
   kernel_rfl
  ·rw[if_neg h2,<-Eu,wB]
theorem yW (A:Option Addr)(n c:Nat)(l:List UInt8)(i:Int)(w:World)(hT:Tz w)(hr:Sl w A (l.map ag))(hn:O l=n)(hsz:n<=2 ^ 47)(hi: -9223372036854775808<=i/\i<=9223372036854775807):
  Calls OA 143 #[Od A n c,J X i] w λe w'=>e=OB (OZ #[J X (tu l i).1,J X (tu l i).2.1,J X (tu l i).2.2])/\Below w.heap.size w w':=by
 have HT:=U hT;clear hT;unfold tu
 by_cases h1:i<0
 ·have e1:decide (i<0)=true:=by simpa using h1
  rw[if_pos h1]
  go_enter OM,OL
  go_wp2_with fail
  go_step3
  go_wp2;(try rw[Exit.noGoto_ret]);go_ret3;exact⟨rfl,Below.refl _ _⟩
 have e1:decide (i<0)=false:=by simpa using h1
 rw[if_neg h1,hn]
 by_cases h2:8*(n:Int)<i
 ·rw[if_pos h2]
  go_enter OM,OL
  go_wp2_with fail
  go_step3
  go_wp2;(try rw[Exit.noGoto_ret]);go_ret3;exact⟨rfl,Below.refl _ _⟩
 rw[if_neg h2];have I:=U (ws A n c l i w hr hn (by omega) (by omega) hsz);have rG:(aI l i.toNat (min 15 (8*n - i.toNat))).length<=15:=by rw[bo];omega
 generalize aI l i.toNat (min 15 (8*n - i.toNat))=s at I rG;show Calls _ _ _ _ λe w'=>e=OB (OZ #[J X (if s=bW then(34,0,0) else gQ s aU 0 (s.isPrefixOf bW):Int×Int×Int).1,J X (if s=bW then(34,0,0) else gQ s aU 0 (s.isPrefixOf bW):Int×Int×Int).2.1,J X (if s=bW then(34,0,0) else gQ s aU 0 (s.isPrefixOf bW):Int×Int×Int).2.2])/\Below w.heap.size w w';have cE:∀W:World,Calls OA 186 #[V {data:= #[48]},J X 15] W λe w'=>e=OB (V (bs bW))/\Below W.heap.size W w':= λW=>OQ ⟨#[48]⟩ 15 W (by decide) (by decide);have aJ:=U cE;clear cE
 by_cases hs:s=bW
 ·rw[if_pos hs]
  have kA:(s==bW)=true:=(by rw[hs];exact beq_self_eq_true _);clear hs
  go_enter OM,OL
  go_wp2_with fail
  go_step3
  go_wp2_with (first|(go_at_call 84;refine(di _ _ _ _ hsz).mono ?_;rintro e w' ⟨rfl,rfl⟩)|(go_at_call 185;refine I.out.mono ?_;rintro e w' ⟨rfl,rfl⟩)|(go_at_call 186;refine(aJ.out _).mono ?_;rintro e w1 ⟨rfl,M⟩))
  (try rw[Exit.noGoto_ret]);go_ret3;exact⟨rfl,M⟩
 rw[if_neg hs];have kA:(s==bW)=false:=by rw[beq_eq_false_iff_ne];exact hs
 clear hs
 have bM:∀W:World,Calls OA 187 #[V (bs bW),V (bs s)] W λe w'=>e=OB (.bool (s.isPrefixOf bW))/\W=w':= λW=>by
  have:=Tryz.strings_HasPrefix (bs bW) (bs s) W;rw[eH,eH] at this;exact this.mono λe w' h=>⟨h.1,h.2.symm⟩
 have av:=U bM;clear bM;generalize s.isPrefixOf bW=m0 at av⊢;generalize hR:gQ s aU 0 m0=R;have HR:=U hR;clear hR
 go_enter OM,OL
 go_wp2_with fail
 go_step3
 go_wp2_with (first|(go_at_call 84;refine(di _ _ _ _ hsz).mono ?_;rintro e w' ⟨rfl,rfl⟩)|(go_at_call 185;refine I.out.mono ?_;rintro e w' ⟨rfl,rfl⟩)|(go_at_call 186;refine(aJ.out _).mono ?_;rintro e w1 ⟨rfl,M⟩)|(go_at_call 187;refine(av.out _).mono ?_;rintro e w' ⟨rfl,rfl⟩))
 go_step3
 go_wp2_with fail
 refine(oP _ (HT.out.below M)).mono ?_;rintro e w2 ⟨A1,c1,rfl,T,B⟩;rw[uh] at T
 replace B:=M.trans (B.mono M.size)
 go_wp2_with fail
 go_loopg [9,31] 34 (λg more Ht wr=>∃(k:Nat)(m:Bool),k+g=34/\Ht=J X (k:Int)/\more=.bool m/\Hid (gQ s (aU.drop k) k m=R)/\Sl wr A1 (aU.map aR)/\Below w.heap.size w wr)
 case atStart=>exact⟨0,m0,by omega,rfl,rfl,HR,T,B⟩
 case round=>
  obtain⟨k,m,Hu,rfl,rfl,HL,T,B⟩:=hrel
  cases gk with
  |zero=>
   have hk:¬((k:Int)<34):=(by omega);obtain rfl:k=34:=by omega
   have hL:=HL.out;clear HL
   cases m with
   |true=>
    go_wp2_with fail
    (try rw[Exit.noGoto_ret]);go_ret3;exact⟨by rw[<-hL];rfl,B⟩
   |false=>
    go_wp2_with fail
    (try rw[Exit.noGoto_ret]);go_ret3;exact⟨by rw[<-hL];rfl,B⟩
  |succ g=>
   have hk:((k:Int)<34):=(by omega);have eE:k<(O aU):=(by rw[dP];omega);obtain⟨ad,rfl,_,hc⟩:=T.at_ k (by simpa using eE);rw[OW] at hc;unfold aR at hc;have G:=HL.out;rw[List.drop_eq_getElem_cons eE] at G;generalize aU[k]=cd at hc G;have G:=U G;obtain⟨mn,iP⟩:∃mn:Nat,mn=min (O cd) (O s):=⟨_,rfl⟩;have gj:min (O cd:Int) (O s:Int)=(mn:Int):=(by omega);have JT:mn<=(O cd):=(by omega);have K0:mn<=(O s):=(by omega);have jg:=U iP;clear iP;go_wp2_with fail
   clear gj
   go_loopg [41] mn (λg2 t wx=>∃j:Nat,j+g2=mn/\t=J X (j:Int)/\Hid (∀t,t<j->cd[t]? =s[t]?)/\Sl wx (some ad) (aU.map aR)/\Below w.heap.size w wx)
   case atStart=>exact⟨0,by omega,rfl,U (λt ht=>absurd ht (by omega)),T,B⟩
   case round=>
    obtain⟨j,hj,rfl,cI,T,B⟩:=hrel
    cases gk with
    |zero=>
     obtain rfl:j=mn:=by omega
     have kU:¬((j:Int)<(j:Int)):=(by omega);have D:jr cd s=true:=Fi cd s (by rw[<-jg.out];exact cI.out);have C:=G.out;rw[gQ,D,if_pos rfl] at C
     by_cases fJ:O cd<=O s
     ·rw[if_pos fJ] at C
      have K:=U C;clear C G D;go_wp2_with fail
      (try rw[Exit.noGoto_ret]);go_ret3;exact⟨by rw[<-K.out];rfl,B⟩
     ·rw[if_neg fJ] at C
      have K:=U C;clear C G D;go_wp2_with fail
      go_roundg g
      case measure=>omega
      case rel=>exact⟨k+1,true,by omega,rfl,rfl,K,T,B⟩
    |succ g2=>
     have kU:((j:Int)<(mn:Int)):=(by omega);have dy:j<(O cd):=(by omega);have dO:j<(O s):=(by omega);go_wp2_with fail
     refine dx (λ_=>True) 6 [(0,true),(1,true),(2,true),(3,true),(4,true),(5,true)] (trivial) (λPE dv=>?_)
     iterate 6
      refine bh (v:=?_) rfl (by rfl) ?_ ?_
      rotate_left
      ·intro _ jY;(try dsimp only at jY);go_simp;(try with_reducible rfl)
      simp only[Y,OG,OF]
     (refine dv _ _ ?_;simp only[OP,Oa];clear dv PE)
     by_cases N:cd[j]=s[j]
     ·have hq:((s[j].toNat:Int) !=(cd[j].toNat:Int))=false:=by rw[N];simp
      go_wp2_with fail
      go_roundg g2
      case measure=>omega
      case rel=>
       refine⟨j+1,by omega,rfl,U (λt ht=>?_),T,B.drew⟩
       by_cases Hl:t<j
       ·exact cI.out t Hl
       ·obtain rfl:t=j:=by omega
        simp[dy,dO,N]
     ·have hq:((s[j].toNat:Int) !=(cd[j].toNat:Int))=true:=by
       rw[bne_iff_ne];intro h;exact N (UInt8.toNat_inj.1 (by omega))
      have D:jr cd s=false:=DC cd s j (by omega) (by simp[dy,dO,N])
      have C:=G.out
      rw[gQ,D,if_neg (by simp)] at C
      have K:=U C
      clear C G D N
      go_wp2_with fail
      go_roundg g
      case measure=>omega
      case rel=>exact⟨k+1,m,by omega,rfl,rfl,K,T,B.drew⟩
end Go.Proofs.YthhijgcfbjcgiaaGreatDoor
