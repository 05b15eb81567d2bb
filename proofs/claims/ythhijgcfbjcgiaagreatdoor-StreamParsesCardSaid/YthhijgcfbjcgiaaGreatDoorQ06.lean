/- SAddr, SAddrP, SAddrG -/
import Derived.Test.YthhijgcfbjcgiaaGreatDoorQ02
import Derived.Test.YthhijgcfbjcgiaaGreatDoorShelf
import Derived.Test.YthhijgcfbjcgiaaGreatDoorQ05
import Derived.Deep.AppendLies
namespace Go.Proofs.YthhijgcfbjcgiaaGreatDoor
open Go Go.RowKit
set_option maxHeartbeats 16000000
set_option maxRecDepth 100000
open List renaming length→O,isPrefixOf_iff_prefix→Z,setIfInBounds_toArray→Y,getElem?_take→OE,set_cons_succ→OF,set_cons_zero→OG,take_of_length_le→OI,any_cons→OK,replicate→OO,drop_succ_cons→OP,any_eq_false→OS,all_eq_true→OV,getElem_map→OW,length_cons→OX,drop_zero→Oa,all_cons→Oc,range'→Of
open Go.Lib renaming hid→U,repeatL→Oe
open Go.Value renaming string→V,int→J,tuple→OZ,slice→Od
open Go.IntKind renaming i64→X
open Tryz renaming prog→OA,ntmps144→OD,func144→OH,ntmps143→OL,func143→OM,strings_Repeat→OQ,ntmps62→OR,func62→OT
open Go.Ending renaming returned→OB
open Bool renaming eq_false_iff→OC,and_eq_true→OU,eq_iff_iff→OY,false_or→Ob
open Nat renaming le_refl→OJ,cast→Og
open Int renaming eq_ofNat_of_zero_le→ON
theorem wR (A:Option Addr)(n c:Nat)(l:List UInt8)(i:Int)(w:World)(hr:Sl w A (l.map af))(hn:O l=n)(h0:0<=i)(h1:i<=8*n)(hsz:n<=2 ^ 47):
  Calls OA 185 #[Od A n c,J X i] w λe w'=>e=OB (V (bs (aI l i.toNat (min 15 (8*n - i.toNat)))))/\w=w':=by
 obtain⟨k,rfl⟩:=ON h0
 go_enter Tryz.func185,Tryz.ntmps185
 go_wp2
 go_loop [5,9] (λo j=>∃m:Nat,m<=15/\k+m<=8*n/\j=J X (m:Int)/\o=V (bs (aI l k m))) (λ_ j=>15 - (intOf j).toNat)
 case atStart=>exact⟨0,by omega,by omega,rfl,rfl⟩
 case round=>
  obtain⟨m,hm,hk,rfl,rfl⟩:=hrel;have T:(aI l k m).length<=15:=by rw[bm];omega
  by_cases aC:m<15
  ·by_cases aB:k+m<8*n
   ·have hb:=eQ l (k+m)
    have N:=U (gP l k m);have M:=U (gW l (k+m))
    by_cases G:aS l (k+m)=0
    ·have B:du l (k+m)=48:=by simp[du,G]
     have I:=U B;clear B;go_wp2_with (go_at_call 56;refine(fY 0 _ _ _ l _ _ _ (by rw[show ((k:Int)+m).toNat=k+m by omega];exact(congrArg Og (M.out.trans G))) hr hn (by omega) (by omega) (by omega) (by omega) hsz).mono ?_;rintro e w' ⟨rfl,rfl⟩)
     exact⟨⟨m+1,by omega,by omega,rfl,by rw[N.out,I.out]⟩,by simp[intOf];omega⟩
    ·have C:du l (k+m)=49:=by simp[du,G]
     have I:=U C;clear C;have D:aS l (k+m)=1:=(by omega);have K:=U D;clear D G;go_wp2_with (go_at_call 56;refine(fY 1 _ _ _ l _ _ _ (by rw[show ((k:Int)+m).toNat=k+m by omega];exact(congrArg Og (M.out.trans K.out))) hr hn (by omega) (by omega) (by omega) (by omega) hsz).mono ?_;rintro e w' ⟨rfl,rfl⟩)
     exact⟨⟨m+1,by omega,by omega,rfl,by rw[N.out,I.out]⟩,by simp[intOf];omega⟩
   ·go_wp2_with (go_at_call 56;refine(dq _ _ _ _ _ _ (by omega) (by omega) (by omega) (by omega) hsz).mono ?_;rintro e w' ⟨rfl,rfl⟩)
    go_ret;exact⟨Bz (congrArg (aI l k) (by omega)),rfl⟩
  ·go_wp2
   go_ret;exact⟨Bz (congrArg (aI l k) (by omega)),rfl⟩
theorem zX (c:Nat):Oe [48] c=OO c 48:=by
 induction c with
 |zero=>rfl
 |succ c ih=>simp[Oe,ih,List.replicate_succ]
def tj (n j:Nat):List UInt8:=OO (j - (n.log2+1)) 48++jP n (n.log2+1)
theorem wS (n j:Int)(h1:1<=n)(h2:n<2 ^ 30)(hm:(n.toNat.log2:Int)+1<=j)(aB:j<=100)(w:World)(M:Tz w):
  Calls OA 155 #[J X n,J X j] w λe w'=>e=OB (V (bs (tj n.toNat j.toNat)))/\Below w.heap.size w w':=by
 have T:=U M;clear M;have N:2 ^ n.toNat.log2<=n.toNat:=Nat.log2_self_le (by omega);have C:n.toNat<2 ^ (n.toNat.log2+1):=Nat.lt_log2_self;have D:n.toNat.log2<32:=(Nat.log2_lt (by omega)).2 (by omega);unfold tj;generalize n.toNat.log2=k at N C D hm;obtain⟨m,rfl⟩:∃m:Nat,j=m:=⟨j.toNat,by omega⟩;have hl:=qH n.toNat (k+1);have h1:(0:Int)<=m - (k+1):=by omega
 have e1:bs [48]={data:= #[48]}:=rfl;have K:= λ(w:World)=>OQ (bs [48]) (m - (k+1)) w (by omega) (by rw[iL];simp;omega);rw[eH,zX] at K
 have G:∀w:World,Calls OA 186 #[V {data:= #[48]},J X ((m:Int) - ((k:Int)+1))] w λe w'=>e=OB (V (bs (OO (m - (k+1)) 48)))/\Below w.heap.size w w':= λw=>by
  have:=K w;rw[show (((m - (k+1):Nat)):Int)=(m:Int) - ((k:Int)+1) by omega] at this;exact this
 have Hr:=U G;clear K G e1
 go_enter Tryz.func155,Tryz.ntmps155
 go_wp2_with (first|(go_at_call 198;refine(F2 n k N C D _ T.out).mono ?_;rintro e w1 ⟨rfl,B⟩)|(go_at_call 186;refine(Hr.out _).mono ?_;rintro e w2 ⟨rfl,I⟩))
 go_ret;exact⟨rfl,B.trans (I.mono B.size)⟩
def kq (first bits:Int) (m:Nat):List Value:=(List.range m).map λ(j:Nat)=>Value.string (bs (tj (first.toNat - j) bits.toNat))
theorem Ch (first bits:Int)(m:Nat):kq first bits (m+1)=kq first bits m++[V (bs (tj (first.toNat - m) bits.toNat))]:=by simp[kq,List.range_succ]
theorem Ik:(OA.info? 9).map (λi=>(i.zero,i.size,i.bytes))=some (some (V ⟨#[]⟩),1,16):=by kernel_rfl
theorem jN (first bits:Int)(B:Nat)(hf:B<=first)(hU:first<2 ^ 30)(dD:∀j:Nat,j<B->((first - j).toNat.log2:Int)+1<=bits) (gJ:bits<=100)
  (M base n:Nat) (v:Value) (xs:List Value) (w:World) (hT:Tz w) (gy:7<base) (G:w.ownsRow base 9 1 v n xs) (C:ab w M 138 #[v]) (bE:base<=M) (hn:n+B<=1000):
  Calls OA 154 #[J X first,J X B,J X bits,.pointer (some ⟨M,0,none⟩)] w λe w'=>e=OB (OZ #[])/\
   (∃v',w'.ownsRow base 9 1 v' (n+B) (xs++kq first bits B)/\ab w' M 138 #[v']/\Below base w w'):=by
 have HT:=U hT;clear hT;have eE:=U dD;clear dD;obtain⟨i0,hi,rX,wj,Io⟩:=info_parts Ik
 go_enter Tryz.func154,Tryz.ntmps154
 go_wp2_with fail
 go_loopw [9] (λi wr=>∃(j:Nat)(v:Value),j<=B/\i=J X (j:Int)/\wr.ownsRow base 9 1 v (n+j) (xs++kq first bits j)/\ab wr M 138 #[v]/\Below base w wr) (λi _=>B - (intOf i).toNat)
 case atStart=>exact⟨0,v,by omega,rfl,by simpa [kq] using G,C,Below.refl _ _⟩
 case round=>
  obtain⟨j,v,hj,rfl,G,C,T⟩:=hrel
  by_cases ja:j<B
  ·have hc:wr.cell? ⟨M,0,none⟩=some v:=by rw[C.cell];rfl
   have K0:=C.frozen 0;have jT:=ba G C (by decide);have cz:=U (λW (h:Tz W)=>wS (first - j) bits (by omega) (by omega) (eE.out j ja) gJ W h);rw[show (first - (j:Int)).toNat=first.toNat - j by omega] at cz;have dY:=U (HT.out.belowB T gy);have K1:IntKind.i64.wrap (first - (j:Int))=first - j:=IntWalk.i64_in _ (by omega);go_wp2_with fail
   refine iV (λw'=>w'.cell? ⟨M,0,none⟩=some v) 7 [(0,true),(1,true),(2,true),(3,true),(4,true),(5,false),(6,false)] (hc) (λPE dt=>?_)
   iterate 5
    refine fe (v:=?_) rfl (by rfl) ?_ ?_
    rotate_left
    ·intro _ fW;(try dsimp only at fW);go_simp;(try with_reducible rfl)
    simp only[Y,OG,OF]
   refine EM rfl (by rfl) (by first|(go_simp;done)|(go_simp;rfl)) (cz.out _ (by exact dY.out)) ?_;rintro e w1 ⟨rfl,N⟩
   replace N:=JS N
   have D:ab w1 M 138 #[v]:=C.below N C.lt;have kz:w1.ownsRow base 9 1 v (n+j) (xs++kq first bits j):=cC G N (OJ _);have I:Below base w w1:=T.trans (N.mono (by have:=C.lt;omega));refine⟨_,rfl,by rw[D.cell];rfl,?_⟩;simp only[Y,OG,OF];refine lE (v:=?_) (w':=?_) rfl (by rfl) ?_ ?_ ?_;rotate_left 2
   ·go_simp;(try (constructor<;>with_reducible rfl))
   ·rw[(D.alloc _).cell];rfl
   simp only[Y,OG,OF]
   (refine dt _ _ ?_;simp only[OP,Oa];clear dt PE)
   have ha:=kz.alloc (.cells #[V (bs (tj (first.toNat - j) bits.toNat))] 9);go_wp2_with (refine wpList_append_lies _ rfl _ _ _ rfl base 9 i0 _ 1 16 Tryz.underlying138 hi rX wj Io rfl (by omega) v (n+j) _ rfl ha ⟨w1.heap.size,0,none⟩ 1 1 [_] rfl rfl (J3 _ _ _) (by simp[Value.oneCell']) (by omega) (by unfold maxLen;omega) (by omega) (by have:=I.size;have:=D.lt;simp;omega) (w1.heap.size+1) (by simp) ?_;intro gg Iq w2 aC aB J2 Ip;have K:ab w2 M 138 #[v]:=(D.alloc _).grown aB jT;have dE:w2.cell? ⟨M,0,none⟩=some v:=(by rw[K.cell];rfl);have hU:=K.frozen 0)
   refine⟨⟨j+1,_,by omega,rfl,?_,K.set_ 0 _,?_⟩,by simp[intOf];omega⟩
   ·rw[Ch,<-List.append_assoc]
    exact eR aC _ _ (ba aC K (by decide))
   ·exact((I.alloc (by have:=I.size;have:=D.lt;omega) _).grown aB (by have:=D.lt;simp;omega) (λk hk=>(G.lt k hk).1)).setCell (p:=⟨M,0,none⟩) bE _
  ·obtain rfl:j=B:=by omega
   go_wp2_with fail
   go_end0
   exact⟨rfl,v,G,C,T⟩
def wI:List Value:=[V ⟨#[48,48,48,48,48,48,48,49,49,49,49]⟩,V ⟨#[49]⟩,V ⟨#[48,49,49]⟩,V ⟨#[48,49,48]⟩,V ⟨#[48,48,49,49]⟩,V ⟨#[48,48,49,48]⟩,V ⟨#[48,48,48,49,49]⟩,V ⟨#[48,48,48,49,48]⟩,V ⟨#[48,48,48,48,49,49,49]⟩,V ⟨#[48,48,48,48,49,49,48]⟩]
def D9:List Value:=wI++kq 11 8 6++kq 23 10 6++kq 35 11 12
theorem oQ (w:World)(hT:Tz w):
  Calls OA 104 #[] w λe w'=>∃A c,e=OB (Od A 34 c)/\Sl w' A D9/\Below w.heap.size w w':=by
 have G:=U hT;clear hT;have H1:=U (jN 11 8 6 (by decide) (by decide) (by decide) (by decide));have H2:=U (jN 23 10 6 (by decide) (by decide) (by decide) (by decide));have H3:=U (jN 35 11 12 (by decide) (by decide) (by decide) (by decide))
 go_enter Tryz.func104,Tryz.ntmps104
 go_wp2_with fail
 have hG:7<w.heap.size:=G.out.lt;have I:=U hG;clear hG
 refine(H1.out _ w.heap.size 10 _ wI _ (G.out.below (((Below.refl _ _).alloc (OJ _) _).alloc (by simp) _)) I.out ((World.ownsRow_lit w wI.toArray 10 (OJ _) (by decide) (by rfl)).alloc _)
  (by have:=ab.new (w.alloc (.cells wI.toArray 9)) 138 #[Od (some ⟨w.heap.size,0,none⟩) 10 10];rwa [World.size_alloc] at this) (by omega) (by decide)).mono ?_
 rintro e w1 ⟨rfl,v1,N,D,j⟩
 replace j:=(((Below.refl w.heap.size w).alloc (OJ _) _).alloc (by simp) _).trans j
 have aC:w1.cell? ⟨w.heap.size+1,0,none⟩=some v1:=by rw[D.cell];rfl
 go_wp2_with fail
 refine(H2.out _ w.heap.size _ _ _ _ (G.out.below j) I.out N D (by omega) (by decide)).mono ?_;rintro e w2 ⟨rfl,v2,T,K,B⟩;go_wp2_with fail
 replace B:=j.trans B
 refine(H3.out _ w.heap.size _ _ _ _ (G.out.below B) I.out T K (by omega) (by decide)).mono ?_;rintro e w3 ⟨rfl,v3,aB,M,C⟩
 replace C:=B.trans C
 have bE:w3.cell? ⟨w.heap.size+1,0,none⟩=some v3:=by rw[M.cell];rfl
 go_wp2_with fail
 go_ret;obtain⟨A,c,rfl,hS⟩:=cw aB;exact⟨A,c,rfl,hS,C⟩
theorem uH:D9=bd.map aM:=by kernel_rfl
theorem zg (d:Int)(w:World)(G:Tz w)(hd: -9223372036854775808<=d/\d<=9223372036854775807):
  Calls OA 62 #[J X d] w λe w'=>e=OB (OZ #[V (bs (pP d).1),J X (pP d).2])/\Below w.heap.size w w':=by
 have M:=U G;clear G
 by_cases C:d<0
 ·have N:decide (d<0)=true:=by simpa using C
  go_enter OT,OR
  go_wp2_with fail
  go_ret2;refine⟨?_,Below.refl _ _⟩;rw[pP,if_pos (.inl C)];rfl
 ·have N:decide (d<0)=false:=by simpa using C
  by_cases T:34<=d
  ·go_enter OT,OR
   go_wp2_with fail
   go_ret2;refine⟨?_,Below.refl _ _⟩;rw[pP,if_pos (.inr T)];rfl
  ·obtain⟨k,rfl⟩:=ON (by omega:0<=d)
   have K:k<(O bd):=(by rw[eW];omega);have B:=U K;clear K
   have j:pP (k:Int)=(bd[k]'B.out,0):=by
    rw[pP,if_neg (by omega)];simp[List.getD,B.out]
   rw[j];clear j
   go_enter OT,OR
   go_wp2_with fail
   refine(oQ _ M.out).mono ?_;rintro e w1 ⟨A,c,rfl,D,hb⟩;rw[uH] at D;obtain⟨ad,rfl,_,I⟩:=D.at_ k (by simpa using B.out);rw[OW] at I;unfold aM at I;go_wp2_with fail
   go_ret2;exact⟨rfl,hb⟩
theorem wQ (a d:Int)(w:World)(N: -9223372036854775808<=a/\a<=9223372036854775807)(hd: -9223372036854775808<=d/\d<=9223372036854775807):
  Calls OA 144 #[J X a,J X d] w λe w'=>e=OB (OZ #[J X (ks a d).1,J X (ks a d).2])/\w=w':=by
 unfold ks
 by_cases j:a<0
 ·have G:decide (a<0)=true:=by simpa using j
  rw[if_pos (by omega)]
  go_enter OH,OD
  go_wp2;go_ret2;exact⟨rfl,rfl⟩
 have G:decide (a<0)=false:=by simpa using j
 by_cases h2:33<a
 ·have I:decide (33<a)=true:=by simpa using h2
  rw[if_pos (by omega)]
  go_enter OH,OD
  go_wp2;go_ret2;exact⟨rfl,rfl⟩
 have I:decide (33<a)=false:=by simpa using h2
 by_cases B:d<1
 ·have K:decide (d<1)=true:=by simpa using B
  rw[if_pos (by omega)]
  go_enter OH,OD
  go_wp2;go_ret2;exact⟨rfl,rfl⟩
 have K:decide (d<1)=false:=by simpa using B
 by_cases C:33<d
 ·have M:decide (33<d)=true:=by simpa using C
  rw[if_pos (by omega)]
  go_enter OH,OD
  go_wp2;go_ret2;exact⟨rfl,rfl⟩
 have M:decide (33<d)=false:=by simpa using C
 rw[if_neg (by omega)]
 by_cases D:33<a+d
 ·rw[if_pos D]
  go_enter OH,OD
  go_wp2;go_ret2;exact⟨rfl,rfl⟩
 ·rw[if_neg D]
  go_enter OH,OD
  go_wp2;go_ret2;exact⟨rfl,rfl⟩
def jr (c s:List UInt8):Bool:=c.take (min (O c) (O s))==s.take (min (O c) (O s))
def gU (s:List UInt8):List (List UInt8)->Nat->Bool->Int×Int×Int
 |[],_,more=>if more then(0,0,5) else(0,0,7)
 |c::cs,n,more=>if jr c s then(if (O c)<=(O s) then((n:Int),(O c:Int),0) else gU s cs (n+1) true) else gU s cs (n+1) more
def tX (l:List UInt8) (i:Int):Int×Int×Int:=
 if i<0 then(0,0,3) else if 8*(O l:Int)<i then(0,0,5) else
 let s:=aI l i.toNat (min 15 (8*O l - i.toNat))
 if s=bU then(34,0,0) else gU s bd 0 (s.isPrefixOf bU)
theorem FD (c s:List UInt8)(h:∀t,t<min (O c) (O s)->c[t]? =s[t]?):jr c s=true:=by
 unfold jr;rw[beq_iff_eq];apply List.ext_getElem?;intro t;rw[OE,OE]
 split
 ·rename_i ht;exact h t ht
 ·rfl
theorem DT (c s:List UInt8)(t:Nat)(ht:t<min (O c) (O s))(h:c[t]?≠s[t]?):jr c s=false:=by
 unfold jr;rw[beq_eq_false_iff_ne];intro he;apply h;have:=congrArg (λl=>l[t]?) he;rw[OE,OE,if_pos ht,if_pos ht] at this;exact this
def eJ (s:List UInt8):List (List UInt8)->Nat->Option (Int×Int)
 |[],_=>none
 |c::cs,n=>if c.isPrefixOf s then some ((n:Int),(O c:Int)) else eJ s cs (n+1)
theorem wT (c t:List UInt8)(h:O c<=O t):jr c t=c.isPrefixOf t:=by
 rw[<-nk c t h];unfold jr;rw[Nat.min_eq_left h,OI (OJ _),OY,beq_iff_eq,beq_iff_eq];exact eq_comm
theorem wk (c t:List UInt8)(h:O t<=O c):jr c t=t.isPrefixOf c:=by
 rw[<-nk t c h];unfold jr;rw[Nat.min_eq_right h,OI (l:=t) (OJ _)]
theorem oq (t:List UInt8):∀(cs:List (List UInt8))(n:Nat)(more:Bool),gU t cs n more=
  match eJ t cs n with
  |some (k,len)=>(k,len,0)
  |none=>if more||cs.any (λc=>t.isPrefixOf c) then(0,0,5) else(0,0,7)
 |[],n,more=>by simp[gU,eJ]
 |c::cs,n,more=>by
  by_cases h:O c<=O t
  ·rw[gU,eJ,wT c t h]
   by_cases C:c.isPrefixOf t=true
   ·rw[if_pos C,if_pos C,if_pos h]
   ·have j:c.isPrefixOf t=false:=OC.2 C
    rw[j,if_neg (by simp),if_neg (by simp),oq t cs (n+1) more]
    have B:t.isPrefixOf c=false:=by
     rw[OC];intro B;have G:=Z.1 B;have he:t=c:=G.eq_of_length (Nat.le_antisymm G.length_le h);rw[he] at j;rw[Z.2 (List.prefix_refl c)] at j
     cases j
    simp only[OK,B,Ob]
  ·have C:c.isPrefixOf t=false:=iU c t h
   rw[gU,eJ,wk c t (by omega),C,if_neg (by simp:¬(false=true)),if_neg h]
   by_cases B:t.isPrefixOf c=true
   ·rw[if_pos B,oq t cs (n+1) true]
    simp only[OK,B,Bool.true_or,Bool.or_true]
   ·have D:t.isPrefixOf c=false:=OC.2 B
    rw[if_neg B,oq t cs (n+1) more];simp only[OK,D,Ob]
theorem C6 (c s:List UInt8)(h:O c<=15):c.isPrefixOf (s.take 15)=c.isPrefixOf s:=by
 rw[OY,Z,Z,List.prefix_take_iff];exact⟨λj=>j.1,λj=>⟨j,h⟩⟩
theorem oa (s:List UInt8):∀(cs:List (List UInt8))(n:Nat),cs.all (λc=>decide (O c<=15))=true->eJ (s.take 15) cs n=eJ s cs n
 |[],_,_=>rfl
 |c::cs,n,h=>by
  simp only[Oc,OU,decide_eq_true_eq] at h;rw[eJ,eJ,C6 c s h.1,oa s cs (n+1) h.2]
theorem xr (s:List UInt8):∀(cs:List (List UInt8))(n:Nat)(d:List UInt8)(k:Int),bK s (cs++[d]) ((Of n (O cs)).map (λ(k:Nat)=>(k:Int))++[k])=
  match eJ s cs n with
  |some r=>some r
  |none=>if d.isPrefixOf s then some (k,(O d:Int)) else none
 |[],n,d,k=>by simp[bK,eJ]
 |c::cs,n,d,k=>by
  simp only[List.cons_append,OX,List.range'_succ,List.map_cons];rw[bK,eJ]
  split
  ·rfl
  ·exact xr s cs (n+1) d k
theorem qL (s:List UInt8):∀(cs:List (List UInt8))(n:Nat),cs.all (λc=> !c.isPrefixOf s)=true->eJ s cs n=none
 |[],_,_=>rfl
 |c::cs,n,h=>by
  simp only[Oc,OU,Bool.not_eq_true'] at h;rw[eJ,h.1,if_neg (by simp),qL s cs (n+1) h.2]
theorem uM (s:List UInt8):∀(cs:List (List UInt8))(n:Nat)(r:Int×Int),eJ s cs n=some r->r.1<(n:Int)+O cs
 |[],_,_,h=>by cases h
 |c::cs,n,r,h=>by
  rw[eJ] at h
  split at h
  ·cases h;simp;omega
  ·have:=uM s cs (n+1) r h
   simp only[OX];omega
theorem l6:bd.all (λc=>decide (O c<=15))=true:=by kernel_rfl
theorem wl:bd.all (λc=>decide (O c<=11))=true:=by kernel_rfl
theorem D8:bd.all (λc=> !c.isPrefixOf bU)=true:=by kernel_rfl
theorem EL (s:List UInt8):(if s.take 15=bU then(34,0,0) else gU (s.take 15) bd 0 ((s.take 15).isPrefixOf bU))=kr (gQ fi mi s):=by
 have hf:=xr s bd 0 bU 34;have I:mi=(Of 0 (O bd)).map (λ(k:Nat)=>(k:Int))++[34]:=rfl;have D:fi=bd++[bU]:=rfl;unfold gQ;rw[D,I,hf]
 by_cases j:s.take 15=bU
 ·rw[if_pos j,<-oa s bd 0 l6,j,qL _ _ _ D8]
  have K:bU.isPrefixOf s=true:=by
   rw[Z,<-j];exact List.take_prefix _ _
  simp[K,kr]
 ·rw[if_neg j,oq,oa s bd 0 l6]
  cases G:eJ s bd 0 with
  |some r=>
   obtain⟨k,len⟩:=r;have:=uM s bd 0 _ G;rw[eW] at this;simp only[kr];rw[if_neg (by simp at this⊢;omega)]
  |none=>
   have K:bU.isPrefixOf s=false:=by
    rw[OC];intro h;have h1:=List.prefix_iff_eq_take.1 (Z.1 h);exact j h1.symm
   simp only[K,List.any_append,OK,List.any_nil,Bool.or_false];rw[if_neg (by simp:¬(false=true))]
   by_cases hl:O s<=15
   ·rw[OI hl,Bool.or_comm]
    simp only[kr]
    split
    ·rfl
    ·rfl
   ·have M:s.isPrefixOf bU=false:=iU _ _ (by simp[bU];omega)
    have N:(bd.any λc=>s.isPrefixOf c)=false:=by
     rw[OS];intro c C;have:=OV.1 l6 c C;simp only[decide_eq_true_eq] at this;rw[iU _ _ (by omega)];simp
    have B:(s.take 15).length=15:=by rw[List.length_take];omega
    have T:(s.take 15).isPrefixOf bU=false:=by
     rw[OC];intro h;exact j ((Z.1 h).eq_of_length (by rw[B];rfl))
    have e4:(bd.any λc=>(s.take 15).isPrefixOf c)=false:=by
     rw[OS];intro c C;have:=OV.1 wl c C;simp only[decide_eq_true_eq] at this;rw[iU _ _ (by omega)];simp
    rw[M,N,T,e4];rfl
theorem wY (l:List UInt8)(k m:Nat):(aI l k (min 24 m)).take 15=aI l k (min 15 m):=by
 unfold aI;rw[<-List.map_take,List.take_range];congr 2;omega
theorem Ig (l:List UInt8)(i:Int):tX l i=dz l i:=by
 unfold tX dz ac
 by_cases j:i<0
 ·rw[if_pos j,if_pos j];rfl
 ·rw[if_neg j,if_neg j]
  by_cases h2:8*(O l:Int)<i
  ·rw[if_pos h2,show 8*O l - i.toNat=0 by omega]
   simp only[Nat.min_zero,aI,List.range_zero,List.map_nil]
   kernel_rfl
  ·rw[if_neg h2,<-EL,wY]
theorem ze (A:Option Addr)(n c:Nat)(l:List UInt8)(i:Int)(w:World)(hT:Tz w)(hr:Sl w A (l.map af))(hn:O l=n)(hsz:n<=2 ^ 47)(hi: -9223372036854775808<=i/\i<=9223372036854775807):
  Calls OA 143 #[Od A n c,J X i] w λe w'=>e=OB (OZ #[J X (tX l i).1,J X (tX l i).2.1,J X (tX l i).2.2])/\Below w.heap.size w w':=by
 have HT:=U hT;clear hT;unfold tX
 by_cases h1:i<0
 ·have e1:decide (i<0)=true:=by simpa using h1
  rw[if_pos h1]
  go_enter OM,OL
  go_wp2_with fail
  go_step3
  go_wp2;(try rw[Exit.noGoto_ret]);go_ret3;exact⟨rfl,Below.refl _ _⟩
 have e1:decide (i<0)=false:=by simpa using h1
 rw[if_neg h1,hn]
 by_cases h2:8*(n:Int)<i
 ·rw[if_pos h2]
  go_enter OM,OL
  go_wp2_with fail
  go_step3
  go_wp2;(try rw[Exit.noGoto_ret]);go_ret3;exact⟨rfl,Below.refl _ _⟩
 rw[if_neg h2];have I:=U (wR A n c l i w hr hn (by omega) (by omega) hsz);have rX:(aI l i.toNat (min 15 (8*n - i.toNat))).length<=15:=by rw[bm];omega
 generalize aI l i.toNat (min 15 (8*n - i.toNat))=s at I rX;show Calls _ _ _ _ λe w'=>e=OB (OZ #[J X (if s=bU then(34,0,0) else gU s bd 0 (s.isPrefixOf bU):Int×Int×Int).1,J X (if s=bU then(34,0,0) else gU s bd 0 (s.isPrefixOf bU):Int×Int×Int).2.1,J X (if s=bU then(34,0,0) else gU s bd 0 (s.isPrefixOf bU):Int×Int×Int).2.2])/\Below w.heap.size w w';have cz:∀W:World,Calls OA 186 #[V {data:= #[48]},J X 15] W λe w'=>e=OB (V (bs bU))/\Below W.heap.size W w':= λW=>OQ ⟨#[48]⟩ 15 W (by decide) (by decide);have aC:=U cz;clear cz
 by_cases hs:s=bU
 ·rw[if_pos hs]
  have jT:(s==bU)=true:=(by rw[hs];exact beq_self_eq_true _);clear hs
  go_enter OM,OL
  go_wp2_with fail
  go_step3
  go_wp2_with (first|(go_at_call 84;refine(dm _ _ _ _ hsz).mono ?_;rintro e w' ⟨rfl,rfl⟩)|(go_at_call 185;refine I.out.mono ?_;rintro e w' ⟨rfl,rfl⟩)|(go_at_call 186;refine(aC.out _).mono ?_;rintro e w1 ⟨rfl,M⟩))
  (try rw[Exit.noGoto_ret]);go_ret3;exact⟨rfl,M⟩
 rw[if_neg hs];have jT:(s==bU)=false:=by rw[beq_eq_false_iff_ne];exact hs
 clear hs
 have bE:∀W:World,Calls OA 187 #[V (bs bU),V (bs s)] W λe w'=>e=OB (.bool (s.isPrefixOf bU))/\W=w':= λW=>by
  have:=Tryz.strings_HasPrefix (bs bU) (bs s) W;rw[eH,eH] at this;exact this.mono λe w' h=>⟨h.1,h.2.symm⟩
 have aB:=U bE;clear bE;generalize s.isPrefixOf bU=m0 at aB⊢;generalize hR:gU s bd 0 m0=R;have HR:=U hR;clear hR
 go_enter OM,OL
 go_wp2_with fail
 go_step3
 go_wp2_with (first|(go_at_call 84;refine(dm _ _ _ _ hsz).mono ?_;rintro e w' ⟨rfl,rfl⟩)|(go_at_call 185;refine I.out.mono ?_;rintro e w' ⟨rfl,rfl⟩)|(go_at_call 186;refine(aC.out _).mono ?_;rintro e w1 ⟨rfl,M⟩)|(go_at_call 187;refine(aB.out _).mono ?_;rintro e w' ⟨rfl,rfl⟩))
 go_step3
 go_wp2_with fail
 refine(oQ _ (HT.out.below M)).mono ?_;rintro e w2 ⟨A1,c1,rfl,T,B⟩;rw[uH] at T
 replace B:=M.trans (B.mono M.size)
 go_wp2_with fail
 go_loopg [9,31] 34 (λg more Io wr=>∃(k:Nat)(m:Bool),k+g=34/\Io=J X (k:Int)/\more=.bool m/\Hid (gU s (bd.drop k) k m=R)/\Sl wr A1 (bd.map aM)/\Below w.heap.size w wr)
 case atStart=>exact⟨0,m0,by omega,rfl,rfl,HR,T,B⟩
 case round=>
  obtain⟨k,m,Ip,rfl,rfl,HL,T,B⟩:=hrel
  cases gk with
  |zero=>
   have hk:¬((k:Int)<34):=(by omega);obtain rfl:k=34:=by omega
   have hL:=HL.out;clear HL
   cases m with
   |true=>
    go_wp2_with fail
    (try rw[Exit.noGoto_ret]);go_ret3;exact⟨by rw[<-hL];rfl,B⟩
   |false=>
    go_wp2_with fail
    (try rw[Exit.noGoto_ret]);go_ret3;exact⟨by rw[<-hL];rfl,B⟩
  |succ g=>
   have hk:((k:Int)<34):=(by omega);have eE:k<(O bd):=(by rw[eW];omega);obtain⟨ad,rfl,_,hc⟩:=T.at_ k (by simpa using eE);rw[OW] at hc;unfold aM at hc;have G:=HL.out;rw[List.drop_eq_getElem_cons eE] at G;generalize bd[k]=cd at hc G;have G:=U G;obtain⟨mn,gJ⟩:∃mn:Nat,mn=min (O cd) (O s):=⟨_,rfl⟩;have gy:min (O cd:Int) (O s:Int)=(mn:Int):=(by omega);have Iq:mn<=(O cd):=(by omega);have J2:mn<=(O s):=(by omega);have hU:=U gJ;clear gJ;go_wp2_with fail
   clear gy
   go_loopg [41] mn (λg2 t wx=>∃j:Nat,j+g2=mn/\t=J X (j:Int)/\Hid (∀t,t<j->cd[t]? =s[t]?)/\Sl wx (some ad) (bd.map aM)/\Below w.heap.size w wx)
   case atStart=>exact⟨0,by omega,rfl,U (λt ht=>absurd ht (by omega)),T,B⟩
   case round=>
    obtain⟨j,hj,rfl,dt,T,B⟩:=hrel
    cases gk with
    |zero=>
     obtain rfl:j=mn:=by omega
     have kz:¬((j:Int)<(j:Int)):=(by omega);have D:jr cd s=true:=FD cd s (by rw[<-hU.out];exact dt.out);have C:=G.out;rw[gU,D,if_pos rfl] at C
     by_cases fW:O cd<=O s
     ·rw[if_pos fW] at C
      have K:=U C;clear C G D;go_wp2_with fail
      (try rw[Exit.noGoto_ret]);go_ret3;exact⟨by rw[<-K.out];rfl,B⟩
     ·rw[if_neg fW] at C
      have K:=U C;clear C G D;go_wp2_with fail
      go_roundg g
      case measure=>omega
      case rel=>exact⟨k+1,true,by omega,rfl,rfl,K,T,B⟩
    |succ g2=>
     have kz:((j:Int)<(mn:Int)):=(by omega);have dE:j<(O cd):=(by omega);have dY:j<(O s):=(by omega);go_wp2_with fail
     refine iV (λ_=>True) 6 [(0,true),(1,true),(2,true),(3,true),(4,true),(5,true)] (trivial) (λPE dD=>?_)
     iterate 6
      refine fe (v:=?_) rfl (by rfl) ?_ ?_
      rotate_left
      ·intro _ ja;(try dsimp only at ja);go_simp;(try with_reducible rfl)
      simp only[Y,OG,OF]
     (refine dD _ _ ?_;simp only[OP,Oa];clear dD PE)
     by_cases N:cd[j]=s[j]
     ·have hq:((s[j].toNat:Int) !=(cd[j].toNat:Int))=false:=by rw[N];simp
      go_wp2_with fail
      go_roundg g2
      case measure=>omega
      case rel=>
       refine⟨j+1,by omega,rfl,U (λt ht=>?_),T,B.drew⟩
       by_cases wj:t<j
       ·exact dt.out t wj
       ·obtain rfl:t=j:=by omega
        simp[dE,dY,N]
     ·have hq:((s[j].toNat:Int) !=(cd[j].toNat:Int))=true:=by
       rw[bne_iff_ne];intro h;exact N (UInt8.toNat_inj.1 (by omega))
      have D:jr cd s=false:=DT cd s j (by omega) (by simp[dE,dY,N])
      have C:=G.out
      rw[gU,D,if_neg (by simp)] at C
      have K:=U C
      clear C G D N
      go_wp2_with fail
      go_roundg g
      case measure=>omega
      case rel=>exact⟨k+1,m,by omega,rfl,rfl,K,T,B.drew⟩
end Go.Proofs.YthhijgcfbjcgiaaGreatDoor
