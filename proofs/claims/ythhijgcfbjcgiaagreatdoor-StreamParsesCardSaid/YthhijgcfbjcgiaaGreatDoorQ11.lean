/- Kit, RefT -/
import Derived.Test.YthhijgcfbjcgiaaGreatDoorQ09
import Derived.Test.YthhijgcfbjcgiaaGreatDoorQ05
import Derived.Deep.LoopGhost
namespace Go.Proofs.YthhijgcfbjcgiaaGreatDoor
open Go Go.RowKit
set_option maxHeartbeats 16000000
set_option maxRecDepth 100000
open Go.Lib renaming hid→O
open List renaming length→U,setIfInBounds_toArray→Z,set_cons_succ→V,set_cons_zero→J,all_eq_true→OH,drop_succ_cons→OI,drop_eq_getElem_cons→OJ,getElem_map→OL,drop_zero→OO,getElem_mem→OP,map_append→OQ,nil_append→OR,drop_eq_nil_of_le→OS,mem_range→OX,getD→Oc
open Nat renaming le_refl→OA,zero_add→OT
open Go.Value renaming slice→OB,int→OD,string→OM,tuple→Od,pointer→Oe,bool→Of
open Tryz renaming prog→OC,ntmps191→OY,ntmps230→OZ,func191→Oa,func230→Ob
open Int renaming eq_ofNat_of_zero_le→OE,toNat_natCast→OV
open Go.IntKind renaming i64→OF
open Go.Ending renaming returned→OG
open Go.World renaming ownsRow_lit→OK
open Go.Obj renaming cells→ON
open Bool renaming eq_false_iff→OU,and_eq_true→OW
theorem bh (A:Option Addr)(n c:Nat)(w:World)(hsz:n<=2 ^ 47):
  Calls OC 92 #[OB A n c] w λe w'=>e=OG (OD OF (8*n))/\w=w':=by
 go_enter Tryz.func92,Tryz.ntmps92
 go_wp2
 go_ret;exact⟨rfl,rfl⟩
theorem pT (A:Option Addr)(n c:Nat)(l:List UInt8)(i:Int)(w:World)(N:Sl w A (l.map af))(M:U l=n)(K:0<=i)(T:i<8*n)(hsz:n<=2 ^ 47):
  Calls OC 146 #[OB A n c,OD OF i] w λe w'=>e=OG (OD OF (aS l i.toNat))/\w=w':=by
 obtain⟨k,rfl⟩:=OE K;subst M;obtain⟨ad,rfl,_,hc⟩:=N.byte (k / 8) (by omega);have hk:(0:Int)<=7 - ↑k % 8:=by omega
 have G:l[k / 8].toNat<256:=UInt8.toNat_lt _;have B:l[k / 8].toNat / 2 ^ (7 - k % 8)<256:=Nat.lt_of_le_of_lt (Nat.div_le_self _ _) G;have C:k / 8<(U l):=by omega
 have D:((l[k / 8].toNat:Int) / 2 ^ (7 - k % 8))=((l[k / 8].toNat / 2 ^ (7 - k % 8):Nat):Int):=by simp
 have j:((l[k / 8].toNat:Int) / 2 ^ (7 - k % 8)) % 2=((aS l k:Nat):Int):=by
  rw[D];simp[aS,Oc,C]
 have hz:(0:Int)<=(↑l[k / 8].toNat:Int) / 2 ^ (7 - k % 8)/\(↑l[k / 8].toNat:Int) / 2 ^ (7 - k % 8)<256:=by
  rw[D];generalize l[k / 8].toNat / 2 ^ (7 - k % 8)=q at B;omega
 clear D;have I:=O j;clear j G B
 go_enter Tryz.func146,Tryz.ntmps146
 go_wp2
 go_ret;rw[OV];exact⟨uj I.out,rfl⟩
theorem dL (A:Option Addr)(n c:Nat)(l:List UInt8)(i m:Int)(w:World)(M:Sl w A (l.map af))(I:U l=n)(C:0<=i)(D:0<=m)(G:m<=32)(h1:i+m<=8*n)(hsz:n<=2 ^ 47):
  Calls OC 91 #[OB A n c,OD OF i,OD OF m] w λe w'=>e=OG (Od #[OD OF (au l i.toNat m.toNat),OD OF 0])/\w=w':=by
 obtain⟨k,rfl⟩:=OE C;obtain⟨m,rfl⟩:=OE D;have T:decide ((k:Int)<0)=false:=by simp
 have e2:decide ((m:Int)<0)=false:=by simp
 have e3:¬(32:Int)<m:=by omega
 have e4:¬(8*(n:Int))<k:=by omega
 have e5:¬(8*(n:Int)) - k<m:=by omega
 go_enter Tryz.func91,Tryz.ntmps91
 go_wp2_with (go_at_call 92;refine(bh _ _ _ _ hsz).mono ?_;rintro e w' ⟨rfl,rfl⟩)
 go_loopg [8,9] m (λg x j=> λwr=>∃t:Nat,t+g=m/\j=OD OF (t:Int)/\x=OD OF (au l k t)/\w=wr)
 case atStart=>exact⟨0,by omega,rfl,rfl,rfl⟩
 case round=>
  obtain⟨t,ht,rfl,rfl,rfl⟩:=hrel
  cases gk with
  |succ g=>
   have hb:=eQ l (k+t);have B:=cW l k t;have N:au l k t<2 ^ 32:=Nat.lt_of_lt_of_le B (Nat.pow_le_pow_right (by decide) (by omega));have K:(t:Int)<(m:Int):=(by omega);clear B;have hz:(0:Int)<=((k+t:Nat):Int):=(by omega);go_wp2_with (go_at_call 146;refine(pT _ _ _ l _ _ M I (by omega) (by omega) hsz).mono ?_;rintro e w' ⟨rfl,rfl⟩)
   go_roundg g
   case measure=>omega
   case rel=>exact⟨t+1,by omega,rfl,by simp[au],rfl⟩
  |zero=>
   have K:¬(t:Int)<(m:Int):=(by omega);obtain rfl:t=m:=by omega
   go_wp2
   go_ret2;exact⟨by simp,rfl⟩
theorem wq (A:Option Addr)(n c:Nat)(l:List UInt8)(w:World)(hr:Sl w A (l.map af))(hn:U l=n)(hsz:n<=2 ^ 40):
  Calls OC 18 #[OB A n c] w λe w'=>∃B d,e=OG (OB B n d)/\Sl w' B ((l++[201,202,203,204]).map af)/\n+4<=d/\d<=9223372036854775807/\Below w.heap.size w w':=by
 have Hn:=O hn;clear hn;have aC:True:=trivial
 go_enter Tryz.func18,Tryz.ntmps18
 have T:(w.alloc (ON #[] 5)).ownsRow w.heap.size 5 1 (OB (some ⟨w.heap.size,0,none⟩) 0 0) 0 []:=OK w #[] 0 (OA _) (by decide) rfl;have aB:=hr.alloc (ON #[] 5);have I:=O T;have cz:=O aB;clear T aB
 go_wp2_with (first
  |(at_builtin;have _t:=aC;refine cr jw rfl rfl rfl I.out rfl (by simp[Hn.out]) cz.out (pf _) (by omega) (by simp) ?_;clear aC;intro v1 w1 D N _;rw[OT,OR] at D;have K:=O D;clear D)
  |(at_builtin;refine cr jw rfl rfl rfl (K.out.alloc _) rfl (m:=4) (news:=[201,202,203,204].map af) rfl (ab.sl (ab.new w1 5 _) 0) (pf _) (by omega) (by have:=N.size;simp at this⊢;omega) ?_;intro v2 w2 G dD _;obtain⟨g,dt,rfl,M,j,dE⟩:=ib G (by omega);have bE:=O G;clear G;unfold maxLen at j))
 go_ret;refine⟨some ⟨g,0,none⟩,dt,rfl,?_,M,j,?_⟩
 ·rw[OQ];exact fM bE.out
 ·have C:=eF ((Below.refl w.heap.size w).alloc (OA _) (ON #[] 5)) I.out N (by simp) (OA _)
  exact eF (C.alloc C.size _) (K.out.alloc _) dD (by have:=C.size;simp;omega) (OA _)
theorem wn (A B:Option Addr)(n c d:Nat)(l:List UInt8)(w:World)(M:Sl w A ((l++[201,202,203,204]).map af))(N:Sl w B (l.map af))(I:U l=n)(hc:n+4<=c)(bE:c<=9223372036854775807):
  Calls OC 22 #[OB A n c,OB B n d] w λe w'=>e=OG (Of true)/\Below w.heap.size w w':=by
 have K:=O I;clear I
 go_enter Tryz.func22,Tryz.ntmps22
 go_wp2_with fail
 have G:∀(W:World)(A:Option Addr)(l:List UInt8)(n c:Nat),Sl W A (l.map af)->U l=n->(convert 25 9 (OB A n c)).run OC W= .ok (OM (bs l)) W:= λW A l n c h I=>iY (P:=OC) 25 9 5 (by kernel_rfl) (by kernel_rfl) (by kernel_rfl) h n c I;have j:=O G;clear G;have aC:(l==l)=true:=beq_self_eq_true l;have dY:IntKind.i64.wrap ((n:Int)+4)=(n:Int)+4:=IntWalk.i64_in _ (by omega);have dD:decide ((n:Int)+4<=(c:Int))=true:=by simp;omega
 have aB:(0:Int)<=(n:Int)+4:=by omega
 have cz:(n:Int)+4<=(c:Int):=by omega
 have dt:¬c=n:=by omega
 have dE:((n:Int)+4).toNat=n+4:=by omega
 refine iV (λw'=>Sl w' A ((l++[201,202,203,204]).map af)/\Sl w' B (l.map af)) 31 [(0,true),(1,true),(2,true),(3,true),(4,true),(5,true),(6,true),(7,true),(8,true),(9,true),(10,true),(11,true),(12,true),(13,true),(14,true),(15,true),(16,true),(17,true),(18,true),(19,true),(20,true),(21,true),(22,true),(23,true),(24,true),(25,true),(26,true),(27,true),(28,true),(29,false),(30,false)] (⟨M.drew,N.drew⟩) (λT D=>?_)
 iterate 29
  refine fe (v:=?_) rfl (by rfl) ?_ ?_
  rotate_left
  ·intro _ C;(try dsimp only at C);have h1:=j.out _ A l n c (by have:=C.1.take (U l);rw[OQ,List.take_append_of_le_length (by simp),List.take_of_length_le (by simp)] at this;exact this) K.out;have h2:=j.out _ B l n d C.2 K.out;have h3:=j.out _ (A.map (·.add n)) [201,202,203,204] 4 (c - n) (by have:=C.1.drop n;rw[OQ,List.drop_left' (by simp[K.out])] at this;exact this) rfl;go_simp;(try with_reducible rfl)
  simp only[Z,J,V]
 refine lE (v:=?_) (w':=?_) rfl (by rfl) ?_ ?_ ?_;rotate_left 2
 ·go_simp;(try (constructor<;>with_reducible rfl))
 ·exact⟨(M.alloc _).drew,(N.alloc _).drew⟩
 simp only[Z,J,V];have h4:=j.out _ _ [201,202,203,204] 4 4 ((ab.sl (ab.new w 5 #[OD .u8 201,OD .u8 202,OD .u8 203,OD .u8 204]) 0).drew) rfl;refine lE (v:=?_) (w':=?_) rfl (by rfl) ?_ ?_ ?_;rotate_left 2
 ·go_simp;(try (constructor<;>with_reducible rfl))
 ·exact⟨(M.alloc _).drew,(N.alloc _).drew⟩
 simp only[Z,J,V]
 (refine D _ _ ?_;simp only[OI,OO];clear D T)
 go_wp2_with fail
 go_ret;exact⟨rfl,((Below.refl _ _).alloc (OA _) _).drew⟩
theorem iC (s p:List UInt8)(w:World):Calls OC 230 #[OM (bs s),OM (bs p)] w λe w'=>e=OG (Of (p.isPrefixOf s))/\w=w':=by
 by_cases h:U p<=U s
 ·have B:decide ((U p:Int)<=(U s:Int))=true:=by simp;omega
  have j:=O (nk p s h)
  go_enter Ob,OZ
  go_wp2_with fail
  go_ret;rw[<-j.out];exact⟨rfl,rfl⟩
 ·have B:decide ((U p:Int)<=(U s:Int))=false:=by simp;omega
  rw[iU p s h]
  go_enter Ob,OZ
  go_wp2_with fail
  go_ret;exact⟨rfl,rfl⟩
theorem Dd (c:List UInt8)(I:cS c=true)(w:World):Calls OC 229 #[OM (bs c)] w λe w'=>e=OG (Of true)/\w=w':=by
 simp only[cS,OW,decide_eq_true_eq] at I;obtain⟨⟨G,h2⟩,T⟩:=I;have K:=O G;clear G
 go_enter Tryz.func229,Tryz.ntmps229
 go_wp2_with fail
 go_loopg [3] (U c) (λg i=> λwr=>∃(j:Nat),j+g=U c/\i=OD OF (j:Int)/\w=wr)
 case atStart=>exact⟨0,by omega,rfl,rfl⟩
 case round=>
  obtain⟨j,hj,rfl,rfl⟩:=hrel
  cases gk with
  |zero=>
   obtain rfl:j=(U c):=by omega
   have D:¬((U c:Int)<(U c:Int)):=(by omega);have M:decide ((1:Int)<=(U c:Int))=true:=(by simp;omega);have N:decide ((U c:Int)<=24)=true:=(by simp;omega);go_wp2_with fail
   go_ret;exact⟨rfl,rfl⟩
  |succ g=>
   have D:((j:Int)<(U c:Int)):=(by omega);have C:j<(U c):=(by omega);have B:=OH.1 K.out c[j] (OP C);simp only[Bool.or_eq_true,beq_iff_eq] at B;rcases B with B|B
   ·have q1:((c[j].toNat:Int) !=48)=false:=by rw[B];rfl
    clear B;go_wp2_with fail
    go_roundg g
    case measure=>omega
    case rel=>exact⟨j+1,by omega,rfl,rfl⟩
   ·have q1:((c[j].toNat:Int) !=48)=true:=by rw[B];rfl
    have q3:((c[j].toNat:Int) !=49)=false:=(by rw[B];rfl);clear B;go_wp2_with fail
    go_roundg g
    case measure=>omega
    case rel=>exact⟨j+1,by omega,rfl,rfl⟩
def kB (w:World) (b m:Nat) (cs:List (List UInt8)) (ns:List Int):Prop:=∃j B x y,ab w b 241 #[OB j m x,OB B m y]/\Sl w j (cs.map aM)/\Sl w B (ns.map aE)
def Fy (m:Nat) (cs:List (List UInt8)) (ns:List Int) (w:World) (e:Ending) (w':World):Prop:=∃b,e=OG (Od #[Oe (some ⟨b,0,none⟩),OD OF 0])/\kB w' b m cs ns/\Below w.heap.size w w'
theorem jC (A B:Option Addr)(n c d:Nat)(cs:List (List UInt8))(ns:List Int)(w:World)(hA:Sl w A (cs.map aM))(hB:Sl w B (ns.map aE))(hc:U cs=n)(hn:U ns=n)(h1:1<=n)(Kr:n<=300)
  (M:cs.all cS=true) (N:it cs=true):
  Calls OC 189 #[OB A n c,OB B n d] w (Fy n cs ns w):=by
 have HA:=O hA;have HB:=O hB;have Hc:=O hc;have Hn:=O hn;have D:=O M;have gy:=O N;clear hA hB hc hn M N;have e0:((n:Int)==0)=false:=by rw[beq_eq_false_iff_ne];omega
 have e3:decide (300<(n:Int))=false:=by simp;omega
 go_enter Tryz.func189,Tryz.ntmps189
 go_wp2_with fail
 go_loopg [6] n (λg i=> λwr=>∃(j:Nat),j+g=n/\i=OD OF (j:Int)/\w=wr)
 case atStart=>exact⟨0,by omega,rfl,rfl⟩
 case round=>
  obtain⟨j,hj,rfl,rfl⟩:=hrel
  cases gk with
  |succ g=>
   have T:((j:Int)<(n:Int)):=(by omega);have K0:j<(U cs):=(by rw[Hc.out];omega);obtain⟨ad,rfl,_,K⟩:=HA.out.at_ j (by simpa using K0);rw[OL] at K;unfold aM at K;have K9:=O (OH.1 D.out cs[j] (OP K0));go_wp2_with (go_at_call 229;refine(Dd _ K9.out _).mono ?_;rintro e w' ⟨rfl,rfl⟩)
   go_roundg g
   case measure=>omega
   case rel=>exact⟨j+1,by omega,rfl,rfl⟩
  |zero=>
   have T:¬((j:Int)<(n:Int)):=(by omega);go_wp2_with fail
   go_loopg [7] n (λg i=> λwr=>∃(j:Nat),j+g=n/\i=OD OF (j:Int)/\Below w.heap.size w wr)
   case atStart=>exact⟨0,by omega,rfl,Below.refl _ _⟩
   case round=>
    obtain⟨i,hi,rfl,hb⟩:=hrel
    cases gk with
    |succ g1=>
     have T:((i:Int)<(n:Int)):=(by omega);go_wp2_with fail
     go_loopg [8] n (λg k=> λwr=>∃(j:Nat),j+g=n/\k=OD OF (j:Int)/\Below w.heap.size w wr)
     case atStart=>exact⟨0,by omega,rfl,hb⟩
     case round=>
      obtain⟨k,hk,rfl,hb⟩:=hrel
      cases gk with
      |zero=>
       have T:¬((k:Int)<(n:Int)):=(by omega);go_wp2_with fail
       go_roundg g1
       case measure=>omega
       case rel=>exact⟨i+1,by omega,rfl,hb⟩
      |succ g2=>
       have T:((k:Int)<(n:Int)):=by omega
       by_cases gJ:i=k
       ·have e1:((i:Int) !=(k:Int))=false:=by rw[gJ];simp
        go_wp2_with fail
        refine iV (λ_=>True) 12 [(0,true),(1,true),(2,true),(3,true),(4,true),(5,true),(6,true),(7,true),(8,true),(9,true),(10,true),(11,true)] (trivial) (λPE I=>?_)
        iterate 4
         refine fe (v:=?_) rfl (by rfl) ?_ ?_
         rotate_left
         ·intro _ aB;(try dsimp only at aB);go_simp;(try with_reducible rfl)
         simp only[Z,J,V]
        iterate 8
         refine vo rfl (by rfl) ?_
         simp only[Z,J,V]
        (refine I _ _ ?_;simp only[OI,OO];clear I PE)
        go_wp2_with fail
        go_roundg g2
        case measure=>omega
        case rel=>exact⟨k+1,by omega,rfl,hb.drew⟩
       ·have e1:((i:Int) !=(k:Int))=true:=by rw[bne_iff_ne];omega
        have dt:i<(U cs):=(by rw[Hc.out];omega);have hU:k<(U cs):=by rw[Hc.out];omega
        have cz:(cs[k]).isPrefixOf cs[i]=false:=by
         have:=OH.1 (OH.1 gy.out i (OX.2 dt)) k (OX.2 hU)
         simpa [gJ,Oc,dt,hU] using this
        have K1:(cs[i]).length<=24:=by
         have:=OH.1 D.out cs[i] (OP dt);simp only[cS,OW,decide_eq_true_eq] at this;omega
        have C:=HA.out.below hb;obtain⟨ad,rX,_,aC⟩:=C.at_ i (by simpa using dt);obtain⟨K8,G,_,bE⟩:=C.at_ k (by simpa using hU);obtain rfl:ad=K8:=by rw[rX] at G;cases G;rfl
        rw[OL] at aC bE;unfold aM at aC bE;generalize cs[i]=ci at aC cz K1;generalize cs[k]=ck at bE cz;have jT:=O (λW=>iC ci ck W);rw[cz] at jT;clear C gJ cz;subst rX;clear G;go_wp2_with fail
        refine iV (λw'=>w'.cell? (ad.add i)=some (OM (bs ci))/\w'.cell? (ad.add k)=some (OM (bs ck))) 12 [(0,true),(1,true),(2,true),(3,true),(4,true),(5,true),(6,true),(7,true),(8,true),(9,true),(10,true),(11,true)] (⟨aC,bE⟩) (λPE I=>?_)
        iterate 12
         refine fe (v:=?_) rfl (by rfl) ?_ ?_
         rotate_left
         ·intro _ aB;(try dsimp only at aB);obtain⟨KC,KE⟩:=aB;go_simp;(try with_reducible rfl)
         simp only[Z,J,V]
        (refine I _ _ ?_;simp only[OI,OO];clear I PE)
        go_wp2_with (go_at_call 230;refine(jT.out _).mono ?_;rintro e w' ⟨rfl,rfl⟩)
        go_roundg g2
        case measure=>omega
        case rel=>exact⟨k+1,by omega,rfl,hb.drew⟩
    |zero=>
     have T:¬((i:Int)<(n:Int)):=(by omega);have K2:(wr.alloc (ON #[] 9)).ownsRow wr.heap.size 9 1 (OB (some ⟨wr.heap.size,0,none⟩) 0 0) 0 []:=OK wr #[] 0 (OA _) (by decide) rfl;have kz:=O K2;clear K2;have C:=O ((HA.out.below hb).alloc (ON #[] 9));have K4:=O (HB.out.below hb);have K3:True:=trivial
     go_wp2_with (first
      |(at_builtin;have _t:=K3;refine cr ik rfl rfl rfl kz.out rfl (by simp[Hc.out]) C.out (GS _) (by omega) (by simp) ?_;clear K3;intro v1 w1 dD Iq _;rw[OT,OR] at dD;obtain⟨g1,c1,rfl,_,_,_⟩:=ib dD (by omega);have K5:=O dD;clear dD;have wj:=eF ((Below.refl wr.heap.size wr).alloc (OA _) (ON #[] 9)) kz.out Iq (by simp) (OA _);have fW:=O wj;clear wj Iq)
      |(at_builtin;refine cr gt rfl rfl rfl (OK w1 #[] 0 (OA _) (by decide) rfl) rfl (by simp[Hn.out]) ((K4.out.below fW.out).alloc _) (Gb _) (by omega) (by simp) ?_;intro v2 w2 dE J2 _;rw[OT,OR] at dE;obtain⟨g2,c2,rfl,_,_,_⟩:=ib dE (by omega);have K6:=O dE;clear dE;have eE:(w1.alloc (ON #[] 3)).ownsRow w1.heap.size 3 1 (OB (some ⟨w1.heap.size,0,none⟩) 0 0) 0 []:=OK w1 #[] 0 (OA _) (by decide) rfl;have Ip:=eF ((Below.refl w1.heap.size w1).alloc (OA _) (ON #[] 3)) eE J2 (by simp) (OA _);clear eE;have ja:=O Ip;clear Ip J2))
     go_ret2;have Io:=fW.out.trans (ja.out.mono fW.out.size);have dY:=hb.trans (Io.mono hb.size);exact⟨_,rfl,⟨_,_,_,_,ab.new w2 _ _,((fM K5.out).below ja.out).alloc _,(fM K6.out).alloc _⟩,dY.alloc dY.size _⟩
theorem kL (b:Nat)(A:Option Addr)(n m c:Nat)(cs:List (List UInt8))(ns:List Int)(l:List UInt8)(i:Int)(w:World)(hT:kB w b m cs ns)
  (hm:U cs=m) (Iq:U ns=m) (KE:m<=300) (dt:cs.all (λc=>decide (U c<=24))=true) (hA:Sl w A (l.map af)) (hn:U l=n) (hsz:n<=2 ^ 47) (hi: -9223372036854775808<=i/\i<=9223372036854775807):
  Calls OC 191 #[Oe (some ⟨b,0,none⟩),OB A n c,OD OF i] w λe w'=>e=OG (Od #[OD OF (ac cs ns l i).1,OD OF (ac cs ns l i).2.1,OD OF (ac cs ns l i).2.2])/\Below w.heap.size w w':=by
 unfold ac
 by_cases h1:i<0
 ·have e1:decide (i<0)=true:=by simpa using h1
  rw[if_pos h1]
  go_enter Oa,OY
  go_wp2_with fail
  go_ret3;exact⟨rfl,Below.refl _ _⟩
 have e1:decide (i<0)=false:=by simpa using h1
 rw[if_neg h1];obtain⟨k,rfl⟩:=OE (by omega:0<=i);obtain⟨X,Y,x,y,hB,hX,hY⟩:=hT;rw[OV,hn];generalize hR:gQ cs ns (aI l k (min 24 (8*n - k)))=R;have HR:=O hR;clear hR;have Hn:=O hn;have Hm:=O hm;have K0:=O Iq;have HA:=O hA;have HX:=O hX;have HY:=O hY;have HB:=O hB;have K2:=O dt;clear hn hm Iq hA hX hY hB dt;have wj:∀(W:World)(A:Option Addr)(l:List UInt8)(n c:Nat),Sl W A (l.map af)->U l=n->(convert 25 9 (OB A n c)).run OC W= .ok (OM (bs l)) W:= λW A l n c h hn=>iY (P:=OC) 25 9 5 (by kernel_rfl) (by kernel_rfl) (by kernel_rfl) h n c hn;have gy:=O wj;clear wj
 go_enter Oa,OY
 go_wp2_with fail
 go_loopg [9] 24 (λg t=> λwr=>∃(j:Nat),j+g=24/\t=OM (bs (aI l k j))/\(j=0\/k+j<=8*n)/\Below w.heap.size w wr)
 case atStart=>exact⟨0,by omega,rfl,.inl rfl,Below.refl _ _⟩
 case round=>
  obtain⟨j,hj,rfl,Kr,C⟩:=hrel;have K1:=bm l k j
  by_cases T:j<24/\k+j<8*n
  ·obtain⟨K4,KC⟩:=T
   have t1:decide ((k:Int)+(j:Int)<8*(n:Int))=true:=(by simp;omega);have t2:decide ((j:Int)<24)=true:=(by simp;omega);have Hs:=O (gP l k j);have H1:=O (gW l (k+j));have K3:=eQ l (k+j)
   cases gk with
   |zero=>omega
   |succ g=>
   by_cases hz:aS l (k+j)=0
   ·have dD:du l (k+j)=48:=by simp[du,hz]
    have Hz:=O dD;clear dD;have Rd:=O (λ(W:World) (h:Sl W A (l.map af))=>dL A n c l ((k:Int)+j) 1 W h Hn.out (by omega) (by omega) (by omega) (by omega) hsz);rw[show ((k:Int)+j).toNat=k+j by omega,show (1:Int).toNat=1 from rfl,H1.out,hz] at Rd;have Io:=gy.out (wr.alloc (ON #[OD .u8 48] 5)) (some ⟨wr.heap.size,0,none⟩) [48] 1 1 (ab.sl (ab.new wr 5 #[OD .u8 48]) 0) rfl;clear hz;go_wp2_with (first|(go_at_call 92;refine(bh _ _ _ _ hsz).mono ?_;rintro e w' ⟨rfl,rfl⟩)|(go_at_call 91;refine(Rd.out _ (HA.out.below C)).mono ?_;rintro e w' ⟨rfl,rfl⟩))
    go_roundg g
    case measure=>omega
    case rel=>exact⟨j+1,by omega,by rw[Hs.out,Hz.out],.inr (by omega),C.alloc C.size _⟩
   ·have dE:du l (k+j)=49:=by simp[du,hz]
    have Hz:=O dE;clear dE;have J2:aS l (k+j)=1:=(by omega);have Rd:=O (λ(W:World) (h:Sl W A (l.map af))=>dL A n c l ((k:Int)+j) 1 W h Hn.out (by omega) (by omega) (by omega) (by omega) hsz);rw[show ((k:Int)+j).toNat=k+j by omega,show (1:Int).toNat=1 from rfl,H1.out,J2] at Rd;have Io:=gy.out (wr.alloc (ON #[OD .u8 49] 5)) (some ⟨wr.heap.size,0,none⟩) [49] 1 1 (ab.sl (ab.new wr 5 #[OD .u8 49]) 0) rfl;clear hz J2;go_wp2_with (first|(go_at_call 92;refine(bh _ _ _ _ hsz).mono ?_;rintro e w' ⟨rfl,rfl⟩)|(go_at_call 91;refine(Rd.out _ (HA.out.below C)).mono ?_;rintro e w' ⟨rfl,rfl⟩))
    go_roundg g
    case measure=>omega
    case rel=>exact⟨j+1,by omega,by rw[Hs.out,Hz.out],.inr (by omega),C.alloc C.size _⟩
  ·have jT:gQ cs ns (aI l k j)=R:=by rw[<-HR.out,show min 24 (8*n - k)=j by omega]
   have aC:=O jT;clear jT HR;generalize aI l k j=s at aC K1
   have t3:decide ((k:Int)+(j:Int)<8*(n:Int))=true/\decide ((j:Int)<24)=false\/decide ((k:Int)+(j:Int)<8*(n:Int))=false:=by
    by_cases hq:k+j<8*n
    ·left;constructor
     ·simp;omega
     ·simp;omega
    ·right;simp;omega
   clear T
   have cz:∀q,q<=m->Hid (bK s (cs.drop q) (ns.drop q)=bK s cs ns)->q<m->∀(I:q<U cs)(aB:q<U ns),(if (cs[q]).isPrefixOf s then some (ns[q],((cs[q]).length:Int)) else bK s (cs.drop (q+1)) (ns.drop (q+1)))=bK s cs ns:= λq _ h _ I aB=>by
    have h1:=h.out;rw[OJ I,OJ aB,bK] at h1;exact h1
   have gJ:=O cz;clear cz;rcases t3 with⟨t1,t2⟩|t1
   all_goals
    go_wp2_with (go_at_call 92;refine(bh _ _ _ _ hsz).mono ?_;rintro e w' ⟨rfl,rfl⟩)
    clear t1
    go_loopg [12] m (λg t=> λwx=>∃(q:Nat),q+g=m/\t=OD OF (q:Int)/\Hid (bK s (cs.drop q) (ns.drop q)=bK s cs ns)/\Below w.heap.size w wx)
    case atStart=>exact⟨0,by omega,rfl,O rfl,C⟩
    case round=>
     obtain⟨q,hq,rfl,HF,C⟩:=hrel;have bE:=HB.out.below C HB.out.lt;have dY:wr.cell? ⟨b,0,none⟩=some (OB X m x):=(by rw[bE.cell];rfl);have rX:wr.cell? ⟨b,1,none⟩=some (OB Y m y):=by rw[bE.cell];rfl
     cases gk with
     |succ g=>
      have fW:((q:Int)<(m:Int)):=(by omega);have I:q<(U cs):=(by rw[Hm.out];omega);have aB:q<(U ns):=(by rw[K0.out];omega);obtain⟨ad,rfl,_,G⟩:=(HX.out.below C).at_ q (by simpa using I);rw[OL] at G;unfold aM at G;obtain⟨ae,rfl,_,eE⟩:=(HY.out.below C).int q aB;have B:=gJ.out q (by omega) HF (by omega) I aB;generalize cs[q]=cq at G B;generalize ns[q]=nq at eE B
      by_cases M:cq.isPrefixOf s=true
      ·rw[if_pos M] at B
       have D:=O B;clear B;have N:=O (λW=>iC s cq W);rw[M] at N;clear M;go_wp2_with (go_at_call 230;refine(N.out _).mono ?_;rintro e w' ⟨rfl,rfl⟩)
       refine iV (λw'=>w'.cell? ⟨b,0,none⟩=some (OB (some ad) m x)/\w'.cell? ⟨b,1,none⟩=some (OB (some ae) m y)/\w'.cell? (ad.add q)=some (OM (bs cq))/\w'.cell? (ae.add q)=some (OD OF nq)) 16 [(0,true),(1,true),(2,true),(3,true),(4,true),(5,true),(6,true),(7,true),(8,true),(9,true),(10,true),(11,true),(12,true),(13,true),(14,true),(15,false)] (⟨dY,rX,G,eE⟩) (λPE ja=>?_)
       iterate 15
        refine fe (v:=?_) rfl (by rfl) ?_ ?_
        rotate_left
        ·intro _ kz;(try dsimp only at kz);obtain⟨K5,K6,K8,K9⟩:=kz;go_simp;(try with_reducible rfl)
        simp only[Z,J,V]
       refine lE (v:=?_) (w':=?_) rfl (by rfl) ?_ ?_ ?_;rotate_left 2
       ·go_simp;(try (constructor<;>with_reducible rfl))
       ·exact⟨dY,rX,G,eE⟩
       simp only[Z,J,V]
       (refine ja _ _ ?_;simp only[OI,OO];clear ja PE)
       go_wp2_with fail
       go_ret3;refine⟨?_,C.drew⟩;rw[<-aC.out,gQ,<-D.out];rfl
      ·have K:cq.isPrefixOf s=false:=OU.2 M
       rw[if_neg M] at B;have D:=O B;clear B;have N:=O (λW=>iC s cq W);rw[K] at N;clear M K;go_wp2_with (go_at_call 230;refine(N.out _).mono ?_;rintro e w' ⟨rfl,rfl⟩)
       go_roundg g
       case measure=>omega
       case rel=>exact⟨q+1,by omega,rfl,D,C⟩
     |zero=>
      have fW:¬((q:Int)<(m:Int)):=by omega
      have Ip:bK s cs ns=none:=by
       rw[<-HF.out,OS (by rw[Hm.out];omega),bK.eq_def]
      have hU:=O Ip;clear Ip HF;go_wp2_with fail
      go_loopg [13] m (λg t=> λwx=>∃(q:Nat),q+g=m/\t=OD OF (q:Int)/\Hid ((cs.drop q).any (λc=>s.isPrefixOf c)=cs.any (λc=>s.isPrefixOf c))/\Below w.heap.size w wx)
      case atStart=>exact⟨0,by omega,rfl,O rfl,C⟩
      case round=>
       obtain⟨q,hq,rfl,HF,C⟩:=hrel;have bE:=HB.out.below C HB.out.lt;have dY:wr.cell? ⟨b,0,none⟩=some (OB X m x):=by rw[bE.cell];rfl
       cases gk with
       |succ g=>
        have fW:((q:Int)<(m:Int)):=(by omega);have I:q<(U cs):=(by rw[Hm.out];omega);obtain⟨ad,rfl,_,G⟩:=(HX.out.below C).at_ q (by simpa using I);rw[OL] at G;unfold aM at G;have B:=HF.out;rw[OJ I,List.any_cons] at B;generalize cs[q]=cq at G B
        by_cases M:s.isPrefixOf cq=true
        ·rw[M,Bool.true_or] at B
         have D:=O B;clear B;have N:=O (λW=>iC cq s W);rw[M] at N;clear M;go_wp2_with (go_at_call 230;refine(N.out _).mono ?_;rintro e w' ⟨rfl,rfl⟩)
         go_ret3;refine⟨?_,C⟩;rw[<-aC.out,gQ,hU.out];simp only[<-D.out,if_true];rfl
        ·have K:s.isPrefixOf cq=false:=OU.2 M
         rw[K,Bool.false_or] at B;have D:=O B;clear B;have N:=O (λW=>iC cq s W);rw[K] at N;clear M K;go_wp2_with (go_at_call 230;refine(N.out _).mono ?_;rintro e w' ⟨rfl,rfl⟩)
         go_roundg g
         case measure=>omega
         case rel=>exact⟨q+1,by omega,rfl,D,C⟩
       |zero=>
        have fW:¬((q:Int)<(m:Int)):=(by omega);have B:=HF.out;rw[OS (by rw[Hm.out];omega),List.any_nil] at B;have D:=O B;clear B;go_wp2_with fail
        go_ret3;refine⟨?_,C⟩;rw[<-aC.out,gQ,hU.out];simp only[<-D.out];rfl
end Go.Proofs.YthhijgcfbjcgiaaGreatDoor
