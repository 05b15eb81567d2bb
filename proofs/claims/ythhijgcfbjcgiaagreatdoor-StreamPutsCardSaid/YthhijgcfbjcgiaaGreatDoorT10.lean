/- Kit, KitO, RefT -/
import Derived.Test.YthhijgcfbjcgiaaGreatDoorT09
import Derived.Test.YthhijgcfbjcgiaaGreatDoorT05
import Derived.Deep.LoopGhost
namespace Go.Proofs.YthhijgcfbjcgiaaGreatDoor
section
open Go Go.RowKit

end
section
open Go Go.RowKit
attribute [local go_sem] Oper.semAt_some
open Go.Lib renaming hid→O
open Go.Value renaming int→U
def AC (n:Nat) (A:Option Addr) (base:Nat) (W:World):Prop:=n=0\/∃g cs,A=some ⟨g,0,none⟩/\base<=g/\ab W g 5 cs/\∀i,i<n->∃z:Int,cs[i]? =some (U .u8 z)
theorem Ck {n base:Nat}{A:Option Addr}{c:Nat}{l:List UInt8}{W:World}(h:W.ownsRow base 5 1 (.slice A n c) n (l.map ag)):AC n A base W:=by
 rcases h.2 with⟨_,D⟩|⟨g,C,j,e,I,K,N,h2,T,G⟩
 ·exact .inl D
 ·cases e
  refine .inr ⟨g,j,rfl,I,K,λi M=>?_⟩;have hl:List.length l=n:=(by have:=h.1;simpa using this);have B:(j.toList.take (n*1))[i]? =some (ag (l[i]'(by omega))):=(by rw[G];simp[hl,M]);rw[List.getElem?_take,if_pos (by omega),Array.getElem?_toList] at B;exact⟨_,B⟩
theorem AC.set {n g base:Nat}{cs:Array Value}{W:World}(j:Nat)(z:Int)(D:base<=g)(I:ab W g 5 cs)(K:∀i,i<n->∃z:Int,cs[i]? =some (U .u8 z)):
  AC n (some ⟨g,0,none⟩) base (W.setCell ⟨g,j,none⟩ (U .u8 z)):=by
 refine .inr ⟨g,_,rfl,D,I.set_ j _,λi G=>?_⟩;obtain⟨M,C⟩:=K i G;rw[Array.getElem?_setIfInBounds]
 split
 ·rename_i e
  subst e;have B:j<cs.size:=(Array.getElem?_eq_some_iff.1 C).1;rw[if_pos B];exact⟨z,rfl⟩
 ·exact⟨M,C⟩
set_option maxHeartbeats 2000000 in
theorem vE (A:Option Addr)(n c base:Nat)(K:World->Prop)(w:World)(ho:AC n A base w)(D:K w)(hK:∀W g j z,A=some ⟨g,0,none⟩->base<=g->K W->K (W.setCell ⟨g,j,none⟩ (U .u8 z))) (hn:n<=9223372036854775807):
  Calls Tryz.prog 17 #[.slice A n c] w λe w'=>e=.returned (.tuple #[])/\K w':=by
 have HB:=O D;have HO:=O ho;have HK:=O hK;clear ho hK D
 go_enter Tryz.func17,Tryz.ntmps17
 go_wp2_with fail
 go_loopg [2] n (λg i wr=>∃j:Nat,j+g=n/\i=U .i64 (j:Int)/\Hid (AC n A base wr)/\Hid (K wr))
 case atStart=>exact⟨0,by omega,rfl,HO,HB⟩
 case round=>
  obtain⟨j,hj,rfl,C,B⟩:=hrel
  by_cases T:j<n
  ·rcases C.out with h0|⟨q,cs,rfl,G,M,hz⟩
   ·omega
   obtain⟨z,I⟩:=hz j T;have N:wr.cell? ⟨q,j,none⟩=some (U .u8 z):=(M.cell j).trans I;have av:wr.frozen? ⟨q,j,none⟩=false:=M.frozen j;have HS:=O (λz=>And.intro (AC.set (n:=n) j z G M hz) (HK.out wr q j z rfl G B.out));clear M hz I C;go_wp2_with fail
   obtain⟨h1,h2⟩:=HS.out (bits .xor .u8 z 165)
   go_roundg (gk - 1)
   case measure=>omega
   case rel=>exact⟨j+1,by omega,rfl,O h1,O h2⟩
  ·go_wp2_with fail
   go_end0
   exact⟨rfl,B.out⟩
end
open Go Go.RowKit
set_option maxHeartbeats 16000000
open List renaming length→O,all_eq_true→Z,setIfInBounds_toArray→V,set_cons_succ→X,set_cons_zero→J,getElem_mem→OB,drop_succ_cons→OC,getElem_map→OG,nil_append→OH,drop_zero→OJ,mem_range→OK
open Go.Lib renaming hid→U
open Nat renaming le_refl→Y,zero_add→OO
open Go.World renaming ownsRow_lit→OA
open Go.Value renaming slice→OD,string→OE,int→OR
open Bool renaming and_eq_true→OF
open Go.Obj renaming cells→OI
open Tryz renaming prog→OL,ntmps230→ON,func230→OP
open Go.Ending renaming returned→OM
open Go.IntKind renaming i64→OQ
theorem xY (s p:List UInt8)(w:World):Calls OL 230 #[OE (bs s),OE (bs p)] w λe w'=>e=OM (.bool (p.isPrefixOf s))/\w=w':=by
 by_cases h:O p<=O s
 ·have B:decide ((O p:Int)<=(O s:Int))=true:=by simp;omega
  have j:=U (nt p s h)
  go_enter OP,ON
  go_wp2_with fail
  go_ret;rw[<-j.out];exact⟨rfl,rfl⟩
 ·have B:decide ((O p:Int)<=(O s:Int))=false:=by simp;omega
  rw[i9 p s h]
  go_enter OP,ON
  go_wp2_with fail
  go_ret;exact⟨rfl,rfl⟩
theorem CU (c:List UInt8)(I:cM c=true)(w:World):Calls OL 229 #[OE (bs c)] w λe w'=>e=OM (.bool true)/\w=w':=by
 simp only[cM,OF,decide_eq_true_eq] at I;obtain⟨⟨G,h2⟩,T⟩:=I;have K:=U G;clear G
 go_enter Tryz.func229,Tryz.ntmps229
 go_wp2_with fail
 go_loopg [3] (O c) (λg i=> λwr=>∃(j:Nat),j+g=O c/\i=OR OQ (j:Int)/\w=wr)
 case atStart=>exact⟨0,by omega,rfl,rfl⟩
 case round=>
  obtain⟨j,hj,rfl,rfl⟩:=hrel
  cases gk with
  |zero=>
   obtain rfl:j=(O c):=by omega
   have D:¬((O c:Int)<(O c:Int)):=(by omega);have M:decide ((1:Int)<=(O c:Int))=true:=(by simp;omega);have N:decide ((O c:Int)<=24)=true:=(by simp;omega);go_wp2_with fail
   go_ret;exact⟨rfl,rfl⟩
  |succ g=>
   have D:((j:Int)<(O c:Int)):=(by omega);have C:j<(O c):=(by omega);have B:=Z.1 K.out c[j] (OB C);simp only[Bool.or_eq_true,beq_iff_eq] at B;rcases B with B|B
   ·have q1:((c[j].toNat:Int) !=48)=false:=by rw[B];rfl
    clear B;go_wp2_with fail
    go_roundg g
    case measure=>omega
    case rel=>exact⟨j+1,by omega,rfl,rfl⟩
   ·have q1:((c[j].toNat:Int) !=48)=true:=by rw[B];rfl
    have q3:((c[j].toNat:Int) !=49)=false:=(by rw[B];rfl);clear B;go_wp2_with fail
    go_roundg g
    case measure=>omega
    case rel=>exact⟨j+1,by omega,rfl,rfl⟩
def oZ (w:World) (b m:Nat) (cs:List (List UInt8)) (ns:List Int):Prop:=∃j B x y,ab w b 241 #[OD j m x,OD B m y]/\Sl w j (cs.map aR)/\Sl w B (ns.map aH)
def Ff (m:Nat) (cs:List (List UInt8)) (ns:List Int) (w:World) (e:Ending) (w':World):Prop:=∃b,e=OM (.tuple #[.pointer (some ⟨b,0,none⟩),OR OQ 0])/\oZ w' b m cs ns/\Below w.heap.size w w'
set_option maxRecDepth 100000 in
theorem sq (A B:Option Addr)(n c d:Nat)(cs:List (List UInt8))(ns:List Int)(w:World)(hA:Sl w A (cs.map aR))(hB:Sl w B (ns.map aH))(hc:O cs=n)(hn:O ns=n)(h1:1<=n)(Kw:n<=300)
  (M:cs.all cM=true) (N:il cs=true):
  Calls OL 189 #[OD A n c,OD B n d] w (Ff n cs ns w):=by
 have HA:=U hA;have HB:=U hB;have Hc:=U hc;have Hn:=U hn;have D:=U M;have gj:=U N;clear hA hB hc hn M N;have e0:((n:Int)==0)=false:=by rw[beq_eq_false_iff_ne];omega
 have e3:decide (300<(n:Int))=false:=by simp;omega
 go_enter Tryz.func189,Tryz.ntmps189
 go_wp2_with fail
 go_loopg [6] n (λg i=> λwr=>∃(j:Nat),j+g=n/\i=OR OQ (j:Int)/\w=wr)
 case atStart=>exact⟨0,by omega,rfl,rfl⟩
 case round=>
  obtain⟨j,hj,rfl,rfl⟩:=hrel
  cases gk with
  |succ g=>
   have T:((j:Int)<(n:Int)):=(by omega);have K3:j<(O cs):=(by rw[Hc.out];omega);obtain⟨ad,rfl,_,K⟩:=HA.out.at_ j (by simpa using K3);rw[OG] at K;unfold aR at K;have Kv:=U (Z.1 D.out cs[j] (OB K3));go_wp2_with (go_at_call 229;refine(CU _ Kv.out _).mono ?_;rintro e w' ⟨rfl,rfl⟩)
   go_roundg g
   case measure=>omega
   case rel=>exact⟨j+1,by omega,rfl,rfl⟩
  |zero=>
   have T:¬((j:Int)<(n:Int)):=(by omega);go_wp2_with fail
   go_loopg [7] n (λg i=> λwr=>∃(j:Nat),j+g=n/\i=OR OQ (j:Int)/\Below w.heap.size w wr)
   case atStart=>exact⟨0,by omega,rfl,Below.refl _ _⟩
   case round=>
    obtain⟨i,hi,rfl,hb⟩:=hrel
    cases gk with
    |succ g1=>
     have T:((i:Int)<(n:Int)):=(by omega);go_wp2_with fail
     go_loopg [8] n (λg k=> λwr=>∃(j:Nat),j+g=n/\k=OR OQ (j:Int)/\Below w.heap.size w wr)
     case atStart=>exact⟨0,by omega,rfl,hb⟩
     case round=>
      obtain⟨k,hk,rfl,hb⟩:=hrel
      cases gk with
      |zero=>
       have T:¬((k:Int)<(n:Int)):=(by omega);go_wp2_with fail
       go_roundg g1
       case measure=>omega
       case rel=>exact⟨i+1,by omega,rfl,hb⟩
      |succ g2=>
       have T:((k:Int)<(n:Int)):=by omega
       by_cases iP:i=k
       ·have e1:((i:Int) !=(k:Int))=false:=by rw[iP];simp
        go_wp2_with fail
        refine dx (λ_=>True) 12 [(0,true),(1,true),(2,true),(3,true),(4,true),(5,true),(6,true),(7,true),(8,true),(9,true),(10,true),(11,true)] (trivial) (λPE I=>?_)
        iterate 4
         refine bh (v:=?_) rfl (by rfl) ?_ ?_
         rotate_left
         ·intro _ av;(try dsimp only at av);go_simp;(try with_reducible rfl)
         simp only[V,J,X]
        iterate 8
         refine iw rfl (by rfl) ?_
         simp only[V,J,X]
        (refine I _ _ ?_;simp only[OC,OJ];clear I PE)
        go_wp2_with fail
        go_roundg g2
        case measure=>omega
        case rel=>exact⟨k+1,by omega,rfl,hb.drew⟩
       ·have e1:((i:Int) !=(k:Int))=true:=by rw[bne_iff_ne];omega
        have cI:i<(O cs):=(by rw[Hc.out];omega);have jg:k<(O cs):=by rw[Hc.out];omega
        have cE:(cs[k]).isPrefixOf cs[i]=false:=by
         have:=Z.1 (Z.1 gj.out i (OK.2 cI)) k (OK.2 jg)
         simpa [iP,List.getD,cI,jg] using this
        have K4:(cs[i]).length<=24:=by
         have:=Z.1 D.out cs[i] (OB cI);simp only[cM,OF,decide_eq_true_eq] at this;omega
        have C:=HA.out.below hb;obtain⟨ad,rG,_,aJ⟩:=C.at_ i (by simpa using cI);obtain⟨Ku,G,_,bM⟩:=C.at_ k (by simpa using jg);obtain rfl:ad=Ku:=by rw[rG] at G;cases G;rfl
        rw[OG] at aJ bM;unfold aR at aJ bM;generalize cs[i]=ci at aJ cE K4;generalize cs[k]=ck at bM cE;have kA:=U (λW=>xY ci ck W);rw[cE] at kA;clear C iP cE;subst rG;clear G;go_wp2_with fail
        refine dx (λw'=>w'.cell? (ad.add i)=some (OE (bs ci))/\w'.cell? (ad.add k)=some (OE (bs ck))) 12 [(0,true),(1,true),(2,true),(3,true),(4,true),(5,true),(6,true),(7,true),(8,true),(9,true),(10,true),(11,true)] (⟨aJ,bM⟩) (λPE I=>?_)
        iterate 12
         refine bh (v:=?_) rfl (by rfl) ?_ ?_
         rotate_left
         ·intro _ av;(try dsimp only at av);obtain⟨Kx,Ky⟩:=av;go_simp;(try with_reducible rfl)
         simp only[V,J,X]
        (refine I _ _ ?_;simp only[OC,OJ];clear I PE)
        go_wp2_with (go_at_call 230;refine(kA.out _).mono ?_;rintro e w' ⟨rfl,rfl⟩)
        go_roundg g2
        case measure=>omega
        case rel=>exact⟨k+1,by omega,rfl,hb.drew⟩
    |zero=>
     have T:¬((i:Int)<(n:Int)):=(by omega);have K5:(wr.alloc (OI #[] 9)).ownsRow wr.heap.size 9 1 (OD (some ⟨wr.heap.size,0,none⟩) 0 0) 0 []:=OA wr #[] 0 (Y _) (by decide) rfl;have kU:=U K5;clear K5;have C:=U ((HA.out.below hb).alloc (OI #[] 9));have K8:=U (HB.out.below hb);have K6:True:=trivial
     go_wp2_with (first
      |(at_builtin;have _t:=K6;refine dA jy rfl rfl rfl kU.out rfl (by simp[Hc.out]) C.out (GA _) (by omega) (by simp) ?_;clear K6;intro v1 w1 dv JT _;rw[OO,OH] at dv;obtain⟨g1,c1,rfl,_,_,_⟩:=jl dv (by omega);have K9:=U dv;clear dv;have Hl:=kC ((Below.refl wr.heap.size wr).alloc (Y _) (OI #[] 9)) kU.out JT (by simp) (Y _);have fJ:=U Hl;clear Hl JT)
      |(at_builtin;refine dA jx rfl rfl rfl (OA w1 #[] 0 (Y _) (by decide) rfl) rfl (by simp[Hn.out]) ((K8.out.below fJ.out).alloc _) (FQ _) (by omega) (by simp) ?_;intro v2 w2 dy K0 _;rw[OO,OH] at dy;obtain⟨g2,c2,rfl,_,_,_⟩:=jl dy (by omega);have Kt:=U dy;clear dy;have eE:(w1.alloc (OI #[] 3)).ownsRow w1.heap.size 3 1 (OD (some ⟨w1.heap.size,0,none⟩) 0 0) 0 []:=OA w1 #[] 0 (Y _) (by decide) rfl;have Hu:=kC ((Below.refl w1.heap.size w1).alloc (Y _) (OI #[] 3)) eE K0 (by simp) (Y _);clear eE;have jY:=U Hu;clear Hu K0))
     go_ret2;have Ht:=fJ.out.trans (jY.out.mono fJ.out.size);have dO:=hb.trans (Ht.mono hb.size);exact⟨_,rfl,⟨_,_,_,_,ab.new w2 _ _,((fG K9.out).below jY.out).alloc _,(fG Kt.out).alloc _⟩,dO.alloc dO.size _⟩
end Go.Proofs.YthhijgcfbjcgiaaGreatDoor
