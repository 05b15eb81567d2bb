/- Ref05, Ref06, Ref07 -/
import Derived.Test.YthhijgcfbjcgiaaGreatDoorQ11
import Derived.Test.YthhijgcfbjcgiaaGreatDoorQ07
import Derived.Test.YthhijgcfbjcgiaaGreatDoorQ02
namespace Go.Proofs.YthhijgcfbjcgiaaGreatDoor
open Go Go.RowKit
set_option maxHeartbeats 16000000
set_option maxRecDepth 100000
open Go.Lib renaming hid→O
open Go.IntKind renaming i64→U,wrap_i64→J,i64→OC
open Go.Value renaming int→Z,bool→OF,slice→OL,tuple→OM
open Tryz renaming prog→V,ntmps170→OD,func170→OE,results78→OH,ntmps132→OI,func132→OJ,ntmps78→OK,func78→OO,ntmps169→OP,func169→OQ
open Go.Ending renaming returned→OA
open Nat renaming le_refl→OB
open Bool renaming false_and→OG
open Go.World renaming ownsRow_nil→ON
open List renaming length→OR
open Go.Obj renaming cells→OS
theorem zP (w:World):Calls V 210 #[] w λe w'=>(∃A,e=OA (OL A 10 10)/\Sl w' A (ay.map aM))/\Below w.heap.size w w':=by
 go_enter Tryz.func210,Tryz.ntmps210
 go_wp2_with fail
 go_ret;exact⟨⟨_,rfl,ab.sl (ab.new w 9 (ay.map aM).toArray) 0⟩,(Below.refl _ _).alloc (OB _) _⟩
def DS (m:Nat) (cs:List (List UInt8)) (ns:List Int) (w:World) (e:Ending) (w':World):Prop:=∃b,e=OA (.pointer (some ⟨b,0,none⟩))/\kB w' b m cs ns/\Below w.heap.size w w'
theorem Df (w:World):Calls V 167 #[] w (DS 10 ay aG w):=by
 go_enter Tryz.func167,Tryz.ntmps167
 go_wp2_with fail
 refine(zP w).mono ?_;rintro e K ⟨⟨X,rfl,hX⟩,B⟩;have I:=O B;have M:=O hX;clear B hX;have MK:=O (λ(Y:Option Addr) (y:Nat) (W:World) (h1:Sl W X (ay.map aM)) (h2:Sl W Y (aG.map aE))=>jC X Y 10 10 y ay aG W h1 h2 rfl rfl (by decide) (by decide) (by kernel_rfl) (by kernel_rfl));have hY:Sl (K.alloc (OS (aG.map aE).toArray 3)) (some ⟨K.heap.size,0,none⟩) (aG.map aE):=ab.sl (ab.new K 3 (aG.map aE).toArray) 0;have N:=O hY;clear hY;have C:=I.out.alloc I.out.size (OS (aG.map aE).toArray 3);have G:=O C;have j:=O (M.out.alloc (OS (aG.map aE).toArray 3));clear M I C;have T:(aG.map aE).toArray= #[Z U 1,Z U 2,Z U 3,Z U 4,Z U 5,Z U 6,Z U 7,Z U 8,Z U 9,Z U 10]:=by kernel_rfl
 rw[T] at N j G;clear T;go_wp2_with fail
 refine(MK.out _ _ _ j.out N.out).mono ?_;rintro e w3 ⟨b,rfl,hT,D⟩;have HT:=O hT;have B3:=O (G.out.trans (D.mono G.out.size));clear hT D G;go_wp2_with fail
 go_ret;exact⟨b,rfl,HT.out,B3.out⟩
theorem vv (A:Option Addr)(n c:Nat)(l:List UInt8)(i:Int)(w:World)(D:Sl w A (l.map af))(K:OR l=n)(hsz:n<=2 ^ 47)(hi: -9223372036854775808<=i/\i<=9223372036854775807):
  Calls V 192 #[OL A n c,Z U i] w λe w'=>e=OA (OM #[Z U (ac ay aG l i).1,Z U (ac ay aG l i).2.1,Z U (ac ay aG l i).2.2])/\Below w.heap.size w w':=by
 have G:=O (λ(b:Nat) (W:World) (h:kB W b 10 ay aG) (D:Sl W A (l.map af))=>kL b A n 10 c ay aG l i W h rfl rfl (by decide) (by kernel_rfl) D K hsz hi);have N:=O D;clear D K;generalize ac ay aG l i=R at G⊢;obtain⟨r1,r2,r3⟩:=R
 go_enter Tryz.func192,Tryz.ntmps192
 go_wp2_with fail
 refine(Df w).mono ?_;rintro e w1 ⟨b,rfl,I,j⟩;have C:=O j;have T:=O I;clear j I;go_wp2_with fail
 refine(G.out b w1 T.out (N.out.below C.out)).mono ?_;rintro e w2 ⟨rfl,B⟩;have M:=O (C.out.trans (B.mono C.out.size));clear B C;go_wp2_with fail
 go_ret3;exact⟨rfl,M.out⟩
def ui (k:Int):List Value:=[OF (pI k),OF (pQ k),OF (pV k),OF (pF k),OF (pC k)]
theorem yj {k:Int}(h:k<1\/10<k):ui k=[OF false,OF false,OF false,OF false,OF false]:=by
 have j:pI k=false:=by unfold pI;simp;omega
 have B:pQ k=false:=by unfold pQ;simp;omega
 have C:pV k=false:=by unfold pV;simp;omega
 have D:pF k=false:=by unfold pF;simp;omega
 have G:pC k=false:=by unfold pC;simp;omega
 unfold ui;rw[j,B,C,D,G]
def nt (k:Int) (w:World) (e:Ending) (w':World):Prop:=e=OA (OM #[.agg (ui k).toArray,Z U (if f9 k then 0 else 18)])/\Below w.heap.size w w'
theorem rM (k:Int)(w:World):Calls V 78 #[Z U k] w (nt k w):=by
 by_cases j:k<1
 ·have q0:decide (k<1)=true:=by simpa using j
  unfold nt;rw[yj (.inl j),show f9 k=false by unfold f9;simp;omega]
  go_enter OO,OK
  go_wp2_with fail
  refine bodyPost_ret (by simp[results,OH,go_sem];try rfl) rfl ?_;exact⟨rfl,(Below.refl _ _).alloc (OB _) _⟩
 by_cases B:10<k
 ·have q0:decide (k<1)=false:=by simpa using j
  have q1:decide (10<k)=true:=(by simpa using B);unfold nt;rw[yj (.inr B),show f9 k=false by unfold f9;simp;omega]
  go_enter OO,OK
  go_wp2_with fail
  refine bodyPost_ret (by simp[results,OH,go_sem];try rfl) rfl ?_;exact⟨rfl,(Below.refl _ _).alloc (OB _) _⟩
 have C:k=1\/k=2\/k=3\/k=4\/k=5\/k=6\/k=7\/k=8\/k=9\/k=10:=by omega
 clear j B;rcases C with rfl|rfl|rfl|rfl|rfl|rfl|rfl|rfl|rfl|rfl
 all_goals
  go_enter OO,OK
  go_wp2_with fail
  refine bodyPost_ret (by simp[results,OH,go_sem];try rfl) rfl ?_
  exact⟨rfl,((Below.refl _ _).alloc (OB _) _).alloc (by simp) _⟩
theorem zQ (w:World):Calls V 171 #[] w λe w'=>(∃A,e=OA (OL A 32 32)/\Sl w' A (ak.map aM))/\Below w.heap.size w w':=by
 go_enter Tryz.func171,Tryz.ntmps171
 go_wp2_with fail
 go_ret;exact⟨⟨_,rfl,ab.sl (ab.new w 9 (ak.map aM).toArray) 0⟩,(Below.refl _ _).alloc (OB _) _⟩
def jL (lo:Int) (j:Nat):List Int:=(List.range j).map λ(k:Nat)=>(k:Int)+lo
theorem ru (lo:Int)(j:Nat):(jL lo (j+1)).map aE=(jL lo j).map aE++[aE ((j:Int)+lo)]:=by simp[jL,List.range_succ]
theorem wC (w:World):Calls V 260 #[] w (DR 32 (ap.map aE) w):=by
 have e1:ap=jL (-16) 32:=by kernel_rfl
 rw[e1];clear e1
 go_enter Tryz.func260,Tryz.ntmps260
 go_wp2_with fail
 go_loopg [1,2] 32 (λg v i=> λwr=>∃(j:Nat),j+g=32/\i=Z U ((j:Int)+ -16)/\wr.ownsRow w.heap.size 3 1 v j ((jL (-16) j).map aE)/\Below w.heap.size w wr)
 case atStart=>exact⟨0,by omega,rfl,ON _ _ _ _,Below.refl _ _⟩
 case round=>
  obtain⟨j,hj,rfl,M,B⟩:=hrel
  cases gk with
  |zero=>
   obtain rfl:j=32:=by omega
   obtain⟨A,c,rfl,hS⟩:=cw M;go_wp2_with fail
   go_ret;exact⟨A,c,rfl,hS,B⟩
  |succ g=>
   have K:(j:Int)+ -16<=15:=(by omega);have hw:OC.wrap ((j:Int)+ -16+1)=(j:Int)+ -16+1:=(by rw[J];omega);have T:=O M;clear M;have aB:=B.size;have HJ:=O hj;obtain⟨d,hd⟩:∃d,(j:Int)+ -16=d:=⟨_,rfl⟩;rw[hd] at K hw⊢;have N:=O hd;clear hd;go_wp2_with (at_builtin;refine cr gt rfl rfl rfl (T.out.alloc _) rfl (m:=1) (news:=[aE d]) rfl (ab.sl (ab.new wr 3 #[aE d]) 0) (by intro u hu;simp[aE] at hu;subst hu;rfl) (by omega) (by simp;omega) ?_;intro v1 w1 D C _;have I:=O D;clear D;have G:=O C;clear C)
   go_roundg g
   case measure=>omega
   case rel=>
    refine⟨j+1,by omega,by have:=N.out;subst this;push_cast;congr 1;omega,?_,eF (B.alloc B.size _) (T.out.alloc _) G.out (by have:=B.size;simp;omega) (OB _)⟩;rw[ru,N.out];exact I.out
theorem ET (A:Option Addr)(n c:Nat)(l:List UInt8)(i:Int)(w:World)(I:Sl w A (l.map af))(hn:OR l=n)(hsz:n<=2 ^ 47)(hi: -9223372036854775808<=i/\i<=9223372036854775807):
  Calls V 231 #[OL A n c,Z U i] w λe w'=>e=OA (OM #[Z U (ac ak ap l i).1,Z U (ac ak ap l i).2.1,Z U (ac ak ap l i).2.2])/\Below w.heap.size w w':=by
 have T:=O (λ(b:Nat) (W:World) (h:kB W b 32 ak ap) (I:Sl W A (l.map af))=>kL b A n 32 c ak ap l i W h rfl rfl (by decide) (by kernel_rfl) I hn hsz hi);have MK:=O (λ(X Y:Option Addr) (y:Nat) (W:World) (h1:Sl W X (ak.map aM)) (h2:Sl W Y (ap.map aE))=>jC X Y 32 32 y ak ap W h1 h2 rfl rfl (by decide) (by decide) (by kernel_rfl) (by kernel_rfl));have HA:=O I;clear I hn;generalize ac ak ap l i=R at T⊢;obtain⟨r1,r2,r3⟩:=R
 go_enter Tryz.func231,Tryz.ntmps231
 go_wp2_with fail
 refine(zQ w).mono ?_;rintro e w1 ⟨⟨X,rfl,hX⟩,B⟩;have K:=O B;have HX:=O hX;clear B hX;go_wp2_with fail
 refine(wC w1).mono ?_;rintro e w2 ⟨Y,y,rfl,hY,j⟩;have N:=O (HX.out.below j);have M:=O (K.out.trans (j.mono K.out.size));have HY:=O hY;clear j hY K;go_wp2_with fail
 refine(MK.out X Y y w2 N.out HY.out).mono ?_;rintro e w3 ⟨b,rfl,hT,C⟩;have G:=O (M.out.trans (C.mono M.out.size));have HT:=O hT;clear C hT M;go_wp2_with fail
 refine(T.out b w3 HT.out (HA.out.below G.out)).mono ?_;rintro e w4 ⟨rfl,D⟩;have B4:=O (G.out.trans (D.mono G.out.size));clear D G;go_wp2_with fail
 go_ret3;exact⟨rfl,B4.out⟩
theorem oC (n:Int)(w:World):Calls V 169 #[Z U n] w λe w'=>e=OA (OF (aK n))/\w=w':=by
 unfold aK
 by_cases B: -15<=n
 ·have j:decide (-15<=n)=true:=by simpa using B
  rw[j,Bool.true_and]
  go_enter OQ,OP
  go_wp2_with fail
  go_ret;exact⟨rfl,rfl⟩
 ·have j:decide (-15<=n)=false:=by simpa using B
  rw[j,OG]
  go_enter OQ,OP
  go_wp2_with fail
  go_ret;exact⟨rfl,rfl⟩
theorem G5 {pr d:Int}(j:aK pr=true)(h2: -16<=d)(B:d<=15):aY pr d=if aK (pr+d) then(pr+d,0) else if aK (pr+if d<0 then d+32 else d - 32) then(pr+(if d<0 then d+32 else d - 32),0) else(0,12):=by
 unfold aY;have C: -15<=pr/\pr<=15:=by unfold aK at j;simpa using j
 rw[j,show decide (d< -16)=false by simp;omega,show decide (15<d)=false by simp;omega,if_neg (by decide)]
 by_cases hd:d<0
 ·rw[if_pos hd]
  have:aK (pr+d - 32)=false:=(by unfold aK;simp;omega);rw[this];simp only[Int.add_assoc];rfl
 ·rw[if_neg hd]
  have:aK (pr+d+32)=false:=(by unfold aK;simp;omega);rw[this,show pr+(d - 32)=pr+d - 32 by omega];rfl
theorem Dg (pr d:Int)(w:World)(D:aK pr=true)(h2: -16<=d)(h3:d<=15):Calls V 170 #[Z U pr,Z U d] w λe w'=>e=OA (OM #[Z U (aY pr d).1,Z U (aY pr d).2])/\w=w':=by
 have hp: -15<=pr/\pr<=15:=by unfold aK at D;simpa using D
 rw[G5 D h2 h3];have q0:decide (d< -16)=false:=by simp;omega
 have q1:decide (15<d)=false:=by simp;omega
 obtain⟨o,K⟩:∃o,(if d<0 then d+32 else d - 32)=o:=⟨_,rfl⟩;rw[K];have N:=oC pr w;rw[D] at N;have B:=O N;have j:=O (oC (pr+d) w);have C:=O (oC (pr+o) w);have w1:OC.wrap (pr+d)=pr+d:=by rw[J];omega
 have w2:OC.wrap (pr+o)=pr+o:=by rw[J];split at K<;>omega
 have w3:OC.wrap (d - 32)=d - 32:=by rw[J];omega
 have w4:OC.wrap (d+32)=d+32:=by rw[J];omega
 clear N D;obtain⟨a,ha⟩:∃a,pr+d=a:=⟨_,rfl⟩;obtain⟨c,hc⟩:∃c,pr+o=c:=⟨_,rfl⟩;rw[ha] at w1 j⊢;rw[hc] at w2 C⊢;obtain⟨p1,G⟩:∃p1,aK a=p1:=⟨_,rfl⟩;obtain⟨M,I⟩:∃M,aK c=M:=⟨_,rfl⟩;rw[G] at j⊢;rw[I] at C⊢;have HO:=O K;clear G I K hp h2 h3
 have T:(d<0/\d+32=o)\/(¬d<0/\d - 32=o):=by
  have:=HO.out
  by_cases hd:d<0
  ·rw[if_pos hd] at this;exact .inl ⟨hd,this⟩
  ·rw[if_neg hd] at this;exact .inr ⟨hd,this⟩
 clear HO;rcases T with⟨hd,rfl⟩|⟨hd,rfl⟩
 ·have q2:decide (d<0)=true:=by simpa using hd
  clear hd
  cases p1 with
  |true=>
   go_enter OE,OD
   go_wp2_with (first|(go_at_call 169;refine B.out.mono ?_;rintro e w' ⟨rfl,rfl⟩;clear B)|(go_at_call 169;refine j.out.mono ?_;rintro e w' ⟨rfl,rfl⟩;clear j))
   go_ret2;exact⟨rfl,rfl⟩
  |false=>
   cases M with
   |true=>
    go_enter OE,OD
    go_wp2_with (first|(go_at_call 169;refine B.out.mono ?_;rintro e w' ⟨rfl,rfl⟩;clear B)|(go_at_call 169;refine j.out.mono ?_;rintro e w' ⟨rfl,rfl⟩;clear j)|(go_at_call 169;refine C.out.mono ?_;rintro e w' ⟨rfl,rfl⟩;clear C))
    go_ret2;exact⟨rfl,rfl⟩
   |false=>
    go_enter OE,OD
    go_wp2_with (first|(go_at_call 169;refine B.out.mono ?_;rintro e w' ⟨rfl,rfl⟩;clear B)|(go_at_call 169;refine j.out.mono ?_;rintro e w' ⟨rfl,rfl⟩;clear j)|(go_at_call 169;refine C.out.mono ?_;rintro e w' ⟨rfl,rfl⟩;clear C))
    go_ret2;exact⟨rfl,rfl⟩
 ·have q2:decide (d<0)=false:=by simpa using hd
  clear hd
  cases p1 with
  |true=>
   go_enter OE,OD
   go_wp2_with (first|(go_at_call 169;refine B.out.mono ?_;rintro e w' ⟨rfl,rfl⟩;clear B)|(go_at_call 169;refine j.out.mono ?_;rintro e w' ⟨rfl,rfl⟩;clear j))
   go_ret2;exact⟨rfl,rfl⟩
  |false=>
   cases M with
   |true=>
    go_enter OE,OD
    go_wp2_with (first|(go_at_call 169;refine B.out.mono ?_;rintro e w' ⟨rfl,rfl⟩;clear B)|(go_at_call 169;refine j.out.mono ?_;rintro e w' ⟨rfl,rfl⟩;clear j)|(go_at_call 169;refine C.out.mono ?_;rintro e w' ⟨rfl,rfl⟩;clear C))
    go_ret2;exact⟨rfl,rfl⟩
   |false=>
    go_enter OE,OD
    go_wp2_with (first|(go_at_call 169;refine B.out.mono ?_;rintro e w' ⟨rfl,rfl⟩;clear B)|(go_at_call 169;refine j.out.mono ?_;rintro e w' ⟨rfl,rfl⟩;clear j)|(go_at_call 169;refine C.out.mono ?_;rintro e w' ⟨rfl,rfl⟩;clear C))
    go_ret2;exact⟨rfl,rfl⟩
theorem wB (ad d:Int)(had:Bool)(x y:Int)(w:World):Calls V 118 #[Z U ad,Z U d,OF had,Z U x,Z U y] w λe w'=>e=OA (OM #[Z U (cH ad d had x y).1,Z U (cH ad d had x y).2])/\w=w':=by
 unfold cH Cw;obtain⟨a,j⟩:∃a,(ad==1)=a:=⟨_,rfl⟩;obtain⟨b,B⟩:∃b,(ad==12)=b:=⟨_,rfl⟩;obtain⟨c,C⟩:∃c,(ad==23)=c:=⟨_,rfl⟩;obtain⟨e,he⟩:∃e,(d !=1)=e:=⟨_,rfl⟩;rw[j,B,C,he]
 cases a<;>cases b<;>cases c<;>cases e<;>cases had<;>(go_enter Tryz.func118,Tryz.ntmps118;go_wp2_with fail;go_ret2;exact⟨rfl,rfl⟩)
theorem zS (w:World):Calls V 211 #[] w λe w'=>(∃A,e=OA (OL A 63 63)/\Sl w' A (bo.map aM))/\Below w.heap.size w w':=by
 go_enter Tryz.func211,Tryz.ntmps211
 go_wp2_with fail
 go_ret;exact⟨⟨_,rfl,ab.sl (ab.new w 9 (bo.map aM).toArray) 0⟩,(Below.refl _ _).alloc (OB _) _⟩
theorem Dh (w:World):Calls V 172 #[] w (DS 63 bo bN w):=by
 have e1:jL 1 63=bN:=by kernel_rfl
 have E1:=O e1;have MK:=O (λ(X Y:Option Addr) (y:Nat) (W:World) (h1:Sl W X (bo.map aM)) (h2:Sl W Y (bN.map aE))=>jC X Y 63 63 y bo bN W h1 h2 rfl rfl (by decide) (by decide) (by kernel_rfl) (by kernel_rfl));clear e1
 go_enter Tryz.func172,Tryz.ntmps172
 go_wp2_with fail
 go_loopg [1,2] 63 (λg v i=> λwr=>∃(j:Nat),j+g=63/\i=Z U ((j:Int)+1)/\wr.ownsRow w.heap.size 3 1 v j ((jL 1 j).map aE)/\Below w.heap.size w wr)
 case atStart=>exact⟨0,by omega,rfl,ON _ _ _ _,Below.refl _ _⟩
 case round=>
  obtain⟨j,hj,rfl,I,C⟩:=hrel
  cases gk with
  |zero=>
   obtain rfl:j=63:=by omega
   rw[E1.out] at I;obtain⟨Y,y,rfl,hS⟩:=cw I;have HY:=O hS;have M:=O C;clear I hS C;go_wp2_with fail
   refine(zS wr).mono ?_;rintro e w2 ⟨⟨X,rfl,hX⟩,B⟩;have T:=O (HY.out.below B);have HX:=O hX;have N:=O (M.out.trans (B.mono M.out.size));clear B hX M;go_wp2_with fail
   refine(MK.out X Y y w2 HX.out T.out).mono ?_;rintro e w3 ⟨b,rfl,hT,D⟩;have B3:=O (N.out.trans (D.mono N.out.size));have HT:=O hT;clear D hT N;go_wp2_with fail
   go_ret;exact⟨b,rfl,HT.out,B3.out⟩
  |succ g=>
   have bE:(j:Int)+1<=63:=(by omega);have hw:OC.wrap ((j:Int)+1+1)=(j:Int)+1+1:=(by rw[J];omega);have Ho:=O I;clear I;have cz:=C.size;have HJ:=O hj;obtain⟨d,hd⟩:∃d,(j:Int)+1=d:=⟨_,rfl⟩;rw[hd] at bE hw⊢;have HD:=O hd;clear hd;go_wp2_with (at_builtin;refine cr gt rfl rfl rfl (Ho.out.alloc _) rfl (m:=1) (news:=[aE d]) rfl (ab.sl (ab.new wr 3 #[aE d]) 0) (by intro u hu;simp[aE] at hu;subst hu;rfl) (by omega) (by simp;omega) ?_;intro v1 w1 K G _;have aC:=O K;clear K;have aB:=O G;clear G)
   go_roundg g
   case measure=>omega
   case rel=>
    refine⟨j+1,by omega,by have:=HD.out;subst this;push_cast;rfl,?_,eF (C.alloc C.size _) (Ho.out.alloc _) aB.out (by have:=C.size;simp;omega) (OB _)⟩;rw[ru,HD.out];exact aC.out
theorem EU (A:Option Addr)(n c:Nat)(l:List UInt8)(i:Int)(w:World)(D:Sl w A (l.map af))(K:OR l=n)(hsz:n<=2 ^ 47)(hi: -9223372036854775808<=i/\i<=9223372036854775807):
  Calls V 194 #[OL A n c,Z U i] w λe w'=>e=OA (OM #[Z U (ac bo bN l i).1,Z U (ac bo bN l i).2.1,Z U (ac bo bN l i).2.2])/\Below w.heap.size w w':=by
 have G:=O (λ(b:Nat) (W:World) (h:kB W b 63 bo bN) (D:Sl W A (l.map af))=>kL b A n 63 c bo bN l i W h rfl rfl (by decide) (by kernel_rfl) D K hsz hi);have N:=O D;clear D K;generalize ac bo bN l i=R at G⊢;obtain⟨r1,r2,r3⟩:=R
 go_enter Tryz.func194,Tryz.ntmps194
 go_wp2_with fail
 refine(Dh w).mono ?_;rintro e w1 ⟨b,rfl,I,j⟩;have C:=O j;have T:=O I;clear j I;go_wp2_with fail
 refine(G.out b w1 T.out (N.out.below C.out)).mono ?_;rintro e w2 ⟨rfl,B⟩;have M:=O (C.out.trans (B.mono C.out.size));clear B C;go_wp2_with fail
 go_ret3;exact⟨rfl,M.out⟩
def og (p:Int) (i:Nat):Bool:=decide (1<=p)&&decide (p<=63)&&(p / (2:Int) ^ (6 - i) % 2==1)
theorem EV (p:Int)(i:Nat)(I:1<=i)(K:i<=6)(w:World):Calls V 132 #[Z U p,Z U (i:Int)] w λe w'=>e=OA (OF (og p i))/\w=w':=by
 unfold og
 by_cases C:1<=p
 ·have j:decide (1<=p)=true:=by simpa using C
  rw[j]
  by_cases D:p<=63
  ·have B:decide (p<=63)=true:=by simpa using D
   rw[B];have G:i=1\/i=2\/i=3\/i=4\/i=5\/i=6:=(by omega);rcases G with rfl|rfl|rfl|rfl|rfl|rfl
   all_goals
    go_enter OJ,OI
    go_wp2_with fail
    go_ret
    first|exact⟨rfl,rfl⟩|exact⟨by simp,rfl⟩
  ·have B:decide (p<=63)=false:=by simpa using D
   rw[B]
   go_enter OJ,OI
   go_wp2_with fail
   go_ret;exact⟨rfl,rfl⟩
 ·have j:decide (1<=p)=false:=by simpa using C
  rw[j]
  go_enter OJ,OI
  go_wp2_with fail
  go_ret;exact⟨rfl,rfl⟩
def fH (p:Int):Nat->Nat
 |0=>0
 |j+1=>fH p j+(if og p (j+1) then 1 else 0)
theorem xE (p:Int):fH p 6=bO p:=by
 unfold bO
 by_cases h:1<=p/\p<=63
 ·rw[if_pos h]
  obtain⟨k,rfl⟩:=Int.eq_ofNat_of_zero_le (by omega:0<=p);have C:decide ((1:Int)<=(k:Int))=true:=(by simpa using h.1);have D:decide ((k:Int)<=63)=true:=by simpa using h.2
  have j:∀i m:Nat,(2:Int) ^ (6 - i)=(m:Int)->(if og (k:Int) i then 1 else 0)=k / m % 2:= λi m G=>by
   unfold og;rw[C,D,G]
   by_cases B:((k:Int) / (m:Int) % 2==1)=true
   ·rw[B,if_pos (by decide)]
    have:(k:Int) / (m:Int) % 2=1:=(by simpa using B);have:k / m % 2=1:=(by exact_mod_cast this);omega
   ·rw[Bool.not_eq_true] at B
    rw[B,if_neg (by decide)];have:¬(k:Int) / (m:Int) % 2=1:=(by simpa using B);have:¬k / m % 2=1:= λh=>this (by exact_mod_cast h);omega
  unfold fH fH fH fH fH fH fH;rw[j 1 32 rfl,j 2 16 rfl,j 3 8 rfl,j 4 4 rfl,j 5 2 rfl,j 6 1 rfl,Int.toNat_natCast,Nat.div_one];omega
 ·rw[if_neg h]
  have j:∀i,og p i=false:= λi=>by
   unfold og
   by_cases I:1<=p
   ·rw[show decide (p<=63)=false by simp;omega,Bool.and_false,OG]
   ·rw[show decide (1<=p)=false by simp;omega,OG,OG]
  unfold fH fH fH fH fH fH fH;simp[j]
theorem tY (p:Int):∀j,fH p j<=j
 |0=>OB _
 |j+1=>by unfold fH;have:=tY p j;split<;>omega
theorem zR (p:Int)(w:World):Calls V 80 #[Z U p] w λe w'=>e=OA (Z U (bO p:Nat))/\w=w':=by
 go_enter Tryz.func80,Tryz.ntmps80
 go_wp2_with fail
 go_loopg [3,4] 6 (λg t s=> λwx=>∃(q:Nat),q+g=6/\t=Z U (fH p q:Nat)/\s=Z U ((q:Int)+1)/\w=wx)
 case atStart=>exact⟨0,by omega,rfl,rfl,rfl⟩
 case round=>
  obtain⟨q,N,rfl,rfl,rfl⟩:=hrel;have j:=tY p q;have T:OC.wrap ((q:Int)+1+1)=(q:Int)+1+1:=by rw[J];omega
  cases gk with
  |zero=>
   obtain rfl:q=6:=by omega
   rw[xE];go_wp2_with fail
   go_ret;exact⟨rfl,rfl⟩
  |succ g=>
   have G:(q:Int)+1<=6:=(by omega);have B:=O (show fH p (q+1)=fH p q+(if og p (q+1) then 1 else 0) from rfl);have C:=O (EV p (q+1) (by omega) (by omega) w);rw[Int.natCast_add,Int.natCast_one] at C;have I:=O N;have D:=O (show ((q+1:Nat):Int)+1=(q:Int)+1+1 by omega);obtain⟨d,hd⟩:∃d,(q:Int)+1=d:=⟨_,rfl⟩;rw[hd] at G T C D⊢;obtain⟨z,M⟩:∃z,fH p q=z:=⟨_,rfl⟩;rw[M] at j B⊢;have aB:OC.wrap ((z:Int)+1)=(z:Int)+1:=(by rw[J];omega);clear hd M;obtain⟨b,K⟩:∃b,og p (q+1)=b:=⟨_,rfl⟩;rw[K] at C B;clear K j
   cases b with
   |true=>
    go_wp2_with (go_at_call 132;refine C.out.mono ?_;rintro e w' ⟨rfl,rfl⟩;clear C)
    go_roundg g
    case measure=>omega
    case rel=>exact⟨q+1,by have:=I.out;omega,by rw[B.out];rfl,by rw[D.out],rfl⟩
   |false=>
    go_wp2_with (go_at_call 132;refine C.out.mono ?_;rintro e w' ⟨rfl,rfl⟩;clear C)
    go_roundg g
    case measure=>omega
    case rel=>exact⟨q+1,by have:=I.out;omega,by rw[B.out];rfl,by rw[D.out],rfl⟩
end Go.Proofs.YthhijgcfbjcgiaaGreatDoor
