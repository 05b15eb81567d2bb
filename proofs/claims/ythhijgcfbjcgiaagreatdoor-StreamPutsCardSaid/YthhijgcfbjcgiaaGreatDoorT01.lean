/- Base, Fmt2, Bits, Pre03, Trie, Codes, PenP -/
import Derived.Test.YthhijgcfbjcgiaaGreatDoorChecked
import Derived.WalkKit
import Derived.Lib.Hide
import Derived.BigQuiet
namespace Go.Proofs.YthhijgcfbjcgiaaGreatDoor
open Go Go.RowKit
set_option maxHeartbeats 16000000
open List renaming length→O,range→OC,all_eq_true→OE,getElem?_eq_none→OF,any_cons→OH,isPrefixOf_iff_prefix→OI,isPrefixOf_cons_cons→OK,find?_cons→OP,map_congr_left→OT,map_map→OU,zip_cons_cons→OV,range_succ→Od,map_cons→Og,getD→Ol
open Go.Value renaming int→U,slice→OG,string→OL,tuple→Oh,bool→Oj
open Go.IntKind renaming i64→Z,i64→OY,wrap_i64→Ob,u64→Oi
open Tryz renaming prog→V,ntmps56→OX,func56→OZ
open Go.Ending renaming returned→Y
open Nat renaming pow_le_pow_right→X,lt_of_lt_of_le→OB,lt_or_ge→OM,mod_eq_of_lt→ON,pow_succ→OO,two_pow_pos→OQ,le_refl→OR,le_div_iff_mul_le→OS,one_le_two_pow→OW,div_le_self→Oe
open Bool renaming and_eq_true→J,false_or→Of
open Go.Lib renaming hid→OA
open Int renaming eq_ofNat_of_zero_le→OD,toNat_natCast→OJ,emod_nonneg→Oc
open Go.World renaming cell?→Oa
open Go.Obj renaming cells→Om
theorem zv (x:Int)(m:Nat)(C:m<=64):(BitVec.ofInt 64 x).toNat % 2 ^ m=(x % (2 ^ m:Nat)).toNat:=by
 rw[BitVec.toNat_ofInt]
 have B:((2:Int)^m) ∣ ((2 ^ 64:Nat):Int):=by
  have:(2:Nat)^m ∣ 2^64:=Nat.pow_dvd_pow 2 C
  exact_mod_cast this
 have h2:(0:Int)<=x % ((2 ^ 64:Nat):Int):=Oc _ (by decide)
 have e:(((x % ((2 ^ 64:Nat):Int)).toNat % 2 ^ m:Nat):Int)=x % (2 ^ m:Nat):=by
  rw[Int.natCast_emod,Int.toNat_of_nonneg h2];have j:(((2 ^ m:Nat)):Int) ∣ ((2 ^ 64:Nat):Int):=(by exact_mod_cast B);exact Int.emod_emod_of_dvd x j
 omega
theorem qH (x:Int)(m:Nat)(C:m<=62)(c:Int)(B:c=2 ^ m - 1):bits .and Z x c=x % (2 ^ m:Nat):=by
 have I:(2:Nat)^m<=2^62:=X (by decide) C;have j:1<=(2:Nat)^m:=OW
 have ht:(BitVec.ofInt 64 c).toNat=2 ^ m - 1:=by
  have e:c=((2 ^ m - 1:Nat):Int):=by
   rw[B,Int.ofNat_sub j];push_cast;rfl
  rw[e,BitVec.ofInt_natCast,BitVec.toNat_ofNat];exact ON (by omega)
 show OY.wrap ((BitVec.ofInt 64 x&&& BitVec.ofInt 64 c).toNat:Int)=_;rw[BitVec.toNat_and,ht,Nat.and_two_pow_sub_one_eq_mod,zv x m (by omega)];have D:0<=x % ((2 ^ m:Nat):Int):=Oc _ (by omega);have G:x % ((2 ^ m:Nat):Int)<((2 ^ m:Nat):Int):=Int.emod_lt_of_pos _ (by omega);rw[Ob];omega
@[go_sem] theorem J6 (x:Int):bits .and Z x 1=x % 2:=qH x 1 (by decide) 1 rfl
@[go_sem] theorem J7 (x:Int):bits .and Z x 7=x % 8:=qH x 3 (by decide) 7 rfl
theorem BZ (x b:Nat)(C:x<2 ^ 62)(B:b<2):bits .or Z ((x:Int)*2) b=((2*x+b:Nat):Int):=by
 show OY.wrap ((BitVec.ofInt 64 ((x:Int)*2)|||BitVec.ofInt 64 (b:Int)).toNat:Int)=_;have j:((x:Int)*2)=((2*x:Nat):Int):=by simp;omega
 rw[j,BitVec.toNat_or,BitVec.ofInt_natCast,BitVec.ofInt_natCast,BitVec.toNat_ofNat,BitVec.toNat_ofNat,ON (by omega),ON (by omega),Ob];rw[nat_join 1 (2*x) b (by omega) (by omega)];omega
theorem dh (a:Addr)(n:Nat):(a.add n).block=a.block:=by unfold Addr.add;split<;>rfl
theorem ij (a:Addr)(i j:Nat):(a.add i).add j=a.add (i+j):=by
 unfold Addr.add
 by_cases B:i=0<;>by_cases C:j=0<;>simp[B,C,Nat.add_assoc]
def Sl (w:World) (A:Option Addr) (xs:List Value):Prop:=∀(k:Nat)(v:Value),xs[k]? =some v->∃ad,A=some ad/\ad.block<w.heap.size/\w.cell? (ad.add k)=some v
theorem Sl.nil (w:World)(A:Option Addr):Sl w A []:= λk v h=>by simp at h
theorem Sl.at_ {w:World}{A:Option Addr}{xs:List Value}(h:Sl w A xs)(k:Nat)(j:k<O xs):∃ad,A=some ad/\ad.block<w.heap.size/\w.cell? (ad.add k)=some xs[k]:=h k _ (by simp[j])
theorem Sl.below {w w':World}{A:Option Addr}{xs:List Value}(h:Sl w A xs)(j:Below w.heap.size w w'):Sl w' A xs:= λk v C=>by
 obtain⟨ad,rfl,hl,B⟩:=h k v C;exact⟨ad,rfl,OB hl j.size,(j.cell (by rw[dh];exact hl)).trans B⟩
theorem Sl.alloc {w:World}{A:Option Addr}{xs:List Value}(h:Sl w A xs)(o:Obj):Sl (w.alloc o) A xs:=h.below ((Below.refl _ _).alloc (OR _) _)
theorem Sl.drew {w:World}{A:Option Addr}{xs:List Value}(h:Sl w A xs):Sl w.drew A xs:=h.below (Below.refl _ _).drew
theorem Sl.drop {w:World}{A:Option Addr}{xs:List Value}(h:Sl w A xs)(k:Nat):Sl w (A.map (·.add k)) (xs.drop k):= λj v B=>by
 rw[List.getElem?_drop] at B;obtain⟨ad,rfl,hl,C⟩:=h _ _ B;exact⟨ad.add k,rfl,by rw[dh];exact hl,by rw[ij];exact C⟩
theorem Sl.take {w:World}{A:Option Addr}{xs:List Value}(h:Sl w A xs)(k:Nat):Sl w A (xs.take k):= λj v B=>by
 rw[List.getElem?_take] at B
 split at B
 ·exact h _ _ B
 ·cases B
def ag (b:UInt8):Value:=U .u8 b.toNat
def aH (n:Int):Value:=U Z n
theorem Sl.byte {w:World}{A:Option Addr}{l:List UInt8}(h:Sl w A (l.map ag))(k:Nat)(j:k<O l):∃ad,A=some ad/\ad.block<w.heap.size/\w.cell? (ad.add k)=some (U .u8 l[k].toNat):=
 h k _ (by simp[j,ag])
theorem Sl.int {w:World}{A:Option Addr}{l:List Int}(h:Sl w A (l.map aH))(k:Nat)(j:k<O l):∃ad,A=some ad/\ad.block<w.heap.size/\w.cell? (ad.add k)=some (U Z l[k]):=
 h k _ (by simp[j,aH])
def ab (w:World) (g:Nat) (t:TypeId) (cs:Array Value):Prop:=w.heap[g]? =some (Om cs t (0,0))
section
variable {w w':World} {g:Nat} {t:TypeId} {cs:Array Value}
theorem ab.lt (h:ab w g t cs):g<w.heap.size:=by
 rcases OM g w.heap.size with B|j
 ·exact B
 ·unfold ab at h;rw[Array.getElem?_eq_none j] at h;cases h
theorem ab.cell (h:ab w g t cs)(i:Nat):w.cell? ⟨g,i,none⟩=cs[i]? :=by unfold ab at h;simp[Oa,h]
theorem ab.frozen (h:ab w g t cs)(i:Nat):w.frozen? ⟨g,i,none⟩=false:=by unfold ab at h;simp[World.frozen?,h]
theorem ab.new (w:World)(t:TypeId)(cs:Array Value):ab (w.alloc (Om cs t)) w.heap.size t cs:=heap_alloc_new w _
theorem ab.drewN (h:ab w g t cs)(n:Nat):ab (w.drewN n) g t cs:=h
theorem ab.alloc (h:ab w g t cs)(o:Obj):ab (w.alloc o) g t cs:=(Below.heap_alloc w o g h.lt).trans h
theorem ab.set_ (h:ab w g t cs)(i:Nat)(u:Value):ab (w.setCell ⟨g,i,none⟩ u) g t (cs.setIfInBounds i u):=by
 unfold ab at h⊢;simp[World.setCell,Array.getElem?_modify,h]
theorem ab.far (h:ab w g t cs){p:Addr}(j:g≠p.block)(u:Value):ab (w.setCell p u) g t cs:=(Below.heap_setCell w p u g j).trans h
theorem ab.below {B:Nat}(h:ab w g t cs)(j:Below B w w')(C:g<B):ab w' g t cs:=(j.block g C).trans h
theorem ab.sl (h:ab w g t cs)(k:Nat):Sl w (some ⟨g,k,none⟩) (cs.toList.drop k):= λj v B=>by
 refine⟨_,rfl,h.lt,?_⟩;have e:(⟨g,k,none⟩:Addr).add j=⟨g,k+j,none⟩:=by unfold Addr.add;split<;>simp_all
 rw[e,h.cell]
 simpa using B
end
def bs (l:List UInt8):ByteArray:=⟨l.toArray⟩
theorem ba {w:World}{g:Nat}{t:TypeId}{cs:Array Value}{base:Nat}{e:TypeId}{size n:Nat}{v:Value}{xs:List Value}(h:w.ownsRow base e size v n xs)(j:ab w g t cs)(B:e≠t):v.ownBlock≠some g:=by
 rcases h.2 with⟨rfl,_⟩|⟨g',C,D,rfl,_,G,_⟩
 ·simp[Value.ownBlock]
 ·intro he
  have:g'=g:=(by simpa [Value.ownBlock] using he);subst this;unfold ab at j;rw[G] at j;injection j with j;injection j with _ ht;exact B ht
theorem ab.grown {w w':World}{g:Nat}{t:TypeId}{cs:Array Value}{row:Option Nat}(h:ab w g t cs)(j:w.grownBy w' row)(B:row≠some g):ab w' g t cs:=(j.block g h.lt (λe=>B e.symm)).trans h
theorem cO {w:World}{base:Nat}{e:TypeId}{n:Nat}{v:Value}{xs:List Value}(h:w.ownsRow base e 1 v n xs):∃A c,v=OG A n c/\Sl w A xs:=by
 rcases h.2 with⟨rfl,rfl⟩|⟨g,B,j,rfl,D,G,I,h2,K,C⟩
 ·have:xs=[]:=List.eq_nil_of_length_eq_zero (by simpa using h.1)
  subst this;exact⟨none,0,rfl,Sl.nil _ _⟩
 ·refine⟨_,_,rfl,?_⟩
  have:=(ab.sl (w:=w) (g:=g) (t:=e) (cs:=j) G 0).take (n*1);rw[List.drop_zero,C] at this;exact this
theorem bL {w w':World}{base:Nat}{e:TypeId}{size n B:Nat}{v:Value}{xs:List Value}(h:w.ownsRow base e size v n xs)(N:Below B w w')(T:w.heap.size<=B):w'.ownsRow base e size v n xs:=by
 refine⟨h.1,?_⟩;rcases h.2 with h2|⟨g,j,C,rfl,D,I,M⟩
 ·exact .inl h2
 ·have hl:g<w.heap.size:=by
   rcases OM g w.heap.size with K|G
   ·exact K
   ·rw[Array.getElem?_eq_none G] at I;cases I
  exact .inr ⟨g,j,C,rfl,D,(N.block g (by omega)).trans I,M⟩
theorem JF {w w':World}(h:Below w.drew.heap.size w.drew w'):Below w.heap.size w w':=⟨h.os,h.tape,h.output,h.size,h.block⟩
theorem ek {w:World}{base:Nat}{e:TypeId}{size n:Nat}{v:Value}{xs:List Value}(h:w.ownsRow base e size v n xs)(p:Addr)(u:Value)(D:v.ownBlock≠some p.block):(w.setCell p u).ownsRow base e size v n xs:=by
 refine⟨h.1,?_⟩;rcases h.2 with h2|⟨g,j,B,rfl,C,I,G⟩
 ·exact .inl h2
 ·exact .inr ⟨g,j,B,rfl,C,(Below.heap_setCell w p u g (λe=>D (by simp[Value.ownBlock,e]))).trans I,G⟩
theorem JU (w:World)(x:Value)(t:TypeId):∀j u,([x]:List Value)[j]? =some u->(w.alloc (Om #[x] t)).cell? ((⟨w.heap.size,0,none⟩:Addr).add j)=some u:=by
 intro j u B
 have C:j=0:=by
  rcases j with _|j
  ·rfl
  ·simp at B
 subst C;simp at B;subst B;rw[show (⟨w.heap.size,0,none⟩:Addr).add 0=⟨w.heap.size,0,none⟩ from rfl,(ab.new w t #[x]).cell];rfl
theorem g8 {P:Program}{w:World}{A:Option Addr}{l:List UInt8}(B dst e:TypeId)(D:P.underlying B=some (.slice e))(he:P.underlying e=some (.int .u8))(hd:P.underlying dst=some .string)
  (h:Sl w A (l.map ag)) (n c:Nat) (N:O l=n):(convert B dst (OG A n c)).run P w= .ok (OL (bs l)) w:=by
 unfold bs;subst N
 cases l with
 |nil=>
  rw[run_convert_bytes_string w B dst e _ _ c D he hd]
  cases A with
  |none=>simp[Conv.bytesToString];rfl
  |some a=>
   have K:(loadCells a 0).run P w= .ok (([]:List Int).map (Value.int .u8)).toArray w:=by
    have:=run_loadCells_list (P:=P) w a [] (λj v C=>by simp at C)
    simpa using this
   exact run_bytesToString w a 0 c [] K
 |cons x l=>
  obtain⟨ad,rfl,_,_⟩:=h.byte 0 (by simp)
  have hl:(loadCells ad (x::l).length).run P w= .ok (((x::l).map λb=>(b.toNat:Int)).map (Value.int .u8)).toArray w:=by
   have:=run_loadCells_list (P:=P) w ad (((x::l).map λb=>(b.toNat:Int)).map (Value.int .u8)) (λj v C=>by
    obtain⟨G,I,_,M⟩:=h j v (by rw[<-C,OU];rfl)
    cases I;exact M)
   simpa using this
  rw[run_convert_bytes_string w B dst e _ _ c D he hd,run_bytesToString w _ _ c _ hl];congr 2;rw[foldl_push_bytes];apply ByteArray.ext;apply Array.ext';simp[ByteArray.empty,ByteArray.emptyWithCapacity,OU,Function.comp_def];rfl
theorem yh {P:Program}(t e n s:Nat)(a:Addr)(ht:P.underlying t=some (.array n e))(C:(P.info? e).map (·.size)=some s)(l:Int)(k:Nat)(hl:l=k)(D:k<n)(W:World):
  (Instr.sliceAt t (.pointer (some a)) (some (U Z l)) none none).run P W= .ok (OG (some (a.add (k*s))) (n - k) (n - k)) W:=by
 subst hl;have he:P.elem t=e:=by simp[Program.elem,ht]
 have j:P.arrayLen t=n:=by simp[Program.arrayLen,ht]
 obtain⟨i,B,hsz⟩:=Option.map_eq_some_iff.1 C;rw[run_sliceAt_array_l W t a (by rw[he,j];exact ht) Z k (by omega) (by rw[j];omega),he,j];simp[sizeOf,typeInfo,B,slicedAt,hsz];intro h;omega
theorem Ds {P:Program}{C:Array Oper}{Q:Exit->Act->World->Prop}{j:List Oper}{o:Oper}{a:Act}{w w':World}{v:Value}(D:o.guard=none)
  (B:(execOp a.eval o).run P w= .ok (.value v) w') (h:wpList P C Q j (a.put o.dst v) w'):wpList P C Q (o::j) a w:=
 wpList_plain D λ_ G=>by unfold Oper.wp;rw[B];exact G _ _ h
@[go_sem] theorem iJ (l:List UInt8):(bs l).size=(O l):=by simp[bs,ByteArray.size]
@[go_sem] theorem Kp (l:List UInt8):(bs l).toList=l:=by rw[ByteArray.toList_eq];simp[bs]
@[go_sem] theorem Je (l:List UInt8)(j:Nat)(h:j<(bs l).size):(bs l)[j]=l[j]'(by rwa [iJ] at h):=by simp[bs,ByteArray.getElem_eq_getElem_data]
@[go_sem] theorem JK (l:List UInt8)(a b:Nat):(bs l).extract a b=bs ((l.take b).drop a):=by
 apply ByteArray.ext;rw[ByteArray.data_extract];apply Array.ext';simp[bs,List.drop_take]
@[go_sem] theorem Kd:bs []=⟨#[]⟩:=rfl
theorem eH (l:List UInt8):(bs l).data.toList=l:=by simp[bs]
@[go_sem] theorem ug (l k:List UInt8):bs l++bs k=bs (l++k):=by
 apply ByteArray.ext;simp[bs,ByteArray.data_append]
@[go_sem] theorem J4:Utf8.encode 48=bs [48]:=by decide
@[go_sem] theorem J5:Utf8.encode 49=bs [49]:=by decide
theorem Bm {l k:List UInt8}(h:l=k):Ending.returned (OL (bs l))=Y (OL (bs k)):=by rw[h]
theorem E8 (x:Nat)(j:x<18446744073709551616):bits .and .u64 (x:Int) 1=((x % 2:Nat):Int):=by
 have:=u64_and_nat x 1 j (by decide);rw[Nat.and_one_is_mod] at this;exact this
def l6 (n j:Nat):UInt8:=if n / 2 ^ j % 2=0 then 48 else 49
def jV (n:Nat):Nat->List UInt8
 |0=>[]
 |j+1=>l6 n j::jV n j
theorem qz (n j:Nat):(jV n j).length=j:=by induction j with|zero=>rfl|succ j ih=>simp[jV,ih]
def Tz (w:World):Prop:=w.cell? ⟨7,1,none⟩=some (U .u8 1)
theorem Tz.belowB {w w':World}{B:Nat}(h:Tz w)(C:Below B w w')(j:7<B):Tz w':=(C.cell (p:=⟨7,1,none⟩) j).trans h
theorem Tz.lt {w:World}(h:Tz w):7<w.heap.size:=by
 unfold Tz at h;rcases OM 7 w.heap.size with B|j
 ·exact B
 ·simp[Oa,Array.getElem?_eq_none j] at h
theorem Tz.below {w w':World}(h:Tz w)(C:Below w.heap.size w w'):Tz w':=by
 unfold Tz at*
 have hl:7<w.heap.size:=by
  rcases OM 7 w.heap.size with B|j
  ·exact B
  ·simp[Oa,Array.getElem?_eq_none j] at h
 rw[<-h];exact C.cell (p:=⟨7,1,none⟩) hl
theorem Ki (w:World)(h:Tz w):Calls V 291 #[U .u64 2] w λe w'=>e=Y (U Z 1)/\w=w':=by
 unfold Tz at h;have j:bits BinOp.and Oi 2 (Oi.wrap (-2))=2:=by decide+kernel
 go_enter Tryz.func291,Tryz.ntmps291
 go_wp2
 go_ret;exact⟨rfl,rfl⟩
theorem Ke (w:World):Calls V 281 #[U Z 2] w λe w'=>e=Y (Oj true)/\w=w':=by
 have h:bits BinOp.and OY 2 1=0:=by decide+kernel
 go_enter Tryz.func281,Tryz.ntmps281
 go_wp2
 go_ret;exact⟨rfl,rfl⟩
theorem tz (w:World)(h:Tz w):Calls V 282 #[U .u64 2] w λe w'=>e=Y (U Z 1)/\w=w':=by
 have j:=OA h;clear h
 go_enter Tryz.func282,Tryz.ntmps282
 go_wp2_with (go_at_call 291;refine(Ki _ j.out).mono ?_;rintro e w' ⟨rfl,rfl⟩)
 go_ret;exact⟨rfl,rfl⟩
theorem Cs (n k j:Nat)(C:2 ^ k<=n)(B:j<k):2<=n / 2 ^ j:=by
 rw[OS (OQ j)];have:2 ^ (j+1)<=2 ^ k:=X (by decide) B;rw[OO] at this;omega
theorem zz (n k:Nat)(C:2 ^ k<=n)(j:n<2 ^ (k+1)):n / 2 ^ k=1:=by
 have B:1<=n / 2 ^ k:=by rw[OS (OQ k)];omega
 have h2:n / 2 ^ k<2:=by rw[Nat.div_lt_iff_lt_mul (OQ k)];rw[OO] at j;omega
 omega
def Dw (n:Nat) (cs:Array Value) (j:Nat):Prop:=cs.size=65/\cs.toList.drop (65 - j)=(jV n j).map ag
theorem Dw.step {n j:Nat}{cs:Array Value}(h:Dw n cs j)(D:j<65){v:Value}(C:v=ag (l6 n j)):Dw n (cs.setIfInBounds (64 - j) v) (j+1):=by
 obtain⟨B,h2⟩:=h;subst C;refine⟨by simpa using B,?_⟩;have e:65 - (j+1)=64 - j:=by omega
 have hl:64 - j<(cs.toList.set (64 - j) (ag (l6 n j))).length:=by simp;omega
 rw[e,Array.toList_setIfInBounds,List.drop_eq_getElem_cons hl,List.getElem_set_self,List.drop_set_of_lt (by omega),show 64 - j+1=65 - j by omega,h2];rfl
set_option maxRecDepth 100000 in
theorem zh (n:Nat)(k:Nat)(hk:2 ^ k<=n)(aJ:n<2 ^ (k+1))(iP:k<32)(w:World)(hT:Tz w):
  Calls V 265 #[OG none 0 0,U .u64 n,U Z 2,Oj false,Oj false] w
   λe w'=>e=Y (Oh #[OG none 0 0,OL (bs (jV n (k+1)))])/\Below w.heap.size w w':=by
 have eE:n<2 ^ 32:=OB aJ (X (by decide) (by omega))
 go_enter Tryz.func265,Tryz.ntmps265
 go_wp2_with (first|(go_at_call 281;refine(Ke _).mono ?_;rintro e w' ⟨rfl,rfl⟩)|(go_at_call 282;refine(tz _ (hT.below ((Below.refl _ _).alloc (OR _) _))).mono ?_;rintro e w' ⟨rfl,rfl⟩))
 go_loopw [1,13] (λu i wr=>∃(j m q:Nat)(cs:Array Value),m+j=65/\j<=k/\Hid (q=n / 2 ^ j)/\u=U .u64 (q:Int)/\i=U Z (m:Int)/\ab wr w.heap.size 307 cs/\Dw n cs j/\Below w.heap.size w wr) (λu _ _=>(intOf u).toNat)
 case atStart=>exact⟨0,65,n,_,by omega,by omega,OA (by simp),rfl,rfl,ab.new _ _ _,⟨by kernel_rfl,by kernel_rfl⟩,(Below.refl _ _).alloc (OR _) _⟩
 case round=>
  obtain⟨j,m,q,cs,hm,hj,K,rfl,rfl,C,D,av⟩:=hrel;have jg:q<=n:=(by rw[K.out];exact Oe _ _);obtain⟨v0,dy⟩:∃v0,wr.cell? ⟨w.heap.size,m - 1,none⟩=some v0:=⟨cs[m - 1]'(by rw[D.1];omega),by rw[C.cell];simp⟩;have dO:=C.frozen (m - 1)
  have B:∀v,v=ag (l6 n j)->ab (wr.setCell ⟨w.heap.size,m - 1,none⟩ v) w.heap.size 307 (cs.setIfInBounds (m - 1) v)/\Dw n (cs.setIfInBounds (m - 1) v) (j+1)/\Below w.heap.size w (wr.setCell ⟨w.heap.size,m - 1,none⟩ v):= λv hv=>by
   refine⟨C.set_ _ _,?_,av.setCell (p:=⟨w.heap.size,m - 1,none⟩) (OR _) _⟩;have cI:=D.step (by omega) hv
   rwa [show 64 - j=m - 1 by omega] at cI
  have B:=OA B
  by_cases dv:j<k
  ·have gj:2<=q:=by rw[K.out];exact Cs n k j hk dv
   have G:=E8 q (by omega);have bM:q / 2=n / 2 ^ (j+1):=(by rw[K.out,Nat.div_div_eq_div_mul,OO]);have N:=OA bM;clear bM
   by_cases hz:q % 2=0
   ·have I:ag (l6 n j)=U .u8 48:=by simp[l6,<-K.out,hz,ag]
    have M:=OA I;rw[hz] at G;clear I hz;go_wp2
    obtain⟨T,h2,h3⟩:=B.out _ M.out.symm;exact⟨⟨j+1,m - 1,q / 2,_,by omega,by omega,N,by simp,by congr 1;omega,T,h2,h3⟩,by simp[intOf];omega⟩
   ·have cE:q % 2=1:=by omega
    have I:ag (l6 n j)=U .u8 49:=(by simp[l6,<-K.out,hz,ag]);have M:=OA I;rw[cE] at G;clear I hz cE;go_wp2
    obtain⟨T,h2,h3⟩:=B.out _ M.out.symm;exact⟨⟨j+1,m - 1,q / 2,_,by omega,by omega,N,by simp,by congr 1;omega,T,h2,h3⟩,by simp[intOf];omega⟩
  ·obtain rfl:j=k:=by omega
   obtain rfl:q=1:=by rw[K.out];exact zz n j hk aJ
   have I:ag (l6 n j)=U .u8 49:=(by simp[l6,<-K.out,ag]);have M:=OA I;clear I;have jY:=yh (P:=V) 307 5 65 1 ⟨w.heap.size,0,none⟩ (by kernel_rfl) (by kernel_rfl) ((m:Int) - 1) (m - 1) (by omega) (by omega);obtain⟨T,h2,h3⟩:=B.out _ M.out.symm;have D:({data:= #[48,49,50,51,52,53,54,55,56,57,97,98,99,100,101,102,103,104,105,106,107,108,109,110,111,112,113,114,115,116,117,118,119,120,121,122]}:ByteArray)[1].toNat=49:=(by decide);have hS:=T.sl (m - 1);rw[show (cs.setIfInBounds (m - 1) (U .u8 49)).toList.drop (m - 1)=(jV n (j+1)).map ag by rw[show m - 1=65 - (j+1) by omega];rw[show m - 1=65 - (j+1) by omega] at h2;exact h2.2] at hS;have fJ:=g8 (P:=V) 25 9 5 (by kernel_rfl) (by kernel_rfl) (by kernel_rfl) hS (65 - (m - 1)) (65 - (m - 1)) (by rw[qz];omega);go_wp2
   go_ret2;exact⟨rfl,h3⟩
theorem JP (n:Nat)(k:Nat)(K:2 ^ k<=n)(j:n<2 ^ (k+1))(B:k<32)(w:World)(C:Tz w):
  Calls V 235 #[U Z n,U Z 2] w λe w'=>e=Y (OL (bs (jV n (k+1))))/\Below w.heap.size w w':=by
 have G:=OA C;clear C;have D:n<2 ^ 32:=OB j (X (by decide) (by omega));have M:decide ((n:Int)<0)=false:=by simp
 go_enter Tryz.func235,Tryz.ntmps235
 go_wp2_with (go_at_call 265;refine(zh n k K j B _ G.out).mono ?_;rintro e w' ⟨rfl,I⟩)
 go_ret;exact⟨rfl,I⟩
theorem FJ (n:Int)(k:Nat)(D:2 ^ k<=n.toNat)(j:n.toNat<2 ^ (k+1))(B:k<32)(w:World)(C:Tz w):
  Calls V 198 #[U Z n,U Z 2] w λe w'=>e=Y (OL (bs (jV n.toNat (k+1))))/\Below w.heap.size w w':=by
 have G:=OA C;clear C;obtain⟨n,rfl⟩:∃m:Nat,n=m:=⟨n.toNat,by have:=OW (n:=k);omega⟩;rw[OJ] at D j⊢
 go_enter Tryz.func198,Tryz.ntmps198
 go_wp2_with (go_at_call 235;refine(JP n k D j B _ G.out).mono ?_;rintro e w' ⟨rfl,I⟩)
 go_ret;exact⟨rfl,I⟩
def aZ (l:List UInt8) (k:Nat):Nat:=(l.getD (k / 8) 0).toNat / 2 ^ (7 - k % 8) % 2
theorem fC (l:List UInt8)(k:Nat):aZ l k<2:=Nat.mod_lt _ (by decide)
def aB (l:List UInt8) (k:Nat):Nat->Nat
 |0=>0
 |n+1=>2*aB l k n+aZ l (k+n)
theorem fF (l:List UInt8)(k n:Nat):aB l k n<2 ^ n:=by
 induction n with
 |zero=>simp[aB]
 |succ n ih=>have:=fC l (k+n);simp only[aB,OO];omega
theorem wC (A:Option Addr)(n c:Nat)(l:List UInt8)(i:Int)(w:World)(N:Sl w A (l.map ag))(M:O l=n)(K:0<=i)(T:i<8*n):
  Calls V 99 #[OG A n c,U Z i] w λe w'=>e=Y (U Z (aZ l i.toNat))/\w=w':=by
 obtain⟨k,rfl⟩:=OD K;subst M;obtain⟨ad,rfl,_,hc⟩:=N.byte (k / 8) (by omega);have hk:(0:Int)<=7 - ↑k % 8:=by omega
 have D:l[k / 8].toNat<256:=UInt8.toNat_lt _;have B:l[k / 8].toNat / 2 ^ (7 - k % 8)<256:=Nat.lt_of_le_of_lt (Oe _ _) D;have C:k / 8<(O l):=by omega
 have j:wrap64 (↑l[k / 8].toNat / 2 ^ (7 - k % 8)) % 2=((aZ l k:Nat):Int):=by
  generalize G:l[k / 8].toNat / 2 ^ (7 - k % 8)=q at B;rw[show ((l[k / 8].toNat:Int) / 2 ^ (7 - k % 8))=(q:Int) by rw[<-G];simp,IntWalk.wrap64_in _ (by omega),<-G];simp[aZ,Ol,C]
 have I:=OA j;clear j D B
 go_enter Tryz.func99,Tryz.ntmps99
 go_wp2
 go_ret;rw[I.out,OJ];exact⟨rfl,rfl⟩
theorem kD (A:Option Addr)(n c:Nat)(l:List UInt8)(i m:Int)(w:World)(hr:Sl w A (l.map ag))(N:O l=n)(D:0<=i)(K:0<=m)(M:m<=32)(h1:i+m<=8*n)(hsz:n<=2 ^ 47):
  Calls V 56 #[OG A n c,U Z i,U Z m] w λe w'=>e=Y (Oh #[U Z (aB l i.toNat m.toNat),U Z 0])/\w=w':=by
 obtain⟨k,rfl⟩:=OD D;obtain⟨m,rfl⟩:=OD K;have e1:decide ((k:Int)<0)=false:=by simp
 have e2:decide ((m:Int)<0)=false:=by simp
 have e3:¬(32:Int)<m:=by omega
 have e4:¬(8*(n:Int))<k:=by omega
 have e5:¬(8*(n:Int)) - k<m:=by omega
 go_enter OZ,OX
 go_wp2
 go_loop [1,2,8] (λi n x=>∃j:Nat,j<=m/\i=U Z ((k+j:Nat):Int)/\n=U Z ((m - j:Nat):Int)/\x=U Z (aB l k j)) (λ_ n _=>(intOf n).toNat)
 case atStart=>exact⟨0,by omega,rfl,rfl,rfl⟩
 case round=>
  obtain⟨j,hj,rfl,rfl,rfl⟩:=hrel
  by_cases I:j<m
  ·have G:=fC l (k+j)
   have B:=fF l k j;have av:aB l k j<2 ^ 32:=OB B (X (by decide) (by omega));have T:(0:Int)<((m - j:Nat):Int):=(by omega);have C:=OA (BZ (aB l k j) (aZ l (k+j)) (by omega) G);clear B;have hz:(0:Int)<=((k+j:Nat):Int):=(by omega);go_wp2_with (go_at_call 99;refine(wC _ _ _ l _ _ hr N (by omega) (by omega)).mono ?_;rintro e w' ⟨rfl,rfl⟩)
   refine⟨⟨j+1,by omega,by congr 1,by congr 1;omega,?_⟩,?_⟩
   ·have h2:=C.out;exact congrArg (Value.int Z) h2
   ·simp[intOf];omega
  ·have T:¬(0:Int)<((m - j:Nat):Int):=by omega
   obtain rfl:j=m:=by omega
   go_wp2
   go_ret2;exact⟨by simp,rfl⟩
theorem fS (v:Int)(A:Option Addr)(n c:Nat)(l:List UInt8)(i m:Int)(w:World)(K:(aB l i.toNat m.toNat:Int)=v)(I:Sl w A (l.map ag))(G:O l=n)(B:0<=i)(D:0<=m)(j:m<=32)(C:i+m<=8*n)(hsz:n<=2 ^ 47):
  Calls V 56 #[OG A n c,U Z i,U Z m] w λe w'=>e=Y (Oh #[U Z v,U Z 0])/\w=w':=by
 rw[<-K];exact kD A n c l i m w I G B D j C hsz
theorem dj (A:Option Addr)(n c:Nat)(i m:Int)(w:World)(j:0<=i)(B:0<=m)(C:m<=32)(N:8*n<i+m)(hsz:n<=2 ^ 47):
  Calls V 56 #[OG A n c,U Z i,U Z m] w λe w'=>e=Y (Oh #[U Z 0,U Z 5])/\w=w':=by
 have D:decide (i<0)=false:=by simpa using j
 have G:decide (m<0)=false:=by simpa using B
 have I:¬(32:Int)<m:=by omega
 by_cases K:(8*(n:Int))<i
 ·go_enter OZ,OX
  go_wp2
  go_ret2;exact⟨rfl,rfl⟩
 ·have M:(8*(n:Int)) - i<m:=by omega
  go_enter OZ,OX
  go_wp2
  go_ret2;exact⟨rfl,rfl⟩
theorem di (A:Option Addr)(n c:Nat)(w:World)(hsz:n<=2 ^ 47):
  Calls V 84 #[OG A n c] w λe w'=>e=Y (U Z (8*n))/\w=w':=by
 go_enter Tryz.func84,Tryz.ntmps84
 go_wp2
 go_ret;exact⟨rfl,rfl⟩
def aR (c:List UInt8):Value:=OL (bs c)
def dH (l:List UInt8) (k:Nat):UInt8:=if aZ l k=0 then 48 else 49
def aI (l:List UInt8) (i n:Nat):List UInt8:=(OC n).map λj=>dH l (i+j)
theorem iH (l:List UInt8)(i n:Nat):aI l i (n+1)=aI l i n++[dH l (i+n)]:=by simp[aI,Od]
theorem bo (l:List UInt8)(i n:Nat):(aI l i n).length=n:=by simp[aI]
theorem kc (l:List UInt8)(k:Nat):aB l k 1=aZ l k:=by simp[aB]
def cM (c:List UInt8):Bool:=c.all (λb=>b==48||b==49)&&decide (1<=O c)&&decide (O c<=24)
def il (cs:List (List UInt8)):Bool:=(OC (O cs)).all λi=>(OC (O cs)).all λk=>i==k|| !(cs.getD k []).isPrefixOf (cs.getD i [])
def cy (s:List UInt8):List (List UInt8)->List Int->Option (Int×Int)
 |c::cs,n::ns=>if c.isPrefixOf s then some (n,(O c:Int)) else cy s cs ns
 |_,_=>none
def jZ (cs:List (List UInt8)) (ns:List Int) (s:List UInt8):Int×Int×Int:=
 match cy s cs ns with
 |some (n,k)=>(n,k,0)
 |none=>if cs.any (λc=>s.isPrefixOf c) then(0,0,5) else(0,0,7)
def ac (cs:List (List UInt8)) (ns:List Int) (l:List UInt8) (i:Int):Int×Int×Int:=
 if i<0 then(0,0,3) else jZ cs ns (aI l i.toNat (min 24 (8*O l - i.toNat)))
theorem nt (p s:List UInt8)(_h:O p<=O s):(s.take (O p)==p)=p.isPrefixOf s:=by
 rw[Bool.eq_iff_iff,beq_iff_eq,OI,List.prefix_iff_eq_take];exact eq_comm
theorem i9 (p s:List UInt8)(h:¬(O p)<=O s):p.isPrefixOf s=false:=by
 rw[Bool.eq_false_iff];intro j;exact h (OI.1 j).length_le
structure Nd where
 a:Nat
 b:Nat
 leaf:Bool
 num:Int
def nI (x:Nd):List Value:=[U Z x.a,U Z x.b,Oj x.leaf,U Z x.num]
theorem hH (x:Nd):(nI x).length=4:=rfl
def Nd.to (x:Nd) (c:UInt8):Nat:=if c=48 then x.a else x.b
def Nd.link (x:Nd) (c:UInt8) (k:Nat):Nd:=if c=48 then⟨k,x.b,x.leaf,x.num⟩ else⟨x.a,k,x.leaf,x.num⟩
def b9:Nd:=⟨0,0,false,0⟩
def uv (N:List Nd) (k:Nat) (c:UInt8):List Nd×Nat:=
 if (N.getD k b9).to c=0 then((N++[b9]).set k ((N.getD k b9).link c (O N)),O N) else(N,(N.getD k b9).to c)
def kx:List Nd->Nat->List UInt8->Option (List Nd×Nat)
 |N,k,[]=>if decide (O N<=k)||decide (10000<=O N) then none else some (N,k)
 |N,k,c::s=>if (N.getD k b9).leaf||decide (O N<=k)||decide (10000<=O N) then none else kx (uv N k c).1 (uv N k c).2 s
def xU (N:List Nd) (s:List UInt8) (num:Int):Option (List Nd):=
 match kx N 0 s with
 |none=>none
 |some (M,k)=>if (M.getD k b9).leaf||(M.getD k b9).a !=0||(M.getD k b9).b !=0 then none else some (M.set k ⟨0,0,true,num⟩)
def fK:List Nd->List (List UInt8)->List Int->Option (List Nd)
 |N,c::cs,n::ns=>match xU N c n with
  |none=>none
  |some M=>fK M cs ns
 |N,_,_=>some N
def fw (cs:List (List UInt8)) (ns:List Int):List Nd:=(fK [b9] cs ns).getD []
def fO (N:List Nd):Nat->List UInt8->Int->Int×Int×Int
 |_,[],_=>(0,0,5)
 |k,c::s,many=>if (N.getD k b9).to c=0 then(0,0,7) else if (N.getD ((N.getD k b9).to c) b9).leaf then((N.getD ((N.getD k b9).to c) b9).num,many+1,0) else fO N ((N.getD k b9).to c) s (many+1)
def Bx (N:List Nd):Bool:=N.all λx=>decide (x.a<O N)&&decide (x.b<O N)
theorem JI {N:List Nd}(h:Bx N=true)(k:Nat)(j:0<O N)(c:UInt8):(N.getD k b9).to c<(O N):=by
 rw[Ol]
 cases he:N[k]? with
 |none=>simpa [Nd.to,b9] using j
 |some x=>
  have:=OE.1 h x (List.mem_of_getElem? he);simp only[J,decide_eq_true_eq] at this;simp only[Option.getD_some,Nd.to]
  split
  ·exact this.1
  ·exact this.2
def jN (c:UInt8):List (List UInt8×Int)->List (List UInt8×Int)
 |[]=>[]
 |([],_)::D=>jN c D
 |(d::s,n)::D=>if d==c then(s,n)::jN c D else jN c D
def oS:Nat->List Nd->Nat->List (List UInt8×Int)->Bool
 |0,_,_,_=>false
 |f+1,N,k,D=>D.all (λp=>p.1 !=[])&&D !=[]&&[(48:UInt8),49].all λc=>
   if (N.getD k b9).to c==0 then jN c D==[] else
    if (N.getD ((N.getD k b9).to c) b9).leaf then jN c D==[([],(N.getD ((N.getD k b9).to c) b9).num)] else oS f N ((N.getD k b9).to c) (jN c D)
def lC (D:List (List UInt8×Int)) (s:List UInt8) (j:Int):Int×Int×Int:=
 match D.find? (λp=>p.1.isPrefixOf s) with
 |some p=>(p.2,j+p.1.length,0)
 |none=>if D.any (λp=>s.isPrefixOf p.1) then(0,0,5) else(0,0,7)
theorem D9 (D:List (List UInt8×Int))(h:D.all (λp=>p.1 !=[])=true)(B:D≠[])(j:Int):lC D [] j=(0,0,5):=by
 have C:D.find? (λp=>p.1.isPrefixOf ([]:List UInt8))=none:=by
  rw[List.find?_eq_none];intro p G;have:=OE.1 h p G;obtain⟨s,n⟩:=p
  cases s with
  |nil=>simp at this
  |cons x s=>simp
 unfold lC;rw[C]
 cases D with
 |nil=>exact absurd rfl B
 |cons p D=>simp
theorem r7:∀(D:List (List UInt8×Int))(_h:D.all (λp=>p.1 !=[])=true)(c:UInt8)(s:List UInt8)(j:Int),lC D (c::s) j=lC (jN c D) s (j+1)
 |[],_,c,s,j=>rfl
 |([],n)::D,h,c,s,j=>by simp at h
 |(d::t,n)::D,h,c,s,j=>by
  have B:=r7 D (by simpa using h) c s j;unfold lC at B⊢
  by_cases hd:d=c
  ·subst hd
   simp only[jN,beq_self_eq_true,if_true,OP,OK,Bool.true_and,OH]
   cases G:t.isPrefixOf s with
   |true=>simp;omega
   |false=>
    simp only[]
    cases I:s.isPrefixOf t with
    |false=>simp only[Of];exact B
    |true=>
     simp only[Bool.true_or,if_true]
     cases C:D.find? (λp=>p.1.isPrefixOf (d::s)) with
     |none=>
      rw[C] at B
      cases h2:(jN d D).find? (λp=>p.1.isPrefixOf s) with
      |none=>rfl
      |some p=>rw[h2] at B;simp only at B;split at B<;>simp at B
     |some p=>
      rw[C] at B
      cases h2:(jN d D).find? (λp=>p.1.isPrefixOf s) with
      |none=>rw[h2] at B;simp only at B;split at B<;>simp at B
      |some q=>rw[h2] at B;exact B
  ·have C:(d==c)=false:=beq_eq_false_iff_ne.2 hd
   have h2:(c==d)=false:=beq_eq_false_iff_ne.2 (Ne.symm hd);simp only[jN,C,if_false,OP,OK,Bool.false_and,OH,h2,Of,Bool.false_eq_true];exact B
theorem vq:∀(f:Nat)(N:List Nd)(k:Nat)(D:List (List UInt8×Int))(s:List UInt8)(j:Int),oS f N k D=true->(∀c∈s,c=48\/c=49)->fO N k s j=lC D s j
 |0,N,k,D,s,j,h,_=>by simp[oS] at h
 |f+1,N,k,D,s,j,h,hs=>by
  rw[oS,J,J] at h;obtain⟨⟨G,h2⟩,I⟩:=h;have C:D≠[]:=by simpa using h2
  cases s with
  |nil=>rw[D9 D G C];rfl
  |cons c s=>
   rw[r7 D G c s j,fO];have K:c∈[(48:UInt8),49]:=(by have:=hs c (by simp);simpa using this);have B:=OE.1 I c K
   by_cases ht:(N.getD k b9).to c=0
   ·rw[if_pos ht]
    rw[if_pos (beq_iff_eq.2 ht)] at B;rw[beq_iff_eq.1 B];rfl
   ·rw[if_neg ht]
    rw[if_neg (by simpa using ht)] at B
    by_cases hl:(N.getD ((N.getD k b9).to c) b9).leaf=true
    ·rw[if_pos hl]
     rw[if_pos hl] at B;rw[beq_iff_eq.1 B];simp[lC]
    ·rw[if_neg hl]
     rw[if_neg hl] at B;exact vq f N _ _ s (j+1) B (λx M=>hs x (by simp[M]))
theorem vr:∀(f:Nat)(N:List Nd)(k:Nat)(D:List (List UInt8×Int))(s:List UInt8)(j:Int),oS f N k D=true->(∀c∈s,c=48\/c=49)->fO N k s j=fO N k (s.take f) j
 |0,N,k,D,s,j,h,_=>by simp[oS] at h
 |f+1,N,k,D,s,j,h,hs=>by
  rw[oS,J,J] at h;obtain⟨⟨K,h2⟩,C⟩:=h
  cases s with
  |nil=>rfl
  |cons c s=>
   rw[List.take_succ_cons,fO,fO];have G:c∈[(48:UInt8),49]:=(by have:=hs c (by simp);simpa using this);have B:=OE.1 C c G
   by_cases ht:(N.getD k b9).to c=0
   ·rw[if_pos ht,if_pos ht]
   ·rw[if_neg ht,if_neg ht]
    rw[if_neg (by simpa using ht)] at B
    by_cases hl:(N.getD ((N.getD k b9).to c) b9).leaf=true
    ·rw[if_pos hl,if_pos hl]
    ·rw[if_neg hl,if_neg hl]
     rw[if_neg hl] at B;exact vr f N _ _ s (j+1) B (λx I=>hs x (by simp[I]))
theorem wT (s:List UInt8):∀(cs:List (List UInt8))(ns:List Int),cy s cs ns=((cs.zip ns).find? (λp=>p.1.isPrefixOf s)).map (λp=>(p.2,(p.1.length:Int)))
 |[],ns=>by rw[cy.eq_def];rfl
 |c::cs,[]=>by rw[cy.eq_def];rfl
 |c::cs,n::ns=>by
  rw[cy,OV,OP,wT s cs ns]
  cases j:c.isPrefixOf s with
  |true=>simp
  |false=>simp
theorem AI (f:List UInt8->Bool):∀(cs:List (List UInt8))(ns:List Int),O cs=O ns->(cs.zip ns).any (λp=>f p.1)=cs.any f
 |[],ns,h=>rfl
 |c::cs,[],h=>by simp at h
 |c::cs,n::ns,h=>by rw[OV,OH,OH,AI f cs ns (by simpa using h)]
theorem DZ (cs:List (List UInt8))(ns:List Int)(s:List UInt8)(h:O cs=O ns):jZ cs ns s=lC (cs.zip ns) s 0:=by
 unfold jZ lC;rw[wT]
 cases (cs.zip ns).find? (λp=>p.1.isPrefixOf s) with
 |some p=>simp
 |none=>simp only[Option.map_none];rw[AI _ cs ns h]
theorem G1 (l:List UInt8)(k:Nat):dH l k=48\/dH l k=49:=by unfold dH;split<;>simp
theorem l7 (l:List UInt8)(i n:Nat):∀c∈aI l i n,c=48\/c=49:=by
 intro c B;obtain⟨j,_,rfl⟩:=List.mem_map.1 B;exact G1 l _
theorem BC (l:List UInt8)(i n m:Nat):(aI l i n).take m=aI l i (min m n):=by
 unfold aI;rw[<-List.map_take,List.take_range]
theorem Fa (N:List Nd)(cs:List (List UInt8))(ns:List Int)(h:oS 24 N 0 (cs.zip ns)=true)(hl:O cs=O ns)(l:List UInt8)(i:Nat):
  fO N 0 (aI l i (8*O l - i)) 0=ac cs ns l i:=by
 have j:=l7 l i (8*O l - i);rw[vr 24 N 0 _ _ 0 h j,BC,vq 24 N 0 _ _ 0 h (l7 _ _ _),<-DZ cs ns _ hl,ac,if_neg (by omega),OJ]
theorem BB (l:List UInt8)(i n:Nat):aI l i (n+1)=dH l i::aI l (i+1) n:=by
 unfold aI;rw[List.range_succ_eq_map,Og,OU];congr 1;apply OT;intro j _;show dH l (i+(j+1))=dH l (i+1+j);congr 1;omega
def aD:List (List UInt8):=[[48,48,48,49],[48,48,48,48,48,48,49],[49],[48,48,48,48,49],[48,48,48,48,48,48,48,48,49],[48,48,48,48,48,48,48,49],[48,48,48,48,48,48,48,48,48,49],[48,48,49],[48,49],[48,48,48,48,48,49]]
def aN:List Int:=(OC 10).map λ(j:Nat)=>(j:Int)+1
def ao:List (List UInt8):=[[48,48,48,48,48,48,49,49,48,48,49],[48,48,48,48,48,48,49,49,48,49,49],[48,48,48,48,48,48,49,49,49,48,49],[48,48,48,48,48,48,49,49,49,49,49],[48,48,48,48,48,49,48,48,48,48,49],[48,48,48,48,48,49,48,48,48,49,49],[48,48,48,48,48,49,48,48,49,49],[48,48,48,48,48,49,48,49,48,49],[48,48,48,48,48,49,48,49,49,49],[48,48,48,48,48,49,49,49],[48,48,48,48,49,48,48,49],[48,48,48,48,49,48,49,49],[48,48,48,48,49,49,49],[48,48,48,49,49],[48,48,49,49],[48,49,49],[49],[48,49,48],[48,48,49,48],[48,48,48,49,48],[48,48,48,48,49,49,48],[48,48,48,48,49,48,49,48],[48,48,48,48,49,48,48,48],[48,48,48,48,48,49,49,48],[48,48,48,48,48,49,48,49,49,48],[48,48,48,48,48,49,48,49,48,48],[48,48,48,48,48,49,48,48,49,48],[48,48,48,48,48,49,48,48,48,49,48],[48,48,48,48,48,49,48,48,48,48,48],[48,48,48,48,48,48,49,49,49,49,48],[48,48,48,48,48,48,49,49,49,48,48],[48,48,48,48,48,48,49,49,48,49,48]]
def au:List Int:=(OC 32).map λ(j:Nat)=>(j:Int) - 16
def bm:List (List UInt8):=[[48,49,48,49,49],[48,49,48,48,49],[48,48,49,49,48,49],[49,49,48,49],[48,48,49,48,49,49,49],[48,48,49,48,48,49,49],[48,48,48,49,49,49,49,49],[49,49,48,48],[48,48,49,48,49,49,48],[48,48,49,48,48,49,48],[48,48,48,49,49,49,49,48],[49,48,48,49,49],[48,48,48,49,49,48,49,49],[48,48,48,49,48,49,49,49],[48,48,48,49,48,48,49,49],[49,48,49,49],[48,48,49,48,49,48,49],[48,48,49,48,48,48,49],[48,48,48,49,49,49,48,49],[49,48,48,48,49],[48,48,48,49,49,48,48,49],[48,48,48,49,48,49,48,49],[48,48,48,49,48,48,48,49],[48,48,49,49,49,49],[48,48,48,48,49,49,49,49],[48,48,48,48,49,49,48,49],[48,48,48,48,48,48,48,49,49],[48,49,49,49,49],[48,48,48,48,49,48,49,49],[48,48,48,48,48,49,49,49],[48,48,48,48,48,48,49,49,49],[49,48,49,48],[48,48,49,48,49,48,48],[48,48,49,48,48,48,48],[48,48,48,49,49,49,48,48],[48,48,49,49,49,48],[48,48,48,48,49,49,49,48],[48,48,48,48,49,49,48,48],[48,48,48,48,48,48,48,49,48],[49,48,48,48,48],[48,48,48,49,49,48,48,48],[48,48,48,49,48,49,48,48],[48,48,48,49,48,48,48,48],[48,49,49,49,48],[48,48,48,48,49,48,49,48],[48,48,48,48,48,49,49,48],[48,48,48,48,48,48,49,49,48],[49,48,48,49,48],[48,48,48,49,49,48,49,48],[48,48,48,49,48,49,49,48],[48,48,48,49,48,48,49,48],[48,49,49,48,49],[48,48,48,48,49,48,48,49],[48,48,48,48,48,49,48,49],[48,48,48,48,48,48,49,48,49],[48,49,49,48,48],[48,48,48,48,49,48,48,48],[48,48,48,48,48,49,48,48],[48,48,48,48,48,48,49,48,48],[49,49,49],[48,49,48,49,48],[48,49,48,48,48],[48,48,49,49,48,48]]
def bO:List Int:=(OC 63).map λ(j:Nat)=>(j:Int)+1
theorem Hi:oS 24 (fw aD aN) 0 (aD.zip aN)=true:=by kernel_rfl
theorem Hj:Bx (fw aD aN)=true:=by kernel_rfl
theorem FV:(fK [b9] aD aN).isSome=true:=by kernel_rfl
theorem mL:aD.all cM=true:=by kernel_rfl
theorem JG:oS 24 (fw ao au) 0 (ao.zip au)=true:=by kernel_rfl
theorem JH:Bx (fw ao au)=true:=by kernel_rfl
theorem IR:(fK [b9] ao au).isSome=true:=by kernel_rfl
theorem vec_code:ao.all cM=true:=by kernel_rfl
theorem Jz:oS 24 (fw bm bO) 0 (bm.zip bO)=true:=by kernel_rfl
theorem JA:Bx (fw bm bO)=true:=by kernel_rfl
theorem Ii:(fK [b9] bm bO).isSome=true:=by kernel_rfl
theorem ru:bm.all cM=true:=by kernel_rfl
def fR (L:List UInt8) (k:Nat):Nat:=if L[k]? =some 49 then 1 else 0
theorem jj (L:List UInt8)(k:Nat):fR L k<2:=by unfold fR;split<;>omega
def dW (L:List UInt8) (j:Nat):Nat:=128*fR L (8*j)+64*fR L (8*j+1)+32*fR L (8*j+2)+16*fR L (8*j+3)+8*fR L (8*j+4)+4*fR L (8*j+5)+2*fR L (8*j+6)+fR L (8*j+7)
theorem wF (L:List UInt8)(j:Nat):dW L j<256:=by
 have B:=jj L (8*j);have C:=jj L (8*j+1);have h2:=jj L (8*j+2);have D:=jj L (8*j+3);have G:=jj L (8*j+4);have I:=jj L (8*j+5);have K:=jj L (8*j+6);have M:=jj L (8*j+7);unfold dW;omega
def bw (L:List UInt8):List UInt8:=(OC ((O L+7) / 8)).map λj=>UInt8.ofNat (dW L j)
theorem dK (L:List UInt8):(bw L).length=(O L+7) / 8:=by simp[bw]
theorem pB (L:List UInt8)(j:Nat)(h:j<(O L+7) / 8):(bw L)[j]? =some (UInt8.ofNat (dW L j)):=by simp[bw,h]
theorem fj (n:Nat)(h:n<256):(UInt8.ofNat n).toNat=n:=by simp[UInt8.toNat_ofNat'];omega
theorem eG (L:List UInt8)(k:Nat)(h:O L<=k):fR L k=0:=by unfold fR;rw[OF h];rfl
theorem Fp (L M:List UInt8)(k:Nat):fR (L++M) k=if k<(O L) then fR L k else fR M (k - O L):=by
 unfold fR
 by_cases h:k<O L
 ·rw[if_pos h,List.getElem?_append_left h]
 ·rw[if_neg h,List.getElem?_append_right (by omega)]
def jt (c:UInt8):Nat:=if c=49 then 1 else 0
theorem AO (c:UInt8):jt c<2:=by unfold jt;split<;>omega
theorem Fq (c:UInt8):fR [c] 0=jt c:=by simp[fR,jt]
theorem lq (L:List UInt8)(c:UInt8)(j:Nat):dW (L++[c]) j=dW L j+if j=O L / 8 then jt c*2 ^ (7 - O L % 8) else 0:=by
 have B:∀k,fR (L++[c]) k=fR L k+if k=(O L) then jt c else 0:= λk=>by
  rw[Fp]
  by_cases h:k<O L
  ·rw[if_pos h,if_neg (by omega)];rfl
  ·rw[if_neg h,eG L k (by omega)]
   by_cases h2:k=O L
   ·subst h2;simp[Fq]
   ·rw[if_neg h2,eG _ _ (by simp;omega)]
 unfold dW;simp only[B]
 by_cases C:j=O L / 8
 ·rw[if_pos C]
  have G:O L % 8<8:=(by omega);have D:O L=8*j+O L % 8:=(by omega);generalize (O L) % 8=r at D G;rw[D]
  match r,G with
  |0,_=>simp;omega
  |1,_=>simp;omega
  |2,_=>simp;omega
  |3,_=>simp;omega
  |4,_=>simp;omega
  |5,_=>simp;omega
  |6,_=>simp;omega
  |7,_=>simp;omega
 ·rw[if_neg C]
  rw[if_neg (by omega),if_neg (by omega),if_neg (by omega),if_neg (by omega),if_neg (by omega),if_neg (by omega),if_neg (by omega),if_neg (by omega)];simp only[Nat.add_zero]
theorem nS (L:List UInt8)(j:Nat)(h:O L<=8*j):dW L j=0:=by
 unfold dW;rw[eG,eG,eG,eG,eG,eG,eG,eG]<;>omega
theorem Cn (L:List UInt8)(c:UInt8)(h:O L % 8=0):bw (L++[c])=bw L++[UInt8.ofNat (jt c*2 ^ (7 - O L % 8))]:=by
 unfold bw;have e:((L++[c]).length+7) / 8=(O L+7) / 8+1:=by simp;omega
 rw[e,Od,List.map_append];congr 1
 ·apply OT
  intro j B;rw[lq,if_neg (by have:=List.mem_range.1 B;omega)];rfl
 ·simp only[Og,List.map_nil]
  rw[lq,if_pos (by omega),nS L _ (by omega),Nat.zero_add]
theorem Co (L:List UInt8)(c:UInt8)(h:O L % 8≠0):bw (L++[c])=(bw L).set (O L / 8) (UInt8.ofNat (dW L (O L / 8)+jt c*2 ^ (7 - O L % 8))):=by
 have e:((L++[c]).length+7) / 8=(O L+7) / 8:=by simp;omega
 apply List.ext_getElem?;intro j
 by_cases B:j<(O L+7) / 8
 ·rw[pB _ _ (by rw[e];exact B),lq]
  by_cases h2:j=O L / 8
  ·rw[if_pos h2,h2,List.getElem?_set_self (by rw[dK];omega)]
  ·rw[if_neg h2,List.getElem?_set_ne (Ne.symm h2),pB _ _ B];rfl
 ·rw[OF (by rw[dK,e];omega),OF (by rw[List.length_set,dK];omega)]
theorem DM (L:List UInt8)(h:O L % 8≠0):dW L (O L / 8) % 2 ^ (8 - O L % 8)=0:=by
 have D:O L % 8<8:=by omega
 have C:O L=8*(O L / 8)+O L % 8:=by omega
 have B:∀k,O L<=k->fR L k=0:= λk=>eG L k;unfold dW;generalize (O L) / 8=j at C;generalize (O L) % 8=r at C D h
 match r,D,h with
 |1,_,_=>rw[B (8*j+1) (by omega),B (8*j+2) (by omega),B (8*j+3) (by omega),B (8*j+4) (by omega),B (8*j+5) (by omega),B (8*j+6) (by omega),B (8*j+7) (by omega)];simp<;>omega
 |2,_,_=>rw[B (8*j+2) (by omega),B (8*j+3) (by omega),B (8*j+4) (by omega),B (8*j+5) (by omega),B (8*j+6) (by omega),B (8*j+7) (by omega)];simp<;>omega
 |3,_,_=>rw[B (8*j+3) (by omega),B (8*j+4) (by omega),B (8*j+5) (by omega),B (8*j+6) (by omega),B (8*j+7) (by omega)];simp<;>omega
 |4,_,_=>rw[B (8*j+4) (by omega),B (8*j+5) (by omega),B (8*j+6) (by omega),B (8*j+7) (by omega)];simp<;>omega
 |5,_,_=>rw[B (8*j+5) (by omega),B (8*j+6) (by omega),B (8*j+7) (by omega)];simp<;>omega
 |6,_,_=>rw[B (8*j+6) (by omega),B (8*j+7) (by omega)];simp<;>omega
 |7,_,_=>rw[B (8*j+7) (by omega)];simp<;>omega
end Go.Proofs.YthhijgcfbjcgiaaGreatDoor
