/- Base, Fmt2, Bits, Pre03, Trie, Codes, PenP -/
import Derived.Test.YthhijgcfbjcgiaaGreatDoorChecked
import Derived.WalkKit
import Derived.Lib.Hide
import Derived.Outline
import Derived.BigQuiet
import Derived.Deep.QuietTactic
import Derived.Laws.BitsAllLaws
import Derived.Below
import Derived.Laws.OwnMore
import Derived.OwnWalk
import Derived.Laws.BytesArg
namespace Go.Proofs.YthhijgcfbjcgiaaGreatDoor
open Go Go.RowKit
open Nat renaming pow_le_pow_right→zAA,lt_of_lt_of_le→zAD,lt_or_ge→zAM,mod_eq_of_lt→zAN,pow_succ→zAO,two_pow_pos→zAQ,le_refl→zAR,le_div_iff_mul_le→zAS,one_le_two_pow→zAW,div_le_self→zA3
open Bool renaming and_eq_true→zAB,false_or→zA5
open Go.Lib renaming hid→zAC
open List renaming range→zAE,all_eq_true→zAG,getElem?_eq_none→zAH,any_cons→zAI,isPrefixOf_iff_prefix→zAJ,isPrefixOf_cons_cons→zAL,find?_cons→zAP,map_congr_left→zAT,map_map→zAU,zip_cons_cons→zAV,range_succ→zA2,getD→zA4,map_cons→zA6
open Int renaming eq_ofNat_of_zero_le→zAF,toNat_natCast→zAK,emod_nonneg→zA1
open Go.IntKind renaming i64→zAX,wrap_i64→zAZ,u64→zA7
open Go.World renaming cell?→zAY
open Option renaming getD_some→zA0
theorem zn (x:Int) (m:Nat) (hm:m≤64):(BitVec.ofInt 64 x).toNat % 2 ^ m=(x % (2 ^ m:Nat)).toNat:=by
 rw [BitVec.toNat_ofInt]
 have h1:((2:Int)^m) ∣ ((2 ^ 64:Nat):Int):=by
  have:(2:Nat)^m ∣ 2^64:=Nat.pow_dvd_pow 2 hm
  exact_mod_cast this
 have h2:(0:Int)≤x % ((2 ^ 64:Nat):Int):=zA1 _ (by decide)
 have e:(((x % ((2 ^ 64:Nat):Int)).toNat % 2 ^ m:Nat):Int)=x % (2 ^ m:Nat):=by
  rw [Int.natCast_emod,Int.toNat_of_nonneg h2]
  have h1':(((2 ^ m:Nat)):Int) ∣ ((2 ^ 64:Nat):Int):=by exact_mod_cast h1
  exact Int.emod_emod_of_dvd x h1'
 omega
theorem qK (x:Int) (m:Nat) (hm:m≤62) (c:Int) (hc:c=2 ^ m - 1):bits .and .i64 x c=x % (2 ^ m:Nat):=by
 have hp:(2:Nat)^m≤2^62:=zAA (by decide) hm
 have hp1:1≤(2:Nat)^m:=zAW
 have ht:(BitVec.ofInt 64 c).toNat=2 ^ m - 1:=by
  have e:c=((2 ^ m - 1:Nat):Int):=by
   rw [hc,Int.ofNat_sub hp1];push_cast;rfl
  rw [e,BitVec.ofInt_natCast,BitVec.toNat_ofNat]
  exact zAN (by omega)
 show zAX.wrap ((BitVec.ofInt 64 x&&& BitVec.ofInt 64 c).toNat:Int)=_
 rw [BitVec.toNat_and,ht,Nat.and_two_pow_sub_one_eq_mod,zn x m (by omega)]
 have h0:0≤x % ((2 ^ m:Nat):Int):=zA1 _ (by omega)
 have h1:x % ((2 ^ m:Nat):Int)<((2 ^ m:Nat):Int):=Int.emod_lt_of_pos _ (by omega)
 rw [zAZ]
 omega
@[go_sem] theorem JT (x:Int):bits .and .i64 x 1=x % 2:=qK x 1 (by decide) 1 rfl
@[go_sem] theorem JU (x:Int):bits .and .i64 x 7=x % 8:=qK x 3 (by decide) 7 rfl
theorem BU (x b:Nat) (hx:x<2 ^ 62) (hb:b<2):bits .or .i64 ((x:Int)*2) b=((2*x+b:Nat):Int):=by
 show zAX.wrap ((BitVec.ofInt 64 ((x:Int)*2)|||BitVec.ofInt 64 (b:Int)).toNat:Int)=_
 have h1:((x:Int)*2)=((2*x:Nat):Int):=by simp;omega
 rw [h1,BitVec.toNat_or,BitVec.ofInt_natCast,BitVec.ofInt_natCast,BitVec.toNat_ofNat,BitVec.toNat_ofNat,zAN (by omega),zAN (by omega),zAZ]
 rw [nat_join 1 (2*x) b (by omega) (by omega)]
 omega
theorem db (a:Addr) (n:Nat):(a.add n).block=a.block:=by unfold Addr.add;split<;>rfl
theorem hO (a:Addr) (i j:Nat):(a.add i).add j=a.add (i+j):=by
 unfold Addr.add
 by_cases hi:i=0<;>by_cases hj:j=0<;>simp [hi,hj,Nat.add_assoc]
def Sl (w:World) (A:Option Addr) (xs:List Value):Prop:=∀(k:Nat) (v:Value),xs[k]? =some v→∃ad,A=some ad∧ad.block<w.heap.size∧w.cell? (ad.add k)=some v
theorem Sl.nil (w:World) (A:Option Addr):Sl w A []:=fun k v h=>by simp at h
theorem Sl.at_ {w:World} {A:Option Addr} {xs:List Value} (h:Sl w A xs) (k:Nat) (hk:k<xs.length):∃ad,A=some ad∧ad.block<w.heap.size∧w.cell? (ad.add k)=some xs[k]:=h k _ (by simp [hk])
theorem Sl.below {w w':World} {A:Option Addr} {xs:List Value} (h:Sl w A xs) (hb:Below w.heap.size w w'):Sl w' A xs:=fun k v hk=>by
 obtain ⟨ad,rfl,hl,hc⟩:=h k v hk
 exact ⟨ad,rfl,zAD hl hb.size,(hb.cell (by rw [db];exact hl)).trans hc⟩
theorem Sl.alloc {w:World} {A:Option Addr} {xs:List Value} (h:Sl w A xs) (o:Obj):Sl (w.alloc o) A xs:=h.below ((Below.refl _ _).alloc (zAR _) _)
theorem Sl.drew {w:World} {A:Option Addr} {xs:List Value} (h:Sl w A xs):Sl w.drew A xs:=h.below (Below.refl _ _).drew
theorem Sl.drop {w:World} {A:Option Addr} {xs:List Value} (h:Sl w A xs) (k:Nat):Sl w (A.map (·.add k)) (xs.drop k):=fun j v hj=>by
 rw [List.getElem?_drop] at hj
 obtain ⟨ad,rfl,hl,hc⟩:=h _ _ hj
 exact ⟨ad.add k,rfl,by rw [db];exact hl,by rw [hO];exact hc⟩
theorem Sl.take {w:World} {A:Option Addr} {xs:List Value} (h:Sl w A xs) (k:Nat):Sl w A (xs.take k):=fun j v hj=>by
 rw [List.getElem?_take] at hj
 split at hj
 ·exact h _ _ hj
 ·cases hj
def af (b:UInt8):Value:= .int .u8 b.toNat
def aY (n:Int):Value:= .int .i64 n
theorem Sl.byte {w:World} {A:Option Addr} {l:List UInt8} (h:Sl w A (l.map af)) (k:Nat) (hk:k<l.length):∃ad,A=some ad∧ad.block<w.heap.size∧w.cell? (ad.add k)=some (.int .u8 l[k].toNat):=
 h k _ (by simp [hk,af])
theorem Sl.int {w:World} {A:Option Addr} {l:List Int} (h:Sl w A (l.map aY)) (k:Nat) (hk:k<l.length):∃ad,A=some ad∧ad.block<w.heap.size∧w.cell? (ad.add k)=some (.int .i64 l[k]):=
 h k _ (by simp [hk,aY])
def ab (w:World) (g:Nat) (t:TypeId) (cs:Array Value):Prop:=w.heap[g]? =some (.cells cs t (0,0))
section
variable {w w':World} {g:Nat} {t:TypeId} {cs:Array Value}
theorem ab.lt (h:ab w g t cs):g<w.heap.size:=by
 rcases zAM g w.heap.size with hlt|hge
 ·exact hlt
 ·unfold ab at h;rw [Array.getElem?_eq_none hge] at h;cases h
theorem ab.cell (h:ab w g t cs) (i:Nat):w.cell? ⟨g,i,none⟩=cs[i]? :=by unfold ab at h;simp [zAY,h]
theorem ab.frozen (h:ab w g t cs) (i:Nat):w.frozen? ⟨g,i,none⟩=false:=by unfold ab at h;simp [World.frozen?,h]
theorem ab.new (w:World) (t:TypeId) (cs:Array Value):ab (w.alloc (.cells cs t)) w.heap.size t cs:=heap_alloc_new w _
theorem ab.drewN (h:ab w g t cs) (n:Nat):ab (w.drewN n) g t cs:=h
theorem ab.alloc (h:ab w g t cs) (o:Obj):ab (w.alloc o) g t cs:=(Below.heap_alloc w o g h.lt).trans h
theorem ab.set_ (h:ab w g t cs) (i:Nat) (u:Value):ab (w.setCell ⟨g,i,none⟩ u) g t (cs.setIfInBounds i u):=by
 unfold ab at h⊢
 simp [World.setCell,Array.getElem?_modify,h]
theorem ab.far (h:ab w g t cs) {p:Addr} (hp:g≠p.block) (u:Value):ab (w.setCell p u) g t cs:=(Below.heap_setCell w p u g hp).trans h
theorem ab.below {B:Nat} (h:ab w g t cs) (hb:Below B w w') (hg:g<B):ab w' g t cs:=(hb.block g hg).trans h
theorem ab.sl (h:ab w g t cs) (k:Nat):Sl w (some ⟨g,k,none⟩) (cs.toList.drop k):=fun j v hj=>by
 refine ⟨_,rfl,h.lt,?_⟩
 have e:(⟨g,k,none⟩:Addr).add j=⟨g,k+j,none⟩:=by unfold Addr.add;split<;>simp_all
 rw [e,h.cell]
 simpa using hj
end
def bs (l:List UInt8):ByteArray:=⟨l.toArray⟩
theorem bg {w:World} {g:Nat} {t:TypeId} {cs:Array Value} {base:Nat} {e:TypeId} {size n:Nat} {v:Value} {xs:List Value} (h:w.ownsRow base e size v n xs) (hg:ab w g t cs) (hne:e≠t):v.ownBlock≠some g:=by
 rcases h.2 with ⟨rfl,_⟩|⟨g',cap,cur,rfl,_,hh,_⟩
 ·simp [Value.ownBlock]
 ·intro he
  have:g'=g:=by simpa [Value.ownBlock] using he
  subst this
  unfold ab at hg
  rw [hh] at hg
  injection hg with hg
  injection hg with _ ht
  exact hne ht
theorem ab.grown {w w':World} {g:Nat} {t:TypeId} {cs:Array Value} {row:Option Nat} (h:ab w g t cs) (hb:w.grownBy w' row) (hg:row≠some g):ab w' g t cs:=(hb.block g h.lt (fun e=>hg e.symm)).trans h
theorem dg {w:World} {base:Nat} {e:TypeId} {n:Nat} {v:Value} {xs:List Value} (h:w.ownsRow base e 1 v n xs):∃A c,v= .slice A n c∧Sl w A xs:=by
 rcases h.2 with ⟨rfl,rfl⟩|⟨g,cap,cur,rfl,hbg,hh,h1,h2,h3,h4⟩
 ·have:xs=[]:=List.eq_nil_of_length_eq_zero (by simpa using h.1)
  subst this
  exact ⟨none,0,rfl,Sl.nil _ _⟩
 ·refine ⟨_,_,rfl,?_⟩
  have:=(ab.sl (w:=w) (g:=g) (t:=e) (cs:=cur) hh 0).take (n*1)
  rw [List.drop_zero,h4] at this
  exact this
theorem cG {w w':World} {base:Nat} {e:TypeId} {size n B:Nat} {v:Value} {xs:List Value} (h:w.ownsRow base e size v n xs) (hb:Below B w w') (hB:w.heap.size≤B):w'.ownsRow base e size v n xs:=by
 refine ⟨h.1,?_⟩
 rcases h.2 with h2|⟨g,cap,cur,rfl,hbg,hh,h3⟩
 ·exact .inl h2
 ·have hl:g<w.heap.size:=by
   rcases zAM g w.heap.size with hlt|hge
   ·exact hlt
   ·rw [Array.getElem?_eq_none hge] at hh;cases hh
  exact .inr ⟨g,cap,cur,rfl,hbg,(hb.block g (by omega)).trans hh,h3⟩
theorem Jk {w w':World} (h:Below w.drew.heap.size w.drew w'):Below w.heap.size w w':=⟨h.os,h.tape,h.output,h.size,h.block⟩
theorem fc {w:World} {base:Nat} {e:TypeId} {size n:Nat} {v:Value} {xs:List Value} (h:w.ownsRow base e size v n xs) (p:Addr) (u:Value) (hne:v.ownBlock≠some p.block):(w.setCell p u).ownsRow base e size v n xs:=by
 refine ⟨h.1,?_⟩
 rcases h.2 with h2|⟨g,cap,cur,rfl,hbg,hh,h3⟩
 ·exact .inl h2
 ·exact .inr ⟨g,cap,cur,rfl,hbg,(Below.heap_setCell w p u g (fun e=>hne (by simp [Value.ownBlock,e]))).trans hh,h3⟩
theorem JH (w:World) (x:Value) (t:TypeId):∀j u,([x]:List Value)[j]? =some u→(w.alloc (.cells #[x] t)).cell? ((⟨w.heap.size,0,none⟩:Addr).add j)=some u:=by
 intro j u hj
 have hj0:j=0:=by
  rcases j with _|j
  ·rfl
  ·simp at hj
 subst hj0
 simp at hj
 subst hj
 rw [show (⟨w.heap.size,0,none⟩:Addr).add 0=⟨w.heap.size,0,none⟩ from rfl,(ab.new w t #[x]).cell]
 rfl
theorem oX {P:Program} {w:World} {A:Option Addr} {l:List UInt8} (src dst e:TypeId) (hs:P.underlying src=some (.slice e)) (he:P.underlying e=some (.int .u8)) (hd:P.underlying dst=some .string)
  (h:Sl w A (l.map af)) (n c:Nat) (hn:l.length=n):(convert src dst (.slice A n c)).run P w= .ok (.string (bs l)) w:=by
 unfold bs
 subst hn
 cases l with
 |nil=>
  rw [run_convert_bytes_string w src dst e _ _ c hs he hd]
  cases A with
  |none=>simp [Conv.bytesToString];rfl
  |some a=>
   have h0:(loadCells a 0).run P w= .ok (([]:List Int).map (Value.int .u8)).toArray w:=by
    have:=run_loadCells_list (P:=P) w a [] (fun j v hj=>by simp at hj)
    simpa using this
   exact run_bytesToString w a 0 c [] h0
 |cons x l=>
  obtain ⟨ad,rfl,_,_⟩:=h.byte 0 (by simp)
  have hl:(loadCells ad (x::l).length).run P w= .ok (((x::l).map fun b=>(b.toNat:Int)).map (Value.int .u8)).toArray w:=by
   have:=run_loadCells_list (P:=P) w ad (((x::l).map fun b=>(b.toNat:Int)).map (Value.int .u8)) (fun j v hj=>by
    obtain ⟨ad',e1,_,hc⟩:=h j v (by rw [←hj,zAU];rfl)
    cases e1;exact hc)
   simpa using this
  rw [run_convert_bytes_string w src dst e _ _ c hs he hd,run_bytesToString w _ _ c _ hl]
  congr 2
  rw [foldl_push_bytes]
  apply ByteArray.ext
  apply Array.ext'
  simp [ByteArray.empty,ByteArray.emptyWithCapacity,zAU,Function.comp_def]
  rfl
theorem xY {P:Program} (t e n s:Nat) (a:Addr) (ht:P.underlying t=some (.array n e)) (hs:(P.info? e).map (·.size)=some s) (l:Int) (k:Nat) (hl:l=k) (hk:k<n) (W:World):
  (Instr.sliceAt t (.pointer (some a)) (some (.int .i64 l)) none none).run P W= .ok (.slice (some (a.add (k*s))) (n - k) (n - k)) W:=by
 subst hl
 have he:P.elem t=e:=by simp [Program.elem,ht]
 have hn:P.arrayLen t=n:=by simp [Program.arrayLen,ht]
 obtain ⟨i,hi,hsz⟩:=Option.map_eq_some_iff.1 hs
 rw [run_sliceAt_array_l W t a (by rw [he,hn];exact ht) .i64 k (by omega) (by rw [hn];omega),he,hn]
 simp [sizeOf,typeInfo,hi,slicedAt,hsz]
 intro h;omega
theorem C0 {P:Program} {ops:Array Oper} {Q:Exit→Act→World→Prop} {rest:List Oper} {o:Oper} {a:Act} {w w':World} {v:Value} (hgd:o.guard=none)
  (hrun:(execOp a.eval o).run P w= .ok (.value v) w') (h:wpList P ops Q rest (a.put o.dst v) w'):wpList P ops Q (o::rest) a w:=
 wpList_plain hgd fun _ hK=>by unfold Oper.wp;rw [hrun];exact hK _ _ h
@[go_sem] theorem iA (l:List UInt8):(bs l).size=l.length:=by simp [bs,ByteArray.size]
@[go_sem] theorem Kb (l:List UInt8):(bs l).toList=l:=by rw [ByteArray.toList_eq];simp [bs]
@[go_sem] theorem IP (l:List UInt8) (j:Nat) (h:j<(bs l).size):(bs l)[j]=l[j]'(by rwa [iA] at h):=by simp [bs,ByteArray.getElem_eq_getElem_data]
@[go_sem] theorem Jq (l:List UInt8) (a b:Nat):(bs l).extract a b=bs ((l.take b).drop a):=by
 apply ByteArray.ext;rw [ByteArray.data_extract];apply Array.ext';simp [bs,List.drop_take]
@[go_sem] theorem J1:bs []=⟨#[]⟩:=rfl
theorem eA (l:List UInt8):(bs l).data.toList=l:=by simp [bs]
@[go_sem] theorem ui (l k:List UInt8):bs l++bs k=bs (l++k):=by
 apply ByteArray.ext;simp [bs,ByteArray.data_append]
@[go_sem] theorem JR:Utf8.encode 48=bs [48]:=by decide
@[go_sem] theorem JS:Utf8.encode 49=bs [49]:=by decide
theorem AX {l k:List UInt8} (h:l=k):Ending.returned (.string (bs l))= .returned (.string (bs k)):=by rw [h]
theorem AW {a b:Int} (h:a=b):Ending.returned (.int .i64 a)= .returned (.int .i64 b):=by rw [h]
theorem EK (x:Nat) (hx:x<18446744073709551616):bits .and .u64 (x:Int) 1=((x % 2:Nat):Int):=by
 have:=u64_and_nat x 1 hx (by decide)
 rw [Nat.and_one_is_mod] at this
 exact this
def lQ (n j:Nat):UInt8:=if n / 2 ^ j % 2=0 then 48 else 49
def jI (n:Nat):Nat→List UInt8
 |0=>[]
 |j+1=>lQ n j::jI n j
theorem qB (n j:Nat):(jI n j).length=j:=by induction j with|zero=>rfl|succ j ih=>simp [jI,ih]
def Tz (w:World):Prop:=w.cell? ⟨7,1,none⟩=some (.int .u8 1)
theorem Tz.belowB {w w':World} {B:Nat} (h:Tz w) (hb:Below B w w') (hB:7<B):Tz w':=(hb.cell (p:=⟨7,1,none⟩) hB).trans h
theorem Tz.lt {w:World} (h:Tz w):7<w.heap.size:=by
 unfold Tz at h
 rcases zAM 7 w.heap.size with hlt|hge
 ·exact hlt
 ·simp [zAY,Array.getElem?_eq_none hge] at h
theorem Tz.below {w w':World} (h:Tz w) (hb:Below w.heap.size w w'):Tz w':=by
 unfold Tz at*
 have hl:7<w.heap.size:=by
  rcases zAM 7 w.heap.size with hlt|hge
  ·exact hlt
  ·simp [zAY,Array.getElem?_eq_none hge] at h
 rw [←h]
 exact hb.cell (p:=⟨7,1,none⟩) hl
theorem J5 (w:World) (h:Tz w):Calls Tryz.prog 291 #[.int .u64 2] w fun e w'=>e= .returned (.int .i64 1)∧w=w':=by
 unfold Tz at h
 have hq:bits BinOp.and zA7 2 (zA7.wrap (-2))=2:=by decide+kernel
 go_enter Tryz.func291,Tryz.ntmps291
 go_wp2
 go_ret
 exact ⟨rfl,rfl⟩
theorem J2 (w:World):Calls Tryz.prog 281 #[.int .i64 2] w fun e w'=>e= .returned (.bool true)∧w=w':=by
 have h:bits BinOp.and zAX 2 1=0:=by decide+kernel
 go_enter Tryz.func281,Tryz.ntmps281
 go_wp2
 go_ret
 exact ⟨rfl,rfl⟩
theorem tz (w:World) (h:Tz w):Calls Tryz.prog 282 #[.int .u64 2] w fun e w'=>e= .returned (.int .i64 1)∧w=w':=by
 have H:=zAC h;clear h
 go_enter Tryz.func282,Tryz.ntmps282
 go_wp2_with (go_at_call 291;refine (J5 _ H.out).mono ?_;rintro e w' ⟨rfl,rfl⟩)
 go_ret
 exact ⟨rfl,rfl⟩
theorem Cl (n k j:Nat) (hk:2 ^ k≤n) (hj:j<k):2≤n / 2 ^ j:=by
 rw [zAS (zAQ j)]
 have:2 ^ (j+1)≤2 ^ k:=zAA (by decide) hj
 rw [zAO] at this
 omega
theorem zt (n k:Nat) (hk:2 ^ k≤n) (hk2:n<2 ^ (k+1)):n / 2 ^ k=1:=by
 have h1:1≤n / 2 ^ k:=by rw [zAS (zAQ k)];omega
 have h2:n / 2 ^ k<2:=by rw [Nat.div_lt_iff_lt_mul (zAQ k)];rw [zAO] at hk2;omega
 omega
def C6 (n:Nat) (cs:Array Value) (j:Nat):Prop:=cs.size=65∧cs.toList.drop (65 - j)=(jI n j).map af
theorem C6.step {n j:Nat} {cs:Array Value} (h:C6 n cs j) (hj:j<65) {v:Value} (hv:v=af (lQ n j)):C6 n (cs.setIfInBounds (64 - j) v) (j+1):=by
 obtain ⟨h1,h2⟩:=h
 subst hv
 refine ⟨by simpa using h1,?_⟩
 have e:65 - (j+1)=64 - j:=by omega
 have hl:64 - j<(cs.toList.set (64 - j) (af (lQ n j))).length:=by simp;omega
 rw [e,Array.toList_setIfInBounds,List.drop_eq_getElem_cons hl,List.getElem_set_self,List.drop_set_of_lt (by omega),show 64 - j+1=65 - j by omega,h2]
 rfl
set_option maxHeartbeats 1000000 in
set_option maxRecDepth 100000 in
theorem yZ (n:Nat) (k:Nat) (hk:2 ^ k≤n) (hk2:n<2 ^ (k+1)) (hkk:k<32) (w:World) (hT:Tz w):
  Calls Tryz.prog 265 #[.slice none 0 0,.int .u64 n,.int .i64 2,.bool false,.bool false] w
   fun e w'=>e= .returned (.tuple #[.slice none 0 0,.string (bs (jI n (k+1)))])∧Below w.heap.size w w':=by
 have hn32:n<2 ^ 32:=zAD hk2 (zAA (by decide) (by omega))
 go_enter Tryz.func265,Tryz.ntmps265
 go_wp2_with (first|(go_at_call 281;refine (J2 _).mono ?_;rintro e w' ⟨rfl,rfl⟩)|(go_at_call 282;refine (tz _ (hT.below ((Below.refl _ _).alloc (zAR _) _))).mono ?_;rintro e w' ⟨rfl,rfl⟩))
 go_loopw [1,13] (fun u i wr=>∃(j m q:Nat) (cs:Array Value),m+j=65∧j≤k∧Hid (q=n / 2 ^ j)∧u= .int .u64 (q:Int)∧i= .int .i64 (m:Int)∧ab wr w.heap.size 307 cs∧C6 n cs j∧Below w.heap.size w wr) (fun u _ _=>(intOf u).toNat)
 case atStart=>exact ⟨0,65,n,_,by omega,by omega,zAC (by simp),rfl,rfl,ab.new _ _ _,⟨by kernel_rfl,by kernel_rfl⟩,(Below.refl _ _).alloc (zAR _) _⟩
 case round=>
  obtain ⟨j,m,q,cs,hm,hj,Hq,rfl,rfl,hblk,hdig,hbel⟩:=hrel
  have hq0:q≤n:=by rw [Hq.out];exact zA3 _ _
  obtain ⟨v0,hc64⟩:∃v0,wr.cell? ⟨w.heap.size,m - 1,none⟩=some v0:=⟨cs[m - 1]'(by rw [hdig.1];omega),by rw [hblk.cell];simp⟩
  have hf64:=hblk.frozen (m - 1)
  have Hst:∀v,v=af (lQ n j)→ab (wr.setCell ⟨w.heap.size,m - 1,none⟩ v) w.heap.size 307 (cs.setIfInBounds (m - 1) v)∧C6 n (cs.setIfInBounds (m - 1) v) (j+1)∧Below w.heap.size w (wr.setCell ⟨w.heap.size,m - 1,none⟩ v):=fun v hv=>by
   refine ⟨hblk.set_ _ _,?_,hbel.setCell (p:=⟨w.heap.size,m - 1,none⟩) (zAR _) _⟩
   have h64:=hdig.step (by omega) hv
   rwa [show 64 - j=m - 1 by omega] at h64
  have Hst:=zAC Hst
  by_cases hlt:j<k
  ·have hge:2≤q:=by rw [Hq.out];exact Cl n k j hk hlt
   have hand:=EK q (by omega)
   have hqq:q / 2=n / 2 ^ (j+1):=by rw [Hq.out,Nat.div_div_eq_div_mul,zAO]
   have Hqq:=zAC hqq
   clear hqq
   by_cases hz:q % 2=0
   ·have hb:af (lQ n j)= .int .u8 48:=by simp [lQ,←Hq.out,hz,af]
    have Hb:=zAC hb
    rw [hz] at hand
    clear hb hz
    go_wp2
    obtain ⟨h1,h2,h3⟩:=Hst.out _ Hb.out.symm
    exact ⟨⟨j+1,m - 1,q / 2,_,by omega,by omega,Hqq,by simp,by congr 1;omega,h1,h2,h3⟩,by simp [intOf];omega⟩
   ·have hz1:q % 2=1:=by omega
    have hb:af (lQ n j)= .int .u8 49:=by simp [lQ,←Hq.out,hz,af]
    have Hb:=zAC hb
    rw [hz1] at hand
    clear hb hz hz1
    go_wp2
    obtain ⟨h1,h2,h3⟩:=Hst.out _ Hb.out.symm
    exact ⟨⟨j+1,m - 1,q / 2,_,by omega,by omega,Hqq,by simp,by congr 1;omega,h1,h2,h3⟩,by simp [intOf];omega⟩
  ·obtain rfl:j=k:=by omega
   obtain rfl:q=1:=by rw [Hq.out];exact zt n j hk hk2
   have hb:af (lQ n j)= .int .u8 49:=by simp [lQ,←Hq.out,af]
   have Hb:=zAC hb
   clear hb
   have hsl:=xY (P:=Tryz.prog) 307 5 65 1 ⟨w.heap.size,0,none⟩ (by kernel_rfl) (by kernel_rfl) ((m:Int) - 1) (m - 1) (by omega) (by omega)
   obtain ⟨h1,h2,h3⟩:=Hst.out _ Hb.out.symm
   have hdig:({data:= #[48,49,50,51,52,53,54,55,56,57,97,98,99,100,101,102,103,104,105,106,107,108,109,110,111,112,113,114,115,116,117,118,119,120,121,122]}:ByteArray)[1].toNat=49:=by decide
   have hS:=h1.sl (m - 1)
   rw [show (cs.setIfInBounds (m - 1) (.int .u8 49)).toList.drop (m - 1)=(jI n (j+1)).map af by rw [show m - 1=65 - (j+1) by omega];rw [show m - 1=65 - (j+1) by omega] at h2;exact h2.2] at hS
   have hcv:=oX (P:=Tryz.prog) 25 9 5 (by kernel_rfl) (by kernel_rfl) (by kernel_rfl) hS (65 - (m - 1)) (65 - (m - 1)) (by rw [qB];omega)
   go_wp2
   go_ret2
   exact ⟨rfl,h3⟩
theorem Ju (n:Nat) (k:Nat) (hk:2 ^ k≤n) (hk2:n<2 ^ (k+1)) (hkk:k<32) (w:World) (hT:Tz w):
  Calls Tryz.prog 235 #[.int .i64 n,.int .i64 2] w fun e w'=>e= .returned (.string (bs (jI n (k+1))))∧Below w.heap.size w w':=by
 have HT:=zAC hT;clear hT
 have hn32:n<2 ^ 32:=zAD hk2 (zAA (by decide) (by omega))
 have h0:decide ((n:Int)<0)=false:=by simp
 go_enter Tryz.func235,Tryz.ntmps235
 go_wp2_with (go_at_call 265;refine (yZ n k hk hk2 hkk _ HT.out).mono ?_;rintro e w' ⟨rfl,hb⟩)
 go_ret
 exact ⟨rfl,hb⟩
theorem Fi (n:Int) (k:Nat) (hk:2 ^ k≤n.toNat) (hk2:n.toNat<2 ^ (k+1)) (hkk:k<32) (w:World) (hT:Tz w):
  Calls Tryz.prog 198 #[.int .i64 n,.int .i64 2] w fun e w'=>e= .returned (.string (bs (jI n.toNat (k+1))))∧Below w.heap.size w w':=by
 have HT:=zAC hT;clear hT
 obtain ⟨n,rfl⟩:∃m:Nat,n=m:=⟨n.toNat,by have:=zAW (n:=k);omega⟩
 rw [zAK] at hk hk2⊢
 go_enter Tryz.func198,Tryz.ntmps198
 go_wp2_with (go_at_call 235;refine (Ju n k hk hk2 hkk _ HT.out).mono ?_;rintro e w' ⟨rfl,hb⟩)
 go_ret
 exact ⟨rfl,hb⟩
def aP (l:List UInt8) (k:Nat):Nat:=(l.getD (k / 8) 0).toNat / 2 ^ (7 - k % 8) % 2
theorem gT (l:List UInt8) (k:Nat):aP l k<2:=Nat.mod_lt _ (by decide)
def aF (l:List UInt8) (k:Nat):Nat→Nat
 |0=>0
 |n+1=>2*aF l k n+aP l (k+n)
theorem gm (l:List UInt8) (k n:Nat):aF l k n<2 ^ n:=by
 induction n with
 |zero=>simp [aF]
 |succ n ih=>have:=gT l (k+n);simp only [aF,zAO];omega
theorem wB (A:Option Addr) (n c:Nat) (l:List UInt8) (i:Int) (w:World) (hr:Sl w A (l.map af)) (hn:l.length=n) (h0:0≤i) (h1:i<8*n):
  Calls Tryz.prog 99 #[.slice A n c,.int .i64 i] w fun e w'=>e= .returned (.int .i64 (aP l i.toNat))∧w=w':=by
 obtain ⟨k,rfl⟩:=zAF h0
 subst hn
 obtain ⟨ad,rfl,_,hc⟩:=hr.byte (k / 8) (by omega)
 have hk:(0:Int)≤7 - ↑k % 8:=by omega
 have hb:l[k / 8].toNat<256:=UInt8.toNat_lt _
 have hb2:l[k / 8].toNat / 2 ^ (7 - k % 8)<256:=Nat.lt_of_le_of_lt (zA3 _ _) hb
 have hlt:k / 8<l.length:=by omega
 have hfin:wrap64 (↑l[k / 8].toNat / 2 ^ (7 - k % 8)) % 2=((aP l k:Nat):Int):=by
  generalize hq:l[k / 8].toNat / 2 ^ (7 - k % 8)=q at hb2
  rw [show ((l[k / 8].toNat:Int) / 2 ^ (7 - k % 8))=(q:Int) by rw [←hq];simp,IntWalk.wrap64_in _ (by omega),←hq]
  simp [aP,zA4,hlt]
 have Hf:=zAC hfin
 clear hfin hb hb2
 go_enter Tryz.func99,Tryz.ntmps99
 go_wp2
 go_ret
 rw [Hf.out,zAK]
 exact ⟨rfl,rfl⟩
set_option maxHeartbeats 400000 in
theorem ja (A:Option Addr) (n c:Nat) (l:List UInt8) (i m:Int) (w:World) (hr:Sl w A (l.map af)) (hn:l.length=n) (h0:0≤i) (hm:0≤m) (hm2:m≤32) (h1:i+m≤8*n) (hsz:n≤2 ^ 47):
  Calls Tryz.prog 56 #[.slice A n c,.int .i64 i,.int .i64 m] w fun e w'=>e= .returned (.tuple #[.int .i64 (aF l i.toNat m.toNat),.int .i64 0])∧w=w':=by
 obtain ⟨k,rfl⟩:=zAF h0
 obtain ⟨m,rfl⟩:=zAF hm
 have e1:decide ((k:Int)<0)=false:=by simp
 have e2:decide ((m:Int)<0)=false:=by simp
 have e3:¬(32:Int)<m:=by omega
 have e4:¬(8*(n:Int))<k:=by omega
 have e5:¬(8*(n:Int)) - k<m:=by omega
 go_enter Tryz.func56,Tryz.ntmps56
 go_wp2
 go_loop [1,2,8] (fun i n x=>∃j:Nat,j≤m∧i= .int .i64 ((k+j:Nat):Int)∧n= .int .i64 ((m - j:Nat):Int)∧x= .int .i64 (aF l k j)) (fun _ n _=>(intOf n).toNat)
 case atStart=>exact ⟨0,by omega,rfl,rfl,rfl⟩
 case round=>
  obtain ⟨j,hj,rfl,rfl,rfl⟩:=hrel
  by_cases hlt:j<m
  ·have hb:=gT l (k+j)
   have hx:=gm l k j
   have hx2:aF l k j<2 ^ 32:=zAD hx (zAA (by decide) (by omega))
   have hp:(0:Int)<((m - j:Nat):Int):=by omega
   have Ho:=zAC (BU (aF l k j) (aP l (k+j)) (by omega) hb)
   clear hx
   have hz:(0:Int)≤((k+j:Nat):Int):=by omega
   go_wp2_with (go_at_call 99;refine (wB _ _ _ l _ _ hr hn (by omega) (by omega)).mono ?_;rintro e w' ⟨rfl,rfl⟩)
   refine ⟨⟨j+1,by omega,by congr 1,by congr 1;omega,?_⟩,?_⟩
   ·have h2:=Ho.out;exact congrArg (Value.int .i64) h2
   ·simp [intOf];omega
  ·have hp:¬(0:Int)<((m - j:Nat):Int):=by omega
   obtain rfl:j=m:=by omega
   go_wp2
   go_ret2
   exact ⟨by simp,rfl⟩
theorem fM (v:Int) (A:Option Addr) (n c:Nat) (l:List UInt8) (i m:Int) (w:World) (hv:(aF l i.toNat m.toNat:Int)=v) (hr:Sl w A (l.map af)) (hn:l.length=n) (h0:0≤i) (hm:0≤m) (hm2:m≤32) (h1:i+m≤8*n) (hsz:n≤2 ^ 47):
  Calls Tryz.prog 56 #[.slice A n c,.int .i64 i,.int .i64 m] w fun e w'=>e= .returned (.tuple #[.int .i64 v,.int .i64 0])∧w=w':=by
 rw [←hv];exact ja A n c l i m w hr hn h0 hm hm2 h1 hsz
theorem de (A:Option Addr) (n c:Nat) (i m:Int) (w:World) (h0:0≤i) (hm:0≤m) (hm2:m≤32) (h1:8*n<i+m) (hsz:n≤2 ^ 47):
  Calls Tryz.prog 56 #[.slice A n c,.int .i64 i,.int .i64 m] w fun e w'=>e= .returned (.tuple #[.int .i64 0,.int .i64 5])∧w=w':=by
 have e1:decide (i<0)=false:=by simpa using h0
 have e2:decide (m<0)=false:=by simpa using hm
 have e3:¬(32:Int)<m:=by omega
 by_cases e4:(8*(n:Int))<i
 ·go_enter Tryz.func56,Tryz.ntmps56
  go_wp2
  go_ret2
  exact ⟨rfl,rfl⟩
 ·have e5:(8*(n:Int)) - i<m:=by omega
  go_enter Tryz.func56,Tryz.ntmps56
  go_wp2
  go_ret2
  exact ⟨rfl,rfl⟩
theorem dd (A:Option Addr) (n c:Nat) (w:World) (hsz:n≤2 ^ 47):
  Calls Tryz.prog 84 #[.slice A n c] w fun e w'=>e= .returned (.int .i64 (8*n))∧w=w':=by
 go_enter Tryz.func84,Tryz.ntmps84
 go_wp2
 go_ret
 exact ⟨rfl,rfl⟩
def bE (c:List UInt8):Value:= .string (bs c)
def cW (l:List UInt8) (k:Nat):UInt8:=if aP l k=0 then 48 else 49
def aC (l:List UInt8) (i n:Nat):List UInt8:=(zAE n).map fun j=>cW l (i+j)
theorem kW (l:List UInt8) (i n:Nat):aC l i (n+1)=aC l i n++[cW l (i+n)]:=by simp [aC,zA2]
theorem bi (l:List UInt8) (i n:Nat):(aC l i n).length=n:=by simp [aC]
theorem l5 (l:List UInt8) (k:Nat):aF l k 1=aP l k:=by simp [aF]
def dr (c:List UInt8):Bool:=c.all (fun b=>b==48||b==49)&&decide (1≤c.length)&&decide (c.length≤24)
def eU (cs:List (List UInt8)):Bool:=(zAE cs.length).all fun i=>(zAE cs.length).all fun k=>i==k|| !(cs.getD k []).isPrefixOf (cs.getD i [])
def bK (s:List UInt8):List (List UInt8)→List Int→Option (Int×Int)
 |c::cs,n::ns=>if c.isPrefixOf s then some (n,(c.length:Int)) else bK s cs ns
 |_,_=>none
def jL (cs:List (List UInt8)) (ns:List Int) (s:List UInt8):Int×Int×Int:=
 match bK s cs ns with
 |some (n,k)=>(n,k,0)
 |none=>if cs.any (fun c=>s.isPrefixOf c) then (0,0,5) else (0,0,7)
def ac (cs:List (List UInt8)) (ns:List Int) (l:List UInt8) (i:Int):Int×Int×Int:=
 if i<0 then (0,0,3) else jL cs ns (aC l i.toNat (min 24 (8*l.length - i.toNat)))
theorem qR (p s:List UInt8) (_h:p.length≤s.length):(s.take p.length==p)=p.isPrefixOf s:=by
 rw [Bool.eq_iff_iff,beq_iff_eq,zAJ,List.prefix_iff_eq_take]
 exact eq_comm
theorem ki (p s:List UInt8) (h:¬p.length≤s.length):p.isPrefixOf s=false:=by
 rw [Bool.eq_false_iff]
 intro hp
 exact h (zAJ.1 hp).length_le
structure Nd where
 a:Nat
 b:Nat
 leaf:Bool
 num:Int
def nz (x:Nd):List Value:=[.int .i64 x.a,.int .i64 x.b,.bool x.leaf,.int .i64 x.num]
theorem gU (x:Nd):(nz x).length=4:=rfl
def Nd.to (x:Nd) (c:UInt8):Nat:=if c=48 then x.a else x.b
def Nd.link (x:Nd) (c:UInt8) (k:Nat):Nd:=if c=48 then ⟨k,x.b,x.leaf,x.num⟩ else ⟨x.a,k,x.leaf,x.num⟩
def bT:Nd:=⟨0,0,false,0⟩
def uw (N:List Nd) (k:Nat) (c:UInt8):List Nd×Nat:=
 if (N.getD k bT).to c=0 then ((N++[bT]).set k ((N.getD k bT).link c N.length),N.length) else (N,(N.getD k bT).to c)
def kp:List Nd→Nat→List UInt8→Option (List Nd×Nat)
 |N,k,[]=>if decide (N.length≤k)||decide (10000≤N.length) then none else some (N,k)
 |N,k,c::s=>if (N.getD k bT).leaf||decide (N.length≤k)||decide (10000≤N.length) then none else kp (uw N k c).1 (uw N k c).2 s
def xR (N:List Nd) (s:List UInt8) (num:Int):Option (List Nd):=
 match kp N 0 s with
 |none=>none
 |some (M,k)=>if (M.getD k bT).leaf||(M.getD k bT).a !=0||(M.getD k bT).b !=0 then none else some (M.set k ⟨0,0,true,num⟩)
def fF:List Nd→List (List UInt8)→List Int→Option (List Nd)
 |N,c::cs,n::ns=>match xR N c n with
  |none=>none
  |some M=>fF M cs ns
 |N,_,_=>some N
def fw (cs:List (List UInt8)) (ns:List Int):List Nd:=(fF [bT] cs ns).getD []
def fI (N:List Nd):Nat→List UInt8→Int→Int×Int×Int
 |_,[],_=>(0,0,5)
 |k,c::s,many=>if (N.getD k bT).to c=0 then (0,0,7) else if (N.getD ((N.getD k bT).to c) bT).leaf then ((N.getD ((N.getD k bT).to c) bT).num,many+1,0) else fI N ((N.getD k bT).to c) s (many+1)
def Bn (N:List Nd):Bool:=N.all fun x=>decide (x.a<N.length)&&decide (x.b<N.length)
theorem Jn {N:List Nd} (h:Bn N=true) (k:Nat) (hk:0<N.length) (c:UInt8):(N.getD k bT).to c<N.length:=by
 rw [zA4]
 cases he:N[k]? with
 |none=>simpa [Nd.to,bT] using hk
 |some x=>
  have:=zAG.1 h x (List.mem_of_getElem? he)
  simp only [zAB,decide_eq_true_eq] at this
  simp only [zA0,Nd.to]
  split
  ·exact this.1
  ·exact this.2
def jA (c:UInt8):List (List UInt8×Int)→List (List UInt8×Int)
 |[]=>[]
 |([],_)::D=>jA c D
 |(d::s,n)::D=>if d==c then (s,n)::jA c D else jA c D
def oV:Nat→List Nd→Nat→List (List UInt8×Int)→Bool
 |0,_,_,_=>false
 |f+1,N,k,D=>D.all (fun p=>p.1 !=[])&&D !=[]&&[(48:UInt8),49].all fun c=>
   if (N.getD k bT).to c==0 then jA c D==[] else
    if (N.getD ((N.getD k bT).to c) bT).leaf then jA c D==[([],(N.getD ((N.getD k bT).to c) bT).num)] else oV f N ((N.getD k bT).to c) (jA c D)
def lk (D:List (List UInt8×Int)) (s:List UInt8) (many:Int):Int×Int×Int:=
 match D.find? (fun p=>p.1.isPrefixOf s) with
 |some p=>(p.2,many+p.1.length,0)
 |none=>if D.any (fun p=>s.isPrefixOf p.1) then (0,0,5) else (0,0,7)
theorem DQ (D:List (List UInt8×Int)) (h:D.all (fun p=>p.1 !=[])=true) (h1:D≠[]) (many:Int):lk D [] many=(0,0,5):=by
 have hf:D.find? (fun p=>p.1.isPrefixOf ([]:List UInt8))=none:=by
  rw [List.find?_eq_none]
  intro p hp
  have:=zAG.1 h p hp
  obtain ⟨s,n⟩:=p
  cases s with
  |nil=>simp at this
  |cons x s=>simp
 unfold lk
 rw [hf]
 cases D with
 |nil=>exact absurd rfl h1
 |cons p D=>simp
theorem sq:∀(D:List (List UInt8×Int)) (_h:D.all (fun p=>p.1 !=[])=true) (c:UInt8) (s:List UInt8) (many:Int),lk D (c::s) many=lk (jA c D) s (many+1)
 |[],_,c,s,many=>rfl
 |([],n)::D,h,c,s,many=>by simp at h
 |(d::t,n)::D,h,c,s,many=>by
  have ih:=sq D (by simpa using h) c s many
  unfold lk at ih⊢
  by_cases hd:d=c
  ·subst hd
   simp only [jA,beq_self_eq_true,if_true,zAP,zAL,Bool.true_and,zAI]
   cases hp:t.isPrefixOf s with
   |true=>simp;omega
   |false=>
    simp only []
    cases hs:s.isPrefixOf t with
    |false=>simp only [zA5];exact ih
    |true=>
     simp only [Bool.true_or,if_true]
     cases h1:D.find? (fun p=>p.1.isPrefixOf (d::s)) with
     |none=>
      rw [h1] at ih
      cases h2:(jA d D).find? (fun p=>p.1.isPrefixOf s) with
      |none=>rfl
      |some p=>rw [h2] at ih;simp only at ih;split at ih<;>simp at ih
     |some p=>
      rw [h1] at ih
      cases h2:(jA d D).find? (fun p=>p.1.isPrefixOf s) with
      |none=>rw [h2] at ih;simp only at ih;split at ih<;>simp at ih
      |some q=>rw [h2] at ih;exact ih
  ·have h1:(d==c)=false:=beq_eq_false_iff_ne.2 hd
   have h2:(c==d)=false:=beq_eq_false_iff_ne.2 (Ne.symm hd)
   simp only [jA,h1,if_false,zAP,zAL,Bool.false_and,zAI,h2,zA5,Bool.false_eq_true]
   exact ih
theorem vv:∀(f:Nat) (N:List Nd) (k:Nat) (D:List (List UInt8×Int)) (s:List UInt8) (many:Int),oV f N k D=true→(∀c∈s,c=48∨c=49)→fI N k s many=lk D s many
 |0,N,k,D,s,many,h,_=>by simp [oV] at h
 |f+1,N,k,D,s,many,h,hs=>by
  rw [oV,zAB,zAB] at h
  obtain ⟨⟨h1,h2⟩,h3⟩:=h
  have h2':D≠[]:=by simpa using h2
  cases s with
  |nil=>rw [DQ D h1 h2'];rfl
  |cons c s=>
   rw [sq D h1 c s many,fI]
   have hc:c∈[(48:UInt8),49]:=by have:=hs c (by simp);simpa using this
   have h4:=zAG.1 h3 c hc
   by_cases ht:(N.getD k bT).to c=0
   ·rw [if_pos ht]
    rw [if_pos (beq_iff_eq.2 ht)] at h4
    rw [beq_iff_eq.1 h4]
    rfl
   ·rw [if_neg ht]
    rw [if_neg (by simpa using ht)] at h4
    by_cases hl:(N.getD ((N.getD k bT).to c) bT).leaf=true
    ·rw [if_pos hl]
     rw [if_pos hl] at h4
     rw [beq_iff_eq.1 h4]
     simp [lk]
    ·rw [if_neg hl]
     rw [if_neg hl] at h4
     exact vv f N _ _ s (many+1) h4 (fun x hx=>hs x (by simp [hx]))
theorem vw:∀(f:Nat) (N:List Nd) (k:Nat) (D:List (List UInt8×Int)) (s:List UInt8) (many:Int),oV f N k D=true→(∀c∈s,c=48∨c=49)→fI N k s many=fI N k (s.take f) many
 |0,N,k,D,s,many,h,_=>by simp [oV] at h
 |f+1,N,k,D,s,many,h,hs=>by
  rw [oV,zAB,zAB] at h
  obtain ⟨⟨h1,h2⟩,h3⟩:=h
  cases s with
  |nil=>rfl
  |cons c s=>
   rw [List.take_succ_cons,fI,fI]
   have hc:c∈[(48:UInt8),49]:=by have:=hs c (by simp);simpa using this
   have h4:=zAG.1 h3 c hc
   by_cases ht:(N.getD k bT).to c=0
   ·rw [if_pos ht,if_pos ht]
   ·rw [if_neg ht,if_neg ht]
    rw [if_neg (by simpa using ht)] at h4
    by_cases hl:(N.getD ((N.getD k bT).to c) bT).leaf=true
    ·rw [if_pos hl,if_pos hl]
    ·rw [if_neg hl,if_neg hl]
     rw [if_neg hl] at h4
     exact vw f N _ _ s (many+1) h4 (fun x hx=>hs x (by simp [hx]))
theorem wO (s:List UInt8):∀(cs:List (List UInt8)) (ns:List Int),bK s cs ns=((cs.zip ns).find? (fun p=>p.1.isPrefixOf s)).map (fun p=>(p.2,(p.1.length:Int)))
 |[],ns=>by rw [bK.eq_def];rfl
 |c::cs,[]=>by rw [bK.eq_def];rfl
 |c::cs,n::ns=>by
  rw [bK,zAV,zAP,wO s cs ns]
  cases hp:c.isPrefixOf s with
  |true=>simp
  |false=>simp
theorem Ak (f:List UInt8→Bool):∀(cs:List (List UInt8)) (ns:List Int),cs.length=ns.length→(cs.zip ns).any (fun p=>f p.1)=cs.any f
 |[],ns,h=>rfl
 |c::cs,[],h=>by simp at h
 |c::cs,n::ns,h=>by rw [zAV,zAI,zAI,Ak f cs ns (by simpa using h)]
theorem DC (cs:List (List UInt8)) (ns:List Int) (s:List UInt8) (h:cs.length=ns.length):jL cs ns s=lk (cs.zip ns) s 0:=by
 unfold jL lk
 rw [wO]
 cases (cs.zip ns).find? (fun p=>p.1.isPrefixOf s) with
 |some p=>simp
 |none=>simp only [Option.map_none];rw [Ak _ cs ns h]
theorem GH (l:List UInt8) (k:Nat):cW l k=48∨cW l k=49:=by unfold cW;split<;>simp
theorem lR (l:List UInt8) (i n:Nat):∀c∈aC l i n,c=48∨c=49:=by
 intro c hc
 obtain ⟨j,_,rfl⟩:=List.mem_map.1 hc
 exact GH l _
theorem Bv (l:List UInt8) (i n m:Nat):(aC l i n).take m=aC l i (min m n):=by
 unfold aC
 rw [←List.map_take,List.take_range]
theorem EM (N:List Nd) (cs:List (List UInt8)) (ns:List Int) (h:oV 24 N 0 (cs.zip ns)=true) (hl:cs.length=ns.length) (l:List UInt8) (i:Nat):
  fI N 0 (aC l i (8*l.length - i)) 0=ac cs ns l i:=by
 have h1:=lR l i (8*l.length - i)
 rw [vw 24 N 0 _ _ 0 h h1,Bv,vv 24 N 0 _ _ 0 h (lR _ _ _),←DC cs ns _ hl,ac,if_neg (by omega),zAK]
theorem Bu (l:List UInt8) (i n:Nat):aC l i (n+1)=cW l i::aC l (i+1) n:=by
 unfold aC
 rw [List.range_succ_eq_map,zA6,zAU]
 congr 1
 apply zAT
 intro j _
 show cW l (i+(j+1))=cW l (i+1+j)
 congr 1
 omega
def aA:List (List UInt8):=[[48,48,48,49],[48,48,48,48,48,48,49],[49],[48,48,48,48,49],[48,48,48,48,48,48,48,48,49],[48,48,48,48,48,48,48,49],[48,48,48,48,48,48,48,48,48,49],[48,48,49],[48,49],[48,48,48,48,48,49]]
def aM:List Int:=(zAE 10).map fun (j:Nat)=>(j:Int)+1
def aj:List (List UInt8):=[[48,48,48,48,48,48,49,49,48,48,49],[48,48,48,48,48,48,49,49,48,49,49],[48,48,48,48,48,48,49,49,49,48,49],[48,48,48,48,48,48,49,49,49,49,49],[48,48,48,48,48,49,48,48,48,48,49],[48,48,48,48,48,49,48,48,48,49,49],[48,48,48,48,48,49,48,48,49,49],[48,48,48,48,48,49,48,49,48,49],[48,48,48,48,48,49,48,49,49,49],[48,48,48,48,48,49,49,49],[48,48,48,48,49,48,48,49],[48,48,48,48,49,48,49,49],[48,48,48,48,49,49,49],[48,48,48,49,49],[48,48,49,49],[48,49,49],[49],[48,49,48],[48,48,49,48],[48,48,48,49,48],[48,48,48,48,49,49,48],[48,48,48,48,49,48,49,48],[48,48,48,48,49,48,48,48],[48,48,48,48,48,49,49,48],[48,48,48,48,48,49,48,49,49,48],[48,48,48,48,48,49,48,49,48,48],[48,48,48,48,48,49,48,48,49,48],[48,48,48,48,48,49,48,48,48,49,48],[48,48,48,48,48,49,48,48,48,48,48],[48,48,48,48,48,48,49,49,49,49,48],[48,48,48,48,48,48,49,49,49,48,48],[48,48,48,48,48,48,49,49,48,49,48]]
def aq:List Int:=(zAE 32).map fun (j:Nat)=>(j:Int) - 16
def bH:List (List UInt8):=[[48,49,48,49,49],[48,49,48,48,49],[48,48,49,49,48,49],[49,49,48,49],[48,48,49,48,49,49,49],[48,48,49,48,48,49,49],[48,48,48,49,49,49,49,49],[49,49,48,48],[48,48,49,48,49,49,48],[48,48,49,48,48,49,48],[48,48,48,49,49,49,49,48],[49,48,48,49,49],[48,48,48,49,49,48,49,49],[48,48,48,49,48,49,49,49],[48,48,48,49,48,48,49,49],[49,48,49,49],[48,48,49,48,49,48,49],[48,48,49,48,48,48,49],[48,48,48,49,49,49,48,49],[49,48,48,48,49],[48,48,48,49,49,48,48,49],[48,48,48,49,48,49,48,49],[48,48,48,49,48,48,48,49],[48,48,49,49,49,49],[48,48,48,48,49,49,49,49],[48,48,48,48,49,49,48,49],[48,48,48,48,48,48,48,49,49],[48,49,49,49,49],[48,48,48,48,49,48,49,49],[48,48,48,48,48,49,49,49],[48,48,48,48,48,48,49,49,49],[49,48,49,48],[48,48,49,48,49,48,48],[48,48,49,48,48,48,48],[48,48,48,49,49,49,48,48],[48,48,49,49,49,48],[48,48,48,48,49,49,49,48],[48,48,48,48,49,49,48,48],[48,48,48,48,48,48,48,49,48],[49,48,48,48,48],[48,48,48,49,49,48,48,48],[48,48,48,49,48,49,48,48],[48,48,48,49,48,48,48,48],[48,49,49,49,48],[48,48,48,48,49,48,49,48],[48,48,48,48,48,49,49,48],[48,48,48,48,48,48,49,49,48],[49,48,48,49,48],[48,48,48,49,49,48,49,48],[48,48,48,49,48,49,49,48],[48,48,48,49,48,48,49,48],[48,49,49,48,49],[48,48,48,48,49,48,48,49],[48,48,48,48,48,49,48,49],[48,48,48,48,48,48,49,48,49],[48,49,49,48,48],[48,48,48,48,49,48,48,48],[48,48,48,48,48,49,48,48],[48,48,48,48,48,48,49,48,48],[49,49,49],[48,49,48,49,48],[48,49,48,48,48],[48,48,49,49,48,48]]
def cf:List Int:=(zAE 63).map fun (j:Nat)=>(j:Int)+1
theorem GZ:oV 24 (fw aA aM) 0 (aA.zip aM)=true:=by kernel_rfl
theorem G0:Bn (fw aA aM)=true:=by kernel_rfl
theorem Fu:(fF [bT] aA aM).isSome=true:=by kernel_rfl
theorem kA:aA.all dr=true:=by kernel_rfl
theorem uD:eU aA=true:=by kernel_rfl
theorem Jl:oV 24 (fw aj aq) 0 (aj.zip aq)=true:=by kernel_rfl
theorem Jm:Bn (fw aj aq)=true:=by kernel_rfl
theorem Iu:(fF [bT] aj aq).isSome=true:=by kernel_rfl
theorem vec_code:aj.all dr=true:=by kernel_rfl
theorem yG:eU aj=true:=by kernel_rfl
theorem Jd:oV 24 (fw bH cf) 0 (bH.zip cf)=true:=by kernel_rfl
theorem Je:Bn (fw bH cf)=true:=by kernel_rfl
theorem Hw:(fF [bT] bH cf).isSome=true:=by kernel_rfl
theorem oy:bH.all dr=true:=by kernel_rfl
theorem xF:eU bH=true:=by kernel_rfl
def ff (L:List UInt8) (k:Nat):Nat:=if L[k]? =some 49 then 1 else 0
theorem dL (L:List UInt8) (k:Nat):ff L k<2:=by unfold ff;split<;>omega
def fE (L:List UInt8) (j:Nat):Nat:=128*ff L (8*j)+64*ff L (8*j+1)+32*ff L (8*j+2)+16*ff L (8*j+3)+8*ff L (8*j+4)+4*ff L (8*j+5)+2*ff L (8*j+6)+ff L (8*j+7)
theorem wE (L:List UInt8) (j:Nat):fE L j<256:=by
 have h0:=dL L (8*j);have h1:=dL L (8*j+1);have h2:=dL L (8*j+2);have h3:=dL L (8*j+3)
 have h4:=dL L (8*j+4);have h5:=dL L (8*j+5);have h6:=dL L (8*j+6);have h7:=dL L (8*j+7)
 unfold fE;omega
def aO (L:List UInt8):List UInt8:=(zAE ((L.length+7) / 8)).map fun j=>UInt8.ofNat (fE L j)
theorem ct (L:List UInt8):(aO L).length=(L.length+7) / 8:=by simp [aO]
theorem mM (L:List UInt8) (j:Nat) (h:j<(L.length+7) / 8):(aO L)[j]? =some (UInt8.ofNat (fE L j)):=by simp [aO,h]
theorem gp (n:Nat) (h:n<256):(UInt8.ofNat n).toNat=n:=by simp [UInt8.toNat_ofNat'];omega
theorem Jp (a b c d e f g h r:Nat) (ha:a<2) (hb:b<2) (hc:c<2) (hd:d<2) (he:e<2) (hf:f<2) (hg:g<2) (hh:h<2) (hr:r<8):
  (128*a+64*b+32*c+16*d+8*e+4*f+2*g+h) / 2 ^ (7 - r) % 2=if r=0 then a else if r=1 then b else if r=2 then c else if r=3 then d else if r=4 then e else if r=5 then f else if r=6 then g else h:=by
 match r,hr with
 |0,_=>simp;omega
 |1,_=>simp;omega
 |2,_=>simp;omega
 |3,_=>simp;omega
 |4,_=>simp;omega
 |5,_=>simp;omega
 |6,_=>simp;omega
 |7,_=>simp;omega
theorem tZ (L:List UInt8) (k:Nat) (h:k<8*((L.length+7) / 8)):aP (aO L) k=ff L k:=by
 have hj:k / 8<(L.length+7) / 8:=by omega
 unfold aP
 rw [zA4,mM L _ hj,zA0,gp _ (wE L _)]
 unfold fE
 rw [Jp _ _ _ _ _ _ _ _ (k % 8) (dL _ _) (dL _ _) (dL _ _) (dL _ _) (dL _ _) (dL _ _) (dL _ _) (dL _ _) (by omega)]
 have hk:k=8*(k / 8)+k % 8:=by omega
 have hr:k % 8<8:=by omega
 generalize k % 8=r at hk hr
 generalize k / 8=j at hk
 subst hk
 match r,hr with
 |0,_=>rfl
 |1,_=>rfl
 |2,_=>rfl
 |3,_=>rfl
 |4,_=>rfl
 |5,_=>rfl
 |6,_=>rfl
 |7,_=>rfl
theorem dN (L:List UInt8) (k:Nat) (h:L.length≤k):ff L k=0:=by unfold ff;rw [zAH h];rfl
theorem E0 (L M:List UInt8) (k:Nat):ff (L++M) k=if k<L.length then ff L k else ff M (k - L.length):=by
 unfold ff
 by_cases h:k<L.length
 ·rw [if_pos h,List.getElem?_append_left h]
 ·rw [if_neg h,List.getElem?_append_right (by omega)]
def rh (c:UInt8):Nat:=if c=49 then 1 else 0
theorem E1 (c:UInt8):ff [c] 0=rh c:=by simp [ff,rh]
theorem nS (L:List UInt8) (c:UInt8) (j:Nat):fE (L++[c]) j=fE L j+if j=L.length / 8 then rh c*2 ^ (7 - L.length % 8) else 0:=by
 have key:∀k,ff (L++[c]) k=ff L k+if k=L.length then rh c else 0:=fun k=>by
  rw [E0]
  by_cases h:k<L.length
  ·rw [if_pos h,if_neg (by omega)];rfl
  ·rw [if_neg h,dN L k (by omega)]
   by_cases h2:k=L.length
   ·subst h2;simp [E1]
   ·rw [if_neg h2,dN _ _ (by simp;omega)]
 unfold fE
 simp only [key]
 by_cases hj:j=L.length / 8
 ·rw [if_pos hj]
  have hr:L.length % 8<8:=by omega
  have hk:L.length=8*j+L.length % 8:=by omega
  generalize L.length % 8=r at hk hr
  rw [hk]
  match r,hr with
  |0,_=>simp;omega
  |1,_=>simp;omega
  |2,_=>simp;omega
  |3,_=>simp;omega
  |4,_=>simp;omega
  |5,_=>simp;omega
  |6,_=>simp;omega
  |7,_=>simp;omega
 ·rw [if_neg hj]
  rw [if_neg (by omega),if_neg (by omega),if_neg (by omega),if_neg (by omega),if_neg (by omega),if_neg (by omega),if_neg (by omega),if_neg (by omega)]
  simp only [Nat.add_zero]
theorem By (L:List UInt8) (j:Nat) (h:L.length≤8*j):fE L j=0:=by
 unfold fE
 rw [dN,dN,dN,dN,dN,dN,dN,dN]<;>omega
theorem Cg (L:List UInt8) (c:UInt8) (h:L.length % 8=0):aO (L++[c])=aO L++[UInt8.ofNat (rh c*2 ^ (7 - L.length % 8))]:=by
 unfold aO
 have e:((L++[c]).length+7) / 8=(L.length+7) / 8+1:=by simp;omega
 rw [e,zA2,List.map_append]
 congr 1
 ·apply zAT
  intro j hj
  rw [nS,if_neg (by have:=List.mem_range.1 hj;omega)];rfl
 ·simp only [zA6,List.map_nil]
  rw [nS,if_pos (by omega),By L _ (by omega),Nat.zero_add]
theorem Ch (L:List UInt8) (c:UInt8) (h:L.length % 8≠0):aO (L++[c])=(aO L).set (L.length / 8) (UInt8.ofNat (fE L (L.length / 8)+rh c*2 ^ (7 - L.length % 8))):=by
 have e:((L++[c]).length+7) / 8=(L.length+7) / 8:=by simp;omega
 apply List.ext_getElem?
 intro j
 by_cases hj:j<(L.length+7) / 8
 ·rw [mM _ _ (by rw [e];exact hj),nS]
  by_cases h2:j=L.length / 8
  ·rw [if_pos h2,h2,List.getElem?_set_self (by rw [ct];omega)]
  ·rw [if_neg h2,List.getElem?_set_ne (Ne.symm h2),mM _ _ hj];rfl
 ·rw [zAH (by rw [ct,e];omega),zAH (by rw [List.length_set,ct];omega)]
theorem Dq (L:List UInt8) (h:L.length % 8≠0):fE L (L.length / 8) % 2 ^ (8 - L.length % 8)=0:=by
 have hr:L.length % 8<8:=by omega
 have hk:L.length=8*(L.length / 8)+L.length % 8:=by omega
 have ho:∀k,L.length≤k→ff L k=0:=fun k=>dN L k
 unfold fE
 generalize L.length / 8=j at hk
 generalize L.length % 8=r at hk hr h
 match r,hr,h with
 |1,_,_=>rw [ho (8*j+1) (by omega),ho (8*j+2) (by omega),ho (8*j+3) (by omega),ho (8*j+4) (by omega),ho (8*j+5) (by omega),ho (8*j+6) (by omega),ho (8*j+7) (by omega)];simp<;>omega
 |2,_,_=>rw [ho (8*j+2) (by omega),ho (8*j+3) (by omega),ho (8*j+4) (by omega),ho (8*j+5) (by omega),ho (8*j+6) (by omega),ho (8*j+7) (by omega)];simp<;>omega
 |3,_,_=>rw [ho (8*j+3) (by omega),ho (8*j+4) (by omega),ho (8*j+5) (by omega),ho (8*j+6) (by omega),ho (8*j+7) (by omega)];simp<;>omega
 |4,_,_=>rw [ho (8*j+4) (by omega),ho (8*j+5) (by omega),ho (8*j+6) (by omega),ho (8*j+7) (by omega)];simp<;>omega
 |5,_,_=>rw [ho (8*j+5) (by omega),ho (8*j+6) (by omega),ho (8*j+7) (by omega)];simp<;>omega
 |6,_,_=>rw [ho (8*j+6) (by omega),ho (8*j+7) (by omega)];simp<;>omega
 |7,_,_=>rw [ho (8*j+7) (by omega)];simp<;>omega
end Go.Proofs.YthhijgcfbjcgiaaGreatDoor
