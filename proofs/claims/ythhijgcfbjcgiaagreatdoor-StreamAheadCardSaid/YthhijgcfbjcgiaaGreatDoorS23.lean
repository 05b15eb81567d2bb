/- Bld -/
import Derived.Test.YthhijgcfbjcgiaaGreatDoorS16
import Derived.Test.YthhijgcfbjcgiaaGreatDoorShelf
import Derived.Lib.AppendStr
import Derived.Lib.AppendIntMem
namespace Go.Proofs.YthhijgcfbjcgiaaGreatDoor
open Go Go.RowKit
open Go.Lib renaming cell_of_heap→zAA,IsBuilder→zAB,BuilderAt→zAD,frozen_of_heap→zAE,hid→zAF
open Option renaming map_eq_some_iff→zAC
open Nat renaming lt_or_ge→zAG
set_option maxRecDepth 100000 in
theorem E4 (b:Nat) (w:World) (h0:w.cell? ⟨b,0,none⟩=some (.pointer (some ⟨b,0,none⟩))):
  Calls Tryz.prog 197 #[.pointer (some ⟨b,0,none⟩)] w fun e w'=>e= .returned (.tuple #[])∧w'=w:=by
 obtain ⟨j,hj,_⟩:=zAC.1 (show (Tryz.prog.info? 174).map (·.size)=some 2 by kernel_rfl)
 go_enter Tryz.func197,Tryz.ntmps197
 go_wp2_with fail
 rw [Lib.run_neq_ptr_same w _ Tryz.underlying172 hj]
 go_wp2_with fail
 go_end0
 exact ⟨rfl,rfl⟩
set_option maxRecDepth 100000 in
theorem Dm (b:Nat) (w:World) (h0:w.cell? ⟨b,0,none⟩=some (.pointer none)) (hsh:w.shape? b=some (174,2)) (hfz:w.frozen? ⟨b,0,none⟩=false):
  Calls Tryz.prog 197 #[.pointer (some ⟨b,0,none⟩)] w fun e w'=>e= .returned (.tuple #[])∧w'=w.setCell ⟨b,0,none⟩ (.pointer (some ⟨b,0,none⟩)):=by
 obtain ⟨j,hj,hjs⟩:=zAC.1 (show (Tryz.prog.info? 174).map (·.size)=some 2 by kernel_rfl)
 go_enter Tryz.func197,Tryz.ntmps197
 go_wp2
 rw [Lib.run_to_unsafe w ⟨b,0,none⟩ Tryz.underlying172 Tryz.underlying255 hj (by rw [hjs];decide) hsh (Nat.zero_lt_succ 1)]
 simp only [Result.andThen]
 rw [Oper.upon_value]
 go_wp2
 rw [run_callFunc_extern Tryz.func234 (by kernel_rfl) (by kernel_rfl) (by kernel_rfl) (e:=Extern.AbiNoEscape.same) (by kernel_rfl)]
 rw [Lib.run_noEscape]
 simp only [Result.andThen]
 rw [Oper.upon_value]
 go_wp2
 rw [Lib.run_from_unsafe w ⟨b,0,none⟩ Tryz.underlying255 Tryz.underlying172 hj hsh (by kernel_rfl)]
 simp only [Result.andThen]
 rw [Oper.upon_value]
 go_wp2
 go_end0
 exact ⟨rfl,rfl⟩
theorem uh (B b:Nat) (bs:List Value) (w:World) (h:zAB 174 5 B b bs w):
  Calls Tryz.prog 197 #[.pointer (some ⟨b,0,none⟩)] w fun e w'=>e= .returned (.tuple #[])∧(zAD 174 5 B b (.pointer (some ⟨b,0,none⟩)) bs w'∧Below B w w'):=by
 rcases h with h|h
 ·refine (Dm b w h.cell0 h.shape h.frozen0).mono ?_
  rintro e w' ⟨rfl,rfl⟩
  exact ⟨rfl,h.used _,(Below.refl B w).setCell (p:=⟨b,0,none⟩) h.1 _⟩
 ·refine (E4 b w h.cell0).mono ?_
  rintro e w' ⟨rfl,rfl⟩
  exact ⟨rfl,h,Below.refl B _⟩
def GA (B b:Nat) (bs:List Value) (w:World) (e:Ending) (w':World):Prop:=e= .returned .nilIface∧zAB 174 5 B b bs w'∧Below B w w'
set_option maxRecDepth 100000 in
set_option maxHeartbeats 2000000 in
theorem ku (B b:Nat) (bs:List Value) (c:Int) (w:World) (h:zAB 174 5 B b bs w) (hlen:bs.length+1≤140737488355328) (hBw:B≤w.heap.size):
  Calls Tryz.prog 152 #[.pointer (some ⟨b,0,none⟩),.int .u8 c] w (GA B b (bs++[.int .u8 c]) w):=by
 go_enter Tryz.func152,Tryz.ntmps152
 go_wp2_with (go_at_call 197;refine (uh B b bs _ h).mono ?_)
 rintro e w1 ⟨rfl,h1,hb1⟩
 obtain ⟨hB,v,hbk,hown,hne⟩:=h1
 have c0:w1.cell? ⟨b,0,none⟩=some (.pointer (some ⟨b,0,none⟩)):=by rw [zAA hbk];rfl
 have c1:w1.cell? ⟨b,1,none⟩=some v:=by rw [zAA hbk];rfl
 go_wp2_with (at_builtin;refine dK jn rfl rfl rfl (hown.alloc _) rfl (m:=1) (news:=[.int .u8 c]) rfl (ab.sl (ab.new w1 5 _) 0) ?c2 ?c4 ?c5 ?_)
 case c2=>intro u hu;simp at hu;subst hu;rfl
 case c4=>omega
 case c5=>have:=hb1.size;simp;omega
 intro v' w2 hown' hgrow _
 have hlt:b<w1.heap.size:=by
  rcases zAG b w1.heap.size with h'|h'
  ·exact h'
  ·simp [Array.getElem?_eq_none h'] at hbk
 have hb2:w2.heap[b]? =some (.cells #[.pointer (some ⟨b,0,none⟩),v] 174 (0,0)):=by
  rw [hgrow.block b (by simp;omega) (fun e=>hne e.symm),Lib.alloc_old w1 _ b hlt]
  exact hbk
 have d0:w2.cell? ⟨b,0,none⟩=some (.pointer (some ⟨b,0,none⟩)):=by rw [zAA hb2];rfl
 have d1:w2.cell? ⟨b,1,none⟩=some v:=by rw [zAA hb2];rfl
 have f1:w2.frozen? ⟨b,1,none⟩=false:=zAE hb2 1
 obtain ⟨g,cap,rfl⟩:∃g cap,v'= .slice (some ⟨g,0,none⟩) (bs.length+1) cap:=by
  rcases hown'.2 with ⟨_,h0⟩|⟨g,cap,cur,hv,_⟩
  ·omega
  ·exact ⟨g,cap,hv⟩
 go_wp2_with fail
 go_ret
 refine ⟨rfl,.inr ?_,?_⟩
 ·exact zAD.put (T:=174) (e:=5) hB hb2 (bs':=bs++[.int .u8 c]) (by simpa using hown') (by decide)
 ·exact ((hb1.alloc (by have:=hb1.size;omega) _).grown hgrow (by have:=hb1.size;simp;omega) (fun k hk=>(hown.lt k hk).1)).setCell (p:=⟨b,1,none⟩) hB _
theorem qj (w:World):zAB 174 5 w.heap.size w.heap.size [] (w.alloc (.cells #[.pointer none,.slice none 0 0] 174)):=
 .inl ⟨Nat.le_refl _,_,heap_alloc_new w _,World.ownsRow_nil _ _ _ _,by simp [Value.ownBlock]⟩
def EO (B b:Nat) (l:List UInt8) (bs:List Value) (w:World) (e:Ending) (w':World):Prop:=e= .returned (.tuple #[.int .i64 (l.length:Int),.nilIface])∧zAB 174 5 B b (bs++l.map af) w'∧Below B w w'
set_option maxRecDepth 100000 in
set_option maxHeartbeats 2000000 in
theorem iz (B b:Nat) (cs:List Value) (l:List UInt8) (w:World) (h:zAB 174 5 B b cs w) (hlen:cs.length+l.length≤140737488355328) (hBw:B≤w.heap.size):
  Calls Tryz.prog 165 #[.pointer (some ⟨b,0,none⟩),.string (bs l)] w (EO B b l cs w):=by
 obtain ⟨i0,hi,hz0,hz1,hz2⟩:=info_parts (show (Tryz.prog.info? 5).map (fun i=>(i.zero,i.size,i.bytes))=some (some (.int .u8 0),1,1) by kernel_rfl)
 have HI:=zAF hi;have HZ0:=zAF hz0;have HZ1:=zAF hz1;have HZ2:=zAF hz2
 clear hi hz0 hz1 hz2
 go_enter Tryz.func165,Tryz.ntmps165
 go_wp2_with (go_at_call 197;refine (uh B b cs _ h).mono ?_)
 rintro e w1 ⟨rfl,h1,hb1⟩
 obtain ⟨hB,v,hbk,hown,hne⟩:=h1
 have c0:w1.cell? ⟨b,0,none⟩=some (.pointer (some ⟨b,0,none⟩)):=by rw [zAA hbk];rfl
 have c1:w1.cell? ⟨b,1,none⟩=some v:=by rw [zAA hbk];rfl
 go_wp2_with (at_builtin;refine Lib.wpList_append_own_string w1 rfl _ _ 25 9 rfl B 5 i0 (by kernel_rfl) (by kernel_rfl) HI.out HZ0.out HZ1.out HZ2.out v cs.length cs rfl hown (bs l) rfl ?c1 ?c2 ?c3 ?_)
 case c1=>rw [iA];unfold maxLen;omega
 case c2=>rw [iA];omega
 case c3=>have:=hb1.size;omega
 intro v' w2 hown' hgrow hq
 clear hq
 have hlt:b<w1.heap.size:=by
  rcases zAG b w1.heap.size with h'|h'
  ·exact h'
  ·simp [Array.getElem?_eq_none h'] at hbk
 have hb2:w2.heap[b]? =some (.cells #[.pointer (some ⟨b,0,none⟩),v] 174 (0,0)):=by
  rw [hgrow.block b hlt (fun e=>hne e.symm)]
  exact hbk
 have d0:w2.cell? ⟨b,0,none⟩=some (.pointer (some ⟨b,0,none⟩)):=by rw [zAA hb2];rfl
 have d1:w2.cell? ⟨b,1,none⟩=some v:=by rw [zAA hb2];rfl
 have f1:w2.frozen? ⟨b,1,none⟩=false:=zAE hb2 1
 obtain ⟨A,cap,rfl,_⟩:=dg hown'
 go_wp2_with fail
 go_ret2
 refine ⟨rfl,.inr ?_,?_⟩
 ·exact zAD.put (T:=174) (e:=5) hB hb2 (bs':=cs++l.map af) (by have h3:=hown';rw [show Lib.strCells (bs l)=l.map af from Lib.strCells_toArray l] at h3;simpa using h3) (by decide)
 ·exact (hb1.grown hgrow (by have:=hb1.size;omega) (fun k hk=>(hown.lt k hk).1)).setCell (p:=⟨b,1,none⟩) hB _
end Go.Proofs.YthhijgcfbjcgiaaGreatDoor
