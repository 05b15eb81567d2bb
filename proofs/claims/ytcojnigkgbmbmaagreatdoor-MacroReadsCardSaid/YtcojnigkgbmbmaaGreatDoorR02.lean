/- MacP, PredP, AtP, BackP, BackQ, AgainP, AgainQ, PackP, MLen, R8P -/
import Derived.Test.YtcojnigkgbmbmaaGreatDoorR01
import Derived.Lib.Fields
namespace Go.Proofs.YtcojnigkgbmbmaaGreatDoor
open Go Go.RowKit
/-- has a kind this? -/
def inK (k : Int) : Bool := decide (1 ≤ k) && decide (k ≤ 10)
def pI (k : Int) : Bool := decide (1 ≤ k) && decide (k ≤ 2)
def pQ (k : Int) : Bool := k == 2 || k == 4 || k == 7 || k == 10
def pV (k : Int) : Bool := decide (5 ≤ k) && decide (k ≤ 10)
def pF (k : Int) : Bool := decide (8 ≤ k) && decide (k ≤ 10)
def pC (k : Int) : Bool := k == 3 || k == 4 || k == 6 || k == 7 || k == 9 || k == 10
/-- a code of a list by its number, from lo on. -/
def codeAt (cs : List (List UInt8)) (lo k : Int) : Option (List UInt8) := if k < lo then none else cs[(k - lo).toNat]?
def kindP (k : Int) : List UInt8 := (codeAt kindC 1 k).getD []
def vecP (d : Int) : List UInt8 := (codeAt vecC (-16) d).getD []
def patP (p : Int) : List UInt8 := (codeAt patC 1 p).getD []
def partB (n : Int) : Bool := decide (-15 ≤ n) && decide (n ≤ 15)
def diffP (fr to : Int) : Int := (to - fr + 80) % 32 - 16
def turnP (pr d : Int) : Int × Int :=
  if !partB pr || decide (d < -16) || decide (15 < d) then (0, 3) else
  if partB (pr + d) then (pr + d, 0) else if partB (pr + d + 32) then (pr + d + 32, 0) else if partB (pr + d - 32) then (pr + d - 32, 0) else (0, 12)
def newB (ad d : Int) (had : Bool) : Bool := !had || d != 1 || ad == 1 || ad == 12 || ad == 23
def predP (ad d : Int) (had : Bool) (x y : Int) : Int × Int := if newB ad d had then (0, 0) else (x, y)
/-- how many blocks a pattern says. -/
def cntP (p : Int) : Nat := if 1 ≤ p ∧ p ≤ 63 then p.toNat / 32 % 2 + p.toNat / 16 % 2 + p.toNat / 8 % 2 + p.toNat / 4 % 2 + p.toNat / 2 % 2 + p.toNat % 2 else 0
/-- the digits of a number, so many. -/
def digL (n : Nat) (m : Nat) : List UInt8 := (List.range m).map fun j => if n / 2 ^ (m - 1 - j) % 2 = 0 then 48 else 49
structure BlkM where
  dc : Int
  l : List (Int × Int)
structure MacM where
  ad : Int
  kd : Int
  qu : Int
  x : Int
  y : Int
  pa : Int
  bl : List BlkM
structure LastM where
  ad : Int
  had : Bool
  x : Int
  y : Int
/-- the rows of codes, run by run. -/
def rowL : List (List UInt8) := [[49, 49, 32, 48, 49, 48, 48, 32, 48, 48, 49, 48, 49, 32, 48, 48, 48, 48, 49, 49, 48, 32, 48, 48, 49, 48, 48, 49, 49, 48, 32, 48, 48, 49, 48, 48, 48, 48, 49, 32, 48, 48, 48, 48, 48, 48, 49, 48, 49, 48, 32, 48, 48, 48, 48, 48, 48, 48, 49, 49, 49, 48, 49, 32, 48, 48, 48, 48, 48, 48, 48, 49, 49, 48, 48, 48, 32, 48, 48, 48, 48, 48, 48, 48, 49, 48, 48, 49, 49, 32, 48, 48, 48, 48, 48, 48, 48, 49, 48, 48, 48, 48, 32, 48, 48, 48, 48, 48, 48, 48, 48, 49, 49, 48, 49, 48, 32, 48, 48, 48, 48, 48, 48, 48, 48, 49, 49, 48, 48, 49, 32, 48, 48, 48, 48, 48, 48, 48, 48, 49, 49, 48, 48, 48, 32, 48, 48, 48, 48, 48, 48, 48, 48, 49, 48, 49, 49, 49], [48, 49, 49, 32, 48, 48, 48, 49, 49, 48, 32, 48, 48, 49, 48, 48, 49, 48, 49, 32, 48, 48, 48, 48, 48, 48, 49, 49, 48, 48, 32, 48, 48, 48, 48, 48, 48, 48, 49, 49, 48, 49, 49, 32, 48, 48, 48, 48, 48, 48, 48, 48, 49, 48, 49, 49, 48, 32, 48, 48, 48, 48, 48, 48, 48, 48, 49, 48, 49, 48, 49], [48, 49, 48, 49, 32, 48, 48, 48, 48, 49, 48, 48, 32, 48, 48, 48, 48, 48, 48, 49, 48, 49, 49, 32, 48, 48, 48, 48, 48, 48, 48, 49, 48, 49, 48, 48, 32, 48, 48, 48, 48, 48, 48, 48, 48, 49, 48, 49, 48, 48], [48, 48, 49, 49, 49, 32, 48, 48, 49, 48, 48, 49, 48, 48, 32, 48, 48, 48, 48, 48, 48, 48, 49, 49, 49, 48, 48, 32, 48, 48, 48, 48, 48, 48, 48, 48, 49, 48, 48, 49, 49], [48, 48, 49, 49, 48, 32, 48, 48, 48, 48, 48, 48, 49, 49, 49, 49, 32, 48, 48, 48, 48, 48, 48, 48, 49, 48, 48, 49, 48], [48, 48, 48, 49, 49, 49, 32, 48, 48, 48, 48, 48, 48, 49, 48, 48, 49, 32, 48, 48, 48, 48, 48, 48, 48, 48, 49, 48, 48, 49, 48], [48, 48, 48, 49, 48, 49, 32, 48, 48, 48, 48, 48, 48, 48, 49, 49, 49, 49, 48], [48, 48, 48, 49, 48, 48, 32, 48, 48, 48, 48, 48, 48, 48, 49, 48, 49, 48, 49], [48, 48, 48, 48, 49, 49, 49, 32, 48, 48, 48, 48, 48, 48, 48, 49, 48, 48, 48, 49], [48, 48, 48, 48, 49, 48, 49, 32, 48, 48, 48, 48, 48, 48, 48, 48, 49, 48, 48, 48, 49], [48, 48, 49, 48, 48, 49, 49, 49, 32, 48, 48, 48, 48, 48, 48, 48, 48, 49, 48, 48, 48, 48], [48, 48, 49, 48, 48, 48, 49, 49], [48, 48, 49, 48, 48, 48, 49, 48], [48, 48, 49, 48, 48, 48, 48, 48], [48, 48, 48, 48, 48, 48, 49, 49, 49, 48], [48, 48, 48, 48, 48, 48, 49, 49, 48, 49], [48, 48, 48, 48, 48, 48, 49, 48, 48, 48], [48, 48, 48, 48, 48, 48, 48, 49, 49, 49, 49, 49], [48, 48, 48, 48, 48, 48, 48, 49, 49, 48, 49, 48], [48, 48, 48, 48, 48, 48, 48, 49, 49, 48, 48, 49], [48, 48, 48, 48, 48, 48, 48, 49, 48, 49, 49, 49], [48, 48, 48, 48, 48, 48, 48, 49, 48, 49, 49, 48], [48, 48, 48, 48, 48, 48, 48, 48, 49, 49, 49, 49, 49], [48, 48, 48, 48, 48, 48, 48, 48, 49, 49, 49, 49, 48], [48, 48, 48, 48, 48, 48, 48, 48, 49, 49, 49, 48, 49], [48, 48, 48, 48, 48, 48, 48, 48, 49, 49, 49, 48, 48], [48, 48, 48, 48, 48, 48, 48, 48, 49, 49, 48, 49, 49]]
def tabRow (first : Bool) (run : Nat) : Nat → List (List UInt8) → List ((Int × Int) × List UInt8)
  | _, [] => []
  | i, c :: cs => (((run : Int), (i : Int) + 1), if first && run == 0 && i == 0 then [49] else c) :: tabRow first run (i + 1) cs
def tabRows (first : Bool) : Nat → List (List UInt8) → List ((Int × Int) × List UInt8)
  | _, [] => []
  | r, x :: xs => tabRow first r 0 (Lib.fields x) ++ tabRows first (r + 1) xs
def tabL (first : Bool) : List ((Int × Int) × List UInt8) := tabRows first 0 rowL
def escC : List UInt8 := [48, 48, 48, 48, 48, 49]
def endC : List UInt8 := [49, 48]
def sameB (a b : List UInt8) : Bool := a.take (min a.length b.length) == b.take (min a.length b.length)
def lookC (s : List UInt8) : List ((Int × Int) × List UInt8) → Bool → (Int × Int) × Bool × Int × Int
  | [], more => ((0, 0), false, 0, if more then 5 else 7)
  | (p, c) :: T, more => if !sameB s c then lookC s T more else if s.length ≤ c.length then lookC s T true else ((p.1, if s.getD c.length 0 == 49 then -p.2 else p.2), false, (c.length : Int) + 1, 0)
def numS (s : List UInt8) : Nat := s.foldl (fun a c => 2 * a + (c.toNat - 48)) 0
def i8 (n : Nat) : Int := if n < 128 then n else (n : Int) - 256
/-- what coeff.Get answers: a pair, is it the end, how many bits, an error. -/
def cgetP (l : List UInt8) (i : Int) (first : Bool) : (Int × Int) × Bool × Int × Int :=
  if i < 0 then ((0, 0), false, 0, 3) else if 8 * (l.length : Int) < i then ((0, 0), false, 0, 5) else
  let s := bitsL l i.toNat (min 20 (8 * l.length - i.toNat))
  if sameB s escC then
    if s.length < 20 then ((0, 0), false, 0, 5) else
    if i8 (numS (s.drop 12)) == 0 || i8 (numS (s.drop 12)) == -128 then ((0, 0), false, 0, 10) else (((numS ((s.take 12).drop 6) : Nat), i8 (numS (s.drop 12))), false, 20, 0)
  else if !first && endC.isPrefixOf s then ((0, 0), true, 2, 0)
  else lookC s (tabL first) (!first && sameB s endC)
def pairB (p : Int × Int) : Bool := decide (0 ≤ p.1) && decide (p.1 ≤ 63) && decide (-127 ≤ p.2) && decide (p.2 ≤ 127) && p.2 != 0
def shortC (p : Int × Int) : List ((Int × Int) × List UInt8) → List UInt8
  | [] => []
  | (q, c) :: T => if q.1 == p.1 && (q.2 == p.2 || q.2 == -p.2) then c else shortC p T
def escP (p : Int × Int) : List UInt8 := escC ++ digL p.1.toNat 6 ++ digL (p.2 % 256).toNat 8
/-- a pair's bits. -/
def cputP (p : Int × Int) (first : Bool) : List UInt8 :=
  if shortC p (tabL first) == [] then escP p else shortC p (tabL first) ++ (if p.2 < 0 then [49] else [48])
def spreadP : List (Int × Int) → Int → Int
  | [], _ => 0
  | p :: l, at_ => if p.2 == 0 || !(decide (-127 ≤ p.2) && decide (p.2 ≤ 127)) then 10 else if decide (p.1 < 0) || decide (63 - at_ < p.1) then 11 else spreadP l (at_ + p.1 + 1)
def frstP (intra : Bool) : Int := if intra then 1 else 0
/-- why a block may not be. -/
def bchkP (x : BlkM) (intra : Bool) : Int :=
  if intra && (decide (x.dc < 1) || decide (255 < x.dc) || x.dc == 128) then 10 else if !intra && (x.dc != 0 || x.l == []) then 2 else spreadP x.l (frstP intra)
def cputL : List (Int × Int) → Bool → List UInt8
  | [], _ => []
  | p :: l, first => cputP p first ++ cputL l false
/-- a block's bits. -/
def bputP (x : BlkM) (intra : Bool) : List UInt8 := (if intra then digL x.dc.toNat 8 else []) ++ cputL x.l (!intra) ++ endC
/-- pairs, one behind the other, to the end: fuel, place, is it the first one, how much is left; the pairs, the place behind them. -/
def bpairs (l : List UInt8) : Nat → Int → Bool → Int → List (Int × Int) × Int × Int
  | 0, _, _, _ => ([], 0, 5)
  | f + 1, i, first, left =>
    let r := cgetP l i first
    if r.2.1 then ([], i + r.2.2.1, 0) else if r.2.2.2 != 0 then ([], 0, r.2.2.2) else
    if left - (r.1.1 + 1) < 0 then ([], 0, 11) else
    let q := bpairs l f (i + r.2.2.1) false (left - (r.1.1 + 1))
    (r.1 :: q.1, q.2.1, q.2.2)
/-- what block.Get answers: a block, how many bits, an error. -/
def bgetP (l : List UInt8) (i : Int) (intra : Bool) : BlkM × Int × Int :=
  if i < 0 then (⟨0, []⟩, 0, 3) else if 8 * (l.length : Int) < i then (⟨0, []⟩, 0, 5) else
  if intra then
    if 8 * (l.length : Int) < i + 8 then (⟨0, []⟩, 0, 5) else
    let n := numN l i.toNat 8
    if n == 0 || n == 128 then (⟨0, []⟩, 0, 10) else
    let q := bpairs l 66 (i + 8) false 63
    if q.2.2 != 0 then (⟨0, []⟩, 0, q.2.2) else (⟨n, q.1⟩, q.2.1 - i, 0)
  else
    let q := bpairs l 66 i true 64
    if q.2.2 != 0 then (⟨0, []⟩, 0, q.2.2) else (⟨0, q.1⟩, q.2.1 - i, 0)
/-- may a macroblock be? -/
def okM (m : MacM) : Bool :=
  inK m.kd && decide (1 ≤ m.ad) && decide (m.ad ≤ 33) && partB m.x && partB m.y && (pV m.kd || (m.x == 0 && m.y == 0)) &&
  (if pQ m.kd then decide (1 ≤ m.qu) && decide (m.qu ≤ 31) else m.qu == 0) &&
  (if pI m.kd then m.pa == 63 else if pC m.kd then decide (1 ≤ m.pa) && decide (m.pa ≤ 63) else m.pa == 0) && m.bl.length == cntP m.pa && m.bl.all fun x => bchkP x (pI m.kd) == 0
def aheadB (x : LastM) (ad : Int) : Bool := decide (0 ≤ x.ad) && decide (x.ad < ad) && partB x.x && partB x.y && (x.had || (x.x == 0 && x.y == 0))
def movP (fr to : Int) : List UInt8 := vecP (diffP fr to)
/-- a macroblock's bits. -/
def mputL (m : MacM) (x : LastM) : List UInt8 :=
  let pr := predP m.ad (m.ad - x.ad) x.had x.x x.y
  kindP m.kd ++ (if pQ m.kd then digL m.qu.toNat 5 else []) ++ (if pV m.kd then movP pr.1 m.x ++ movP pr.2 m.y else []) ++ (if pC m.kd then patP m.pa else []) ++ m.bl.flatMap fun b => bputP b (pI m.kd)
def mputP (m : MacM) (x : LastM) : List UInt8 × Int := if okM m && aheadB x m.ad then (mputL m x, 0) else ([], 2)
def m0 : MacM := ⟨0, 0, 0, 0, 0, 0, []⟩
def bgets (l : List UInt8) (intra : Bool) : Nat → Int → List BlkM × Int × Int
  | 0, i => ([], i, 0)
  | n + 1, i =>
    let r := bgetP l i intra
    if r.2.2 != 0 then ([], 0, r.2.2) else
    let q := bgets l intra n (i + r.2.1)
    (r.1 :: q.1, q.2.1, q.2.2)
/-- reading one behind the other. -/
def vgetP (l : List UInt8) (i pr : Int) : Int × Int × Int :=
  let r := treeR vecC vecN l i
  if r.2.2 != 0 then (0, 0, r.2.2) else ((turnP pr r.1).1, i + r.2.1, (turnP pr r.1).2)
def mq (l : List UInt8) (k i : Int) : Int × Int × Int :=
  if pQ k then (if 8 * (l.length : Int) < i + 5 then (0, 0, 5) else if numN l i.toNat 5 == 0 then (0, 0, 9) else ((numN l i.toNat 5 : Nat), i + 5, 0)) else (0, i, 0)
def mv (l : List UInt8) (k i x y : Int) : (Int × Int) × Int × Int :=
  if pV k then
    let r := vgetP l i x
    if r.2.2 != 0 then ((0, 0), 0, r.2.2) else
    let q := vgetP l r.2.1 y
    if q.2.2 != 0 then ((0, 0), 0, q.2.2) else ((r.1, q.1), q.2.1, 0)
  else ((0, 0), i, 0)
def mc (l : List UInt8) (k i : Int) : Int × Int × Int :=
  if pC k then (let r := treeR patC patN l i; if r.2.2 != 0 then (0, 0, r.2.2) else (r.1, i + r.2.1, 0)) else (if pI k then 63 else 0, i, 0)
/-- what macro.Get answers: a macroblock, how many bits, an error. -/
def mgetP (l : List UInt8) (i ad : Int) (x : LastM) : MacM × Int × Int :=
  if i < 0 ∨ ad < 1 ∨ 33 < ad then (m0, 0, 3) else if !aheadB x ad then (m0, 0, 2) else
  let pr := predP ad (ad - x.ad) x.had x.x x.y
  let k := treeR kindC kindN l i
  if k.2.2 != 0 then (m0, 0, k.2.2) else
  let q := mq l k.1 (i + k.2.1)
  if q.2.2 != 0 then (m0, 0, q.2.2) else
  let v := mv l k.1 q.2.1 pr.1 pr.2
  if v.2.2 != 0 then (m0, 0, v.2.2) else
  let c := mc l k.1 v.2.1
  if c.2.2 != 0 then (m0, 0, c.2.2) else
  let b := bgets l (pI k.1) (cntP c.1) c.2.1
  if b.2.2 != 0 then (m0, 0, b.2.2) else (⟨ad, k.1, q.1, v.1.1, v.1.2, c.1, b.1⟩, b.2.1 - i, 0)
def movedM : MacM := ⟨1, 5, 0, 1, -1, 0, []⟩
def last0 : LastM := ⟨0, false, 0, 0⟩
theorem known_put : mputP movedM last0 = ([48, 48, 48, 48, 48, 48, 48, 48, 49, 48, 49, 48, 48, 49, 49], 0) := by kernel_rfl
theorem known_get : mgetP [0, 166] 0 1 last0 = (movedM, 15, 0) := by kernel_rfl
end Go.Proofs.YtcojnigkgbmbmaaGreatDoor
namespace Go.Proofs.YtcojnigkgbmbmaaGreatDoor
open Go Go.RowKit
theorem free_get {cs : List (List UInt8)} (h : codesFree cs = true) {i k : Nat} (hi : i < cs.length) (hk : k < cs.length) (hp : cs[k] <+: cs[i]) : i = k := by
  have h1 := List.all_eq_true.1 h i (List.mem_range.2 hi)
  have h2 := List.all_eq_true.1 h1 k (List.mem_range.2 hk)
  have e1 : cs.getD k [] = cs[k] := by simp [List.getD, hk]
  have e2 : cs.getD i [] = cs[i] := by simp [List.getD, hi]
  rw [e1, e2, Bool.or_eq_true] at h2
  rcases h2 with h2 | h2
  · exact beq_iff_eq.1 h2
  · rw [Bool.not_eq_true', ← Bool.not_eq_true, List.isPrefixOf_iff_prefix] at h2
    exact absurd hp h2
theorem vecC_len : vecC.length = 32 := by kernel_rfl
theorem kindC_len : kindC.length = 10 := by kernel_rfl
theorem diffP_range (fr to : Int) : -16 ≤ diffP fr to ∧ diffP fr to ≤ 15 := by unfold diffP; omega
end Go.Proofs.YtcojnigkgbmbmaaGreatDoor
namespace Go.Proofs.YtcojnigkgbmbmaaGreatDoor
open Go Go.RowKit
/-- the bits from place i on begin with s. -/
def At (l : List UInt8) (i : Nat) (s : List UInt8) : Prop := i + s.length ≤ 8 * l.length ∧ bitsL l i s.length = s
/-- the bits from place i on are a beginning of s, and not all of it. -/
def Cut (l : List UInt8) (i : Nat) (s : List UInt8) : Prop := i ≤ 8 * l.length ∧ 8 * l.length < i + s.length ∧ bitsL l i (8 * l.length - i) = s.take (8 * l.length - i)
theorem bitsL_append (l : List UInt8) (i n m : Nat) : bitsL l i (n + m) = bitsL l i n ++ bitsL l (i + n) m := by
  unfold bitsL
  rw [List.range_add, List.map_append, List.map_map]
  congr 1
  apply List.map_congr_left
  intro j _
  show bitC l (i + (n + j)) = bitC l (i + n + j)
  congr 1; omega
theorem At.join {l : List UInt8} {i : Nat} {s t : List UInt8} (h : At l i s) (k : At l (i + s.length) t) : At l i (s ++ t) := by
  refine ⟨by have := k.1; rw [List.length_append]; omega, ?_⟩
  rw [List.length_append, bitsL_append, h.2, k.2]
theorem Cut.ne {l : List UInt8} {i : Nat} (h : Cut l i []) : False := by have := h.2.1; have := h.1; simp at *; omega
theorem At.window {l : List UInt8} {i : Nat} {s : List UInt8} (h : At l i s) (n : Nat) (hn : s.length ≤ n) : s <+: bitsL l i (min n (8 * l.length - i)) := by
  obtain ⟨m, hm⟩ : ∃ m, min n (8 * l.length - i) = s.length + m := ⟨min n (8 * l.length - i) - s.length, by have := h.1; omega⟩
  rw [hm, bitsL_append, h.2]
  exact ⟨_, rfl⟩
theorem Cut.window {l : List UInt8} {i : Nat} {s : List UInt8} (h : Cut l i s) (n : Nat) (hn : s.length ≤ n) : bitsL l i (min n (8 * l.length - i)) = s.take (8 * l.length - i) ∧ 8 * l.length - i < s.length := by
  have h1 := h.1; have h2 := h.2.1
  have e : min n (8 * l.length - i) = 8 * l.length - i := by omega
  rw [e]
  exact ⟨h.2.2, by omega⟩
theorem findR_at {cs : List (List UInt8)} : ∀ {ns : List Int} (s : List UInt8) (k : Nat) (hk : k < cs.length), cs.length = ns.length → cs[k] <+: s → (∀ i (hi : i < cs.length), cs[i] <+: s → i = k) → findR s cs ns = some ((ns[k]?).getD 0, (cs[k].length : Int)) := by
  induction cs with
  | nil => intro ns s k hk; simp at hk
  | cons c cs ih =>
    intro ns s k hk hl hp hu
    cases ns with
    | nil => simp at hl
    | cons n ns =>
      rw [findR]
      cases k with
      | zero =>
        have h1 : c.isPrefixOf s = true := List.isPrefixOf_iff_prefix.2 hp
        simp [h1]
      | succ k =>
        have h1 : c.isPrefixOf s = false := by
          rw [← Bool.not_eq_true, List.isPrefixOf_iff_prefix]
          intro h2
          have := hu 0 (by simp) h2
          omega
        rw [h1]
        have h3 := ih (ns := ns) s k (by simpa using hk) (by simpa using hl) (by simpa using hp) (fun i hi h2 => by
          have := hu (i + 1) (by simpa using hi) (by simpa using h2)
          omega)
        simpa using h3
theorem findR_none {cs : List (List UInt8)} : ∀ {ns : List Int} (s : List UInt8), (∀ i (hi : i < cs.length), ¬ cs[i] <+: s) → findR s cs ns = none := by
  induction cs with
  | nil => intro ns s _; rw [findR.eq_def]
  | cons c cs ih =>
    intro ns s hu
    cases ns with
    | nil => rw [findR.eq_def]
    | cons n ns =>
      rw [findR]
      have h1 : c.isPrefixOf s = false := by
        rw [← Bool.not_eq_true, List.isPrefixOf_iff_prefix]
        exact hu 0 (by simp)
      rw [h1]
      have h3 := ih (ns := ns) s (fun i hi => by
        have h4 := hu (i + 1) (by simpa using hi)
        rw [List.getElem_cons_succ] at h4
        exact h4)
      simpa using h3
theorem code_le {cs : List (List UInt8)} (hc : cs.all isCode = true) (k : Nat) (hk : k < cs.length) : 1 ≤ cs[k].length ∧ cs[k].length ≤ 24 := by
  have := List.all_eq_true.1 hc _ (List.getElem_mem hk)
  simp only [isCode, Bool.and_eq_true, decide_eq_true_eq] at this
  exact ⟨this.1.2, this.2⟩
theorem tree_at {cs : List (List UInt8)} {ns : List Int} (hf : codesFree cs = true) (hc : cs.all isCode = true) (hl : cs.length = ns.length) (k : Nat) (hk : k < cs.length) {l : List UInt8} {i : Nat} (h : At l i cs[k]) : treeR cs ns l i = ((ns[k]?).getD 0, (cs[k].length : Int), 0) := by
  have hw := h.window 24 (code_le hc k hk).2
  unfold treeR
  rw [if_neg (by omega), Int.toNat_natCast]
  unfold getT
  rw [findR_at _ k hk hl hw (fun j hj hp => by
    rcases List.prefix_or_prefix_of_prefix hp hw with h3 | h3
    · exact (free_get hf hk hj h3).symm
    · exact free_get hf hj hk h3)]
theorem tree_cut {cs : List (List UInt8)} {ns : List Int} (hf : codesFree cs = true) (hc : cs.all isCode = true) (k : Nat) (hk : k < cs.length) {l : List UInt8} {i : Nat} (h : Cut l i cs[k]) : treeR cs ns l i = (0, 0, 5) := by
  have hw := h.window 24 (code_le hc k hk).2
  unfold treeR
  rw [if_neg (by omega), Int.toNat_natCast]
  unfold getT
  have hp : bitsL l i (min 24 (8 * l.length - i)) <+: cs[k] := by rw [hw.1]; exact List.take_prefix _ _
  have hlt : (bitsL l i (min 24 (8 * l.length - i))).length < cs[k].length := by rw [hw.1, List.length_take]; have := hw.2; omega
  rw [findR_none _ (fun j hj hp2 => by
    have h4 := free_get hf hk hj (hp2.trans hp)
    subst h4
    have := hp2.length_le
    omega)]
  have h5 : cs.any (fun c => (bitsL l i (min 24 (8 * l.length - i))).isPrefixOf c) = true := List.any_eq_true.2 ⟨cs[k], List.getElem_mem hk, List.isPrefixOf_iff_prefix.2 hp⟩
  simp only [h5, if_true]
/-- digits. -/
theorem digL_len (n m : Nat) : (digL n m).length = m := by simp [digL]
end Go.Proofs.YtcojnigkgbmbmaaGreatDoor
namespace Go.Proofs.YtcojnigkgbmbmaaGreatDoor
open Go Go.RowKit
theorem lookC_no' {s c : List UInt8} {p : Int × Int} {T : List ((Int × Int) × List UInt8)} {more : Bool} (h : sameB s c = false) : lookC s ((p, c) :: T) more = lookC s T more := by
  show (if !sameB s c then _ else _) = _
  rw [h]; rfl
theorem lookC_short' {s c : List UInt8} {p : Int × Int} {T : List ((Int × Int) × List UInt8)} {more : Bool} (h : sameB s c = true) (hl : s.length ≤ c.length) : lookC s ((p, c) :: T) more = lookC s T true := by
  show (if !sameB s c then _ else if s.length ≤ c.length then _ else _) = _
  rw [h, if_neg (by decide), if_pos hl]
theorem lookC_hit' {s c : List UInt8} {p : Int × Int} {T : List ((Int × Int) × List UInt8)} {more : Bool} (h : sameB s c = true) (hl : ¬ s.length ≤ c.length) : lookC s ((p, c) :: T) more = ((p.1, if s.getD c.length 0 == 49 then -p.2 else p.2), false, (c.length : Int) + 1, 0) := by
  show (if !sameB s c then _ else if s.length ≤ c.length then _ else _) = _
  rw [h, if_neg (by decide), if_neg hl]
theorem numS_snoc' (s : List UInt8) (c : UInt8) : numS (s ++ [c]) = 2 * numS s + (c.toNat - 48) := by unfold numS; rw [List.foldl_append]; rfl
theorem sameB_iff {a b : List UInt8} : sameB a b = true ↔ (a <+: b ∨ b <+: a) := by
  unfold sameB
  rw [beq_iff_eq]
  rcases Nat.le_total a.length b.length with h | h
  · rw [Nat.min_eq_left h, List.take_length]
    constructor
    · exact fun e => .inl (List.prefix_iff_eq_take.2 e)
    · rintro (h2 | h2)
      · exact List.prefix_iff_eq_take.1 h2
      · have e := h2.eq_of_length (by have := h2.length_le; omega)
        rw [e, List.take_length]
  · rw [Nat.min_eq_right h, List.take_length]
    constructor
    · exact fun e => .inr (List.prefix_iff_eq_take.2 e.symm)
    · rintro (h2 | h2)
      · have e := h2.eq_of_length (by have := h2.length_le; omega)
        rw [e, List.take_length]
      · exact (List.prefix_iff_eq_take.1 h2).symm
abbrev TabE : Type := (Int × Int) × List UInt8
/-- a code's look-up: no other one is like it. -/
theorem lookC_at {s : List UInt8} {b : UInt8} : ∀ (T : List TabE) (more : Bool) (k : Nat) (hk : k < T.length), (∀ j (hj : j < T.length), (T[j].2 <+: T[k].2 ∨ T[k].2 <+: T[j].2) → j = k) → T[k].2 ++ [b] <+: s →
    lookC s T more = ((T[k].1.1, if b == 49 then -T[k].1.2 else T[k].1.2), false, (T[k].2.length : Int) + 1, 0)
  | [], _, k, hk, _, _ => by simp at hk
  | (p, c) :: T, more, 0, hk, hf, hp => by
    have hp : c ++ [b] <+: s := hp
    have h1 : c <+: s := (List.prefix_append c [b]).trans hp
    have h2 : c.length + 1 ≤ s.length := by have := hp.length_le; simpa using this
    rw [lookC_hit' (sameB_iff.2 (.inr h1)) (by omega)]
    obtain ⟨t, rfl⟩ := hp
    have e : ((c ++ [b]) ++ t).getD c.length 0 = b := by simp [List.getD]
    rw [e]
    rfl
  | (p, c) :: T, more, k + 1, hk, hf, hp => by
    have hk' : k < T.length := by simpa using hk
    have hp : T[k].2 ++ [b] <+: s := hp
    have h1 : T[k].2 <+: s := (List.prefix_append _ [b]).trans hp
    have hs : sameB s c = false := by
      rw [← Bool.not_eq_true, sameB_iff]
      intro h
      have h3 : c <+: T[k].2 ∨ T[k].2 <+: c := by
        rcases h with h | h
        · exact .inr (h1.trans h)
        · exact List.prefix_or_prefix_of_prefix h h1
      have := hf 0 (by simp) h3
      omega
    rw [lookC_no' hs]
    exact lookC_at T more k hk' (fun j hj h => by have := hf (j + 1) (by simpa using hj) h; omega) hp
/-- a code that is cut off. -/
theorem lookC_cut {s : List UInt8} : ∀ (T : List TabE) (more : Bool), (∀ e ∈ T, sameB s e.2 = true → s.length ≤ e.2.length) → (more = true ∨ ∃ e ∈ T, sameB s e.2 = true) → lookC s T more = ((0, 0), false, 0, 5)
  | [], more, _, h => by
    rcases h with rfl | ⟨e, he, _⟩
    · rfl
    · simp at he
  | (p, c) :: T, more, ha, h => by
    cases hs : sameB s c with
    | true =>
      rw [lookC_short' hs (ha (p, c) (by simp) hs)]
      exact lookC_cut T true (fun e he => ha e (List.mem_cons_of_mem _ he)) (.inl rfl)
    | false =>
      rw [lookC_no' hs]
      refine lookC_cut T more (fun e he => ha e (List.mem_cons_of_mem _ he)) ?_
      rcases h with h | ⟨e, he, h2⟩
      · exact .inl h
      · rcases List.mem_cons.1 he with rfl | he
        · rw [hs] at h2; cases h2
        · exact .inr ⟨e, he, h2⟩
theorem codesT_free : codesFree (escC :: endC :: (tabL false).map (·.2)) = true := by kernel_rfl
theorem codesF_free : codesFree (escC :: (tabL true).map (·.2)) = true := by kernel_rfl
theorem tab_pos (first : Bool) : (tabL first).all (fun e => decide (0 < e.1.2) && decide (1 ≤ e.2.length) && decide (e.2.length ≤ 19)) = true := by cases first <;> kernel_rfl
/-- the codes of pairs, and the other codes. -/
theorem tab_free (first : Bool) {k : Nat} (hk : k < (tabL first).length) : (∀ j (hj : j < (tabL first).length), ((tabL first)[j].2 <+: (tabL first)[k].2 ∨ (tabL first)[k].2 <+: (tabL first)[j].2) → j = k) ∧
    ¬ (escC <+: (tabL first)[k].2) ∧ ¬ ((tabL first)[k].2 <+: escC) ∧ (first = false → ¬ (endC <+: (tabL first)[k].2) ∧ ¬ ((tabL first)[k].2 <+: endC)) := by
  cases first with
  | true =>
    have h := @free_get _ codesF_free
    have e : ∀ j (hj : j < (tabL true).length), ∃ hj' : j + 1 < (escC :: (tabL true).map (·.2)).length, (escC :: (tabL true).map (·.2))[j + 1] = (tabL true)[j].2 := fun j hj => ⟨by simp [hj], by simp⟩
    obtain ⟨k1, k2⟩ := e k hk
    refine ⟨fun j hj h2 => ?_, fun h2 => ?_, fun h2 => ?_, fun h => by cases h⟩
    · obtain ⟨j1, j2⟩ := e j hj
      rcases h2 with h2 | h2
      · have := h k1 j1 (by rw [j2, k2]; exact h2); omega
      · have := h j1 k1 (by rw [j2, k2]; exact h2); omega
    · have := h (i := k + 1) (k := 0) k1 (by simp) (by rw [k2]; exact h2); omega
    · have := h (i := 0) (k := k + 1) (by simp) k1 (by rw [k2]; exact h2); omega
  | false =>
    have h := @free_get _ codesT_free
    have e : ∀ j (hj : j < (tabL false).length), ∃ hj' : j + 2 < (escC :: endC :: (tabL false).map (·.2)).length, (escC :: endC :: (tabL false).map (·.2))[j + 2] = (tabL false)[j].2 := fun j hj => ⟨by simp [hj], by simp⟩
    obtain ⟨k1, k2⟩ := e k hk
    refine ⟨fun j hj h2 => ?_, fun h2 => ?_, fun h2 => ?_, fun _ => ⟨fun h2 => ?_, fun h2 => ?_⟩⟩
    · obtain ⟨j1, j2⟩ := e j hj
      rcases h2 with h2 | h2
      · have := h k1 j1 (by rw [j2, k2]; exact h2); omega
      · have := h j1 k1 (by rw [j2, k2]; exact h2); omega
    · have := h (i := k + 2) (k := 0) k1 (by simp) (by rw [k2]; exact h2); omega
    · have := h (i := 0) (k := k + 2) (by simp) k1 (by rw [k2]; exact h2); omega
    · have := h (i := k + 2) (k := 1) k1 (by simp) (by rw [k2]; exact h2); omega
    · have := h (i := 1) (k := k + 2) (by simp) k1 (by rw [k2]; exact h2); omega
/-- a short code is one of the table. -/
theorem shortC_at {p : Int × Int} : ∀ (T : List TabE), shortC p T ≠ [] → ∃ k, ∃ hk : k < T.length, shortC p T = T[k].2 ∧ T[k].1.1 = p.1 ∧ (T[k].1.2 = p.2 ∨ T[k].1.2 = -p.2)
  | [], h => absurd rfl h
  | (q, c) :: T, h => by
    unfold shortC at h ⊢
    split
    · rename_i hq
      simp only [Bool.and_eq_true, Bool.or_eq_true, beq_iff_eq] at hq
      exact ⟨0, by simp, rfl, hq.1, hq.2⟩
    · rename_i hq
      rw [if_neg hq] at h
      obtain ⟨k, hk, h1, h2⟩ := shortC_at T h
      exact ⟨k + 1, by simpa using hk, h1, h2⟩
theorem pairB_of {p : Int × Int} (h : pairB p = true) : 0 ≤ p.1 ∧ p.1 ≤ 63 ∧ -127 ≤ p.2 ∧ p.2 ≤ 127 ∧ p.2 ≠ 0 := by
  unfold pairB at h
  simp only [Bool.and_eq_true, decide_eq_true_eq, bne_iff_ne] at h
  exact ⟨h.1.1.1.1, h.1.1.1.2, h.1.1.2, h.1.2, h.2⟩
theorem escP_len (p : Int × Int) : (escP p).length = 20 := by unfold escP; simp [digL_len]; rfl
theorem bpairs_succ (l : List UInt8) (f : Nat) (i : Int) (first : Bool) (left : Int) : bpairs l (f + 1) i first left = (if (cgetP l i first).2.1 then ([], i + (cgetP l i first).2.2.1, 0) else if (cgetP l i first).2.2.2 != 0 then ([], 0, (cgetP l i first).2.2.2) else
      if left - ((cgetP l i first).1.1 + 1) < 0 then ([], 0, 11) else
      ((cgetP l i first).1 :: (bpairs l f (i + (cgetP l i first).2.2.1) false (left - ((cgetP l i first).1.1 + 1))).1, (bpairs l f (i + (cgetP l i first).2.2.1) false (left - ((cgetP l i first).1.1 + 1))).2.1, (bpairs l f (i + (cgetP l i first).2.2.1) false (left - ((cgetP l i first).1.1 + 1))).2.2)) := rfl
end Go.Proofs.YtcojnigkgbmbmaaGreatDoor
namespace Go.Proofs.YtcojnigkgbmbmaaGreatDoor
open Go Go.RowKit
def mQ (m : MacM) : List UInt8 := if pQ m.kd then digL m.qu.toNat 5 else []
def mV (m : MacM) (a b : Int) : List UInt8 := if pV m.kd then movP a m.x ++ movP b m.y else []
def mC (m : MacM) : List UInt8 := if pC m.kd then patP m.pa else []
def mB (m : MacM) : List UInt8 := m.bl.flatMap fun b => bputP b (pI m.kd)
theorem mputL_parts (m : MacM) (x : LastM) : mputL m x = kindP m.kd ++ (mQ m ++ (mV m (predP m.ad (m.ad - x.ad) x.had x.x x.y).1 (predP m.ad (m.ad - x.ad) x.had x.x x.y).2 ++ (mC m ++ mB m))) := by
  unfold mputL mQ mV mC mB
  simp only [List.append_assoc]
structure MOk (m : MacM) : Prop where
  kd : inK m.kd = true
  a1 : 1 ≤ m.ad
  a2 : m.ad ≤ 33
  px : partB m.x = true
  py : partB m.y = true
  pv : pV m.kd = false → m.x = 0 ∧ m.y = 0
  q1 : pQ m.kd = true → 1 ≤ m.qu ∧ m.qu ≤ 31
  q0 : pQ m.kd = false → m.qu = 0
  i1 : pI m.kd = true → m.pa = 63
  c1 : pI m.kd = false → pC m.kd = true → 1 ≤ m.pa ∧ m.pa ≤ 63
  c0 : pI m.kd = false → pC m.kd = false → m.pa = 0
  len : m.bl.length = cntP m.pa
  bl : ∀ b ∈ m.bl, bchkP b (pI m.kd) = 0
theorem pIC' {k : Int} (h : pC k = true) : pI k = false := by
  unfold pC at h
  unfold pI
  simp only [Bool.or_eq_true, beq_iff_eq] at h
  rcases h with ((((h | h) | h) | h) | h) | h <;> subst h <;> rfl
theorem pred_part {x : LastM} {ad : Int} (h : aheadB x ad = true) : partB (predP ad (ad - x.ad) x.had x.x x.y).1 = true ∧ partB (predP ad (ad - x.ad) x.had x.x x.y).2 = true := by
  unfold aheadB at h
  simp only [Bool.and_eq_true] at h
  unfold predP
  split
  · exact ⟨rfl, rfl⟩
  · exact ⟨h.1.1.2, h.1.2⟩
end Go.Proofs.YtcojnigkgbmbmaaGreatDoor
namespace Go.Proofs.YtcojnigkgbmbmaaGreatDoor
open Go Go.RowKit
theorem lookC_in {s : List UInt8} : ∀ (T : List TabE) (more : Bool), (lookC s T more).2.2.2 = 0 → ∃ k, ∃ hk : k < T.length, ((lookC s T more).1 = (T[k].1.1, T[k].1.2) ∨ (lookC s T more).1 = (T[k].1.1, -T[k].1.2)) ∧ (lookC s T more).2.1 = false ∧ (lookC s T more).2.2.1 = (T[k].2.length : Int) + 1 ∧ T[k].2.length + 1 ≤ s.length
  | [], more, h => by
    have e : (lookC s [] more).2.2.2 = if more then 5 else 7 := rfl
    rw [e] at h
    cases more <;> cases h
  | (p, c) :: T, more, h => by
    cases hs : sameB s c with
    | false =>
      rw [lookC_no' hs] at h ⊢
      obtain ⟨k, hk, h1⟩ := lookC_in T more h
      exact ⟨k + 1, by simpa using hk, h1⟩
    | true =>
      by_cases hl : s.length ≤ c.length
      · rw [lookC_short' hs hl] at h ⊢
        obtain ⟨k, hk, h1⟩ := lookC_in T true h
        exact ⟨k + 1, by simpa using hk, h1⟩
      · rw [lookC_hit' hs hl]
        refine ⟨0, by simp, ?_, rfl, rfl, by show c.length + 1 ≤ _; omega⟩
        dsimp only
        split
        · exact .inr rfl
        · exact .inl rfl
theorem tab_keys (first : Bool) : (List.range (tabL first).length).all (fun i => (List.range (tabL first).length).all fun k => i == k || ((tabL first).getD i ((0, 0), [])).1 != ((tabL first).getD k ((0, 0), [])).1) = true := by cases first <;> kernel_rfl
theorem tab_key {first : Bool} {i k : Nat} (hi : i < (tabL first).length) (hk : k < (tabL first).length) (h : (tabL first)[i].1 = (tabL first)[k].1) : i = k := by
  have h1 := List.all_eq_true.1 (List.all_eq_true.1 (tab_keys first) i (List.mem_range.2 hi)) k (List.mem_range.2 hk)
  have e1 : (tabL first).getD i ((0, 0), []) = (tabL first)[i] := by simp [List.getD, hi]
  have e2 : (tabL first).getD k ((0, 0), []) = (tabL first)[k] := by simp [List.getD, hk]
  rw [e1, e2, Bool.or_eq_true] at h1
  rcases h1 with h1 | h1
  · exact beq_iff_eq.1 h1
  · rw [bne_iff_ne] at h1; exact absurd h h1
theorem tab_range (first : Bool) : (tabL first).all (fun x => decide (0 ≤ x.1.1) && decide (x.1.1 ≤ 63) && decide (1 ≤ x.1.2) && decide (x.1.2 ≤ 127)) = true := by cases first <;> kernel_rfl
theorem sign_len (v : Int) : (if v < 0 then [(49 : UInt8)] else [48]).length = 1 := by split <;> rfl
theorem cput_le (p : Int × Int) (first : Bool) : (cputP p first).length ≤ 20 := by
  unfold cputP
  split
  · rw [escP_len]; exact Nat.le_refl _
  · rename_i hs
    obtain ⟨k, hk, h1, h2, h3⟩ := shortC_at _ (by simpa using hs)
    have hpos := List.all_eq_true.1 (tab_pos first) _ (List.getElem_mem hk)
    simp only [Bool.and_eq_true, decide_eq_true_eq] at hpos
    rw [h1, List.length_append, sign_len]
    omega
theorem shortC_some {p : Int × Int} : ∀ (T : List TabE), (∀ e ∈ T, 1 ≤ e.2.length) → ∀ k (hk : k < T.length), T[k].1.1 = p.1 → (T[k].1.2 = p.2 ∨ T[k].1.2 = -p.2) → shortC p T ≠ []
  | [], _, k, hk, _, _ => by simp at hk
  | (q, c) :: T, ha, k, hk, h1, h2 => by
    unfold shortC
    split
    · have := ha (q, c) (by simp)
      intro h
      rw [h] at this
      simp at this
    · rename_i hq
      cases k with
      | zero => exact absurd (by simp only [Bool.and_eq_true, Bool.or_eq_true, beq_iff_eq]; exact ⟨h1, h2⟩) hq
      | succ k => exact shortC_some T (fun e he => ha e (List.mem_cons_of_mem _ he)) k (by simpa using hk) h1 h2
/-- a pair of the table is put with its code. -/
theorem cput_tab {first : Bool} {p : Int × Int} {k : Nat} (hk : k < (tabL first).length) (h1 : (tabL first)[k].1.1 = p.1) (h2 : (tabL first)[k].1.2 = p.2 ∨ (tabL first)[k].1.2 = -p.2) : (cputP p first).length = (tabL first)[k].2.length + 1 := by
  have hne := shortC_some (tabL first) (fun e he => by have hpos := List.all_eq_true.1 (tab_pos first) _ he; simp only [Bool.and_eq_true, decide_eq_true_eq] at hpos; omega) k hk h1 h2
  obtain ⟨j, hj, e1, e2, e3⟩ := shortC_at _ hne
  have r1 := List.all_eq_true.1 (tab_range first) _ (List.getElem_mem hj)
  have r2 := List.all_eq_true.1 (tab_range first) _ (List.getElem_mem hk)
  simp only [Bool.and_eq_true, decide_eq_true_eq] at r1 r2
  have : j = k := tab_key hj hk (Prod.ext (by omega) (by omega))
  subst this
  unfold cputP
  rw [if_neg (by simpa using hne), e1, List.length_append, sign_len]
theorem numS_bnd : ∀ (s : List UInt8) (n : Nat), s.length = n → (∀ c ∈ s, c = 48 ∨ c = 49) → numS s < 2 ^ n := by
  intro s n
  induction n generalizing s with
  | zero => intro hn _; rw [List.length_eq_zero_iff.1 hn]; decide
  | succ n ih =>
    intro hn h
    have hne : s ≠ [] := by intro e; rw [e] at hn; cases hn
    have e := List.dropLast_concat_getLast hne
    rw [← e, numS_snoc']
    have h1 := ih s.dropLast (by rw [List.length_dropLast, hn]; rfl) (fun c hc => h c (List.dropLast_subset s hc))
    have h2 : (s.getLast hne).toNat - 48 ≤ 1 := by
      rcases h _ (List.getLast_mem hne) with h | h <;> rw [h] <;> decide
    rw [Nat.pow_succ]
    omega
theorem cget_got {l : List UInt8} {i : Int} {first : Bool} (h0 : 0 ≤ i) (h1 : i ≤ 8 * (l.length : Int)) (he : (cgetP l i first).2.2.2 = 0) :
    i + (cgetP l i first).2.2.1 ≤ 8 * (l.length : Int) ∧ ((cgetP l i first).2.1 = true ∧ first = false ∧ (cgetP l i first).2.2.1 = 2 ∨ (cgetP l i first).2.1 = false ∧ pairB (cgetP l i first).1 = true ∧ ((cputP (cgetP l i first).1 first).length : Int) ≤ (cgetP l i first).2.2.1) := by
  unfold cgetP at he ⊢
  rw [if_neg (by omega), if_neg (by omega)] at he ⊢
  dsimp only at he ⊢
  have hlen : (bitsL l i.toNat (min 20 (8 * l.length - i.toNat))).length ≤ 8 * l.length - i.toNat := by rw [bitsL_length]; omega
  have hl20 : (bitsL l i.toNat (min 20 (8 * l.length - i.toNat))).length ≤ 20 := by rw [bitsL_length]; omega
  have hor := bitsL_or l i.toNat (min 20 (8 * l.length - i.toNat))
  generalize bitsL l i.toNat (min 20 (8 * l.length - i.toNat)) = s at hlen hor hl20 he ⊢
  generalize hm : 8 * l.length - i.toNat = mm at hlen
  split at he
  · rename_i h2
    rw [if_pos h2]
    split at he
    · cases he
    · rename_i h3
      rw [if_neg h3]
      split at he
      · cases he
      · rename_i h4
        rw [if_neg h4]
        dsimp only
        have h6 := numS_bnd ((s.take 12).drop 6) 6 (by simp; omega) (fun c hc => hor c (List.mem_of_mem_take (List.mem_of_mem_drop hc)))
        have h8 := numS_bnd (s.drop 12) 8 (by simp; omega) (fun c hc => hor c (List.mem_of_mem_drop hc))
        simp only [Bool.or_eq_true, beq_iff_eq, not_or] at h4
        refine ⟨by omega, .inr ⟨rfl, ?_, ?_⟩⟩
        · unfold pairB
          simp only [Bool.and_eq_true, decide_eq_true_eq, bne_iff_ne]
          have hb : ∀ n : Nat, n < 256 → i8 n ≠ 0 → i8 n ≠ -128 → -127 ≤ i8 n ∧ i8 n ≤ 127 ∧ i8 n ≠ 0 := fun n hn a b => by unfold i8 at *; split at * <;> omega
          have := hb _ (by omega) h4.1 h4.2
          generalize numS ((s.take 12).drop 6) = a at h6
          refine ⟨⟨⟨⟨by omega, by omega⟩, this.1⟩, this.2.1⟩, this.2.2⟩
        · have := cput_le (((numS ((s.take 12).drop 6) : Nat) : Int), i8 (numS (s.drop 12))) first
          omega
  · rename_i h2
    rw [if_neg h2]
    split at he
    · rename_i h3
      rw [if_pos h3]
      simp only [Bool.and_eq_true, Bool.not_eq_true'] at h3
      have h4 := (List.isPrefixOf_iff_prefix.1 h3.2).length_le
      have e : endC.length = 2 := rfl
      exact ⟨by show i + 2 ≤ _; omega, .inl ⟨rfl, h3.1, rfl⟩⟩
    · rename_i h3
      rw [if_neg h3]
      obtain ⟨k, hk, k1, k2, k3, k4⟩ := lookC_in _ _ he
      have r2 := List.all_eq_true.1 (tab_range first) _ (List.getElem_mem hk)
      simp only [Bool.and_eq_true, decide_eq_true_eq] at r2
      have hp : ∃ p, (lookC s (tabL first) (!first && sameB s endC)).1 = p ∧ (tabL first)[k].1.1 = p.1 ∧ ((tabL first)[k].1.2 = p.2 ∨ (tabL first)[k].1.2 = -p.2) := by
        rcases k1 with k1 | k1
        · exact ⟨_, rfl, by rw [k1], .inl (by rw [k1])⟩
        · exact ⟨_, rfl, by rw [k1], .inr (by rw [k1]; simp)⟩
      obtain ⟨p, ep, p1, p2⟩ := hp
      rw [k2, k3, ep]
      refine ⟨by omega, .inr ⟨rfl, ?_, ?_⟩⟩
      · unfold pairB
        simp only [Bool.and_eq_true, decide_eq_true_eq, bne_iff_ne]
        refine ⟨⟨⟨⟨by omega, by omega⟩, by omega⟩, by omega⟩, by omega⟩
      · rw [cput_tab hk p1 p2]
        omega
theorem spread_put {p : Int × Int} {L : List (Int × Int)} {a : Int} (h : pairB p = true) (h1 : p.1 ≤ 63 - a) (h2 : spreadP L (a + p.1 + 1) = 0) : spreadP (p :: L) a = 0 := by
  obtain ⟨p0, p1, p2, p3, p4⟩ := pairB_of h
  unfold spreadP
  rw [if_neg, if_neg, h2]
  · simp only [Bool.or_eq_true, decide_eq_true_eq]; omega
  · simp only [Bool.or_eq_true, beq_iff_eq, Bool.not_eq_true', Bool.and_eq_false_iff, decide_eq_false_iff_not]; omega
theorem bpairs_got {l : List UInt8} : ∀ (f : Nat) (i : Int) (first : Bool) (a : Int), 0 ≤ i → i ≤ 8 * (l.length : Int) → 0 ≤ a → (bpairs l f i first (64 - a)).2.2 = 0 →
    spreadP (bpairs l f i first (64 - a)).1 a = 0 ∧ (first = true → (bpairs l f i first (64 - a)).1 ≠ []) ∧ i + ((cputL (bpairs l f i first (64 - a)).1 first ++ endC).length : Int) ≤ (bpairs l f i first (64 - a)).2.1 ∧ (bpairs l f i first (64 - a)).2.1 ≤ 8 * (l.length : Int)
  | 0, i, first, a, _, _, _, h => by cases h
  | f + 1, i, first, a, h0, h1, ha, h => by
    rw [bpairs_succ] at h ⊢
    by_cases he : (cgetP l i first).2.2.2 = 0
    · obtain ⟨hb, hg⟩ := cget_got h0 h1 he
      rcases hg with ⟨g1, g2, g3⟩ | ⟨g1, g2, g3⟩
      · rw [if_pos g1] at h ⊢
        subst g2
        dsimp only
        rw [g3] at hb ⊢
        exact ⟨rfl, (fun h => by cases h), (by show i + ((endC.length : Nat) : Int) ≤ i + 2; have e : endC.length = 2 := rfl; omega), hb⟩
      · rw [if_neg (by rw [g1]; decide), if_neg (by rw [he]; decide)] at h ⊢
        split at h
        · cases h
        · rename_i hl
          rw [if_neg hl]
          dsimp only at h ⊢
          have hp := pairB_of g2
          have e : (64 : Int) - a - ((cgetP l i first).1.1 + 1) = 64 - (a + (cgetP l i first).1.1 + 1) := by omega
          rw [e] at h ⊢
          have hpos : (0 : Int) ≤ ((cputP (cgetP l i first).1 first).length : Int) := by omega
          obtain ⟨i1, i2, i3, i4⟩ := bpairs_got f (i + (cgetP l i first).2.2.1) false (a + (cgetP l i first).1.1 + 1) (by omega) (by omega) (by omega) h
          refine ⟨spread_put g2 (by omega) i1, (fun _ h => by cases h), ?_, i4⟩
          rw [cputL, List.append_assoc, List.length_append]
          push_cast
          omega
    · exfalso
      by_cases h2 : (cgetP l i first).2.1 = true
      · have : (cgetP l i first).2.2.2 = 0 := by
          unfold cgetP at h2 ⊢
          rw [if_neg (by omega), if_neg (by omega)] at h2 ⊢
          dsimp only at h2 ⊢
          split at h2
          · split at h2
            · cases h2
            · split at h2 <;> cases h2
          · rename_i q1
            split at h2
            · rename_i q2; rw [if_neg q1, if_pos q2]
            · exfalso
              have hn : ∀ (T : List TabE) (more : Bool) (s : List UInt8), (lookC s T more).2.1 = false := fun T => by
                induction T with
                | nil => intro more s; rfl
                | cons e T ih =>
                  intro more s
                  show (if !sameB s e.2 then lookC s T more else if s.length ≤ e.2.length then lookC s T true else _).2.1 = false
                  split
                  · exact ih _ _
                  · split
                    · exact ih _ _
                    · rfl
              rw [hn] at h2
              cases h2
        exact he this
      · rw [if_neg h2, if_pos (by simpa using he)] at h
        exact he h
theorem bget_got {l : List UInt8} {i : Int} {intra : Bool} (h0 : 0 ≤ i) (h1 : i ≤ 8 * (l.length : Int)) (he : (bgetP l i intra).2.2 = 0) :
    bchkP (bgetP l i intra).1 intra = 0 ∧ ((bputP (bgetP l i intra).1 intra).length : Int) ≤ (bgetP l i intra).2.1 ∧ i + (bgetP l i intra).2.1 ≤ 8 * (l.length : Int) := by
  unfold bgetP at he ⊢
  rw [if_neg (by omega), if_neg (by omega)] at he ⊢
  cases intra with
  | true =>
    simp only [if_true] at he ⊢
    split at he
    · cases he
    · rename_i h8
      rw [if_neg h8]
      split at he
      · cases he
      · rename_i hn
        rw [if_neg hn]
        have hlt : numN l i.toNat 8 < 256 := numN_lt l i.toNat 8
        simp only [Bool.or_eq_true, beq_iff_eq, not_or] at hn
        by_cases hq : (bpairs l 66 (i + 8) false 63).2.2 = 0
        · rw [hq, if_neg (by decide)]
          have e63 : (63 : Int) = 64 - 1 := by decide
          rw [e63] at hq ⊢
          obtain ⟨i1, i2, i3, i4⟩ := bpairs_got 66 (i + 8) false 1 (by omega) (by omega) (by decide) hq
          dsimp only
          refine ⟨?_, ?_, by omega⟩
          · unfold bchkP
            rw [if_neg, if_neg (by rw [Bool.not_true, Bool.false_and]; decide)]
            · exact i1
            · simp only [Bool.true_and, Bool.or_eq_true, decide_eq_true_eq, beq_iff_eq]; omega
          · unfold bputP
            simp only [if_true, Bool.not_true]
            rw [List.append_assoc, List.length_append, digL_len]
            rw [show (64 : Int) - 1 = 63 from rfl] at i3 ⊢
            push_cast
            omega
        · rw [if_pos (by simpa using hq)] at he
          exact absurd he hq
  | false =>
    simp only [Bool.false_eq_true, if_false] at he ⊢
    by_cases hq : (bpairs l 66 i true 64).2.2 = 0
    · rw [hq, if_neg (by decide)]
      have e64 : (64 : Int) = 64 - 0 := by decide
      rw [e64] at hq ⊢
      obtain ⟨i1, i2, i3, i4⟩ := bpairs_got 66 i true 0 (by omega) (by omega) (by decide) hq
      dsimp only
      refine ⟨?_, ?_, by omega⟩
      · unfold bchkP
        rw [if_neg (by rw [Bool.false_and]; decide), if_neg]
        · exact i1
        · simp only [Bool.not_false, Bool.true_and, Bool.or_eq_true, bne_iff_ne, beq_iff_eq]
          rintro (h | h)
          · exact h rfl
          · exact i2 rfl h
      · unfold bputP
        simp only [Bool.false_eq_true, if_false, Bool.not_false, List.nil_append]
        omega
    · rw [if_pos (by simpa using hq)] at he
      exact absurd he hq
end Go.Proofs.YtcojnigkgbmbmaaGreatDoor
namespace Go.Proofs.YtcojnigkgbmbmaaGreatDoor
open Go Go.RowKit
theorem bgets_got {l : List UInt8} {intra : Bool} : ∀ (k : Nat) (i : Int), 0 ≤ i → i ≤ 8 * (l.length : Int) → (bgets l intra k i).2.2 = 0 →
    (bgets l intra k i).1.length = k ∧ (∀ b ∈ (bgets l intra k i).1, bchkP b intra = 0) ∧ i + (((bgets l intra k i).1.flatMap fun b => bputP b intra).length : Int) ≤ (bgets l intra k i).2.1 ∧ (bgets l intra k i).2.1 ≤ 8 * (l.length : Int)
  | 0, i, h0, h1, _ => by simp [bgets]; omega
  | k + 1, i, h0, h1, h => by
    have hu : bgets l intra (k + 1) i = (if (bgetP l i intra).2.2 != 0 then ([], 0, (bgetP l i intra).2.2) else ((bgetP l i intra).1 :: (bgets l intra k (i + (bgetP l i intra).2.1)).1, (bgets l intra k (i + (bgetP l i intra).2.1)).2.1, (bgets l intra k (i + (bgetP l i intra).2.1)).2.2)) := rfl
    rw [hu] at h ⊢
    by_cases he : (bgetP l i intra).2.2 = 0
    · rw [if_neg (by rw [he]; decide)] at h ⊢
      obtain ⟨b1, b2, b3⟩ := bget_got h0 h1 he
      obtain ⟨i1, i2, i3, i4⟩ := bgets_got k (i + (bgetP l i intra).2.1) (by omega) (by omega) h
      refine ⟨by rw [List.length_cons, i1], fun b hb => ?_, ?_, i4⟩
      · rcases List.mem_cons.1 hb with rfl | hb
        · exact b1
        · exact i2 b hb
      · dsimp only
        rw [List.flatMap_cons, List.length_append]
        push_cast
        omega
    · rw [if_pos (by simpa using he)] at h
      exact absurd h he
theorem findR_got {s : List UInt8} : ∀ {cs : List (List UInt8)} {ns : List Int} {n k : Int}, findR s cs ns = some (n, k) → ∃ j, ∃ hj : j < cs.length, ns[j]? = some n ∧ k = cs[j].length
  | [], _, _, _, h => by simp [findR] at h
  | _ :: _, [], _, _, h => by simp [findR] at h
  | c :: cs, m :: ns, n, k, h => by
    unfold findR at h
    split at h
    · simp only [Option.some.injEq, Prod.mk.injEq] at h
      exact ⟨0, by simp, by simp [h.1], h.2.symm⟩
    · obtain ⟨j, hj, a, b⟩ := findR_got h
      exact ⟨j + 1, by simpa using hj, by simpa using a, by simpa using b⟩
theorem tree_got {cs : List (List UInt8)} {ns : List Int} {l : List UInt8} {i : Int} (he : (treeR cs ns l i).2.2 = 0) : ∃ j, ∃ hj : j < cs.length, ns[j]? = some (treeR cs ns l i).1 ∧ (treeR cs ns l i).2.1 = cs[j].length := by
  unfold treeR at he ⊢
  split at he
  · cases he
  · rename_i h0
    rw [if_neg h0]
    unfold getT at he ⊢
    cases hf : findR (bitsL l i.toNat (min 24 (8 * l.length - i.toNat))) cs ns with
    | some p => obtain ⟨n, k⟩ := p; exact findR_got hf
    | none =>
      rw [hf] at he
      dsimp only at he
      split at he <;> cases he
theorem findR_len {s : List UInt8} : ∀ {cs : List (List UInt8)} {ns : List Int} {n k : Int}, findR s cs ns = some (n, k) → k ≤ s.length
  | [], _, _, _, h => by simp [findR] at h
  | _ :: _, [], _, _, h => by simp [findR] at h
  | c :: cs, m :: ns, n, k, h => by
    unfold findR at h
    split at h
    · rename_i hp
      have hle := (List.isPrefixOf_iff_prefix.1 hp).length_le
      simp only [Option.some.injEq, Prod.mk.injEq] at h
      omega
    · exact findR_len h
theorem tree_end {cs : List (List UInt8)} {ns : List Int} {l : List UInt8} {i : Int} (h0 : 0 ≤ i) (h1 : i ≤ 8 * (l.length : Int)) (he : (treeR cs ns l i).2.2 = 0) : i + (treeR cs ns l i).2.1 ≤ 8 * (l.length : Int) := by
  unfold treeR at he ⊢
  rw [if_neg (by omega)] at he ⊢
  unfold getT at he ⊢
  have hl : (bitsL l i.toNat (min 24 (8 * l.length - i.toNat))).length ≤ 8 * l.length - i.toNat := by rw [bitsL_length]; omega
  cases hf : findR (bitsL l i.toNat (min 24 (8 * l.length - i.toNat))) cs ns with
  | some p =>
    obtain ⟨n, k⟩ := p
    have := findR_len hf
    show i + k ≤ _
    omega
  | none =>
    rw [hf] at he
    dsimp only at he
    split at he <;> cases he
theorem range_get {n j : Nat} {f : Nat → Int} {k : Int} (h : ((List.range n).map f)[j]? = some k) : j < n ∧ f j = k := by
  rw [List.getElem?_map] at h
  by_cases hj : j < n
  · rw [List.getElem?_range hj] at h
    exact ⟨hj, by simpa using h⟩
  · rw [List.getElem?_eq_none (by simpa using Nat.le_of_not_lt hj)] at h
    cases h
theorem codeAt_j {cs : List (List UInt8)} {lo k : Int} {j : Nat} (hj : j < cs.length) (h : k - lo = (j : Int)) : (codeAt cs lo k).getD [] = cs[j] := by
  unfold codeAt
  rw [if_neg (by omega), h, Int.toNat_natCast, List.getElem?_eq_getElem hj]
  rfl
theorem kind_got {l : List UInt8} {i : Int} (he : (treeR kindC kindN l i).2.2 = 0) : inK (treeR kindC kindN l i).1 = true ∧ (treeR kindC kindN l i).2.1 = (kindP (treeR kindC kindN l i).1).length ∧ 1 ≤ (treeR kindC kindN l i).2.1 := by
  obtain ⟨j, hj, h1, h2⟩ := tree_got he
  obtain ⟨h3, h4⟩ := range_get h1
  have h5 : kindP (treeR kindC kindN l i).1 = kindC[j] := by unfold kindP; exact codeAt_j hj (by omega)
  have h6 := code_le kind_code j hj
  rw [h5, h2]
  refine ⟨?_, rfl, by omega⟩
  unfold inK
  simp only [Bool.and_eq_true, decide_eq_true_eq]
  omega
theorem vec_got {l : List UInt8} {i : Int} (he : (treeR vecC vecN l i).2.2 = 0) : (treeR vecC vecN l i).2.1 = (vecP (treeR vecC vecN l i).1).length ∧ -16 ≤ (treeR vecC vecN l i).1 ∧ (treeR vecC vecN l i).1 ≤ 15 := by
  obtain ⟨j, hj, h1, h2⟩ := tree_got he
  obtain ⟨h3, h4⟩ := range_get h1
  have h5 : vecP (treeR vecC vecN l i).1 = vecC[j] := by unfold vecP; exact codeAt_j hj (by omega)
  rw [h5, h2]
  exact ⟨rfl, by omega, by omega⟩
theorem pat_got {l : List UInt8} {i : Int} (he : (treeR patC patN l i).2.2 = 0) : (treeR patC patN l i).2.1 = (patP (treeR patC patN l i).1).length ∧ 1 ≤ (treeR patC patN l i).1 ∧ (treeR patC patN l i).1 ≤ 63 := by
  obtain ⟨j, hj, h1, h2⟩ := tree_got he
  obtain ⟨h3, h4⟩ := range_get h1
  have h5 : patP (treeR patC patN l i).1 = patC[j] := by unfold patP; exact codeAt_j hj (by omega)
  rw [h5, h2]
  exact ⟨rfl, by omega, by omega⟩
theorem turn_got {fr d : Int} (h1 : -16 ≤ d) (h2 : d ≤ 15) (he : (turnP fr d).2 = 0) : partB (turnP fr d).1 = true ∧ diffP fr (turnP fr d).1 = d := by
  have pb : ∀ n, partB n = true ↔ (-15 ≤ n ∧ n ≤ 15) := fun n => by unfold partB; simp
  unfold turnP at he ⊢
  split at he
  · cases he
  · rename_i g0
    rw [if_neg g0]
    have hfr : partB fr = true := by
      simp only [Bool.or_eq_true, not_or, Bool.not_eq_true', Bool.not_eq_false] at g0
      exact g0.1.1
    rw [pb] at hfr
    split at he
    · rename_i g1; rw [if_pos g1]; refine ⟨g1, ?_⟩; unfold diffP; dsimp only; omega
    · rename_i g1; rw [if_neg g1]
      split at he
      · rename_i g2; rw [if_pos g2]; refine ⟨g2, ?_⟩; unfold diffP; dsimp only; omega
      · rename_i g2; rw [if_neg g2]
        split at he
        · rename_i g3; rw [if_pos g3]; refine ⟨g3, ?_⟩; unfold diffP; dsimp only; omega
        · cases he
theorem vget_got {l : List UInt8} {i pr : Int} (h0 : 0 ≤ i) (h1 : i ≤ 8 * (l.length : Int)) (he : (vgetP l i pr).2.2 = 0) : partB (vgetP l i pr).1 = true ∧ (vgetP l i pr).2.1 = i + ((movP pr (vgetP l i pr).1).length : Int) ∧ (vgetP l i pr).2.1 ≤ 8 * (l.length : Int) := by
  unfold vgetP at he ⊢
  dsimp only at he ⊢
  by_cases h2 : (treeR vecC vecN l i).2.2 = 0
  · rw [if_neg (by rw [h2]; decide)] at he ⊢
    obtain ⟨a, b, c⟩ := vec_got h2
    obtain ⟨d, e⟩ := turn_got b c he
    have f := tree_end h0 h1 h2
    unfold movP
    dsimp only
    rw [e]
    exact ⟨d, by rw [a], f⟩
  · rw [if_pos (by simpa using h2)] at he
    exact absurd he h2
theorem mget_got {l : List UInt8} {i ad : Int} {x : LastM} (h0 : 0 ≤ i) (h1 : i ≤ 8 * (l.length : Int)) (he : (mgetP l i ad x).2.2 = 0) :
    MOk (mgetP l i ad x).1 ∧ (mgetP l i ad x).1.ad = ad ∧ aheadB x ad = true ∧ ((mputL (mgetP l i ad x).1 x).length : Int) ≤ (mgetP l i ad x).2.1 ∧ i + (mgetP l i ad x).2.1 ≤ 8 * (l.length : Int) ∧ 1 ≤ (mgetP l i ad x).2.1 := by
  unfold mgetP at he ⊢
  split at he
  · cases he
  rename_i g0
  rw [if_neg g0]
  cases hx : aheadB x ad with
  | false => rw [hx, if_pos (by decide)] at he; cases he
  | true =>
  rw [hx] at he
  simp only [Bool.not_true, Bool.false_eq_true, if_false] at he ⊢
  have hp := pred_part hx
  generalize hpr : predP ad (ad - x.ad) x.had x.x x.y = pr at he hp ⊢
  by_cases k0 : (treeR kindC kindN l i).2.2 = 0
  · rw [k0] at he ⊢
    simp only [bne_self_eq_false, Bool.false_eq_true, if_false] at he ⊢
    obtain ⟨k1, k2, k3⟩ := kind_got k0
    have k4 := tree_end h0 h1 k0
    generalize (treeR kindC kindN l i).1 = kd at he k1 k2 ⊢
    generalize (treeR kindC kindN l i).2.1 = kn at he k2 k3 k4 ⊢
    have hq : (mq l kd (i + kn)).2.2 = 0 → (mq l kd (i + kn)).2.1 = i + kn + ((if pQ kd then digL (mq l kd (i + kn)).1.toNat 5 else []).length : Int) ∧ (mq l kd (i + kn)).2.1 ≤ 8 * (l.length : Int) ∧ (pQ kd = true → 1 ≤ (mq l kd (i + kn)).1 ∧ (mq l kd (i + kn)).1 ≤ 31) ∧ (pQ kd = false → (mq l kd (i + kn)).1 = 0) := by
      unfold mq
      cases hq : pQ kd with
      | true =>
        simp only [if_true]
        split
        · intro h; cases h
        · rename_i q1
          split
          · intro h; cases h
          · rename_i q2
            intro _
            have hlt : numN l (i + kn).toNat 5 < 32 := numN_lt l (i + kn).toNat 5
            simp only [beq_iff_eq] at q2
            rw [digL_len]
            dsimp only
            exact ⟨rfl, by omega, (fun _ => ⟨by omega, by omega⟩), (fun h => by cases h)⟩
      | false =>
        simp only [Bool.false_eq_true, if_false]
        intro _
        exact ⟨by simp, by omega, (fun h => by cases h), fun _ => trivial⟩
    by_cases q0 : (mq l kd (i + kn)).2.2 = 0
    · rw [q0] at he ⊢
      simp only [bne_self_eq_false, Bool.false_eq_true, if_false] at he ⊢
      obtain ⟨q1, q2, q3, q4⟩ := hq q0
      clear hq q0
      generalize (mq l kd (i + kn)).1 = qu at he q1 q3 q4 ⊢
      generalize (mq l kd (i + kn)).2.1 = a2 at he q1 q2 ⊢
      have hv : (mv l kd a2 pr.1 pr.2).2.2 = 0 → (mv l kd a2 pr.1 pr.2).2.1 = a2 + ((if pV kd then movP pr.1 (mv l kd a2 pr.1 pr.2).1.1 ++ movP pr.2 (mv l kd a2 pr.1 pr.2).1.2 else []).length : Int) ∧ (mv l kd a2 pr.1 pr.2).2.1 ≤ 8 * (l.length : Int) ∧ partB (mv l kd a2 pr.1 pr.2).1.1 = true ∧ partB (mv l kd a2 pr.1 pr.2).1.2 = true ∧ (pV kd = false → (mv l kd a2 pr.1 pr.2).1.1 = 0 ∧ (mv l kd a2 pr.1 pr.2).1.2 = 0) := by
        have ha2 : 0 ≤ a2 := by omega
        unfold mv
        cases hv : pV kd with
        | true =>
          simp only [if_true]
          by_cases v0 : (vgetP l a2 pr.1).2.2 = 0
          · rw [v0]
            simp only [bne_self_eq_false, Bool.false_eq_true, if_false]
            obtain ⟨v1, v2, v3⟩ := vget_got ha2 q2 v0
            by_cases w0 : (vgetP l (vgetP l a2 pr.1).2.1 pr.2).2.2 = 0
            · rw [w0]
              simp only [bne_self_eq_false, Bool.false_eq_true, if_false]
              obtain ⟨w1, w2, w3⟩ := vget_got (by omega) v3 w0
              intro _
              refine ⟨?_, w3, v1, w1, (fun h => by cases h)⟩
              rw [w2, List.length_append]
              push_cast
              omega
            · rw [if_pos (by simpa using w0)]
              intro h; exact absurd h w0
          · rw [if_pos (by simpa using v0)]
            intro h; exact absurd h v0
        | false =>
          simp only [Bool.false_eq_true, if_false]
          intro _
          exact ⟨by simp, q2, by decide, by decide, by simp⟩
      by_cases v0 : (mv l kd a2 pr.1 pr.2).2.2 = 0
      · rw [v0] at he ⊢
        simp only [bne_self_eq_false, Bool.false_eq_true, if_false] at he ⊢
        obtain ⟨v1, v2, v3, v4, v5⟩ := hv v0
        clear hv v0
        generalize (mv l kd a2 pr.1 pr.2).1 = mxy at he v1 v3 v4 v5 ⊢
        generalize (mv l kd a2 pr.1 pr.2).2.1 = a3 at he v1 v2 ⊢
        have ha3 : 0 ≤ a3 := by omega
        have hc : (mc l kd a3).2.2 = 0 → (mc l kd a3).2.1 = a3 + ((if pC kd then patP (mc l kd a3).1 else []).length : Int) ∧ (mc l kd a3).2.1 ≤ 8 * (l.length : Int) ∧ (pI kd = true → (mc l kd a3).1 = 63) ∧ (pI kd = false → pC kd = true → 1 ≤ (mc l kd a3).1 ∧ (mc l kd a3).1 ≤ 63) ∧ (pI kd = false → pC kd = false → (mc l kd a3).1 = 0) := by
          unfold mc
          cases hc : pC kd with
          | true =>
            simp only [if_true]
            by_cases c0 : (treeR patC patN l a3).2.2 = 0
            · rw [c0]
              simp only [bne_self_eq_false, Bool.false_eq_true, if_false]
              obtain ⟨c1, c2, c3⟩ := pat_got c0
              have c4 := tree_end ha3 v2 c0
              intro _
              exact ⟨by rw [c1], c4, (fun h => by rw [pIC' hc] at h; cases h), (fun _ _ => ⟨c2, c3⟩), (fun _ h => by cases h)⟩
            · rw [if_pos (by simpa using c0)]
              intro h; exact absurd h c0
          | false =>
            simp only [Bool.false_eq_true, if_false]
            intro _
            refine ⟨by simp, v2, (fun h => by rw [h]; rfl), (fun _ h => by cases h), (fun h _ => by rw [h]; rfl)⟩
        by_cases c0 : (mc l kd a3).2.2 = 0
        · rw [c0] at he ⊢
          simp only [bne_self_eq_false, Bool.false_eq_true, if_false] at he ⊢
          obtain ⟨c1, c2, c3, c4, c5⟩ := hc c0
          clear hc c0
          generalize (mc l kd a3).1 = pa at he c1 c3 c4 c5 ⊢
          generalize (mc l kd a3).2.1 = a4 at he c1 c2 ⊢
          by_cases b0 : (bgets l (pI kd) (cntP pa) a4).2.2 = 0
          · rw [b0] at he ⊢
            simp only [bne_self_eq_false, Bool.false_eq_true, if_false] at he ⊢
            obtain ⟨b1, b2, b3, b4⟩ := bgets_got (cntP pa) a4 (by omega) c2 b0
            generalize (bgets l (pI kd) (cntP pa) a4).1 = bl at b1 b2 b3 ⊢
            generalize (bgets l (pI kd) (cntP pa) a4).2.1 = a5 at b3 b4 ⊢
            refine ⟨⟨k1, by show 1 ≤ ad; omega, by show ad ≤ 33; omega, v3, v4, v5, q3, q4, c3, c4, c5, b1, b2⟩, by trivial, by trivial, ?_, by omega, by omega⟩
            rw [mputL_parts]
            dsimp only
            rw [hpr]
            unfold mQ mV mC mB
            dsimp only
            simp only [List.length_append] at *
            push_cast
            omega
          · rw [if_pos (by simpa using b0)] at he
            exact absurd he b0
        · rw [if_pos (by simpa using c0)] at he
          exact absurd he c0
      · rw [if_pos (by simpa using v0)] at he
        exact absurd he v0
    · rw [if_pos (by simpa using q0)] at he
      exact absurd he q0
  · rw [if_pos (by simpa using k0)] at he
    exact absurd he k0
end Go.Proofs.YtcojnigkgbmbmaaGreatDoor
namespace Go.Proofs.YtcojnigkgbmbmaaGreatDoor
open Go Go.RowKit
end Go.Proofs.YtcojnigkgbmbmaaGreatDoor
namespace Go.Proofs.YtcojnigkgbmbmaaGreatDoor
open Go Go.RowKit
end Go.Proofs.YtcojnigkgbmbmaaGreatDoor
namespace Go.Proofs.YtcojnigkgbmbmaaGreatDoor
open Go Go.RowKit
def cs8 (first : Bool) : List (List UInt8) := (tabL first).map (·.2) ++ (if first then [] else [endC]) ++ [escC]
def ns8 (first : Bool) : List Int := (List.range 63).map (fun j : Nat => (j : Int)) ++ (if first then [] else [1001]) ++ [1000]
theorem cs8_free (first : Bool) : codesFree (cs8 first) = true := by cases first <;> kernel_rfl
theorem cs8_code (first : Bool) : (cs8 first).all isCode = true := by cases first <;> kernel_rfl
theorem cs8_len (first : Bool) : (cs8 first).length = (ns8 first).length := by cases first <;> kernel_rfl
theorem cs8_f : (cs8 false).length = 65 := by kernel_rfl
theorem cs8_t : (cs8 true).length = 64 := by kernel_rfl
theorem tab_len (first : Bool) : (tabL first).length = 63 := by cases first <;> kernel_rfl
/-- what the reference's Get answers of a pair. -/
def get8 (l : List UInt8) (i : Int) (first : Bool) : (Int × Int) × Bool × Int × Int :=
  let r := treeR (cs8 first) (ns8 first) l i
  if r.2.2 != 0 then ((0, 0), false, 0, r.2.2) else
  if r.1 == 1001 then ((0, 0), true, r.2.1, 0) else
  if r.1 == 1000 then
    if 8 * (l.length : Int) < i + r.2.1 + 14 then ((0, 0), false, 0, 5) else
    let x := numN l (i + r.2.1).toNat 14
    if x % 256 == 0 || x % 256 == 128 then ((0, 0), false, 0, 10) else (((x / 256 : Nat), i8 (x % 256)), false, r.2.1 + 14, 0)
  else if 8 * (l.length : Int) < i + r.2.1 + 1 then ((0, 0), false, 0, 5) else
    let p := ((tabL false).getD r.1.toNat ((0, 0), [])).1
    ((p.1, if numN l (i + r.2.1).toNat 1 == 1 then -p.2 else p.2), false, r.2.1 + 1, 0)
theorem at_of_prefix {l : List UInt8} {k m : Nat} {c : List UInt8} (h : c <+: bitsL l k m) (hm : k + m ≤ 8 * l.length) : At l k c := by
  have hl := h.length_le; rw [bitsL_length] at hl
  obtain ⟨t, ht⟩ := h
  refine ⟨by omega, ?_⟩
  have e : bitsL l k m = bitsL l k c.length ++ bitsL l (k + c.length) (m - c.length) := by rw [← bitsL_append]; congr 1; omega
  rw [e] at ht
  exact (List.append_inj_left ht (by rw [bitsL_length])).symm
theorem cut_of_prefix {l : List UInt8} {k m : Nat} {c : List UInt8} (h : bitsL l k m <+: c) (hk : k ≤ 8 * l.length) (hm : m = 8 * l.length - k) (hc : m < c.length) : Cut l k c := by
  refine ⟨hk, by omega, ?_⟩
  rw [← hm]
  have := List.prefix_iff_eq_take.1 h
  rwa [bitsL_length] at this
theorem lookC_none {s : List UInt8} : ∀ (T : List TabE) (more : Bool), (∀ e ∈ T, sameB s e.2 = false) → lookC s T more = ((0, 0), false, 0, if more then 5 else 7)
  | [], more, _ => rfl
  | (p, c) :: T, more, ha => by
    rw [lookC_no' (ha (p, c) (by simp))]
    exact lookC_none T more fun e he => ha e (List.mem_cons_of_mem _ he)
theorem numS_bits (l : List UInt8) (i : Nat) : ∀ n, numS (bitsL l i n) = numN l i n
  | 0 => rfl
  | n + 1 => by
    rw [bitsL_succ, numS_snoc', numS_bits l i n]
    have hb := bitN_lt l (i + n)
    have : (bitC l (i + n)).toNat - 48 = bitN l (i + n) := by
      unfold bitC
      split
      · rename_i h; rw [h]; rfl
      · have e : bitN l (i + n) = 1 := by omega
        rw [e]; rfl
    rw [this]; rfl
theorem numN_add (l : List UInt8) (i a : Nat) : ∀ b, numN l i (a + b) = numN l i a * 2 ^ b + numN l (i + a) b
  | 0 => by simp [numN]
  | b + 1 => by
    have h := numN_add l i a b
    show 2 * numN l i (a + b) + bitN l (i + (a + b)) = _ * 2 ^ (b + 1) + (2 * numN l (i + a) b + bitN l (i + a + b))
    rw [h, Nat.pow_succ, ← Nat.add_assoc i a b]
    have : numN l i a * (2 ^ b * 2) = 2 * (numN l i a * 2 ^ b) := by rw [← Nat.mul_assoc, Nat.mul_comm]
    omega
theorem bitsL_drop (l : List UInt8) (i a b : Nat) : (bitsL l i (a + b)).drop a = bitsL l (i + a) b := by
  rw [bitsL_append, List.drop_left' (bitsL_length l i a)]
theorem cs8_get (first : Bool) (k : Nat) (hk : k < (cs8 first).length) : (∃ h : k < 63, (cs8 first)[k] = ((tabL first)[k]'(by rw [tab_len]; exact h)).2 ∧ (ns8 first)[k]? = some (k : Int)) ∨ (first = false ∧ k = 63 ∧ (cs8 first)[k] = endC ∧ (ns8 first)[k]? = some 1001) ∨ ((cs8 first)[k] = escC ∧ (ns8 first)[k]? = some 1000) := by
  have ht := tab_len first
  unfold cs8 at hk
  by_cases h63 : k < 63
  · left
    refine ⟨h63, ?_, ?_⟩
    · unfold cs8
      rw [List.getElem_append_left (by simp; omega), List.getElem_append_left (by simp; omega), List.getElem_map]
    · unfold ns8
      rw [List.getElem?_append_left (by simp; omega), List.getElem?_append_left (by simp; omega), List.getElem?_map, List.getElem?_range h63]
      rfl
  · right
    cases first with
    | false =>
      have : k = 63 ∨ k = 64 := by simp [ht] at hk; omega
      rcases this with rfl | rfl
      · left; exact ⟨rfl, rfl, by kernel_rfl, by kernel_rfl⟩
      · right; exact ⟨by kernel_rfl, by kernel_rfl⟩
    | true =>
      have : k = 63 := by simp [ht] at hk; omega
      subst this
      right; exact ⟨by kernel_rfl, by kernel_rfl⟩
theorem tab_pair (k : Nat) (h : k < 63) (first : Bool) : ((tabL false).getD k ((0, 0), [])).1 = ((tabL first)[k]'(by rw [tab_len]; exact h)).1 := by
  cases first with
  | false => rw [List.getD_eq_getElem?_getD, List.getElem?_eq_getElem (by rw [tab_len]; exact h), Option.getD_some]
  | true =>
    have hh : ((tabL false).map (·.1)) = ((tabL true).map (·.1)) := by kernel_rfl
    rw [List.getD_eq_getElem?_getD, List.getElem?_eq_getElem (by rw [tab_len]; exact h), Option.getD_some]
    have := congrArg (fun L => L[k]?) hh
    simp only [List.getElem?_map] at this
    rw [List.getElem?_eq_getElem (by rw [tab_len]; exact h), List.getElem?_eq_getElem (by rw [tab_len]; exact h)] at this
    simpa using this
theorem get8_eq (l : List UInt8) (i : Int) (first : Bool) : get8 l i first = cgetP l i first := by
  by_cases h0 : i < 0
  · have e : treeR (cs8 first) (ns8 first) l i = (0, 0, 3) := by unfold treeR; rw [if_pos h0]
    unfold get8 cgetP
    rw [e, if_pos h0]
    rfl
  obtain ⟨k, rfl⟩ := Int.eq_ofNat_of_zero_le (by omega : 0 ≤ i)
  have hfree := cs8_free first; have hcode := cs8_code first
  by_cases h1 : 8 * (l.length : Int) < (k : Int)
  · have e : treeR (cs8 first) (ns8 first) l (k : Int) = (0, 0, 5) := by
      unfold treeR
      rw [if_neg h0, Int.toNat_natCast, show min 24 (8 * l.length - k) = 0 by omega]
      cases first <;> kernel_rfl
    unfold get8 cgetP
    rw [e, if_neg h0, if_pos h1]
    rfl
  obtain ⟨r, hr⟩ : ∃ r, 8 * l.length - k = r := ⟨_, rfl⟩
  have hkr : k + r = 8 * l.length := by omega
  -- what cgetP does
  obtain ⟨s, hs⟩ : ∃ s, bitsL l k (min 20 r) = s := ⟨_, rfl⟩
  have hsl : s.length = min 20 r := by rw [← hs, bitsL_length]
  have hpre : s <+: bitsL l k (min 24 r) := by
    refine ⟨bitsL l (k + min 20 r) (min 24 r - min 20 r), ?_⟩
    rw [← hs, ← bitsL_append]
    congr 1
    omega
  have ec : cgetP l (k : Int) first = ((if sameB s escC then
      if s.length < 20 then ((0, 0), false, 0, 5) else
      if i8 (numS (s.drop 12)) == 0 || i8 (numS (s.drop 12)) == -128 then ((0, 0), false, 0, 10) else ((((numS ((s.take 12).drop 6) : Nat) : Int), i8 (numS (s.drop 12))), false, 20, 0)
    else if !first && endC.isPrefixOf s then ((0, 0), true, 2, 0)
    else lookC s (tabL first) (!first && sameB s endC)) : (Int × Int) × Bool × Int × Int) := by
    unfold cgetP
    rw [if_neg h0, if_neg h1, Int.toNat_natCast, hr, hs]
  rw [ec]
  -- the codes are apart
  have hap : ∀ (a b : Nat) (ha : a < (cs8 first).length) (hb : b < (cs8 first).length), (cs8 first)[a] <+: (cs8 first)[b] → a = b := fun a b ha hb h => by
    have := free_get hfree hb ha h
    omega
  have hcl : ∀ (a : Nat) (ha : a < (cs8 first).length), (cs8 first)[a].length ≤ 13 := by
    have : (cs8 first).all (fun c => decide (c.length ≤ 13)) = true := by cases first <;> kernel_rfl
    intro a ha
    simpa using List.all_eq_true.1 this _ (List.getElem_mem ha)
  have hesc : ∃ e, ∃ he : e < (cs8 first).length, (cs8 first)[e] = escC ∧ 63 ≤ e := by
    cases first
    · exact ⟨64, by rw [cs8_f]; decide, by kernel_rfl, by decide⟩
    · exact ⟨63, by rw [cs8_t]; decide, by kernel_rfl, by decide⟩
  obtain ⟨e, he, hee, he63⟩ := hesc
  have hend : first = false → ∃ h : 63 < (cs8 first).length, (cs8 first)[63] = endC ∧ e = 64 := fun hf => by
    subst hf
    refine ⟨by rw [cs8_f]; decide, by kernel_rfl, ?_⟩
    exact hap e 64 he (by rw [cs8_f]; decide) (by rw [hee]; exact List.prefix_rfl)
  have htb : ∀ (q : Nat) (h : q < 63), ∃ hq : q < (cs8 first).length, (cs8 first)[q] = ((tabL first)[q]'(by rw [tab_len]; exact h)).2 := fun q h => by
    have hq : q < (cs8 first).length := by omega
    rcases cs8_get first q hq with ⟨_, h2, _⟩ | ⟨_, h2, _⟩ | ⟨h2, _⟩
    · exact ⟨hq, h2⟩
    · omega
    · have := hap q e hq he (by rw [h2, hee]; exact List.prefix_rfl); omega
  by_cases hA : ∃ q, ∃ hq : q < (cs8 first).length, (cs8 first)[q] <+: bitsL l k (min 24 r)
  · obtain ⟨q, hq, hp⟩ := hA
    have hat := at_of_prefix hp (by omega)
    have hT := tree_at hfree hcode (cs8_len first) q hq hat
    have hqr : (cs8 first)[q].length ≤ r := by have := hat.1; omega
    have hps : (cs8 first)[q] <+: s := by
      have hl := hcl q hq
      rcases List.prefix_or_prefix_of_prefix hp hpre with h | h
      · exact h
      · have := h.eq_of_length (by have := h.length_le; omega)
        rw [this]; exact List.prefix_rfl
    have hoth : ∀ (a : Nat) (ha : a < (cs8 first).length), sameB s (cs8 first)[a] = true → s.length < (cs8 first)[a].length ∨ a = q := fun a ha hs2 => by
      rcases sameB_iff.1 hs2 with h | h
      · right; exact (hap q a hq ha (hps.trans h)).symm
      · right
        rcases List.prefix_or_prefix_of_prefix h hps with h | h
        · exact hap a q ha hq h
        · exact (hap q a hq ha h).symm
    have hno : q ≠ e → sameB s escC = false := fun hq2 => by
      rw [← Bool.not_eq_true]
      intro hs2
      rw [← hee] at hs2
      rcases sameB_iff.1 hs2 with h | h
      · exact hq2 (hap q e hq he (hps.trans h))
      · rcases List.prefix_or_prefix_of_prefix h hps with h | h
        · exact hq2 (hap e q he hq h).symm
        · exact hq2 (hap q e hq he h)
    have hnoe : ∀ (h63 : first = false), q ≠ 63 → sameB s endC = false := fun hf hq2 => by
      obtain ⟨h63, he3, _⟩ := hend hf
      rw [← Bool.not_eq_true]
      intro hs2
      rw [← he3] at hs2
      rcases sameB_iff.1 hs2 with h | h
      · exact hq2 (hap q 63 hq h63 (hps.trans h))
      · rcases List.prefix_or_prefix_of_prefix h hps with h | h
        · exact hq2 (hap 63 q h63 hq h).symm
        · exact hq2 (hap q 63 hq h63 h)
    unfold get8
    rw [hT]
    dsimp only
    rw [if_neg (by decide)]
    rcases cs8_get first q hq with ⟨h63, h2, h3⟩ | ⟨hf, h63, h2, h3⟩ | ⟨h2, h3⟩
    · rw [h3, Option.getD_some, if_neg (by simp; omega), if_neg (by simp; omega), hno (by omega), if_neg Bool.false_ne_true]
      have hne : (!first && endC.isPrefixOf s) = false := by
        cases hf : first with
        | true => rfl
        | false =>
          have := hnoe hf (by omega)
          rw [← Bool.not_eq_true] at this ⊢
          intro h
          exact this (sameB_iff.2 (.inr (List.isPrefixOf_iff_prefix.1 (by simpa using h))))
      rw [hne, if_neg Bool.false_ne_true]
      have hqt : q < (tabL first).length := by rw [tab_len]; exact h63
      rw [h2] at hps hqr ⊢
      obtain ⟨c, hc⟩ : ∃ c, ((tabL first)[q]'hqt).2 = c := ⟨_, rfl⟩
      have hc13 : c.length ≤ 13 := by rw [← hc, ← h2]; exact hcl q hq
      rw [hc] at hps hqr ⊢
      by_cases hm : c.length + 1 ≤ r
      · rw [if_neg (by omega)]
        have hb : c ++ [bitC l (k + c.length)] <+: s := by
          have e1 : bitsL l k (c.length + 1) = c ++ [bitC l (k + c.length)] := by
            rw [bitsL_succ]
            congr 1
            rw [h2, hc] at hat
            exact hat.2
          refine ⟨bitsL l (k + (c.length + 1)) (min 20 r - (c.length + 1)), ?_⟩
          rw [← e1, ← bitsL_append, ← hs]
          congr 1
          omega
        have hLk := lookC_at (tabL first) (!first && sameB s endC) q hqt (tab_free first hqt).1 (by rw [hc]; exact hb)
        rw [hLk, hc, show (((k : Int) + (c.length : Int)).toNat) = k + c.length by omega, numN_one, Int.toNat_natCast, tab_pair q h63 first]
        have hbb : (bitN l (k + c.length) == 1) = (bitC l (k + c.length) == 49) := by
          have := bitN_lt l (k + c.length)
          unfold bitC
          by_cases hz : bitN l (k + c.length) = 0
          · rw [hz]; rfl
          · rw [if_neg hz, show bitN l (k + c.length) = 1 by omega]; rfl
        rw [hbb]
      · rw [if_pos (by omega)]
        have hse : s.length = c.length := by rw [hsl]; omega
        refine (lookC_cut (tabL first) _ (fun t ht hs2 => ?_) (.inr ⟨(tabL first)[q], List.getElem_mem hqt, by rw [hc]; exact sameB_iff.2 (.inr hps)⟩)).symm
        obtain ⟨j, hj, rfl⟩ := List.getElem_of_mem ht
        obtain ⟨hj2, hj3⟩ := htb j (by rw [tab_len] at hj; exact hj)
        rcases hoth j hj2 (by rw [hj3]; exact hs2) with h | h
        · rw [hj3] at h; omega
        · subst h; rw [hc]; omega
    · subst hf
      rw [h3, Option.getD_some, if_pos (by decide), h2, hno (by have := hend rfl; obtain ⟨_, _, h⟩ := this; omega), if_neg Bool.false_ne_true]
      rw [h2] at hps
      rw [if_pos (by simp; exact hps)]
      rfl
    · rw [h3, Option.getD_some, if_neg (by decide), if_pos (by decide), h2]
      rw [h2] at hps hqr
      rw [if_pos (sameB_iff.2 (.inr hps))]
      have h6 : escC.length = 6 := rfl
      rw [h6]
      by_cases hm : r < 20
      · rw [if_pos (show 8 * (l.length : Int) < (k : Int) + ((6 : Nat) : Int) + 14 by omega), if_pos (show s.length < 20 by omega)]
      · have e20 : min 20 r = 6 + (6 + 8) := by omega
        rw [if_neg (show ¬ 8 * (l.length : Int) < (k : Int) + ((6 : Nat) : Int) + 14 by omega), if_neg (show ¬ s.length < 20 by omega)]
        have d1 : numS (s.drop 12) = numN l (k + 12) 8 := by
          rw [← hs, e20, show 6 + (6 + 8) = 12 + 8 by omega, bitsL_drop, numS_bits]
        have d2 : numS ((s.take 12).drop 6) = numN l (k + 6) 6 := by
          rw [← hs, e20, show 6 + (6 + 8) = 12 + 8 by omega, show (bitsL l k (12 + 8)).take 12 = bitsL l k 12 by rw [bitsL_append, List.take_left' (bitsL_length l k 12)], show 12 = 6 + 6 by omega, bitsL_drop, numS_bits]
        have d3 : numN l ((k : Int) + ((6 : Nat) : Int)).toNat 14 = numN l (k + 6) 6 * 256 + numN l (k + 12) 8 := by
          rw [show ((k : Int) + ((6 : Nat) : Int)).toNat = k + 6 by omega, show 14 = 6 + 8 by omega, numN_add]
        have l8 := numN_lt l (k + 12) 8
        rw [d1, d2, d3]
        have m1 : (numN l (k + 6) 6 * 256 + numN l (k + 12) 8) % 256 = numN l (k + 12) 8 := by omega
        have m2 : (numN l (k + 6) 6 * 256 + numN l (k + 12) 8) / 256 = numN l (k + 6) 6 := by omega
        rw [m1, m2]
        have hz : (numN l (k + 12) 8 == 0 || numN l (k + 12) 8 == 128) = (i8 (numN l (k + 12) 8) == 0 || i8 (numN l (k + 12) 8) == -128) := by
          unfold i8
          generalize numN l (k + 12) 8 = x at *
          rw [Bool.eq_iff_iff]
          simp only [Bool.or_eq_true, beq_iff_eq]
          split <;> omega
        rw [hz]
        rfl
  · have hA2 : ∀ (a : Nat) (ha : a < (cs8 first).length), ¬ (cs8 first)[a] <+: s := fun a ha h => hA ⟨a, ha, h.trans hpre⟩
    by_cases hB : ∃ q, ∃ hq : q < (cs8 first).length, bitsL l k (min 24 r) <+: (cs8 first)[q]
    · obtain ⟨q, hq, hp⟩ := hB
      have hlt : (bitsL l k (min 24 r)).length < (cs8 first)[q].length := by
        have h1 := hp.length_le
        rcases Nat.lt_or_ge (bitsL l k (min 24 r)).length (cs8 first)[q].length with h | h
        · exact h
        · exact absurd ⟨q, hq, by rw [hp.eq_of_length (by omega)]; exact List.prefix_rfl⟩ hA
      rw [bitsL_length] at hlt
      have h13 := hcl q hq
      have er : min 24 r = r := by omega
      have hs2 : bitsL l k (min 24 r) = s := by rw [← hs, er, show min 20 r = r by omega]
      rw [hs2] at hp
      have hcut : Cut l k (cs8 first)[q] := cut_of_prefix (m := r) (by rw [← er, hs2]; exact hp) (by omega) (by omega) (by omega)
      have hT := tree_cut (ns := ns8 first) hfree hcode q hq hcut
      unfold get8
      rw [hT]
      dsimp only
      rw [if_pos (by decide)]
      cases hse : sameB s escC with
      | true => rw [if_pos rfl, if_pos (by omega)]
      | false =>
        rw [if_neg Bool.false_ne_true]
        have hne : (!first && endC.isPrefixOf s) = false := by
          cases hf : first with
          | true => rfl
          | false =>
            obtain ⟨h63, he3, _⟩ := hend hf
            rw [← Bool.not_eq_true]
            intro h
            exact hA2 63 h63 (by rw [he3]; exact List.isPrefixOf_iff_prefix.1 (by simpa using h))
        rw [hne, if_neg Bool.false_ne_true]
        refine (lookC_cut (tabL first) _ (fun t ht hs2 => ?_) ?_).symm
        · obtain ⟨j, hj, rfl⟩ := List.getElem_of_mem ht
          obtain ⟨hj2, hj3⟩ := htb j (by rw [tab_len] at hj; exact hj)
          rcases sameB_iff.1 hs2 with h | h
          · exact h.length_le
          · exact absurd (by rw [hj3]; exact h) (hA2 j hj2)
        · rcases cs8_get first q hq with ⟨h63, h2, h3⟩ | ⟨hf, h63, h2, h3⟩ | ⟨h2, h3⟩
          · right
            exact ⟨(tabL first)[q]'(by rw [tab_len]; exact h63), List.getElem_mem _, sameB_iff.2 (.inl (by rw [← h2]; exact hp))⟩
          · left
            subst hf
            rw [h2] at hp
            rw [sameB_iff.2 (.inl hp)]
            rfl
          · rw [h2] at hp
            rw [sameB_iff.2 (.inl hp)] at hse
            cases hse
    · have hB2 : ∀ (a : Nat) (ha : a < (cs8 first).length), sameB s (cs8 first)[a] = false := fun a ha => by
        rw [← Bool.not_eq_true]
        intro h
        rcases sameB_iff.1 h with h | h
        · have h1 := h.length_le
          have h13 := hcl a ha
          have er : min 24 r = min 20 r := by omega
          exact hB ⟨a, ha, by rw [er, hs]; exact h⟩
        · exact hA2 a ha h
      have hT : treeR (cs8 first) (ns8 first) l (k : Int) = (0, 0, 7) := by
        unfold treeR
        rw [if_neg h0, Int.toNat_natCast, hr]
        unfold getT
        rw [findR_none _ (fun a ha h => hA ⟨a, ha, h⟩)]
        dsimp only
        rw [if_neg]
        intro h
        obtain ⟨c, hc, h2⟩ := List.any_eq_true.1 h
        obtain ⟨a, ha, rfl⟩ := List.getElem_of_mem hc
        exact hB ⟨a, ha, List.isPrefixOf_iff_prefix.1 h2⟩
      unfold get8
      rw [hT]
      dsimp only
      rw [if_pos (by decide)]
      have hse : sameB s escC = false := by rw [← hee]; exact hB2 e he
      rw [hse, if_neg Bool.false_ne_true]
      have hen : first = false → sameB s endC = false := fun hf => by
        obtain ⟨h63, he3, _⟩ := hend hf
        rw [← he3]; exact hB2 63 h63
      have hne : (!first && endC.isPrefixOf s) = false := by
        cases hf : first with
        | true => rfl
        | false =>
          have := hen hf
          rw [← Bool.not_eq_true] at this ⊢
          intro h
          exact this (sameB_iff.2 (.inr (List.isPrefixOf_iff_prefix.1 (by simpa using h))))
      have hne2 : (!first && sameB s endC) = false := by
        cases hf : first with
        | true => rfl
        | false => rw [hen hf]; rfl
      rw [hne, if_neg Bool.false_ne_true, hne2, lookC_none _ _ (fun t ht => ?_)]
      · rfl
      · obtain ⟨j, hj, rfl⟩ := List.getElem_of_mem ht
        obtain ⟨hj2, hj3⟩ := htb j (by rw [tab_len] at hj; exact hj)
        rw [← hj3]; exact hB2 j hj2
end Go.Proofs.YtcojnigkgbmbmaaGreatDoor
