/- MacP, PredP, AtP, BackP -/
import Derived.Test.YtcojnigkgbmbmaaGreatDoorK01
import Derived.Lib.Fields
namespace Go.Proofs.YtcojnigkgbmbmaaGreatDoor
open Go Go.RowKit
/-- has a kind this? -/
def inK (k : Int) : Bool := decide (1 ≤ k) && decide (k ≤ 10)
def pI (k : Int) : Bool := decide (1 ≤ k) && decide (k ≤ 2)
def pQ (k : Int) : Bool := k == 2 || k == 4 || k == 7 || k == 10
def pV (k : Int) : Bool := decide (5 ≤ k) && decide (k ≤ 10)
def pF (k : Int) : Bool := decide (8 ≤ k) && decide (k ≤ 10)
def pC (k : Int) : Bool := k == 3 || k == 4 || k == 6 || k == 7 || k == 9 || k == 10
/-- a code of a list by its number, from lo on. -/
def codeAt (cs : List (List UInt8)) (lo k : Int) : Option (List UInt8) := if k < lo then none else cs[(k - lo).toNat]?
def kindP (k : Int) : List UInt8 := (codeAt kindC 1 k).getD []
def vecP (d : Int) : List UInt8 := (codeAt vecC (-16) d).getD []
def patP (p : Int) : List UInt8 := (codeAt patC 1 p).getD []
def partB (n : Int) : Bool := decide (-15 ≤ n) && decide (n ≤ 15)
def diffP (fr to : Int) : Int := (to - fr + 80) % 32 - 16
def turnP (pr d : Int) : Int × Int :=
  if !partB pr || decide (d < -16) || decide (15 < d) then (0, 3) else
  if partB (pr + d) then (pr + d, 0) else if partB (pr + d + 32) then (pr + d + 32, 0) else if partB (pr + d - 32) then (pr + d - 32, 0) else (0, 12)
def newB (ad d : Int) (had : Bool) : Bool := !had || d != 1 || ad == 1 || ad == 12 || ad == 23
def predP (ad d : Int) (had : Bool) (x y : Int) : Int × Int := if newB ad d had then (0, 0) else (x, y)
/-- how many blocks a pattern says. -/
def cntP (p : Int) : Nat := if 1 ≤ p ∧ p ≤ 63 then p.toNat / 32 % 2 + p.toNat / 16 % 2 + p.toNat / 8 % 2 + p.toNat / 4 % 2 + p.toNat / 2 % 2 + p.toNat % 2 else 0
/-- the digits of a number, so many. -/
def digL (n : Nat) (m : Nat) : List UInt8 := (List.range m).map fun j => if n / 2 ^ (m - 1 - j) % 2 = 0 then 48 else 49
structure BlkM where
  dc : Int
  l : List (Int × Int)
structure MacM where
  ad : Int
  kd : Int
  qu : Int
  x : Int
  y : Int
  pa : Int
  bl : List BlkM
structure LastM where
  ad : Int
  had : Bool
  x : Int
  y : Int
/-- the rows of codes, run by run. -/
def rowL : List (List UInt8) := [[49, 49, 32, 48, 49, 48, 48, 32, 48, 48, 49, 48, 49, 32, 48, 48, 48, 48, 49, 49, 48, 32, 48, 48, 49, 48, 48, 49, 49, 48, 32, 48, 48, 49, 48, 48, 48, 48, 49, 32, 48, 48, 48, 48, 48, 48, 49, 48, 49, 48, 32, 48, 48, 48, 48, 48, 48, 48, 49, 49, 49, 48, 49, 32, 48, 48, 48, 48, 48, 48, 48, 49, 49, 48, 48, 48, 32, 48, 48, 48, 48, 48, 48, 48, 49, 48, 48, 49, 49, 32, 48, 48, 48, 48, 48, 48, 48, 49, 48, 48, 48, 48, 32, 48, 48, 48, 48, 48, 48, 48, 48, 49, 49, 48, 49, 48, 32, 48, 48, 48, 48, 48, 48, 48, 48, 49, 49, 48, 48, 49, 32, 48, 48, 48, 48, 48, 48, 48, 48, 49, 49, 48, 48, 48, 32, 48, 48, 48, 48, 48, 48, 48, 48, 49, 48, 49, 49, 49], [48, 49, 49, 32, 48, 48, 48, 49, 49, 48, 32, 48, 48, 49, 48, 48, 49, 48, 49, 32, 48, 48, 48, 48, 48, 48, 49, 49, 48, 48, 32, 48, 48, 48, 48, 48, 48, 48, 49, 49, 48, 49, 49, 32, 48, 48, 48, 48, 48, 48, 48, 48, 49, 48, 49, 49, 48, 32, 48, 48, 48, 48, 48, 48, 48, 48, 49, 48, 49, 48, 49], [48, 49, 48, 49, 32, 48, 48, 48, 48, 49, 48, 48, 32, 48, 48, 48, 48, 48, 48, 49, 48, 49, 49, 32, 48, 48, 48, 48, 48, 48, 48, 49, 48, 49, 48, 48, 32, 48, 48, 48, 48, 48, 48, 48, 48, 49, 48, 49, 48, 48], [48, 48, 49, 49, 49, 32, 48, 48, 49, 48, 48, 49, 48, 48, 32, 48, 48, 48, 48, 48, 48, 48, 49, 49, 49, 48, 48, 32, 48, 48, 48, 48, 48, 48, 48, 48, 49, 48, 48, 49, 49], [48, 48, 49, 49, 48, 32, 48, 48, 48, 48, 48, 48, 49, 49, 49, 49, 32, 48, 48, 48, 48, 48, 48, 48, 49, 48, 48, 49, 48], [48, 48, 48, 49, 49, 49, 32, 48, 48, 48, 48, 48, 48, 49, 48, 48, 49, 32, 48, 48, 48, 48, 48, 48, 48, 48, 49, 48, 48, 49, 48], [48, 48, 48, 49, 48, 49, 32, 48, 48, 48, 48, 48, 48, 48, 49, 49, 49, 49, 48], [48, 48, 48, 49, 48, 48, 32, 48, 48, 48, 48, 48, 48, 48, 49, 48, 49, 48, 49], [48, 48, 48, 48, 49, 49, 49, 32, 48, 48, 48, 48, 48, 48, 48, 49, 48, 48, 48, 49], [48, 48, 48, 48, 49, 48, 49, 32, 48, 48, 48, 48, 48, 48, 48, 48, 49, 48, 48, 48, 49], [48, 48, 49, 48, 48, 49, 49, 49, 32, 48, 48, 48, 48, 48, 48, 48, 48, 49, 48, 48, 48, 48], [48, 48, 49, 48, 48, 48, 49, 49], [48, 48, 49, 48, 48, 48, 49, 48], [48, 48, 49, 48, 48, 48, 48, 48], [48, 48, 48, 48, 48, 48, 49, 49, 49, 48], [48, 48, 48, 48, 48, 48, 49, 49, 48, 49], [48, 48, 48, 48, 48, 48, 49, 48, 48, 48], [48, 48, 48, 48, 48, 48, 48, 49, 49, 49, 49, 49], [48, 48, 48, 48, 48, 48, 48, 49, 49, 48, 49, 48], [48, 48, 48, 48, 48, 48, 48, 49, 49, 48, 48, 49], [48, 48, 48, 48, 48, 48, 48, 49, 48, 49, 49, 49], [48, 48, 48, 48, 48, 48, 48, 49, 48, 49, 49, 48], [48, 48, 48, 48, 48, 48, 48, 48, 49, 49, 49, 49, 49], [48, 48, 48, 48, 48, 48, 48, 48, 49, 49, 49, 49, 48], [48, 48, 48, 48, 48, 48, 48, 48, 49, 49, 49, 48, 49], [48, 48, 48, 48, 48, 48, 48, 48, 49, 49, 49, 48, 48], [48, 48, 48, 48, 48, 48, 48, 48, 49, 49, 48, 49, 49]]
def tabRow (first : Bool) (run : Nat) : Nat → List (List UInt8) → List ((Int × Int) × List UInt8)
  | _, [] => []
  | i, c :: cs => (((run : Int), (i : Int) + 1), if first && run == 0 && i == 0 then [49] else c) :: tabRow first run (i + 1) cs
def tabRows (first : Bool) : Nat → List (List UInt8) → List ((Int × Int) × List UInt8)
  | _, [] => []
  | r, x :: xs => tabRow first r 0 (Lib.fields x) ++ tabRows first (r + 1) xs
def tabL (first : Bool) : List ((Int × Int) × List UInt8) := tabRows first 0 rowL
def escC : List UInt8 := [48, 48, 48, 48, 48, 49]
def endC : List UInt8 := [49, 48]
def sameB (a b : List UInt8) : Bool := a.take (min a.length b.length) == b.take (min a.length b.length)
def lookC (s : List UInt8) : List ((Int × Int) × List UInt8) → Bool → (Int × Int) × Bool × Int × Int
  | [], more => ((0, 0), false, 0, if more then 5 else 7)
  | (p, c) :: T, more => if !sameB s c then lookC s T more else if s.length ≤ c.length then lookC s T true else ((p.1, if s.getD c.length 0 == 49 then -p.2 else p.2), false, (c.length : Int) + 1, 0)
def numS (s : List UInt8) : Nat := s.foldl (fun a c => 2 * a + (c.toNat - 48)) 0
def i8 (n : Nat) : Int := if n < 128 then n else (n : Int) - 256
/-- what coeff.Get answers: a pair, is it the end, how many bits, an error. -/
def cgetP (l : List UInt8) (i : Int) (first : Bool) : (Int × Int) × Bool × Int × Int :=
  if i < 0 then ((0, 0), false, 0, 3) else if 8 * (l.length : Int) < i then ((0, 0), false, 0, 5) else
  let s := bitsL l i.toNat (min 20 (8 * l.length - i.toNat))
  if sameB s escC then
    if s.length < 20 then ((0, 0), false, 0, 5) else
    if i8 (numS (s.drop 12)) == 0 || i8 (numS (s.drop 12)) == -128 then ((0, 0), false, 0, 10) else (((numS ((s.take 12).drop 6) : Nat), i8 (numS (s.drop 12))), false, 20, 0)
  else if !first && endC.isPrefixOf s then ((0, 0), true, 2, 0)
  else lookC s (tabL first) (!first && sameB s endC)
def pairB (p : Int × Int) : Bool := decide (0 ≤ p.1) && decide (p.1 ≤ 63) && decide (-127 ≤ p.2) && decide (p.2 ≤ 127) && p.2 != 0
def shortC (p : Int × Int) : List ((Int × Int) × List UInt8) → List UInt8
  | [] => []
  | (q, c) :: T => if q.1 == p.1 && (q.2 == p.2 || q.2 == -p.2) then c else shortC p T
def escP (p : Int × Int) : List UInt8 := escC ++ digL p.1.toNat 6 ++ digL (p.2 % 256).toNat 8
/-- a pair's bits. -/
def cputP (p : Int × Int) (first : Bool) : List UInt8 :=
  if shortC p (tabL first) == [] then escP p else shortC p (tabL first) ++ (if p.2 < 0 then [49] else [48])
def spreadP : List (Int × Int) → Int → Int
  | [], _ => 0
  | p :: l, at_ => if p.2 == 0 || !(decide (-127 ≤ p.2) && decide (p.2 ≤ 127)) then 10 else if decide (p.1 < 0) || decide (63 - at_ < p.1) then 11 else spreadP l (at_ + p.1 + 1)
def frstP (intra : Bool) : Int := if intra then 1 else 0
/-- why a block may not be. -/
def bchkP (x : BlkM) (intra : Bool) : Int :=
  if intra && (decide (x.dc < 1) || decide (255 < x.dc) || x.dc == 128) then 10 else if !intra && (x.dc != 0 || x.l == []) then 2 else spreadP x.l (frstP intra)
def cputL : List (Int × Int) → Bool → List UInt8
  | [], _ => []
  | p :: l, first => cputP p first ++ cputL l false
/-- a block's bits. -/
def bputP (x : BlkM) (intra : Bool) : List UInt8 := (if intra then digL x.dc.toNat 8 else []) ++ cputL x.l (!intra) ++ endC
/-- pairs, one behind the other, to the end: fuel, place, is it the first one, how much is left; the pairs, the place behind them. -/
def bpairs (l : List UInt8) : Nat → Int → Bool → Int → List (Int × Int) × Int × Int
  | 0, _, _, _ => ([], 0, 5)
  | f + 1, i, first, left =>
    let r := cgetP l i first
    if r.2.1 then ([], i + r.2.2.1, 0) else if r.2.2.2 != 0 then ([], 0, r.2.2.2) else
    if left - (r.1.1 + 1) < 0 then ([], 0, 11) else
    let q := bpairs l f (i + r.2.2.1) false (left - (r.1.1 + 1))
    (r.1 :: q.1, q.2.1, q.2.2)
/-- what block.Get answers: a block, how many bits, an error. -/
def bgetP (l : List UInt8) (i : Int) (intra : Bool) : BlkM × Int × Int :=
  if i < 0 then (⟨0, []⟩, 0, 3) else if 8 * (l.length : Int) < i then (⟨0, []⟩, 0, 5) else
  if intra then
    if 8 * (l.length : Int) < i + 8 then (⟨0, []⟩, 0, 5) else
    let n := numN l i.toNat 8
    if n == 0 || n == 128 then (⟨0, []⟩, 0, 10) else
    let q := bpairs l 66 (i + 8) false 63
    if q.2.2 != 0 then (⟨0, []⟩, 0, q.2.2) else (⟨n, q.1⟩, q.2.1 - i, 0)
  else
    let q := bpairs l 66 i true 64
    if q.2.2 != 0 then (⟨0, []⟩, 0, q.2.2) else (⟨0, q.1⟩, q.2.1 - i, 0)
/-- may a macroblock be? -/
def okM (m : MacM) : Bool :=
  inK m.kd && decide (1 ≤ m.ad) && decide (m.ad ≤ 33) && partB m.x && partB m.y && (pV m.kd || (m.x == 0 && m.y == 0)) &&
  (if pQ m.kd then decide (1 ≤ m.qu) && decide (m.qu ≤ 31) else m.qu == 0) &&
  (if pI m.kd then m.pa == 63 else if pC m.kd then decide (1 ≤ m.pa) && decide (m.pa ≤ 63) else m.pa == 0) && m.bl.length == cntP m.pa && m.bl.all fun x => bchkP x (pI m.kd) == 0
def aheadB (x : LastM) (ad : Int) : Bool := decide (0 ≤ x.ad) && decide (x.ad < ad) && partB x.x && partB x.y && (x.had || (x.x == 0 && x.y == 0))
def aftP (m : MacM) : LastM := if pV m.kd then ⟨m.ad, true, m.x, m.y⟩ else ⟨m.ad, false, 0, 0⟩
def movP (fr to : Int) : List UInt8 := vecP (diffP fr to)
/-- a macroblock's bits. -/
def mputL (m : MacM) (x : LastM) : List UInt8 :=
  let pr := predP m.ad (m.ad - x.ad) x.had x.x x.y
  kindP m.kd ++ (if pQ m.kd then digL m.qu.toNat 5 else []) ++ (if pV m.kd then movP pr.1 m.x ++ movP pr.2 m.y else []) ++ (if pC m.kd then patP m.pa else []) ++ m.bl.flatMap fun b => bputP b (pI m.kd)
def mputP (m : MacM) (x : LastM) : List UInt8 × Int := if okM m && aheadB x m.ad then (mputL m x, 0) else ([], 2)
def m0 : MacM := ⟨0, 0, 0, 0, 0, 0, []⟩
def bgets (l : List UInt8) (intra : Bool) : Nat → Int → List BlkM × Int × Int
  | 0, i => ([], i, 0)
  | n + 1, i =>
    let r := bgetP l i intra
    if r.2.2 != 0 then ([], 0, r.2.2) else
    let q := bgets l intra n (i + r.2.1)
    (r.1 :: q.1, q.2.1, q.2.2)
/-- reading one behind the other. -/
def vgetP (l : List UInt8) (i pr : Int) : Int × Int × Int :=
  let r := treeR vecC vecN l i
  if r.2.2 != 0 then (0, 0, r.2.2) else ((turnP pr r.1).1, i + r.2.1, (turnP pr r.1).2)
def mq (l : List UInt8) (k i : Int) : Int × Int × Int :=
  if pQ k then (if 8 * (l.length : Int) < i + 5 then (0, 0, 5) else if numN l i.toNat 5 == 0 then (0, 0, 9) else ((numN l i.toNat 5 : Nat), i + 5, 0)) else (0, i, 0)
def mv (l : List UInt8) (k i x y : Int) : (Int × Int) × Int × Int :=
  if pV k then
    let r := vgetP l i x
    if r.2.2 != 0 then ((0, 0), 0, r.2.2) else
    let q := vgetP l r.2.1 y
    if q.2.2 != 0 then ((0, 0), 0, q.2.2) else ((r.1, q.1), q.2.1, 0)
  else ((0, 0), i, 0)
def mc (l : List UInt8) (k i : Int) : Int × Int × Int :=
  if pC k then (let r := treeR patC patN l i; if r.2.2 != 0 then (0, 0, r.2.2) else (r.1, i + r.2.1, 0)) else (if pI k then 63 else 0, i, 0)
/-- what macro.Get answers: a macroblock, how many bits, an error. -/
def mgetP (l : List UInt8) (i ad : Int) (x : LastM) : MacM × Int × Int :=
  if i < 0 ∨ ad < 1 ∨ 33 < ad then (m0, 0, 3) else if !aheadB x ad then (m0, 0, 2) else
  let pr := predP ad (ad - x.ad) x.had x.x x.y
  let k := treeR kindC kindN l i
  if k.2.2 != 0 then (m0, 0, k.2.2) else
  let q := mq l k.1 (i + k.2.1)
  if q.2.2 != 0 then (m0, 0, q.2.2) else
  let v := mv l k.1 q.2.1 pr.1 pr.2
  if v.2.2 != 0 then (m0, 0, v.2.2) else
  let c := mc l k.1 v.2.1
  if c.2.2 != 0 then (m0, 0, c.2.2) else
  let b := bgets l (pI k.1) (cntP c.1) c.2.1
  if b.2.2 != 0 then (m0, 0, b.2.2) else (⟨ad, k.1, q.1, v.1.1, v.1.2, c.1, b.1⟩, b.2.1 - i, 0)
def movedM : MacM := ⟨1, 5, 0, 1, -1, 0, []⟩
def last0 : LastM := ⟨0, false, 0, 0⟩
theorem known_put : mputP movedM last0 = ([48, 48, 48, 48, 48, 48, 48, 48, 49, 48, 49, 48, 48, 49, 49], 0) := by kernel_rfl
theorem known_put2 : mputP ⟨3, 8, 0, 1, 0, 0, []⟩ ⟨2, true, 1, 0⟩ = ([48, 48, 49, 49, 49], 0) := by kernel_rfl
theorem known_put3 : mputP ⟨3, 8, 0, 1, 0, 0, []⟩ ⟨1, true, 1, 0⟩ = ([48, 48, 49, 48, 49, 48, 49], 0) := by kernel_rfl
theorem known_get : mgetP [0, 166] 0 1 last0 = (movedM, 15, 0) := by kernel_rfl
theorem known_get2 : mgetP [0] 0 1 last0 = (m0, 0, 5) := by kernel_rfl
theorem known_get3 : mgetP [0, 166] 0 34 last0 = (m0, 0, 3) := by kernel_rfl
theorem known_chk : okM ⟨0, 5, 0, 0, 0, 0, []⟩ = false ∧ okM ⟨1, 3, 0, 0, 0, 0, []⟩ = false := ⟨by kernel_rfl, by kernel_rfl⟩
end Go.Proofs.YtcojnigkgbmbmaaGreatDoor
namespace Go.Proofs.YtcojnigkgbmbmaaGreatDoor
open Go Go.RowKit
theorem free_get {cs : List (List UInt8)} (h : codesFree cs = true) {i k : Nat} (hi : i < cs.length) (hk : k < cs.length) (hp : cs[k] <+: cs[i]) : i = k := by
  have h1 := List.all_eq_true.1 h i (List.mem_range.2 hi)
  have h2 := List.all_eq_true.1 h1 k (List.mem_range.2 hk)
  have e1 : cs.getD k [] = cs[k] := by simp [List.getD, hk]
  have e2 : cs.getD i [] = cs[i] := by simp [List.getD, hi]
  rw [e1, e2, Bool.or_eq_true] at h2
  rcases h2 with h2 | h2
  · exact beq_iff_eq.1 h2
  · rw [Bool.not_eq_true', ← Bool.not_eq_true, List.isPrefixOf_iff_prefix] at h2
    exact absurd hp h2
theorem free_head {cs : List (List UInt8)} (h : codesFree cs = true) {i k : Nat} (hi : i < cs.length) (hk : k < cs.length) {s t : List UInt8} (he : cs[i] ++ s = cs[k] ++ t) : i = k ∧ s = t := by
  have h1 : cs[i] <+: cs[i] ++ s := ⟨s, rfl⟩
  have h2 : cs[k] <+: cs[i] ++ s := ⟨t, he.symm⟩
  have h3 : i = k := by
    rcases List.prefix_or_prefix_of_prefix h1 h2 with h3 | h3
    · exact (free_get h hk hi h3).symm
    · exact free_get h hi hk h3
  subst h3
  exact ⟨rfl, List.append_cancel_left he⟩
theorem codeAt_get {cs : List (List UInt8)} {lo k : Int} (h1 : lo ≤ k) (h2 : (k - lo).toNat < cs.length) : codeAt cs lo k = some (cs[(k - lo).toNat]) := by
  unfold codeAt
  rw [if_neg (by omega), List.getElem?_eq_getElem h2]
theorem vecC_len : vecC.length = 32 := by kernel_rfl
theorem kindC_len : kindC.length = 10 := by kernel_rfl
theorem patC_len : patC.length = 63 := by kernel_rfl
theorem vecP_get {d : Int} (h1 : -16 ≤ d) (h2 : d ≤ 15) : vecP d = vecC[(d + 16).toNat]'(by rw [vecC_len]; omega) := by
  have h := codeAt_get (cs := vecC) (lo := -16) (k := d) h1 (by rw [vecC_len]; omega)
  unfold vecP
  rw [h, Option.getD_some]
  congr 1
theorem vecP_head {d e : Int} (h1 : -16 ≤ d) (h2 : d ≤ 15) (h3 : -16 ≤ e) (h4 : e ≤ 15) {s t : List UInt8} (h : vecP d ++ s = vecP e ++ t) : d = e ∧ s = t := by
  rw [vecP_get h1 h2, vecP_get h3 h4] at h
  have := free_head vec_free _ _ h
  exact ⟨by omega, this.2⟩
theorem diffP_range (fr to : Int) : -16 ≤ diffP fr to ∧ diffP fr to ≤ 15 := by unfold diffP; omega
theorem diffP_inj {a b to : Int} (ha : partB a = true) (hb : partB b = true) (h : diffP a to = diffP b to) : a = b := by
  simp only [partB, Bool.and_eq_true, decide_eq_true_eq] at ha hb
  unfold diffP at h
  omega
theorem movP_head {a b to : Int} (ha : partB a = true) (hb : partB b = true) {s t : List UInt8} (h : movP a to ++ s = movP b to ++ t) : a = b ∧ s = t := by
  have h1 := diffP_range a to
  have h2 := diffP_range b to
  have h3 := vecP_head h1.1 h1.2 h2.1 h2.2 h
  exact ⟨diffP_inj ha hb h3.1, h3.2⟩
def nearB (x : LastM) (ad : Int) : Bool := x.ad == ad - 1 && x.had && ad != 1 && ad != 12 && ad != 23
theorem near_new (x : LastM) (ad : Int) : newB ad (ad - x.ad) x.had = !nearB x ad := by
  unfold newB nearB
  have h : (ad - x.ad != 1) = !(x.ad == ad - 1) := by
    rw [Bool.eq_iff_iff]; simp; omega
  rw [h]
  simp only [bne]
  cases x.had <;> cases (x.ad == ad - 1) <;> cases (ad == 1) <;> cases (ad == 12) <;> cases (ad == 23) <;> rfl
theorem mputL_same {m : MacM} {x y : LastM} (h : pV m.kd = false ∨ (nearB x m.ad = false ∧ nearB y m.ad = false)) : mputL m x = mputL m y := by
  unfold mputL
  rcases h with h | ⟨h1, h2⟩
  · simp only [h, if_false, Bool.false_eq_true]
  · have e1 : predP m.ad (m.ad - x.ad) x.had x.x x.y = (0, 0) := by unfold predP; rw [near_new, h1]; rfl
    have e2 : predP m.ad (m.ad - y.ad) y.had y.x y.y = (0, 0) := by unfold predP; rw [near_new, h2]; rfl
    simp only [e1, e2]
theorem mputL_iff {m : MacM} {x y : LastM} (hv : pV m.kd = true) (h1 : nearB x m.ad = true) (h2 : nearB y m.ad = true) (hx : aheadB x m.ad = true) (hy : aheadB y m.ad = true) : (mputL m x == mputL m y) = ((x.x == y.x) && (x.y == y.y)) := by
  have e1 : predP m.ad (m.ad - x.ad) x.had x.x x.y = (x.x, x.y) := by unfold predP; rw [near_new, h1]; rfl
  have e2 : predP m.ad (m.ad - y.ad) y.had y.x y.y = (y.x, y.y) := by unfold predP; rw [near_new, h2]; rfl
  simp only [aheadB, Bool.and_eq_true] at hx hy
  rw [Bool.eq_iff_iff, beq_iff_eq, Bool.and_eq_true, beq_iff_eq, beq_iff_eq]
  unfold mputL
  simp only [e1, e2, hv, if_true]
  constructor
  · intro h
    simp only [List.append_assoc] at h
    have h3 := List.append_cancel_left (List.append_cancel_left h)
    have h4 := movP_head hx.1.1.2 hy.1.1.2 h3
    have h5 := movP_head hx.1.2 hy.1.2 h4.2
    exact ⟨h4.1, h5.1⟩
  · rintro ⟨ha, hb⟩
    rw [ha, hb]
end Go.Proofs.YtcojnigkgbmbmaaGreatDoor
namespace Go.Proofs.YtcojnigkgbmbmaaGreatDoor
open Go Go.RowKit
/-- the bits from place i on begin with s. -/
def At (l : List UInt8) (i : Nat) (s : List UInt8) : Prop := i + s.length ≤ 8 * l.length ∧ bitsL l i s.length = s
/-- the bits from place i on are a beginning of s, and not all of it. -/
def Cut (l : List UInt8) (i : Nat) (s : List UInt8) : Prop := i ≤ 8 * l.length ∧ 8 * l.length < i + s.length ∧ bitsL l i (8 * l.length - i) = s.take (8 * l.length - i)
theorem bitsL_append (l : List UInt8) (i n m : Nat) : bitsL l i (n + m) = bitsL l i n ++ bitsL l (i + n) m := by
  unfold bitsL
  rw [List.range_add, List.map_append, List.map_map]
  congr 1
  apply List.map_congr_left
  intro j _
  show bitC l (i + (n + j)) = bitC l (i + n + j)
  congr 1; omega
theorem At.app {l : List UInt8} {i : Nat} {s t : List UInt8} (h : At l i (s ++ t)) : At l i s ∧ At l (i + s.length) t := by
  obtain ⟨h1, h2⟩ := h
  rw [List.length_append, bitsL_append] at h2
  rw [List.length_append] at h1
  have h3 := List.append_inj h2 (by simp [bitsL_length])
  exact ⟨⟨by omega, h3.1⟩, ⟨by omega, h3.2⟩⟩
theorem At.join {l : List UInt8} {i : Nat} {s t : List UInt8} (h : At l i s) (k : At l (i + s.length) t) : At l i (s ++ t) := by
  refine ⟨by have := k.1; rw [List.length_append]; omega, ?_⟩
  rw [List.length_append, bitsL_append, h.2, k.2]
theorem Cut.app {l : List UInt8} {i : Nat} {s t : List UInt8} (h : Cut l i (s ++ t)) : Cut l i s ∨ (At l i s ∧ Cut l (i + s.length) t) := by
  obtain ⟨h1, h2, h3⟩ := h
  rw [List.length_append] at h2
  by_cases hc : 8 * l.length < i + s.length
  · refine .inl ⟨h1, hc, ?_⟩
    rw [h3, List.take_append_of_le_length (by omega)]
  · obtain ⟨m, hm⟩ : ∃ m, 8 * l.length - i = s.length + m := ⟨8 * l.length - i - s.length, by omega⟩
    rw [hm, bitsL_append, List.take_append, List.take_of_length_le (by omega)] at h3
    have h4 := List.append_inj h3 (by simp [bitsL_length])
    refine .inr ⟨⟨by omega, h4.1⟩, by omega, by omega, ?_⟩
    have e : 8 * l.length - (i + s.length) = m := by omega
    rw [e, h4.2]
    congr 1; omega
theorem Cut.ne {l : List UInt8} {i : Nat} (h : Cut l i []) : False := by have := h.2.1; have := h.1; simp at *; omega
theorem At.window {l : List UInt8} {i : Nat} {s : List UInt8} (h : At l i s) (n : Nat) (hn : s.length ≤ n) : s <+: bitsL l i (min n (8 * l.length - i)) := by
  obtain ⟨m, hm⟩ : ∃ m, min n (8 * l.length - i) = s.length + m := ⟨min n (8 * l.length - i) - s.length, by have := h.1; omega⟩
  rw [hm, bitsL_append, h.2]
  exact ⟨_, rfl⟩
theorem Cut.window {l : List UInt8} {i : Nat} {s : List UInt8} (h : Cut l i s) (n : Nat) (hn : s.length ≤ n) : bitsL l i (min n (8 * l.length - i)) = s.take (8 * l.length - i) ∧ 8 * l.length - i < s.length := by
  have h1 := h.1; have h2 := h.2.1
  have e : min n (8 * l.length - i) = 8 * l.length - i := by omega
  rw [e]
  exact ⟨h.2.2, by omega⟩
theorem findR_at {cs : List (List UInt8)} : ∀ {ns : List Int} (s : List UInt8) (k : Nat) (hk : k < cs.length), cs.length = ns.length → cs[k] <+: s → (∀ i (hi : i < cs.length), cs[i] <+: s → i = k) → findR s cs ns = some ((ns[k]?).getD 0, (cs[k].length : Int)) := by
  induction cs with
  | nil => intro ns s k hk; simp at hk
  | cons c cs ih =>
    intro ns s k hk hl hp hu
    cases ns with
    | nil => simp at hl
    | cons n ns =>
      rw [findR]
      cases k with
      | zero =>
        have h1 : c.isPrefixOf s = true := List.isPrefixOf_iff_prefix.2 hp
        simp [h1]
      | succ k =>
        have h1 : c.isPrefixOf s = false := by
          rw [← Bool.not_eq_true, List.isPrefixOf_iff_prefix]
          intro h2
          have := hu 0 (by simp) h2
          omega
        rw [h1]
        have h3 := ih (ns := ns) s k (by simpa using hk) (by simpa using hl) (by simpa using hp) (fun i hi h2 => by
          have := hu (i + 1) (by simpa using hi) (by simpa using h2)
          omega)
        simpa using h3
theorem findR_none {cs : List (List UInt8)} : ∀ {ns : List Int} (s : List UInt8), (∀ i (hi : i < cs.length), ¬ cs[i] <+: s) → findR s cs ns = none := by
  induction cs with
  | nil => intro ns s _; rw [findR.eq_def]
  | cons c cs ih =>
    intro ns s hu
    cases ns with
    | nil => rw [findR.eq_def]
    | cons n ns =>
      rw [findR]
      have h1 : c.isPrefixOf s = false := by
        rw [← Bool.not_eq_true, List.isPrefixOf_iff_prefix]
        exact hu 0 (by simp)
      rw [h1]
      have h3 := ih (ns := ns) s (fun i hi => by
        have h4 := hu (i + 1) (by simpa using hi)
        rw [List.getElem_cons_succ] at h4
        exact h4)
      simpa using h3
theorem code_le {cs : List (List UInt8)} (hc : cs.all isCode = true) (k : Nat) (hk : k < cs.length) : 1 ≤ cs[k].length ∧ cs[k].length ≤ 24 := by
  have := List.all_eq_true.1 hc _ (List.getElem_mem hk)
  simp only [isCode, Bool.and_eq_true, decide_eq_true_eq] at this
  exact ⟨this.1.2, this.2⟩
theorem tree_at {cs : List (List UInt8)} {ns : List Int} (hf : codesFree cs = true) (hc : cs.all isCode = true) (hl : cs.length = ns.length) (k : Nat) (hk : k < cs.length) {l : List UInt8} {i : Nat} (h : At l i cs[k]) : treeR cs ns l i = ((ns[k]?).getD 0, (cs[k].length : Int), 0) := by
  have hw := h.window 24 (code_le hc k hk).2
  unfold treeR
  rw [if_neg (by omega), Int.toNat_natCast]
  unfold getT
  rw [findR_at _ k hk hl hw (fun j hj hp => by
    rcases List.prefix_or_prefix_of_prefix hp hw with h3 | h3
    · exact (free_get hf hk hj h3).symm
    · exact free_get hf hj hk h3)]
theorem tree_cut {cs : List (List UInt8)} {ns : List Int} (hf : codesFree cs = true) (hc : cs.all isCode = true) (k : Nat) (hk : k < cs.length) {l : List UInt8} {i : Nat} (h : Cut l i cs[k]) : treeR cs ns l i = (0, 0, 5) := by
  have hw := h.window 24 (code_le hc k hk).2
  unfold treeR
  rw [if_neg (by omega), Int.toNat_natCast]
  unfold getT
  have hp : bitsL l i (min 24 (8 * l.length - i)) <+: cs[k] := by rw [hw.1]; exact List.take_prefix _ _
  have hlt : (bitsL l i (min 24 (8 * l.length - i))).length < cs[k].length := by rw [hw.1, List.length_take]; have := hw.2; omega
  rw [findR_none _ (fun j hj hp2 => by
    have h4 := free_get hf hk hj (hp2.trans hp)
    subst h4
    have := hp2.length_le
    omega)]
  have h5 : cs.any (fun c => (bitsL l i (min 24 (8 * l.length - i))).isPrefixOf c) = true := List.any_eq_true.2 ⟨cs[k], List.getElem_mem hk, List.isPrefixOf_iff_prefix.2 hp⟩
  simp only [h5, if_true]
/-- digits. -/
theorem digL_len (n m : Nat) : (digL n m).length = m := by simp [digL]
theorem numN_bits (l : List UInt8) : ∀ (m i n : Nat), bitsL l i m = digL n m → n < 2 ^ m → numN l i m = n
  | 0, i, n, _, h => by simp [numN]; simp at h; omega
  | m + 1, i, n, he, h => by
    have e1 : digL n (m + 1) = digL (n / 2) m ++ [if n % 2 = 0 then 48 else 49] := by
      unfold digL
      rw [List.range_succ, List.map_append]
      congr 1
      · apply List.map_congr_left
        intro j hj
        have hj := List.mem_range.1 hj
        have e : m + 1 - 1 - j = (m - 1 - j) + 1 := by omega
        rw [e, Nat.pow_succ, Nat.mul_comm, ← Nat.div_div_eq_div_mul]
      · simp
    rw [bitsL_succ, e1] at he
    have h2 := List.append_inj he (by rw [bitsL_length, digL_len])
    have ih := numN_bits l m i (n / 2) h2.1 (by rw [Nat.pow_succ] at h; omega)
    rw [numN, ih]
    have h3 : bitC l (i + m) = if n % 2 = 0 then 48 else 49 := by simpa using h2.2
    have h4 := bitN_lt l (i + m)
    unfold bitC at h3
    have h5 : (bitN l (i + m) = 0) ↔ (n % 2 = 0) := by
      constructor
      · intro h6; by_cases h7 : n % 2 = 0
        · exact h7
        · rw [if_pos h6, if_neg h7] at h3; cases h3
      · intro h7; by_cases h6 : bitN l (i + m) = 0
        · exact h6
        · rw [if_neg h6, if_pos h7] at h3; cases h3
    omega
theorem num_at {l : List UInt8} {i n m : Nat} (h : At l i (digL n m)) (hn : n < 2 ^ m) : numN l i m = n := numN_bits l m i n (by have := h.2; rwa [digL_len] at this) hn
end Go.Proofs.YtcojnigkgbmbmaaGreatDoor
namespace Go.Proofs.YtcojnigkgbmbmaaGreatDoor
open Go Go.RowKit
theorem lookC_no' {s c : List UInt8} {p : Int × Int} {T : List ((Int × Int) × List UInt8)} {more : Bool} (h : sameB s c = false) : lookC s ((p, c) :: T) more = lookC s T more := by
  show (if !sameB s c then _ else _) = _
  rw [h]; rfl
theorem lookC_short' {s c : List UInt8} {p : Int × Int} {T : List ((Int × Int) × List UInt8)} {more : Bool} (h : sameB s c = true) (hl : s.length ≤ c.length) : lookC s ((p, c) :: T) more = lookC s T true := by
  show (if !sameB s c then _ else if s.length ≤ c.length then _ else _) = _
  rw [h, if_neg (by decide), if_pos hl]
theorem lookC_hit' {s c : List UInt8} {p : Int × Int} {T : List ((Int × Int) × List UInt8)} {more : Bool} (h : sameB s c = true) (hl : ¬ s.length ≤ c.length) : lookC s ((p, c) :: T) more = ((p.1, if s.getD c.length 0 == 49 then -p.2 else p.2), false, (c.length : Int) + 1, 0) := by
  show (if !sameB s c then _ else if s.length ≤ c.length then _ else _) = _
  rw [h, if_neg (by decide), if_neg hl]
theorem numS_snoc' (s : List UInt8) (c : UInt8) : numS (s ++ [c]) = 2 * numS s + (c.toNat - 48) := by unfold numS; rw [List.foldl_append]; rfl
theorem sameB_iff {a b : List UInt8} : sameB a b = true ↔ (a <+: b ∨ b <+: a) := by
  unfold sameB
  rw [beq_iff_eq]
  rcases Nat.le_total a.length b.length with h | h
  · rw [Nat.min_eq_left h, List.take_length]
    constructor
    · exact fun e => .inl (List.prefix_iff_eq_take.2 e)
    · rintro (h2 | h2)
      · exact List.prefix_iff_eq_take.1 h2
      · have e := h2.eq_of_length (by have := h2.length_le; omega)
        rw [e, List.take_length]
  · rw [Nat.min_eq_right h, List.take_length]
    constructor
    · exact fun e => .inr (List.prefix_iff_eq_take.2 e.symm)
    · rintro (h2 | h2)
      · have e := h2.eq_of_length (by have := h2.length_le; omega)
        rw [e, List.take_length]
      · exact (List.prefix_iff_eq_take.1 h2).symm
abbrev TabE : Type := (Int × Int) × List UInt8
/-- a code's look-up: no other one is like it. -/
theorem lookC_at {s : List UInt8} {b : UInt8} : ∀ (T : List TabE) (more : Bool) (k : Nat) (hk : k < T.length), (∀ j (hj : j < T.length), (T[j].2 <+: T[k].2 ∨ T[k].2 <+: T[j].2) → j = k) → T[k].2 ++ [b] <+: s →
    lookC s T more = ((T[k].1.1, if b == 49 then -T[k].1.2 else T[k].1.2), false, (T[k].2.length : Int) + 1, 0)
  | [], _, k, hk, _, _ => by simp at hk
  | (p, c) :: T, more, 0, hk, hf, hp => by
    have hp : c ++ [b] <+: s := hp
    have h1 : c <+: s := (List.prefix_append c [b]).trans hp
    have h2 : c.length + 1 ≤ s.length := by have := hp.length_le; simpa using this
    rw [lookC_hit' (sameB_iff.2 (.inr h1)) (by omega)]
    obtain ⟨t, rfl⟩ := hp
    have e : ((c ++ [b]) ++ t).getD c.length 0 = b := by simp [List.getD]
    rw [e]
    rfl
  | (p, c) :: T, more, k + 1, hk, hf, hp => by
    have hk' : k < T.length := by simpa using hk
    have hp : T[k].2 ++ [b] <+: s := hp
    have h1 : T[k].2 <+: s := (List.prefix_append _ [b]).trans hp
    have hs : sameB s c = false := by
      rw [← Bool.not_eq_true, sameB_iff]
      intro h
      have h3 : c <+: T[k].2 ∨ T[k].2 <+: c := by
        rcases h with h | h
        · exact .inr (h1.trans h)
        · exact List.prefix_or_prefix_of_prefix h h1
      have := hf 0 (by simp) h3
      omega
    rw [lookC_no' hs]
    exact lookC_at T more k hk' (fun j hj h => by have := hf (j + 1) (by simpa using hj) h; omega) hp
/-- a code that is cut off. -/
theorem lookC_cut {s : List UInt8} : ∀ (T : List TabE) (more : Bool), (∀ e ∈ T, sameB s e.2 = true → s.length ≤ e.2.length) → (more = true ∨ ∃ e ∈ T, sameB s e.2 = true) → lookC s T more = ((0, 0), false, 0, 5)
  | [], more, _, h => by
    rcases h with rfl | ⟨e, he, _⟩
    · rfl
    · simp at he
  | (p, c) :: T, more, ha, h => by
    cases hs : sameB s c with
    | true =>
      rw [lookC_short' hs (ha (p, c) (by simp) hs)]
      exact lookC_cut T true (fun e he => ha e (List.mem_cons_of_mem _ he)) (.inl rfl)
    | false =>
      rw [lookC_no' hs]
      refine lookC_cut T more (fun e he => ha e (List.mem_cons_of_mem _ he)) ?_
      rcases h with h | ⟨e, he, h2⟩
      · exact .inl h
      · rcases List.mem_cons.1 he with rfl | he
        · rw [hs] at h2; cases h2
        · exact .inr ⟨e, he, h2⟩
/-- all codes that may stand at a place. -/
def codesT (first : Bool) : List (List UInt8) := escC :: endC :: (if first then [] else (tabL false).map (·.2))
theorem codesT_free : codesFree (escC :: endC :: (tabL false).map (·.2)) = true := by kernel_rfl
theorem codesF_free : codesFree (escC :: (tabL true).map (·.2)) = true := by kernel_rfl
theorem tab_pos (first : Bool) : (tabL first).all (fun e => decide (0 < e.1.2) && decide (1 ≤ e.2.length) && decide (e.2.length ≤ 19)) = true := by cases first <;> kernel_rfl
/-- the codes of pairs, and the other codes. -/
theorem tab_free (first : Bool) {k : Nat} (hk : k < (tabL first).length) : (∀ j (hj : j < (tabL first).length), ((tabL first)[j].2 <+: (tabL first)[k].2 ∨ (tabL first)[k].2 <+: (tabL first)[j].2) → j = k) ∧
    ¬ (escC <+: (tabL first)[k].2) ∧ ¬ ((tabL first)[k].2 <+: escC) ∧ (first = false → ¬ (endC <+: (tabL first)[k].2) ∧ ¬ ((tabL first)[k].2 <+: endC)) := by
  cases first with
  | true =>
    have h := @free_get _ codesF_free
    have e : ∀ j (hj : j < (tabL true).length), ∃ hj' : j + 1 < (escC :: (tabL true).map (·.2)).length, (escC :: (tabL true).map (·.2))[j + 1] = (tabL true)[j].2 := fun j hj => ⟨by simp [hj], by simp⟩
    obtain ⟨k1, k2⟩ := e k hk
    refine ⟨fun j hj h2 => ?_, fun h2 => ?_, fun h2 => ?_, fun h => by cases h⟩
    · obtain ⟨j1, j2⟩ := e j hj
      rcases h2 with h2 | h2
      · have := h k1 j1 (by rw [j2, k2]; exact h2); omega
      · have := h j1 k1 (by rw [j2, k2]; exact h2); omega
    · have := h (i := k + 1) (k := 0) k1 (by simp) (by rw [k2]; exact h2); omega
    · have := h (i := 0) (k := k + 1) (by simp) k1 (by rw [k2]; exact h2); omega
  | false =>
    have h := @free_get _ codesT_free
    have e : ∀ j (hj : j < (tabL false).length), ∃ hj' : j + 2 < (escC :: endC :: (tabL false).map (·.2)).length, (escC :: endC :: (tabL false).map (·.2))[j + 2] = (tabL false)[j].2 := fun j hj => ⟨by simp [hj], by simp⟩
    obtain ⟨k1, k2⟩ := e k hk
    refine ⟨fun j hj h2 => ?_, fun h2 => ?_, fun h2 => ?_, fun _ => ⟨fun h2 => ?_, fun h2 => ?_⟩⟩
    · obtain ⟨j1, j2⟩ := e j hj
      rcases h2 with h2 | h2
      · have := h k1 j1 (by rw [j2, k2]; exact h2); omega
      · have := h j1 k1 (by rw [j2, k2]; exact h2); omega
    · have := h (i := k + 2) (k := 0) k1 (by simp) (by rw [k2]; exact h2); omega
    · have := h (i := 0) (k := k + 2) (by simp) k1 (by rw [k2]; exact h2); omega
    · have := h (i := k + 2) (k := 1) k1 (by simp) (by rw [k2]; exact h2); omega
    · have := h (i := 1) (k := k + 2) (by simp) k1 (by rw [k2]; exact h2); omega
/-- a short code is one of the table. -/
theorem shortC_at {p : Int × Int} : ∀ (T : List TabE), shortC p T ≠ [] → ∃ k, ∃ hk : k < T.length, shortC p T = T[k].2 ∧ T[k].1.1 = p.1 ∧ (T[k].1.2 = p.2 ∨ T[k].1.2 = -p.2)
  | [], h => absurd rfl h
  | (q, c) :: T, h => by
    unfold shortC at h ⊢
    split
    · rename_i hq
      simp only [Bool.and_eq_true, Bool.or_eq_true, beq_iff_eq] at hq
      exact ⟨0, by simp, rfl, hq.1, hq.2⟩
    · rename_i hq
      rw [if_neg hq] at h
      obtain ⟨k, hk, h1, h2⟩ := shortC_at T h
      exact ⟨k + 1, by simpa using hk, h1, h2⟩
theorem digL_succ (n m : Nat) : digL n (m + 1) = digL (n / 2) m ++ [if n % 2 = 0 then 48 else 49] := by
  unfold digL
  rw [List.range_succ, List.map_append]
  congr 1
  · apply List.map_congr_left
    intro j hj
    have hj := List.mem_range.1 hj
    have e : m + 1 - 1 - j = (m - 1 - j) + 1 := by omega
    rw [e, Nat.pow_succ, Nat.mul_comm, ← Nat.div_div_eq_div_mul]
  · simp
theorem numS_digL : ∀ (m n : Nat), n < 2 ^ m → numS (digL n m) = n
  | 0, n, h => by simp at h; subst h; rfl
  | m + 1, n, h => by
    rw [digL_succ, numS_snoc', numS_digL m (n / 2) (by rw [Nat.pow_succ] at h; omega)]
    by_cases h2 : n % 2 = 0
    · rw [if_pos h2]; show 2 * (n / 2) + (48 - 48) = n; omega
    · rw [if_neg h2]; show 2 * (n / 2) + (49 - 48) = n; omega
theorem pairB_of {p : Int × Int} (h : pairB p = true) : 0 ≤ p.1 ∧ p.1 ≤ 63 ∧ -127 ≤ p.2 ∧ p.2 ≤ 127 ∧ p.2 ≠ 0 := by
  unfold pairB at h
  simp only [Bool.and_eq_true, decide_eq_true_eq, bne_iff_ne] at h
  exact ⟨h.1.1.1.1, h.1.1.1.2, h.1.1.2, h.1.2, h.2⟩
theorem escP_len (p : Int × Int) : (escP p).length = 20 := by unfold escP; simp [digL_len]; rfl
theorem cget_esc {l : List UInt8} {i : Nat} {first : Bool} {p : Int × Int} (hp : pairB p = true) (h : At l i (escP p)) : cgetP l i first = (p, false, 20, 0) := by
  obtain ⟨p0, p1, p2, p3, p4⟩ := pairB_of hp
  have h1 := h.1
  rw [escP_len] at h1
  unfold cgetP
  rw [if_neg (by omega), if_neg (by omega), Int.toNat_natCast]
  have hw : bitsL l i (min 20 (8 * l.length - i)) = escP p := by
    rw [Nat.min_eq_left (by omega)]
    have := h.2
    rwa [escP_len] at this
  dsimp only
  rw [hw]
  have hs : sameB (escP p) escC = true := sameB_iff.2 (.inr (by unfold escP; rw [List.append_assoc]; exact List.prefix_append _ _))
  have e1 : (escP p).drop 12 = digL (p.2 % 256).toNat 8 := by
    unfold escP
    rw [List.drop_append, List.drop_eq_nil_of_le (by rw [List.length_append, digL_len]; decide)]
    have : 12 - (escC ++ digL p.1.toNat 6).length = 0 := by rw [List.length_append, digL_len]; rfl
    rw [this]; rfl
  have e2 : ((escP p).take 12).drop 6 = digL p.1.toNat 6 := by
    unfold escP
    rw [List.take_append_of_le_length (by rw [List.length_append, digL_len]; decide), List.take_of_length_le (by rw [List.length_append, digL_len]; decide)]
    rw [show (6 : Nat) = escC.length from rfl, List.drop_left]
  rw [if_pos hs, escP_len, if_neg (by decide), e1, e2, numS_digL 8 _ (by omega), numS_digL 6 _ (by omega)]
  have e3 : i8 (p.2 % 256).toNat = p.2 := by unfold i8; split <;> omega
  rw [e3, if_neg (by simp only [Bool.or_eq_true, beq_iff_eq]; omega)]
  have e4 : ((p.1.toNat : Nat) : Int) = p.1 := by omega
  rw [e4]
theorem cget_short {l : List UInt8} {i : Nat} {first : Bool} {p : Int × Int} {k : Nat} (hk : k < (tabL first).length) (hq : (tabL first)[k].1.1 = p.1) (hv : (tabL first)[k].1.2 = p.2 ∨ (tabL first)[k].1.2 = -p.2) (h : At l i ((tabL first)[k].2 ++ (if p.2 < 0 then [49] else [48]))) :
    cgetP l i first = (p, false, ((tabL first)[k].2.length : Int) + 1, 0) := by
  obtain ⟨f1, f2, f3, f4⟩ := tab_free first hk
  have hpos := List.all_eq_true.1 (tab_pos first) _ (List.getElem_mem hk)
  simp only [Bool.and_eq_true, decide_eq_true_eq] at hpos
  obtain ⟨b, hb⟩ : ∃ b : UInt8, (if p.2 < 0 then [(49 : UInt8)] else [48]) = [b] := by split <;> exact ⟨_, rfl⟩
  rw [hb] at h
  have h1 := h.1
  rw [List.length_append] at h1
  have hw := h.window 20 (by rw [List.length_append, List.length_singleton]; omega)
  unfold cgetP
  rw [if_neg (by omega), if_neg (by omega), Int.toNat_natCast]
  dsimp only
  have hc : (tabL first)[k].2 <+: bitsL l i (min 20 (8 * l.length - i)) := (List.prefix_append _ [b]).trans hw
  have he : sameB (bitsL l i (min 20 (8 * l.length - i))) escC = false := by
    rw [← Bool.not_eq_true, sameB_iff]
    rintro (h2 | h2)
    · exact f3 (hc.trans h2)
    · rcases List.prefix_or_prefix_of_prefix h2 hc with h3 | h3
      · exact f2 h3
      · exact f3 h3
  have hn : (!first && endC.isPrefixOf (bitsL l i (min 20 (8 * l.length - i)))) = false := by
    cases first with
    | true => rfl
    | false =>
      obtain ⟨g1, g2⟩ := f4 rfl
      rw [Bool.not_false, Bool.true_and, ← Bool.not_eq_true, List.isPrefixOf_iff_prefix]
      intro h2
      rcases List.prefix_or_prefix_of_prefix h2 hc with h3 | h3
      · exact g1 h3
      · exact g2 h3
  rw [he, hn, if_neg (by decide), if_neg (by decide), lookC_at (b := b) (tabL first) _ k hk f1 hw]
  have e : (if b == 49 then -(tabL first)[k].1.2 else (tabL first)[k].1.2) = p.2 := by
    by_cases hn : p.2 < 0
    · rw [if_pos hn] at hb
      cases hb
      rw [if_pos (by decide)]
      omega
    · rw [if_neg hn] at hb
      cases hb
      rw [if_neg (by decide)]
      omega
  rw [e, hq]
theorem cget_at {l : List UInt8} {i : Nat} {first : Bool} {p : Int × Int} (hp : pairB p = true) (h : At l i (cputP p first)) : cgetP l i first = (p, false, ((cputP p first).length : Int), 0) := by
  unfold cputP at h ⊢
  by_cases hs : shortC p (tabL first) = []
  · rw [if_pos (by simpa using hs)] at h ⊢
    rw [escP_len]
    exact cget_esc hp h
  · rw [if_neg (by simpa using hs)] at h ⊢
    obtain ⟨k, hk, h1, h2, h3⟩ := shortC_at _ hs
    rw [h1] at h ⊢
    rw [cget_short hk h2 h3 h, List.length_append]
    have : (if p.2 < 0 then [(49 : UInt8)] else [48]).length = 1 := by split <;> rfl
    rw [this]
    rfl
theorem cend_at {l : List UInt8} {i : Nat} (h : At l i endC) : cgetP l i false = ((0, 0), true, 2, 0) := by
  have hw := h.window 20 (by decide)
  have h1 := h.1
  unfold cgetP
  rw [if_neg (by omega), if_neg (by omega), Int.toNat_natCast]
  dsimp only
  have he : sameB (bitsL l i (min 20 (8 * l.length - i))) escC = false := by
    rw [← Bool.not_eq_true, sameB_iff]
    rintro (h2 | h2)
    · exact absurd (List.isPrefixOf_iff_prefix.2 (hw.trans h2)) (by decide)
    · rcases List.prefix_or_prefix_of_prefix h2 hw with h3 | h3
      · exact absurd (List.isPrefixOf_iff_prefix.2 h3) (by decide)
      · exact absurd (List.isPrefixOf_iff_prefix.2 h3) (by decide)
  rw [he, if_neg (by decide), Bool.not_false, Bool.true_and, List.isPrefixOf_iff_prefix.2 hw, if_pos rfl]
/-- cut off: what stands there is a beginning of s, and not all of it. -/
theorem cut_get {l : List UInt8} {i : Nat} {s : List UInt8} (h : Cut l i s) (hn : s.length ≤ 20) : ∃ t, bitsL l i (min 20 (8 * l.length - i)) = t ∧ t <+: s ∧ t.length < s.length := by
  have hw := h.window 20 hn
  refine ⟨_, rfl, by rw [hw.1]; exact List.take_prefix _ _, ?_⟩
  rw [hw.1, List.length_take]
  omega
theorem cget_cut {l : List UInt8} {i : Nat} {first : Bool} {p : Int × Int} (h : Cut l i (cputP p first)) : cgetP l i first = ((0, 0), false, 0, 5) := by
  have hi := h.1
  have hlen : (cputP p first).length ≤ 20 := by
    unfold cputP
    split
    · rw [escP_len]; exact Nat.le_refl _
    · rename_i hs
      obtain ⟨k, hk, h1, h2, h3⟩ := shortC_at _ (by simpa using hs)
      have hpos := List.all_eq_true.1 (tab_pos first) _ (List.getElem_mem hk)
      simp only [Bool.and_eq_true, decide_eq_true_eq] at hpos
      rw [h1, List.length_append]
      have : (if p.2 < 0 then [(49 : UInt8)] else [48]).length = 1 := by split <;> rfl
      omega
  obtain ⟨t, ht, h2, h3⟩ := cut_get h hlen
  unfold cgetP
  rw [if_neg (by omega), if_neg (by omega), Int.toNat_natCast]
  dsimp only
  rw [ht]
  have hl20 : t.length < 20 := by omega
  cases he : sameB t escC with
  | true => rw [if_pos rfl, if_pos hl20]
  | false =>
    rw [if_neg (by decide)]
    unfold cputP at h2 h3
    split at h2
    · rename_i hs
      exfalso
      rw [← Bool.not_eq_true, sameB_iff] at he
      apply he
      have h4 : escC <+: escP p := by unfold escP; rw [List.append_assoc]; exact List.prefix_append _ _
      exact List.prefix_or_prefix_of_prefix h2 h4
    · rename_i hs
      rw [if_neg hs] at h3
      obtain ⟨k, hk, h1, _, _⟩ := shortC_at _ (by simpa using hs)
      obtain ⟨f1, f2, f3, f4⟩ := tab_free first hk
      rw [h1] at h2 h3
      have h5 : t <+: (tabL first)[k].2 := by
        rw [List.length_append] at h3
        have : (if p.2 < 0 then [(49 : UInt8)] else [48]).length = 1 := by split <;> rfl
        exact List.prefix_of_prefix_length_le h2 (List.prefix_append _ _) (by omega)
      have hn : (!first && endC.isPrefixOf t) = false := by
        cases first with
        | true => rfl
        | false =>
          rw [Bool.not_false, Bool.true_and, ← Bool.not_eq_true, List.isPrefixOf_iff_prefix]
          exact fun h6 => (f4 rfl).1 (h6.trans h5)
      rw [hn, if_neg (by decide)]
      refine lookC_cut _ _ (fun e he hs => ?_) (.inr ⟨_, List.getElem_mem hk, sameB_iff.2 (.inl h5)⟩)
      rcases sameB_iff.1 hs with h6 | h6
      · exact h6.length_le
      · obtain ⟨j, hj, rfl⟩ := List.getElem_of_mem he
        have := f1 j hj (.inl (h6.trans h5))
        subst this
        exact h5.length_le
theorem cend_cut {l : List UInt8} {i : Nat} (h : Cut l i endC) : cgetP l i false = ((0, 0), false, 0, 5) := by
  have hi := h.1
  obtain ⟨t, ht, h2, h3⟩ := cut_get h (by decide)
  have hl : t.length < 2 := h3
  unfold cgetP
  rw [if_neg (by omega), if_neg (by omega), Int.toNat_natCast]
  dsimp only
  rw [ht]
  cases he : sameB t escC with
  | true => rw [if_pos rfl, if_pos (by omega)]
  | false =>
    rw [if_neg (by decide)]
    have hn : (!false && endC.isPrefixOf t) = false := by
      rw [Bool.not_false, Bool.true_and, ← Bool.not_eq_true, List.isPrefixOf_iff_prefix]
      exact fun h6 => by have := h6.length_le; have e : endC.length = 2 := rfl; omega
    rw [hn, if_neg (by decide), sameB_iff.2 (.inl h2)]
    refine lookC_cut _ _ (fun e he hs => ?_) (.inl rfl)
    have hpos := List.all_eq_true.1 (tab_pos false) _ he
    simp only [Bool.and_eq_true, decide_eq_true_eq] at hpos
    omega
theorem bpairs_succ (l : List UInt8) (f : Nat) (i : Int) (first : Bool) (left : Int) : bpairs l (f + 1) i first left = (if (cgetP l i first).2.1 then ([], i + (cgetP l i first).2.2.1, 0) else if (cgetP l i first).2.2.2 != 0 then ([], 0, (cgetP l i first).2.2.2) else
      if left - ((cgetP l i first).1.1 + 1) < 0 then ([], 0, 11) else
      ((cgetP l i first).1 :: (bpairs l f (i + (cgetP l i first).2.2.1) false (left - ((cgetP l i first).1.1 + 1))).1, (bpairs l f (i + (cgetP l i first).2.2.1) false (left - ((cgetP l i first).1.1 + 1))).2.1, (bpairs l f (i + (cgetP l i first).2.2.1) false (left - ((cgetP l i first).1.1 + 1))).2.2)) := rfl
theorem spread_consB {p : Int × Int} {L : List (Int × Int)} {a : Int} (h0 : 0 ≤ a) (h : spreadP (p :: L) a = 0) : pairB p = true ∧ p.1 ≤ 63 - a ∧ spreadP L (a + p.1 + 1) = 0 := by
  unfold spreadP at h
  split at h
  · cases h
  · rename_i h1
    split at h
    · cases h
    · rename_i h2
      simp only [Bool.or_eq_true, beq_iff_eq, Bool.not_eq_true', not_or, Bool.not_eq_false, Bool.and_eq_true, decide_eq_true_eq, Int.not_lt] at h1 h2
      refine ⟨?_, by omega, h⟩
      unfold pairB
      simp only [Bool.and_eq_true, decide_eq_true_eq, bne_iff_ne]
      exact ⟨⟨⟨⟨h2.1, by omega⟩, h1.2.1⟩, h1.2.2⟩, h1.1⟩
theorem spread_len : ∀ (L : List (Int × Int)) {a : Int}, 0 ≤ a → a ≤ 64 → spreadP L a = 0 → (L.length : Int) ≤ 64 - a
  | [], a, h0, h1, _ => by simp; omega
  | p :: L, a, h0, h1, h => by
    obtain ⟨h2, h3, h4⟩ := spread_consB h0 h
    have h5 := (pairB_of h2).1
    have ih := spread_len L (by omega) (by omega) h4
    rw [List.length_cons]
    omega
theorem bpairs_at {l : List UInt8} : ∀ (L : List (Int × Int)) (f i : Nat) (first : Bool) (a : Int), L.length < f → 0 ≤ a → spreadP L a = 0 → (first = true → L ≠ []) → At l i (cputL L first ++ endC) →
    bpairs l f i first (64 - a) = (L, (i : Int) + ((cputL L first ++ endC).length : Int), 0)
  | [], 0, i, first, a, hf, _, _, _, _ => by simp at hf
  | _ :: _, 0, i, first, a, hf, _, _, _, _ => by simp at hf
  | [], f + 1, i, first, a, hf, h0, hs, hn, h => by
    have hfi : first = false := by cases first with | true => exact absurd rfl (hn rfl) | false => rfl
    subst hfi
    rw [bpairs_succ, cend_at h]
    rfl
  | p :: L, f + 1, i, first, a, hf, h0, hs, hn, h => by
    obtain ⟨h2, h3, h4⟩ := spread_consB h0 hs
    have hc : cputL (p :: L) first ++ endC = cputP p first ++ (cputL L false ++ endC) := by rw [cputL, List.append_assoc]
    rw [hc] at h ⊢
    obtain ⟨h5, h6⟩ := h.app
    rw [bpairs_succ, cget_at h2 h5]
    dsimp only
    have h7 := (pairB_of h2).1
    have ih := bpairs_at L f (i + (cputP p first).length) false (a + p.1 + 1) (by simpa using hf) (by omega) h4 (fun h => by cases h) h6
    have e : (64 : Int) - a - (p.1 + 1) = 64 - (a + p.1 + 1) := by omega
    rw [if_neg (by decide), if_neg (by decide), if_neg (by omega), e, ← Int.natCast_add, ih]
    simp only [List.length_append]
    congr 2
    push_cast
    omega
theorem bpairs_cut {l : List UInt8} : ∀ (L : List (Int × Int)) (f i : Nat) (first : Bool) (a : Int), 0 ≤ a → spreadP L a = 0 → (first = true → L ≠ []) → Cut l i (cputL L first ++ endC) → bpairs l f i first (64 - a) = ([], 0, 5) ∨ (bpairs l f i first (64 - a)).2.2 = 5
  | _, 0, i, first, a, _, _, _, _ => .inl rfl
  | [], f + 1, i, first, a, h0, hs, hn, h => by
    have hfi : first = false := by cases first with | true => exact absurd rfl (hn rfl) | false => rfl
    subst hfi
    rw [bpairs_succ, cend_cut h]
    exact .inl rfl
  | p :: L, f + 1, i, first, a, h0, hs, hn, h => by
    obtain ⟨h2, h3, h4⟩ := spread_consB h0 hs
    have hc : cputL (p :: L) first ++ endC = cputP p first ++ (cputL L false ++ endC) := by rw [cputL, List.append_assoc]
    rw [hc] at h
    rcases h.app with h5 | ⟨h5, h6⟩
    · rw [bpairs_succ, cget_cut h5]
      exact .inl rfl
    · rw [bpairs_succ, cget_at h2 h5]
      dsimp only
      have h7 := (pairB_of h2).1
      have ih := bpairs_cut L f (i + (cputP p first).length) false (a + p.1 + 1) (by omega) h4 (fun h => by cases h) h6
      have e : (64 : Int) - a - (p.1 + 1) = 64 - (a + p.1 + 1) := by omega
      rw [if_neg (by decide), if_neg (by decide), if_neg (by omega), e, ← Int.natCast_add]
      rcases ih with ih | ih
      · right; rw [ih]
      · right; exact ih
end Go.Proofs.YtcojnigkgbmbmaaGreatDoor
