/- MacP -/
import Derived.Test.YtcojnigkgbmbmaaGreatDoorK10
import Derived.Lib.Fields
namespace Go.Proofs.YtcojnigkgbmbmaaGreatDoor
open Go Go.RowKit
/-- has a kind this? -/
def inK (k : Int) : Bool := decide (1 ≤ k) && decide (k ≤ 10)
def pI (k : Int) : Bool := decide (1 ≤ k) && decide (k ≤ 2)
def pQ (k : Int) : Bool := k == 2 || k == 4 || k == 7 || k == 10
def pV (k : Int) : Bool := decide (5 ≤ k) && decide (k ≤ 10)
def pF (k : Int) : Bool := decide (8 ≤ k) && decide (k ≤ 10)
def pC (k : Int) : Bool := k == 3 || k == 4 || k == 6 || k == 7 || k == 9 || k == 10
/-- a code of a list by its number, from lo on. -/
def codeAt (cs : List (List UInt8)) (lo k : Int) : Option (List UInt8) := if k < lo then none else cs[(k - lo).toNat]?
def kindP (k : Int) : List UInt8 := (codeAt kindC 1 k).getD []
def vecP (d : Int) : List UInt8 := (codeAt vecC (-16) d).getD []
def patP (p : Int) : List UInt8 := (codeAt patC 1 p).getD []
def partB (n : Int) : Bool := decide (-15 ≤ n) && decide (n ≤ 15)
def diffP (fr to : Int) : Int := (to - fr + 80) % 32 - 16
def turnP (pr d : Int) : Int × Int :=
  if !partB pr || decide (d < -16) || decide (15 < d) then (0, 3) else
  if partB (pr + d) then (pr + d, 0) else if partB (pr + d + 32) then (pr + d + 32, 0) else if partB (pr + d - 32) then (pr + d - 32, 0) else (0, 12)
def newB (ad d : Int) (had : Bool) : Bool := !had || d != 1 || ad == 1 || ad == 12 || ad == 23
def predP (ad d : Int) (had : Bool) (x y : Int) : Int × Int := if newB ad d had then (0, 0) else (x, y)
/-- how many blocks a pattern says. -/
def cntP (p : Int) : Nat := if 1 ≤ p ∧ p ≤ 63 then p.toNat / 32 % 2 + p.toNat / 16 % 2 + p.toNat / 8 % 2 + p.toNat / 4 % 2 + p.toNat / 2 % 2 + p.toNat % 2 else 0
/-- the digits of a number, so many. -/
def digL (n : Nat) (m : Nat) : List UInt8 := (List.range m).map fun j => if n / 2 ^ (m - 1 - j) % 2 = 0 then 48 else 49
structure BlkM where
  dc : Int
  l : List (Int × Int)
structure MacM where
  ad : Int
  kd : Int
  qu : Int
  x : Int
  y : Int
  pa : Int
  bl : List BlkM
structure LastM where
  ad : Int
  had : Bool
  x : Int
  y : Int
/-- the rows of codes, run by run. -/
def rowL : List (List UInt8) := [[49, 49, 32, 48, 49, 48, 48, 32, 48, 48, 49, 48, 49, 32, 48, 48, 48, 48, 49, 49, 48, 32, 48, 48, 49, 48, 48, 49, 49, 48, 32, 48, 48, 49, 48, 48, 48, 48, 49, 32, 48, 48, 48, 48, 48, 48, 49, 48, 49, 48, 32, 48, 48, 48, 48, 48, 48, 48, 49, 49, 49, 48, 49, 32, 48, 48, 48, 48, 48, 48, 48, 49, 49, 48, 48, 48, 32, 48, 48, 48, 48, 48, 48, 48, 49, 48, 48, 49, 49, 32, 48, 48, 48, 48, 48, 48, 48, 49, 48, 48, 48, 48, 32, 48, 48, 48, 48, 48, 48, 48, 48, 49, 49, 48, 49, 48, 32, 48, 48, 48, 48, 48, 48, 48, 48, 49, 49, 48, 48, 49, 32, 48, 48, 48, 48, 48, 48, 48, 48, 49, 49, 48, 48, 48, 32, 48, 48, 48, 48, 48, 48, 48, 48, 49, 48, 49, 49, 49], [48, 49, 49, 32, 48, 48, 48, 49, 49, 48, 32, 48, 48, 49, 48, 48, 49, 48, 49, 32, 48, 48, 48, 48, 48, 48, 49, 49, 48, 48, 32, 48, 48, 48, 48, 48, 48, 48, 49, 49, 48, 49, 49, 32, 48, 48, 48, 48, 48, 48, 48, 48, 49, 48, 49, 49, 48, 32, 48, 48, 48, 48, 48, 48, 48, 48, 49, 48, 49, 48, 49], [48, 49, 48, 49, 32, 48, 48, 48, 48, 49, 48, 48, 32, 48, 48, 48, 48, 48, 48, 49, 48, 49, 49, 32, 48, 48, 48, 48, 48, 48, 48, 49, 48, 49, 48, 48, 32, 48, 48, 48, 48, 48, 48, 48, 48, 49, 48, 49, 48, 48], [48, 48, 49, 49, 49, 32, 48, 48, 49, 48, 48, 49, 48, 48, 32, 48, 48, 48, 48, 48, 48, 48, 49, 49, 49, 48, 48, 32, 48, 48, 48, 48, 48, 48, 48, 48, 49, 48, 48, 49, 49], [48, 48, 49, 49, 48, 32, 48, 48, 48, 48, 48, 48, 49, 49, 49, 49, 32, 48, 48, 48, 48, 48, 48, 48, 49, 48, 48, 49, 48], [48, 48, 48, 49, 49, 49, 32, 48, 48, 48, 48, 48, 48, 49, 48, 48, 49, 32, 48, 48, 48, 48, 48, 48, 48, 48, 49, 48, 48, 49, 48], [48, 48, 48, 49, 48, 49, 32, 48, 48, 48, 48, 48, 48, 48, 49, 49, 49, 49, 48], [48, 48, 48, 49, 48, 48, 32, 48, 48, 48, 48, 48, 48, 48, 49, 48, 49, 48, 49], [48, 48, 48, 48, 49, 49, 49, 32, 48, 48, 48, 48, 48, 48, 48, 49, 48, 48, 48, 49], [48, 48, 48, 48, 49, 48, 49, 32, 48, 48, 48, 48, 48, 48, 48, 48, 49, 48, 48, 48, 49], [48, 48, 49, 48, 48, 49, 49, 49, 32, 48, 48, 48, 48, 48, 48, 48, 48, 49, 48, 48, 48, 48], [48, 48, 49, 48, 48, 48, 49, 49], [48, 48, 49, 48, 48, 48, 49, 48], [48, 48, 49, 48, 48, 48, 48, 48], [48, 48, 48, 48, 48, 48, 49, 49, 49, 48], [48, 48, 48, 48, 48, 48, 49, 49, 48, 49], [48, 48, 48, 48, 48, 48, 49, 48, 48, 48], [48, 48, 48, 48, 48, 48, 48, 49, 49, 49, 49, 49], [48, 48, 48, 48, 48, 48, 48, 49, 49, 48, 49, 48], [48, 48, 48, 48, 48, 48, 48, 49, 49, 48, 48, 49], [48, 48, 48, 48, 48, 48, 48, 49, 48, 49, 49, 49], [48, 48, 48, 48, 48, 48, 48, 49, 48, 49, 49, 48], [48, 48, 48, 48, 48, 48, 48, 48, 49, 49, 49, 49, 49], [48, 48, 48, 48, 48, 48, 48, 48, 49, 49, 49, 49, 48], [48, 48, 48, 48, 48, 48, 48, 48, 49, 49, 49, 48, 49], [48, 48, 48, 48, 48, 48, 48, 48, 49, 49, 49, 48, 48], [48, 48, 48, 48, 48, 48, 48, 48, 49, 49, 48, 49, 49]]
def tabRow (first : Bool) (run : Nat) : Nat → List (List UInt8) → List ((Int × Int) × List UInt8)
  | _, [] => []
  | i, c :: cs => (((run : Int), (i : Int) + 1), if first && run == 0 && i == 0 then [49] else c) :: tabRow first run (i + 1) cs
def tabRows (first : Bool) : Nat → List (List UInt8) → List ((Int × Int) × List UInt8)
  | _, [] => []
  | r, x :: xs => tabRow first r 0 (Lib.fields x) ++ tabRows first (r + 1) xs
def tabL (first : Bool) : List ((Int × Int) × List UInt8) := tabRows first 0 rowL
def escC : List UInt8 := [48, 48, 48, 48, 48, 49]
def endC : List UInt8 := [49, 48]
def sameB (a b : List UInt8) : Bool := a.take (min a.length b.length) == b.take (min a.length b.length)
def lookC (s : List UInt8) : List ((Int × Int) × List UInt8) → Bool → (Int × Int) × Bool × Int × Int
  | [], more => ((0, 0), false, 0, if more then 5 else 7)
  | (p, c) :: T, more => if !sameB s c then lookC s T more else if s.length ≤ c.length then lookC s T true else ((p.1, if s.getD c.length 0 == 49 then -p.2 else p.2), false, (c.length : Int) + 1, 0)
def numS (s : List UInt8) : Nat := s.foldl (fun a c => 2 * a + (c.toNat - 48)) 0
def i8 (n : Nat) : Int := if n < 128 then n else (n : Int) - 256
/-- what coeff.Get answers: a pair, is it the end, how many bits, an error. -/
def cgetP (l : List UInt8) (i : Int) (first : Bool) : (Int × Int) × Bool × Int × Int :=
  if i < 0 then ((0, 0), false, 0, 3) else if 8 * (l.length : Int) < i then ((0, 0), false, 0, 5) else
  let s := bitsL l i.toNat (min 20 (8 * l.length - i.toNat))
  if sameB s escC then
    if s.length < 20 then ((0, 0), false, 0, 5) else
    if i8 (numS (s.drop 12)) == 0 || i8 (numS (s.drop 12)) == -128 then ((0, 0), false, 0, 10) else (((numS ((s.take 12).drop 6) : Nat), i8 (numS (s.drop 12))), false, 20, 0)
  else if !first && endC.isPrefixOf s then ((0, 0), true, 2, 0)
  else lookC s (tabL first) (!first && sameB s endC)
def pairB (p : Int × Int) : Bool := decide (0 ≤ p.1) && decide (p.1 ≤ 63) && decide (-127 ≤ p.2) && decide (p.2 ≤ 127) && p.2 != 0
def shortC (p : Int × Int) : List ((Int × Int) × List UInt8) → List UInt8
  | [] => []
  | (q, c) :: T => if q.1 == p.1 && (q.2 == p.2 || q.2 == -p.2) then c else shortC p T
def escP (p : Int × Int) : List UInt8 := escC ++ digL p.1.toNat 6 ++ digL (p.2 % 256).toNat 8
/-- a pair's bits. -/
def cputP (p : Int × Int) (first : Bool) : List UInt8 :=
  if shortC p (tabL first) == [] then escP p else shortC p (tabL first) ++ (if p.2 < 0 then [49] else [48])
def spreadP : List (Int × Int) → Int → Int
  | [], _ => 0
  | p :: l, at_ => if p.2 == 0 || !(decide (-127 ≤ p.2) && decide (p.2 ≤ 127)) then 10 else if decide (p.1 < 0) || decide (63 - at_ < p.1) then 11 else spreadP l (at_ + p.1 + 1)
def frstP (intra : Bool) : Int := if intra then 1 else 0
/-- why a block may not be. -/
def bchkP (x : BlkM) (intra : Bool) : Int :=
  if intra && (decide (x.dc < 1) || decide (255 < x.dc) || x.dc == 128) then 10 else if !intra && (x.dc != 0 || x.l == []) then 2 else spreadP x.l (frstP intra)
def cputL : List (Int × Int) → Bool → List UInt8
  | [], _ => []
  | p :: l, first => cputP p first ++ cputL l false
/-- a block's bits. -/
def bputP (x : BlkM) (intra : Bool) : List UInt8 := (if intra then digL x.dc.toNat 8 else []) ++ cputL x.l (!intra) ++ endC
/-- pairs, one behind the other, to the end: fuel, place, is it the first one, how much is left; the pairs, the place behind them. -/
def bpairs (l : List UInt8) : Nat → Int → Bool → Int → List (Int × Int) × Int × Int
  | 0, _, _, _ => ([], 0, 5)
  | f + 1, i, first, left =>
    let r := cgetP l i first
    if r.2.1 then ([], i + r.2.2.1, 0) else if r.2.2.2 != 0 then ([], 0, r.2.2.2) else
    if left - (r.1.1 + 1) < 0 then ([], 0, 11) else
    let q := bpairs l f (i + r.2.2.1) false (left - (r.1.1 + 1))
    (r.1 :: q.1, q.2.1, q.2.2)
/-- what block.Get answers: a block, how many bits, an error. -/
def bgetP (l : List UInt8) (i : Int) (intra : Bool) : BlkM × Int × Int :=
  if i < 0 then (⟨0, []⟩, 0, 3) else if 8 * (l.length : Int) < i then (⟨0, []⟩, 0, 5) else
  if intra then
    if 8 * (l.length : Int) < i + 8 then (⟨0, []⟩, 0, 5) else
    let n := numN l i.toNat 8
    if n == 0 || n == 128 then (⟨0, []⟩, 0, 10) else
    let q := bpairs l 66 (i + 8) false 63
    if q.2.2 != 0 then (⟨0, []⟩, 0, q.2.2) else (⟨n, q.1⟩, q.2.1 - i, 0)
  else
    let q := bpairs l 66 i true 64
    if q.2.2 != 0 then (⟨0, []⟩, 0, q.2.2) else (⟨0, q.1⟩, q.2.1 - i, 0)
/-- may a macroblock be? -/
def okM (m : MacM) : Bool :=
  inK m.kd && decide (1 ≤ m.ad) && decide (m.ad ≤ 33) && partB m.x && partB m.y && (pV m.kd || (m.x == 0 && m.y == 0)) &&
  (if pQ m.kd then decide (1 ≤ m.qu) && decide (m.qu ≤ 31) else m.qu == 0) &&
  (if pI m.kd then m.pa == 63 else if pC m.kd then decide (1 ≤ m.pa) && decide (m.pa ≤ 63) else m.pa == 0) && m.bl.length == cntP m.pa && m.bl.all fun x => bchkP x (pI m.kd) == 0
def aheadB (x : LastM) (ad : Int) : Bool := decide (0 ≤ x.ad) && decide (x.ad < ad) && partB x.x && partB x.y && (x.had || (x.x == 0 && x.y == 0))
def aftP (m : MacM) : LastM := if pV m.kd then ⟨m.ad, true, m.x, m.y⟩ else ⟨m.ad, false, 0, 0⟩
def movP (fr to : Int) : List UInt8 := vecP (diffP fr to)
/-- a macroblock's bits. -/
def mputL (m : MacM) (x : LastM) : List UInt8 :=
  let pr := predP m.ad (m.ad - x.ad) x.had x.x x.y
  kindP m.kd ++ (if pQ m.kd then digL m.qu.toNat 5 else []) ++ (if pV m.kd then movP pr.1 m.x ++ movP pr.2 m.y else []) ++ (if pC m.kd then patP m.pa else []) ++ m.bl.flatMap fun b => bputP b (pI m.kd)
def mputP (m : MacM) (x : LastM) : List UInt8 × Int := if okM m && aheadB x m.ad then (mputL m x, 0) else ([], 2)
def m0 : MacM := ⟨0, 0, 0, 0, 0, 0, []⟩
def bgets (l : List UInt8) (intra : Bool) : Nat → Int → List BlkM × Int × Int
  | 0, i => ([], i, 0)
  | n + 1, i =>
    let r := bgetP l i intra
    if r.2.2 != 0 then ([], 0, r.2.2) else
    let q := bgets l intra n (i + r.2.1)
    (r.1 :: q.1, q.2.1, q.2.2)
/-- reading one behind the other. -/
def vgetP (l : List UInt8) (i pr : Int) : Int × Int × Int :=
  let r := treeR vecC vecN l i
  if r.2.2 != 0 then (0, 0, r.2.2) else ((turnP pr r.1).1, i + r.2.1, (turnP pr r.1).2)
def mq (l : List UInt8) (k i : Int) : Int × Int × Int :=
  if pQ k then (if 8 * (l.length : Int) < i + 5 then (0, 0, 5) else if numN l i.toNat 5 == 0 then (0, 0, 9) else ((numN l i.toNat 5 : Nat), i + 5, 0)) else (0, i, 0)
def mv (l : List UInt8) (k i x y : Int) : (Int × Int) × Int × Int :=
  if pV k then
    let r := vgetP l i x
    if r.2.2 != 0 then ((0, 0), 0, r.2.2) else
    let q := vgetP l r.2.1 y
    if q.2.2 != 0 then ((0, 0), 0, q.2.2) else ((r.1, q.1), q.2.1, 0)
  else ((0, 0), i, 0)
def mc (l : List UInt8) (k i : Int) : Int × Int × Int :=
  if pC k then (let r := treeR patC patN l i; if r.2.2 != 0 then (0, 0, r.2.2) else (r.1, i + r.2.1, 0)) else (if pI k then 63 else 0, i, 0)
/-- what macro.Get answers: a macroblock, how many bits, an error. -/
def mgetP (l : List UInt8) (i ad : Int) (x : LastM) : MacM × Int × Int :=
  if i < 0 ∨ ad < 1 ∨ 33 < ad then (m0, 0, 3) else if !aheadB x ad then (m0, 0, 2) else
  let pr := predP ad (ad - x.ad) x.had x.x x.y
  let k := treeR kindC kindN l i
  if k.2.2 != 0 then (m0, 0, k.2.2) else
  let q := mq l k.1 (i + k.2.1)
  if q.2.2 != 0 then (m0, 0, q.2.2) else
  let v := mv l k.1 q.2.1 pr.1 pr.2
  if v.2.2 != 0 then (m0, 0, v.2.2) else
  let c := mc l k.1 v.2.1
  if c.2.2 != 0 then (m0, 0, c.2.2) else
  let b := bgets l (pI k.1) (cntP c.1) c.2.1
  if b.2.2 != 0 then (m0, 0, b.2.2) else (⟨ad, k.1, q.1, v.1.1, v.1.2, c.1, b.1⟩, b.2.1 - i, 0)
def movedM : MacM := ⟨1, 5, 0, 1, -1, 0, []⟩
def last0 : LastM := ⟨0, false, 0, 0⟩
theorem known_put : mputP movedM last0 = ([48, 48, 48, 48, 48, 48, 48, 48, 49, 48, 49, 48, 48, 49, 49], 0) := by kernel_rfl
theorem known_put2 : mputP ⟨3, 8, 0, 1, 0, 0, []⟩ ⟨2, true, 1, 0⟩ = ([48, 48, 49, 49, 49], 0) := by kernel_rfl
theorem known_put3 : mputP ⟨3, 8, 0, 1, 0, 0, []⟩ ⟨1, true, 1, 0⟩ = ([48, 48, 49, 48, 49, 48, 49], 0) := by kernel_rfl
theorem known_get : mgetP [0, 166] 0 1 last0 = (movedM, 15, 0) := by kernel_rfl
theorem known_get2 : mgetP [0] 0 1 last0 = (m0, 0, 5) := by kernel_rfl
theorem known_get3 : mgetP [0, 166] 0 34 last0 = (m0, 0, 3) := by kernel_rfl
theorem known_chk : okM ⟨0, 5, 0, 0, 0, 0, []⟩ = false ∧ okM ⟨1, 3, 0, 0, 0, 0, []⟩ = false := ⟨by kernel_rfl, by kernel_rfl⟩
end Go.Proofs.YtcojnigkgbmbmaaGreatDoor
