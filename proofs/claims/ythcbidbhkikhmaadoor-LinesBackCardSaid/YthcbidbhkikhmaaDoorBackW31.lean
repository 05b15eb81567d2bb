/- LinesBack: what is written is read. -/
import Derived.Test.YthcbidbhkikhmaaDoorRow31
import Derived.Test.YthcbidbhkikhmaaDoorTwo31
namespace Go.Proofs.YthcbidbhkikhmaaDoor
open Go Go.RowKit
theorem word_good {s : List UInt8} {p : Bool × Bool × Bool} (h : partsR s = some p) : 32 ∉ s ∧ 10 ∉ s ∧ s ≠ [] ∧ s.getD 0 0 ≠ 35 ∧ s.length ≤ 6 := by
  unfold partsR at h
  obtain ⟨e, he, _⟩ := Option.map_eq_some_iff.1 h
  have h1 := List.find?_some he
  have h2 := List.mem_of_find?_eq_some he
  have h3 : s = e.1 := by simpa using h1
  subst h3
  have : ∀ e ∈ wordE, 32 ∉ e.1 ∧ 10 ∉ e.1 ∧ e.1 ≠ [] ∧ e.1.getD 0 0 ≠ 35 ∧ e.1.length ≤ 6 := by decide
  exact this e h2
def quR (a b : Nat) (l : List UInt8) (c : UInt8) : List UInt8 := if c = 105 then digR a else if c = 110 then digR b else hexR l
theorem all_not {p : UInt8 → Bool} {s : List UInt8} (h : s.all p = true) {c : UInt8} (hc : p c = false) : c ∉ s := fun hm => by
  have := List.all_eq_true.1 h c hm
  rw [hc] at this; cases this
theorem qu_good (a b : Nat) (l : List UInt8) (c : UInt8) : 32 ∉ quR a b l c ∧ 10 ∉ quR a b l c := by
  unfold quR
  split
  · exact ⟨all_not (dig_good a).1 (by decide), all_not (dig_good a).1 (by decide)⟩
  · split
    · exact ⟨all_not (dig_good b).1 (by decide), all_not (dig_good b).1 (by decide)⟩
    · unfold hexR
      split
      · exact ⟨by decide, by decide⟩
      · exact ⟨all_not (hex_all l) (by decide), all_not (hex_all l) (by decide)⟩
theorem split_flat (q : UInt8 → List UInt8) : ∀ (L s : List UInt8), 32 ∉ s → (∀ c ∈ L, 32 ∉ q c) → splitS 32 (s ++ L.flatMap (fun c => 32 :: q c)) = s :: L.map q
  | [], s, h, _ => by simp only [List.flatMap_nil, List.append_nil, List.map_nil]; exact split_one 32 s h
  | c :: L, s, h, hq => by
    rw [List.flatMap_cons, List.map_cons, List.cons_append, split_app, split_one 32 s h, split_flat q L (q c) (hq c (by simp)) (fun d hd => hq d (by simp [hd]))]
    rfl
theorem piece_qu (a b : Nat) (l : List UInt8) : pieceR a b l = fun c => 32 :: quR a b l c := rfl
theorem read_dig (v : Nat) (h : v ≤ 9999999999) (o : OpN) : readR 105 (digR v) o = some { o with id := v } := by
  unfold readR; rw [if_pos rfl, num_dig v h]; rfl
theorem read_dig2 (v : Nat) (h : v ≤ 9999999999) (o : OpN) : readR 110 (digR v) o = some { o with n := v } := by
  unfold readR; rw [if_neg (by decide), if_pos rfl, num_dig v h]; rfl
theorem read_hex (l : List UInt8) (h : l.length ≤ 1000) (o : OpN) : readR 98 (hexR l) o = some { o with b := l } := by
  unfold readR; rw [if_neg (by decide), if_neg (by decide), bytes_hex l h]; rfl
theorem line_len {s : List UInt8} {p : Bool × Bool × Bool} (h : partsR s = some p) {a b : Nat} (ha : a ≤ 9999999999) (hb : b ≤ 9999999999) (l : List UInt8) : (lineP s p a b l).length ≤ 32 + 2 * l.length := by
  have h1 := dig_small a ha; have h2 := dig_small b hb; have h3 := hexR_len l; have h4 := (word_good h).2.2.2.2
  obtain ⟨i, n, c⟩ := p
  cases i <;> cases n <;> cases c <;> simp [lineP, lettersR, pieceR] <;> omega
theorem back_line {o : OpZ} (h : o.ok = true) : ∃ x, lineR o.w o.id o.n o.b = (x, 0) ∧ refP x = .ok o.toN ∧ 10 ∉ x ∧ x ≠ [] ∧ x.getD 0 0 ≠ 35 ∧ x.length ≤ 32 + 2 * o.b.length := by
  have hok : okP o.w o.id o.n o.b.length = true := h
  cases hp : partsR o.w with
  | none => rw [okP_none hp] at hok; cases hok
  | some p =>
    obtain ⟨g1, g2, g3, g4, g5⟩ := word_good hp
    have hfit : ∃ a b : Nat, o.id = (a : Int) ∧ o.n = (b : Int) ∧ a ≤ 9999999999 ∧ b ≤ 9999999999 ∧ o.b.length ≤ 1000 ∧ Fit (lettersR p) ((lettersR p).map (quR a b o.b)) ⟨o.w, 0, 0, []⟩ ⟨o.w, a, b, o.b⟩ := by
      obtain ⟨i, n, c⟩ := p
      obtain ⟨k1, k2, k3, k4⟩ := (okP_some hp).1 hok
      refine ⟨o.id.toNat, o.n.toNat, by omega, by omega, by omega, by omega, k3, ?_⟩
      have ha : o.id.toNat ≤ 9999999999 := by omega
      have hb : o.n.toNat ≤ 9999999999 := by omega
      have z1 : i = false → o.id.toNat = 0 := fun e => by subst e; simp at k1; omega
      have z2 : n = false → o.n.toNat = 0 := fun e => by subst e; simp at k2; omega
      have z3 : c = false → o.b = [] := fun e => by subst e; simp at k4; exact k4
      generalize o.id.toNat = a at ha z1 ⊢
      generalize o.n.toNat = b at hb z2 ⊢
      generalize o.b = l at k3 z3 ⊢
      cases i <;> cases n <;> cases c
      · rw [z1 rfl, z2 rfl, z3 rfl]; rfl
      · rw [z1 rfl, z2 rfl]; exact ⟨_, read_hex l k3 _, rfl⟩
      · rw [z1 rfl, z3 rfl]; exact ⟨_, read_dig2 b hb _, rfl⟩
      · rw [z1 rfl]; exact ⟨_, read_dig2 b hb _, _, read_hex l k3 _, rfl⟩
      · rw [z2 rfl, z3 rfl]; exact ⟨_, read_dig a ha _, rfl⟩
      · rw [z2 rfl]; exact ⟨_, read_dig a ha _, _, read_hex l k3 _, rfl⟩
      · rw [z3 rfl]; exact ⟨_, read_dig a ha _, _, read_dig2 b hb _, rfl⟩
      · exact ⟨_, read_dig a ha _, _, read_dig2 b hb _, _, read_hex l k3 _, rfl⟩
    obtain ⟨a, b, e1, e2, ha, hb, hl, hf⟩ := hfit
    have hll := line_len hp ha hb o.b
    have hln : lineP o.w p a b o.b = o.w ++ (lettersR p).flatMap (fun c => 32 :: quR a b o.b c) := rfl
    refine ⟨lineP o.w p a b o.b, ?_, ?_, ?_, ?_, ?_, hll⟩
    · unfold lineR
      rw [if_pos hok, hp, e1, e2]
      rfl
    · rw [← par_ref]
      unfold parP
      rw [if_neg (by omega), split_S, hln, split_flat _ _ _ g1 (fun c _ => (qu_good a b o.b c).1)]
      have e : runP (o.w :: (lettersR p).map (quR a b o.b)) = ((lettersR p).map (quR a b o.b)).foldl nextP (.ok ⟨true, lettersR p, 0 + (o.w.length + 1), ⟨o.w, 0, 0, []⟩⟩) := by
        show ((lettersR p).map (quR a b o.b)).foldl nextP (nextP (.ok ⟨false, [], 0, OpN.none⟩) o.w) = _
        have e1 : nextP (.ok ⟨false, [], 0, OpN.none⟩) o.w = .ok ⟨true, lettersR p, 0 + (o.w.length + 1), ⟨o.w, 0, 0, []⟩⟩ := by simp [nextP, stepP, hp]
        rw [e1]
      obtain ⟨st, hs, ht, hso⟩ := run_of_fit _ _ (0 + (o.w.length + 1)) _ _ hf
      rw [e, hs]
      dsimp only
      rw [if_pos ht, hso]
      unfold OpZ.toN
      rw [e1, e2, Int.toNat_natCast, Int.toNat_natCast]
    · rw [hln]
      intro hm
      rcases List.mem_append.1 hm with hm | hm
      · exact g2 hm
      · obtain ⟨c, _, hc⟩ := List.mem_flatMap.1 hm
        rcases List.mem_cons.1 hc with hc | hc
        · cases hc
        · exact (qu_good a b o.b c).2 hc
    · rw [hln]
      intro e
      exact g3 (List.append_eq_nil_iff.1 e).1
    · rw [hln]
      cases hw : o.w with
      | nil => exact absurd hw g3
      | cons c r => rw [hw] at g4; exact g4
def InvT (T : List UInt8) (os : List OpN) : Prop := ∀ b, ∃ pos, runA refP (.ok (0, [])) (splitS 10 (T ++ b)) = runA refP (.ok (pos, os)) (splitS 10 b)
theorem InvT.nil : InvT [] [] := fun _ => ⟨0, rfl⟩
theorem InvT.add {T : List UInt8} {os os' : List OpN} (h : InvT T os) (x : List UInt8) (hx : 10 ∉ x) (hs : ∀ pos, ∃ pos', stepA refP (pos, os) x = .ok (pos', os')) : InvT (T ++ (x ++ [10])) os' := fun b => by
  obtain ⟨pos, hp⟩ := h (x ++ 10 :: b)
  obtain ⟨pos', hs⟩ := hs pos
  refine ⟨pos', ?_⟩
  rw [show T ++ (x ++ [10]) ++ b = T ++ (x ++ 10 :: b) by simp, hp, split_app, split_one 10 x hx]
  show runA refP (stepA refP (pos, os) x) (splitS 10 b) = _
  rw [hs]
theorem InvT.blank {T : List UInt8} {os : List OpN} (h : InvT T os) : InvT (T ++ [10]) os := h.add [] (by simp) (fun pos => ⟨pos + 1, rfl⟩)
theorem InvT.note {T : List UInt8} {os : List OpN} (h : InvT T os) (x : List UInt8) (hx : 10 ∉ x) (h0 : x.getD 0 0 = 35) : InvT (T ++ (x ++ [10])) os := h.add x hx (fun pos => ⟨pos + (x.length + 1), by
  unfold stepA; rw [if_neg (fun e => e.2 h0)]⟩)
theorem InvT.line {T : List UInt8} {os : List OpN} (h : InvT T os) (x : List UInt8) (o : OpN) (hx : 10 ∉ x) (hn : x ≠ []) (h0 : x.getD 0 0 ≠ 35) (hr : refP x = .ok o) : InvT (T ++ (x ++ [10])) (os ++ [o]) := h.add x hx (fun pos => ⟨pos + (x.length + 1), by
  unfold stepA; rw [if_pos ⟨hn, h0⟩, hr]⟩)
theorem InvT.all {T : List UInt8} {os : List OpN} (h : InvT T os) : allP refP T = .ok os := by
  obtain ⟨pos, hp⟩ := h []
  rw [List.append_nil] at hp
  unfold allP
  rw [split_S, hp]
  rfl
def sepL (r : Nat) : List UInt8 := if r = 1 then [10] else if r = 2 then [35, 32, 111, 112, 101, 110, 10] else if r = 3 then [10, 35, 10] else []
theorem InvT.sep {T : List UInt8} {os : List OpN} (h : InvT T os) (r : Nat) : InvT (T ++ sepL r) os := by
  unfold sepL
  split
  · exact h.blank
  · split
    · exact h.note [35, 32, 111, 112, 101, 110] (by decide) rfl
    · split
      · have := h.blank.note [35] (by decide) rfl
        rw [List.append_assoc] at this
        exact this
      · rw [List.append_nil]; exact h
theorem sep_len (r : Nat) : (sepL r).length ≤ 7 := by
  unfold sepL
  split
  · decide
  · split
    · decide
    · split <;> decide
theorem RowZ.at_ {W : World} {A : Option Addr} {os : List OpZ} (h : RowZ W A os) {j : Nat} {o : OpZ} (ho : os[j]? = some o) : ∃ ad B c, A = some ad ∧ W.cell? (ad.add (j * 4)) = some (.string (bs o.w)) ∧
    W.cell? ⟨(ad.add (j * 4)).block, (ad.add (j * 4)).off + 1, none⟩ = some (.int .i64 o.id) ∧ W.cell? ⟨(ad.add (j * 4)).block, (ad.add (j * 4)).off + 2, none⟩ = some (.int .i64 o.n) ∧
    W.cell? ⟨(ad.add (j * 4)).block, (ad.add (j * 4)).off + 3, none⟩ = some (.slice B o.b.length c) ∧ Sl W B (o.b.map byteV) := by
  obtain ⟨ad, B, c, e, _, h0, h1, h2, h3, hS⟩ := h j o ho
  refine ⟨ad, B, c, e, ?_, ?_, ?_, ?_, hS⟩
  · rw [Nat.mul_comm]; exact h0
  · rw [Nat.mul_comm, ← addr_addS _ 1 (by decide), addr_add_add]; exact h1
  · rw [Nat.mul_comm, ← addr_addS _ 2 (by decide), addr_add_add]; exact h2
  · rw [Nat.mul_comm, ← addr_addS _ 3 (by decide), addr_add_add]; exact h3
def sepCs : Array Value := #[.string ⟨#[]⟩, .string ⟨#[10]⟩, .string ⟨#[35, 32, 111, 112, 101, 110, 10]⟩, .string ⟨#[10, 35, 10]⟩]
theorem sep_cell (r : Nat) (h : r < 4) : sepCs[r]? = some (.string (bs (sepL r))) := by
  match r, h with
  | 0, _ => rfl
  | 1, _ => rfl
  | 2, _ => rfl
  | 3, _ => rfl
theorem nl_end (T x : List UInt8) : bs (T ++ x) ++ ⟨#[10]⟩ = bs (T ++ (x ++ [10])) := by
  show bs (T ++ x) ++ bs [10] = _
  rw [bs_append, List.append_assoc]
set_option maxRecDepth 100000 in
set_option maxHeartbeats 16000000 in
theorem law_LinesBack (A : Option Addr) (n c : Nat) (os : List OpZ) (B : Option Addr) (m d : Nat) (l2 : List Int) (w : World) (hT : Tb w) (hA : RowZ w A os) (hn : os.length = n) (hB : Sl w B (l2.map intV)) (hm : l2.length = m) :
    Calls Tryd.prog 6 #[.slice A n c, .slice B m d] w fun e w' => e = .returned (.bool true) ∧ Below w.heap.size w w' := by
  have CK := Lib.hid (law_known w hT)
  have HT := Lib.hid hT; have HA := Lib.hid hA; have HB := Lib.hid hB; have Hn := Lib.hid hn; have Hm := Lib.hid hm
  clear hT hA hB hn hm
  by_cases h1 : 30 < n
  · go_enter Tryd.func6, Tryd.ntmps6
    go_wp2_with (go_at_call 5; refine CK.out.mono ?_; rintro e w1 ⟨rfl, hb1⟩)
    go_ret
    exact ⟨rfl, hb1⟩
  go_enter Tryd.func6, Tryd.ntmps6
  go_wp2_with (go_at_call 5; refine CK.out.mono ?_; rintro e w1 ⟨rfl, hb1⟩; have HB1 := Lib.hid hb1; clear hb1)
  go_loopg [6, 7] n (fun g text i wr => ∃ (j : Nat) (T : List UInt8), j + g = n ∧ i = .int .i64 (j : Int) ∧ text = .string (bs T) ∧ Hid (InvT T ((os.take j).map OpZ.toN)) ∧ Hid (∀ o ∈ os.take j, o.ok = true) ∧ Hid (T.length ≤ 300 * j) ∧ Hid (Below w.heap.size w wr))
  case atStart => exact ⟨0, [], by omega, rfl, rfl, Lib.hid InvT.nil, Lib.hid (by simp), Lib.hid (by simp), HB1⟩
  case round =>
    obtain ⟨j, T, hj, rfl, rfl, HI, HO, HL, HR⟩ := hrel
    cases gk with
    | zero =>
      obtain rfl : j = n := by omega
      have hlt : ¬ ((j : Int) < (j : Int)) := by omega
      have hI := HI.out; have hO := HO.out
      rw [← Hn.out, List.take_length] at hI hO
      have CA : Hid (∀ W, Calls Tryd.prog 18 #[.string (bs T)] W (AllPost (.ok (os.map OpZ.toN)) W)) := Lib.hid (fun W => by
        have := lines_all_ref T W (by have := HL.out; omega)
        rw [hI.all] at this
        exact this)
      have HRD : Hid (∀ W, Below w.heap.size w W → ReadOps W (.slice A j c) (os.map OpZ.toN)) := Lib.hid (fun W hb => by
        have := (HA.out.below hb).reads hO c
        rw [Hn.out] at this
        exact this)
      have hlen : (os.map OpZ.toN).length ≤ 100000 := by rw [List.length_map, Hn.out]; omega
      clear hI hO HI HO
      generalize os.map OpZ.toN = on at CA hlen HRD
      go_wp2_with (first
        | (go_at_call 18; refine (CA.out _).mono ?_; intro e w2 hp; obtain ⟨A2, c2, rfl, hr2, hb2⟩ := hp.of_ok; have HR2 := Lib.hid (hr2.below ((Below.refl _ _).alloc (Nat.le_refl _) (.cells #[.int .i64 0, .int .i64 0] 34))); have HB2 := Lib.hid ((HR.out.trans (hb2.mono HR.out.size)).alloc (Nat.le_trans HR.out.size hb2.size) (.cells #[.int .i64 0, .int .i64 0] 34)); clear hp hr2 hb2)
        | (go_at_call 21; refine (same_ops on (.slice A2 on.length c2) (.slice A j c) _ HR2.out (HRD.out _ HB2.out) hlen).mono ?_; rintro e w3 ⟨rfl, hb3⟩; have HB3 := Lib.hid (HB2.out.trans (hb3.mono HB2.out.size)); clear hb3))
      go_ret
      exact ⟨rfl, HB3.out⟩
    | succ g =>
      have hlt : ((j : Int) < (n : Int)) := by omega
      have hjl : j < os.length := by rw [Hn.out]; omega
      have hoj : os[j]? = some os[j] := List.getElem?_eq_getElem hjl
      have htk : os.take (j + 1) = os.take j ++ [os[j]] := List.take_succ_eq_append_getElem hjl
      generalize os[j] = o at hoj htk
      have HOJ := Lib.hid hoj; have HTK := Lib.hid htk
      clear hoj htk
      obtain ⟨ad, B1, d1, rfl, q0, q1, q2, q3, hS1⟩ := (HA.out.below HR.out).at_ HOJ.out
      have HS1 := Lib.hid hS1
      have hidx : ∀ W, Below w.heap.size w W → W.cell? (ad.add (j * 4)) = some (.string (bs o.w)) ∧ W.cell? ⟨(ad.add (j * 4)).block, (ad.add (j * 4)).off + 1, none⟩ = some (.int .i64 o.id) ∧ W.cell? ⟨(ad.add (j * 4)).block, (ad.add (j * 4)).off + 2, none⟩ = some (.int .i64 o.n) ∧ ∃ B c, W.cell? ⟨(ad.add (j * 4)).block, (ad.add (j * 4)).off + 3, none⟩ = some (.slice B o.b.length c) ∧ Sl W B (o.b.map byteV) := fun W hb => by
        obtain ⟨ad', B2, d2, e, p0, p1, p2, p3, p4⟩ := (HA.out.below hb).at_ HOJ.out
        cases e
        exact ⟨p0, p1, p2, B2, d2, p3, p4⟩
      have HX := Lib.hid hidx
      clear hS1 hidx
      obtain ⟨x, y, hxy⟩ : ∃ x y, lineR o.w o.id o.n o.b = (x, y) := ⟨_, _, rfl⟩
      have CL : Hid (∀ W B2 d2, Below w.heap.size w W → Sl W B2 (o.b.map byteV) → Calls Tryd.prog 11 #[.agg #[.string (bs o.w), .int .i64 o.id, .int .i64 o.n, .slice B2 o.b.length d2]] W fun e w' => e = .returned (.tuple #[.string (bs x), .int .i64 y]) ∧ Below W.heap.size W w') := Lib.hid (fun W B2 d2 hb hS => by
        have := lines_line o.w o.id o.n B2 o.b.length d2 o.b W (HT.out.below hb) hS rfl
        rw [hxy] at this
        exact this)
      have CC : Hid (∀ W B2 d2, Calls Tryd.prog 13 #[.agg #[.string (bs o.w), .int .i64 o.id, .int .i64 o.n, .slice B2 o.b.length d2]] W fun e w' => e = .returned (.int .i64 (if o.ok = true then 0 else 2)) ∧ Below W.heap.size W w') := Lib.hid (fun W B2 d2 => lines_check o.w o.id o.n B2 o.b.length d2 W)
      by_cases hb100 : 100 < o.b.length
      · go_wp2_with (go_at_call 11; refine (CL.out _ B1 d1 HR.out HS1.out).mono ?_; rintro e w2 ⟨rfl, hb2⟩; have HB2 := Lib.hid (HR.out.trans (hb2.mono HR.out.size)); clear hb2 q0 q1 q2 q3; obtain ⟨q0, q1, q2, B2, d2, q3, hS2⟩ := HX.out _ HB2.out)
        go_ret
        exact ⟨rfl, HB2.out⟩
      by_cases hw100 : 100 < o.w.length
      · go_wp2_with (go_at_call 11; refine (CL.out _ B1 d1 HR.out HS1.out).mono ?_; rintro e w2 ⟨rfl, hb2⟩; have HB2 := Lib.hid (HR.out.trans (hb2.mono HR.out.size)); clear hb2 q0 q1 q2 q3; obtain ⟨q0, q1, q2, B2, d2, q3, hS2⟩ := HX.out _ HB2.out)
        go_ret
        exact ⟨rfl, HB2.out⟩
      cases hok : o.ok with
      | false =>
        have hxy2 : lineR o.w o.id o.n o.b = ([], 2) := by unfold lineR; rw [if_neg (by rw [show okP o.w o.id o.n o.b.length = false from hok]; decide)]
        rw [hxy2] at hxy
        cases hxy
        rw [hok] at CC
        have CC' : Hid (∀ W B2 d2, Calls Tryd.prog 13 #[.agg #[.string (bs o.w), .int .i64 o.id, .int .i64 o.n, .slice B2 o.b.length d2]] W fun e w' => e = .returned (.int .i64 2) ∧ Below W.heap.size W w') := CC
        clear CC hxy2 hok
        go_wp2_with (first
          | (go_at_call 11; refine (CL.out _ B1 d1 HR.out HS1.out).mono ?_; rintro e w2 ⟨rfl, hb2⟩; have HB2 := Lib.hid (HR.out.trans (hb2.mono HR.out.size)); clear hb2 q0 q1 q2 q3; obtain ⟨q0, q1, q2, B2, d2, q3, hS2⟩ := HX.out _ HB2.out)
          | (go_at_call 13; refine (CC'.out _ B2 d2).mono ?_; rintro e w3 ⟨rfl, hb3⟩; have HB3 := Lib.hid (HB2.out.trans (hb3.mono HB2.out.size)); clear hb3))
        go_ret
        exact ⟨rfl, HB3.out⟩
      | true =>
        obtain ⟨x', hx1, hx2, hx3, hx4, hx5, hx6⟩ := back_line hok
        rw [hx1] at hxy
        cases hxy
        have CR : Hid (∀ W B2 d2, Sl W B2 (o.b.map byteV) → Calls Tryd.prog 25 #[.string (bs x), .agg #[.string (bs o.w), .int .i64 o.id, .int .i64 o.n, .slice B2 o.b.length d2]] W fun e w' => e = .returned (.bool true) ∧ Below W.heap.size W w') := Lib.hid (fun W B2 d2 hS => by
          have := law_reads x o.w o.id o.n B2 d2 o.b W (by omega) hS
          obtain ⟨n1, n2⟩ := ok_nonneg hok
          rw [hx2, show (faultR (.ok o.toN) 0 0 && sameN (opOf (.ok o.toN)) o.w o.id o.n o.b) = true by simp [faultR, errOf, sameN, opOf, sameR, OpZ.toN, n1, n2]] at this
          exact this)
        have HO2 := Lib.hid (show ∀ o' ∈ os.take (j + 1), o'.ok = true by
          rw [HTK.out]
          intro o' ho'
          rcases List.mem_append.1 ho' with ho' | ho'
          · exact HO.out o' ho'
          · rw [List.mem_singleton] at ho'; subst ho'; exact hok)
        have HIL := Lib.hid (fun (T' : List UInt8) (h : InvT T' ((os.take j).map OpZ.toN)) => (show InvT (T' ++ (x ++ [10])) ((os.take (j + 1)).map OpZ.toN) by
          rw [HTK.out, List.map_append]; exact h.line x o.toN hx3 hx4 hx5 hx2))
        have HX6 := Lib.hid hx6
        have ht9 : T.length ≤ 9000 := by have := HL.out; omega
        have hx9 : x.length ≤ 300 := by omega
        have htx9 : (T ++ x).length ≤ 9300 := by rw [List.length_append]; omega
        clear hx1 hx2 hx3 hx4 hx5 hx6 CC HO
        by_cases hjm : j < m
        · have hjl2 : j < l2.length := by rw [Hm.out]; exact hjm
          obtain ⟨ae, rfl, hle, he⟩ := (HB.out.below HR.out).int j hjl2
          have HIV := Lib.hid (fun W (hb : Below w.heap.size w W) => (show W.cell? (ae.add j) = some (.int .i64 l2[j]) by
            obtain ⟨ae', e, _, he'⟩ := (HB.out.below hb).int j hjl2
            cases e; exact he'))
          clear he hle
          generalize l2[j] = z at HIV
          obtain ⟨r, hr, hr4⟩ : ∃ r : Nat, z % 4 = (r : Int) ∧ r < 4 := ⟨(z % 4).toNat, by omega, by omega⟩
          have CP : Hid (∀ W, Calls Tryd.prog 26 #[.int .i64 z, .int .i64 4] W fun e w' => e = .returned (.int .i64 (r : Int)) ∧ W = w') := Lib.hid (fun W => by rw [← hr]; exact kit_Pick z 4 W (by decide) (by decide))
          have HSC := Lib.hid (sep_cell r hr4)
          have hs7 := sep_len r
          have HSE := Lib.hid (fun (T' : List UInt8) (os' : List OpN) (h : InvT T' os') => h.sep r)
          have hts9 : (T ++ sepL r).length ≤ 9100 := by rw [List.length_append]; omega
          have htsx9 : (T ++ sepL r ++ x).length ≤ 9400 := by rw [List.length_append]; omega
          generalize sepL r = sp at HSC hs7 HSE hts9 htsx9
          clear hr
          go_wp2_with (first
            | (go_at_call 11; refine (CL.out _ B1 d1 HR.out HS1.out).mono ?_; rintro e w2 ⟨rfl, hb2⟩; have HB2 := Lib.hid (HR.out.trans (hb2.mono HR.out.size)); clear hb2 q0 q1 q2 q3; obtain ⟨q0, q1, q2, B2, d2, q3, hS2⟩ := HX.out _ HB2.out)
            | (go_at_call 25; refine (CR.out _ B2 d2 hS2).mono ?_; rintro e w3 ⟨rfl, hb3⟩; have HB3 := Lib.hid ((HB2.out.trans (hb3.mono HB2.out.size)).alloc (Nat.le_trans HB2.out.size hb3.size) (.cells sepCs 9)); have iv := HIV.out _ HB3.out; have sc : (w3.alloc (.cells sepCs 9)).cell? ⟨w3.heap.size, r, none⟩ = some (.string (bs sp)) := ((Blk.new w3 9 sepCs).cell r).trans HSC.out; clear hb3; unfold sepCs at iv sc HB3)
            | (go_at_call 26; refine (CP.out _).mono ?_; rintro e w4 ⟨rfl, rfl⟩))
          go_roundg g
          case measure => omega
          case rel => exact ⟨j + 1, T ++ sp ++ (x ++ [10]), by omega, rfl, by rw [nl_end]; simp only [List.append_assoc], Lib.hid (HIL.out _ (HSE.out _ _ HI.out)), HO2, Lib.hid (by have := HX6.out; have := HL.out; simp; omega), HB3⟩
        · have hjm2 : ¬ ((j : Int) < (m : Int)) := by omega
          go_wp2_with (first
            | (go_at_call 11; refine (CL.out _ B1 d1 HR.out HS1.out).mono ?_; rintro e w2 ⟨rfl, hb2⟩; have HB2 := Lib.hid (HR.out.trans (hb2.mono HR.out.size)); clear hb2 q0 q1 q2 q3; obtain ⟨q0, q1, q2, B2, d2, q3, hS2⟩ := HX.out _ HB2.out)
            | (go_at_call 25; refine (CR.out _ B2 d2 hS2).mono ?_; rintro e w3 ⟨rfl, hb3⟩; have HB3 := Lib.hid (HB2.out.trans (hb3.mono HB2.out.size)); clear hb3))
          go_roundg g
          case measure => omega
          case rel => exact ⟨j + 1, T ++ (x ++ [10]), by omega, rfl, by rw [nl_end], Lib.hid (HIL.out T HI.out), HO2, Lib.hid (by have := HX6.out; have := HL.out; simp; omega), HB3⟩
end Go.Proofs.YthcbidbhkikhmaaDoor
