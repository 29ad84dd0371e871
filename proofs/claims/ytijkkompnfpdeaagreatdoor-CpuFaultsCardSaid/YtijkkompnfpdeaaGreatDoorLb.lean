/- Images: what lies in memory; whether one may be; whether bytes, instructions and images are the same: walked. -/
import Derived.Test.YtijkkompnfpdeaaGreatDoorLf
import Derived.Test.YtijkkompnfpdeaaGreatDoorId
import Derived.Lib.SmallJoins
import Derived.Shelf.Abstract
import Derived.Deep.QuietTactic
import Derived.BigQuiet
set_option linter.unusedVariables false
set_option linter.unusedSimpArgs false
namespace Go.Proofs.YtijkkompnfpdeaaGreatDoor
open Go.RowKit Go.Joins Go.Shelf
attribute [local go_sem] Oper.semAt_some

/-- An instruction's bytes. -/
abbrev I4 := UInt8 × UInt8 × UInt8 × UInt8
abbrev bv (c : UInt8) : Value := .int .u8 (c.toNat : Int)
def i4c (x : I4) : List Value := [bv x.1, bv x.2.1, bv x.2.2.1, bv x.2.2.2]
def ics (l : List I4) : List Value := l.flatMap i4c
abbrev i4v (x : I4) : Value := inS x.1.toNat x.2.1.toNat x.2.2.1.toNat x.2.2.2.toNat
def ik (x : I4) : Bool := ck x.1.toNat x.2.1.toNat x.2.2.1.toNat x.2.2.2.toNat
theorem by4 (x : I4) : By3 (x.2.1.toNat : Int) x.2.2.1.toNat x.2.2.2.toNat := by
  have h1 := x.2.1.toNat_lt
  have h2 := x.2.2.1.toNat_lt
  have h3 := x.2.2.2.toNat_lt
  exact ⟨by omega, by omega, by omega⟩
theorem ics_len (l : List I4) : (ics l).length = l.length * 4 := by
  induction l with
  | nil => rfl
  | cons x l ih => simp [ics, i4c] at *; omega
theorem ics_get : ∀ (l : List I4) (k o : Nat) (h : k < l.length), o < 4 → (ics l)[k * 4 + o]? = (i4c l[k])[o]?
  | [], k, o, h, _ => by simp at h
  | x :: l, 0, o, h, ho => by
    have : (i4c x).length = 4 := rfl
    simp only [ics, List.flatMap_cons, Nat.zero_mul, Nat.zero_add, List.getElem_cons_zero]
    rw [List.getElem?_append_left (by omega)]
  | x :: l, k + 1, o, h, ho => by
    have ih := ics_get l k o (by simpa using h) ho
    have : (i4c x).length = 4 := rfl
    simp only [ics, List.flatMap_cons, List.getElem_cons_succ] at *
    rw [List.getElem?_append_right (by omega), this, show (k + 1) * 4 + o - 4 = k * 4 + o by omega]
    exact ih
/-- An instruction among others. -/
theorem ins_cells {w : World} {a : Option Addr} {c : List I4} (h : CellsIn w a (ics c)) {k : Nat} (hk : k < c.length) : ∃ g o, a = some ⟨g, o, none⟩ ∧ w.cell? ⟨g, o + k * 4, none⟩ = some (bv c[k].1) ∧ w.cell? ⟨g, o + k * 4 + 1, none⟩ = some (bv c[k].2.1) ∧ w.cell? ⟨g, o + k * 4 + 2, none⟩ = some (bv c[k].2.2.1) ∧ w.cell? ⟨g, o + k * 4 + 3, none⟩ = some (bv c[k].2.2.2) := by
  have hl := ics_len c
  have key : ∀ o, (ho : o < 4) → ∃ g b, a = some ⟨g, b, none⟩ ∧ w.cell? ⟨g, b + (k * 4 + o), none⟩ = (i4c c[k])[o]? := fun o ho => by
    obtain ⟨g, b, e, hc⟩ := h (k * 4 + o) (by omega)
    refine ⟨g, b, e, ?_⟩
    rw [hc, ← ics_get c k o hk ho, List.getElem?_eq_getElem (by omega)]
  obtain ⟨g, b, rfl, h0⟩ := key 0 (by omega)
  obtain ⟨g1, b1, e1, h1⟩ := key 1 (by omega)
  obtain ⟨g2, b2, e2, h2⟩ := key 2 (by omega)
  obtain ⟨g3, b3, e3, h3⟩ := key 3 (by omega)
  cases e1; cases e2; cases e3
  exact ⟨g, b, rfl, h0, by rw [Nat.add_assoc]; exact h1, by rw [Nat.add_assoc]; exact h2, by rw [Nat.add_assoc]; exact h3⟩
theorem byte_cell {w : World} {a : Option Addr} {d : List UInt8} (h : CellsIn w a (d.map bv)) {k : Nat} (hk : k < d.length) : ∃ g o, a = some ⟨g, o, none⟩ ∧ w.cell? ⟨g, o + k, none⟩ = some (bv d[k]) := by
  obtain ⟨g, o, e, hc⟩ := h k (by simpa using hk)
  exact ⟨g, o, e, by rw [hc]; simp⟩
set_option maxHeartbeats 2000000 in
set_option maxRecDepth 20000 in
theorem chk1_c (x : I4) (w : World) :
    Calls Tryz.prog 75 #[i4v x] w fun e w' => e = .returned (.bool (!ik x)) ∧ Below w.heap.size w w' := by
  have H1 := Lib.hid (blk_new (Hp.start w) (.cells #[.int .u8 x.1.toNat, .int .u8 x.2.1.toNat, .int .u8 x.2.2.1.toNat, .int .u8 x.2.2.2.toNat] 26))
  have C := Lib.hid (check_c (op := x.1.toNat) H1.out (by4 x))
  obtain ⟨o, a, b, c⟩ := x
  generalize hik : ik (o, a, b, c) = kk
  have HIK : Hid (ck o.toNat a.toNat b.toNat c.toNat = kk) := Lib.hid hik
  clear hik
  go_enter Tryz.func75, Tryz.ntmps75
  go_wp2_with fail
  refine C.out.mono ?_; rintro e w1 ⟨rfl, H2⟩
  have H3 := Lib.hid H2
  clear H2 C H1
  rw [HIK.out]
  cases kk
  all_goals
    go_wp2
    go_ret
    exact ⟨rfl, H3.out.below⟩
set_option maxHeartbeats 4000000 in
set_option maxRecDepth 20000 in
theorem ixf_c (a : Option Addr) (cc : Nat) (c : List I4) (w : World) (hc : CellsIn w a (ics c)) (hl : c.length < 1000000000) :
    Calls Tryz.prog 125 #[.slice a c.length cc, fn_ 75] w fun e w' => ∃ k : Int, e = .returned (.int .i64 k) ∧ (-1 ≤ k ∧ k < 1000000000 ∧ decide (0 ≤ k) = !c.all ik) ∧ Below w.heap.size w w' := by
  have HC := Lib.hid hc
  have H0 := Lib.hid (Hp.start w)
  have HL := Lib.hid hl
  clear hc hl
  go_enter Tryz.func125, Tryz.ntmps125
  go_wp2
  go_loopw [8] (fun s8 wr => ∃ k : Nat, k ≤ c.length ∧ s8 = .int .i64 k ∧ Hid (∀ j (h : j < c.length), j < k → ik c[j] = true) ∧ Hid (Hp w wr [])) (fun s8 _ => c.length - (intOf s8).toNat)
  case atStart => exact ⟨0, Nat.zero_le _, rfl, Lib.hid (fun j _ h => by omega), H0⟩
  case round =>
    obtain ⟨k, hk, rfl, hN, hH⟩ := hrel
    clear H0
    by_cases hlt : k < c.length
    · obtain ⟨g, o, rfl, c0, c1, c2, c3⟩ := ins_cells (HC.out.hp hH.out) hlt
      have hkw : IntKind.i64.wrap ((k : Int) + 1) = (k : Int) + 1 := by rw [IntKind.wrap_i64]; have := HL.out; omega
      have hN2 : Hid (ik c[k] = true → ∀ j (h : j < c.length), j < k + 1 → ik c[j] = true) := Lib.hid (fun h j hj hjk => by
        by_cases e : j = k
        · subst e; exact h
        · exact hN.out j hj (by omega))
      have hN3 : Hid (ik c[k] = false → c.all ik = false) := Lib.hid (fun h => by
        rw [Bool.eq_false_iff]
        intro h2
        have := List.all_eq_true.1 h2 c[k] (List.getElem_mem hlt)
        rw [h] at this; cases this)
      have CK := Lib.hid (fun W => chk1_c c[k] W)
      generalize c[k] = x at *
      cases hx : ik x with
      | true =>
        rw [hx] at CK
        have hn := Lib.hid (hN2.out hx)
        have HLT := Lib.hid hlt
        clear hN hN2 hN3 hx hlt
        go_wp2_with fail
        refine (CK.out _).mono ?_; rintro e w1 ⟨rfl, hb⟩
        have H2 := Lib.hid (hH.out.below_read hb)
        clear hb CK hH c0 c1 c2 c3
        go_wp2
        go_roundw
        case rel => exact ⟨k + 1, by have := HLT.out; omega, by go_num, hn, H2⟩
        case measure => have := HLT.out; simp [intOf]; omega
      | false =>
        rw [hx] at CK
        have hn := Lib.hid (hN3.out hx)
        have HLT := Lib.hid hlt
        clear hN hN2 hN3 hx hlt
        go_wp2_with fail
        refine (CK.out _).mono ?_; rintro e w1 ⟨rfl, hb⟩
        have H2 := Lib.hid (hH.out.below_read hb)
        clear hb CK hH c0 c1 c2 c3
        go_wp2
        go_ret
        exact ⟨_, rfl, ⟨by omega, by have := HL.out; have := HLT.out; omega, by rw [hn.out]; simp⟩, H2.out.below⟩
    · have hall : c.all ik = true := List.all_eq_true.2 (fun x hx => by
        obtain ⟨j, hj, rfl⟩ := List.getElem_of_mem hx
        exact hN.out j hj (by omega))
      have HALL := Lib.hid hall
      clear hall hN
      go_wp2
      go_ret
      exact ⟨-1, rfl, ⟨by omega, by omega, by rw [HALL.out]; rfl⟩, hH.out.below⟩
set_option maxHeartbeats 2000000 in
theorem ctf_c (a : Option Addr) (cc : Nat) (c : List I4) (w : World) (hc : CellsIn w a (ics c)) (hl : c.length < 1000000000) :
    Calls Tryz.prog 74 #[.slice a c.length cc, fn_ 75] w fun e w' => e = .returned (.bool (!c.all ik)) ∧ Below w.heap.size w w' := by
  have C := Lib.hid (ixf_c a cc c w hc hl)
  generalize (!c.all ik) = kk at *
  clear hc hl
  go_enter Tryz.func74, Tryz.ntmps74
  go_wp2_with fail
  refine C.out.mono ?_; rintro e w1 ⟨k, rfl, ⟨h1, h2, h3⟩, hb⟩
  have HB := Lib.hid hb
  have H3 := Lib.hid h3
  clear C hb h3
  go_wp2
  go_ret
  exact ⟨by rw [← H3.out]; rfl, HB.out⟩
/-- An image, as a value. -/
abbrev imV (n : Int) (ad : Option Addr) (dl dc : Nat) (ac : Option Addr) (cl cc : Nat) : Value := .agg #[.int .i64 n, .slice ad dl dc, .slice ac cl cc]
/-- May it be? -/
def imck (n : Int) (d : List UInt8) (c : List I4) : Bool := decide (0 ≤ n ∧ n ≤ 4096 ∧ (d.length : Int) ≤ n ∧ c.length ≤ 1024) && c.all ik
set_option maxHeartbeats 4000000 in
set_option maxRecDepth 20000 in
theorem imcheck_c (n : Int) (ad ac : Option Addr) (dc cc : Nat) (d : List UInt8) (c : List I4) (w : World) (hc : CellsIn w ac (ics c)) :
    Calls Tryz.prog 29 #[imV n ad d.length dc ac c.length cc] w fun e w' => e = .returned (.bool (imck n d c)) ∧ Below w.heap.size w w' := by
  have H1 := Lib.hid (blk_new (Hp.start w) (.cells #[.int .i64 n, .slice ad d.length dc, .slice ac c.length cc] 29))
  have HC : Hid (c.length ≤ 1024 → Calls Tryz.prog 74 #[.slice ac c.length cc, fn_ 75] (w.alloc (.cells #[.int .i64 n, .slice ad d.length dc, .slice ac c.length cc] 29)) fun e w' => e = .returned (.bool (!c.all ik)) ∧ Below (w.alloc (.cells #[.int .i64 n, .slice ad d.length dc, .slice ac c.length cc] 29)).heap.size (w.alloc (.cells #[.int .i64 n, .slice ad d.length dc, .slice ac c.length cc] 29)) w') :=
    Lib.hid (fun h => ctf_c ac cc c _ (hc.hp H1.out) (by omega))
  generalize hm : imck n d c = m
  have HM := Lib.hid hm
  unfold imck at hm
  clear hc
  go_enter Tryz.func29, Tryz.ntmps29
  by_cases h0 : n < 0
  · have hm2 : m = false := by rw [← hm]; have : ¬ (0 ≤ n ∧ n ≤ 4096 ∧ (d.length : Int) ≤ n ∧ c.length ≤ 1024) := by omega
                               simp [this]
    subst hm2
    clear hm HM
    go_wp2
    go_ret
    exact ⟨rfl, H1.out.below⟩
  by_cases h1 : 4096 < n
  · have hm2 : m = false := by rw [← hm]; have : ¬ (0 ≤ n ∧ n ≤ 4096 ∧ (d.length : Int) ≤ n ∧ c.length ≤ 1024) := by omega
                               simp [this]
    subst hm2
    clear hm HM
    go_wp2
    go_ret
    exact ⟨rfl, H1.out.below⟩
  by_cases h2 : n < (d.length : Int)
  · have hm2 : m = false := by rw [← hm]; have : ¬ (0 ≤ n ∧ n ≤ 4096 ∧ (d.length : Int) ≤ n ∧ c.length ≤ 1024) := by omega
                               simp [this]
    subst hm2
    clear hm HM
    go_wp2
    go_ret
    exact ⟨rfl, H1.out.below⟩
  by_cases h3 : (1024 : Int) < (c.length : Int)
  · have hm2 : m = false := by rw [← hm]; have : ¬ (0 ≤ n ∧ n ≤ 4096 ∧ (d.length : Int) ≤ n ∧ c.length ≤ 1024) := by omega
                               simp [this]
    subst hm2
    clear hm HM
    go_wp2
    go_ret
    exact ⟨rfl, H1.out.below⟩
  have hm2 : m = c.all ik := by
    rw [← hm]; have : (0 ≤ n ∧ n ≤ 4096 ∧ (d.length : Int) ≤ n ∧ c.length ≤ 1024) := by omega
    simp [this]
  have HM2 := Lib.hid hm2
  have C := Lib.hid (HC.out (by omega))
  clear hm HM hm2 HC
  go_wp2_with fail
  refine C.out.mono ?_; rintro e w1 ⟨rfl, hb⟩
  have H4 := Lib.hid (H1.out.below_read hb)
  rw [← HM2.out]
  clear hb C H1
  cases m
  all_goals
    go_wp2
    go_ret
    exact ⟨rfl, H4.out.below⟩
end Go.Proofs.YtijkkompnfpdeaaGreatDoor
