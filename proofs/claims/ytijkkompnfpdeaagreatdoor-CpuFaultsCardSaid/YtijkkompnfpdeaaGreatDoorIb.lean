/- Instructions: their words, their fields, whether one may be. No program in sight but its tables. -/
import Derived.Test.YtijkkompnfpdeaaGreatDoorIa
import Derived.Deep.MidRow
import Derived.Deep.CutRange
set_option linter.unusedVariables false
set_option linter.unusedSimpArgs false
namespace Go.Proofs.YtijkkompnfpdeaaGreatDoor
open Go.RowKit
attribute [local go_sem] Oper.semAt_some

/-- By the Op: its word; a sign for each field. -/
def wl : Nat → List UInt8
  | 0 => [110, 111, 112]
  | 1 => [115, 101, 116]
  | 2 => [109, 111, 118, 101]
  | 3 => [97, 100, 100]
  | 4 => [115, 117, 98]
  | 5 => [109, 117, 108]
  | 6 => [97, 110, 100]
  | 7 => [111, 114]
  | 8 => [120, 111, 114]
  | 9 => [108, 101, 102, 116]
  | 10 => [114, 105, 103, 104, 116]
  | 11 => [108, 111, 97, 100]
  | 12 => [115, 116, 111, 114, 101]
  | 13 => [98, 121, 116, 101]
  | 14 => [112, 117, 116]
  | 15 => [115, 97, 109, 101]
  | 16 => [111, 116, 104, 101, 114]
  | 17 => [108, 101, 115, 115]
  | 18 => [98, 101, 108, 111, 119]
  | 19 => [103, 111]
  | 20 => [116, 101, 108, 108]
  | 21 => [97, 115, 107]
  | 22 => [101, 110, 100]
  | _ => []
def fl : Nat → List UInt8
  | 0 => []
  | 1 => [114, 110]
  | 2 => [114, 114]
  | 3 => [114, 114, 114]
  | 4 => [114, 114, 114]
  | 5 => [114, 114, 114]
  | 6 => [114, 114, 114]
  | 7 => [114, 114, 114]
  | 8 => [114, 114, 114]
  | 9 => [114, 114, 114]
  | 10 => [114, 114, 114]
  | 11 => [114, 114, 98]
  | 12 => [114, 114, 98]
  | 13 => [114, 114, 98]
  | 14 => [114, 114, 98]
  | 15 => [114, 114, 115]
  | 16 => [114, 114, 115]
  | 17 => [114, 114, 115]
  | 18 => [114, 114, 115]
  | 19 => [110]
  | 20 => [114]
  | 21 => [119]
  | 22 => []
  | _ => []
abbrev wd (op : Nat) : ByteArray := ⟨(wl op).toArray⟩
abbrev fd (op : Nat) : ByteArray := ⟨(fl op).toArray⟩
/-- A sign of a field. -/
def isK (c : UInt8) : Bool := c == 114 || c == 110 || c == 98 || c == 119 || c == 115
def kby (c : UInt8) : Nat := if c == 110 then 2 else 1
def klo (c : UInt8) : Int := if c == 119 then 1 else 0
def khi (c : UInt8) : Int := if c == 114 then 8 else if c == 110 then 65536 else if c == 119 then 21 else 256
def mayK (c : UInt8) (n : Int) : Bool := decide (klo c ≤ n) && decide (n < khi c)
def num : List Int → Int
  | [] => 0
  | [x] => x
  | x :: y :: _ => x * 256 + y
/-- The fields of some bytes. -/
def sp : List UInt8 → List Int → Option (List Int)
  | [], rest => if rest.all (· == 0) then some [] else none
  | c :: cs, rest => if mayK c (num (rest.take (kby c))) then (sp cs (rest.drop (kby c))).map (num (rest.take (kby c)) :: ·) else none
/-- How many bytes some fields take. -/
def tby (l : List UInt8) : Nat := (l.map kby).sum
def fits_ok (op : Nat) : Bool := (fl op).all isK && decide (tby (fl op) ≤ 3)
theorem fl_ok (op : Nat) : (∀ c ∈ fl op, isK c = true) ∧ tby (fl op) ≤ 3 := by
  have key : ∀ n : Nat, n ≤ 22 → fits_ok n = true := by decide
  by_cases h : op ≤ 22
  · have := key op h
    unfold fits_ok at this
    simp only [Bool.and_eq_true, List.all_eq_true, decide_eq_true_eq] at this
    exact this
  · have : fl op = [] := by
      match op, h with
      | n + 23, _ => rfl
    rw [this]
    exact ⟨by simp, by simp [tby]⟩
/-- The document's answer. -/
def rck : List UInt8 → List Int → Bool
  | [], rest => rest.all (· == 0)
  | c :: cs, rest => if c == 114 then decide (rest.headD 0 ≤ 7) && rck cs (rest.drop 1) else if c == 110 then rck cs (rest.drop 2) else if c == 119 then (decide (1 ≤ rest.headD 0) && decide (rest.headD 0 ≤ 20)) && rck cs (rest.drop 1) else rck cs (rest.drop 1)
theorem sp_rck : ∀ (cs : List UInt8) (rest : List Int), (∀ c ∈ cs, isK c = true) → tby cs ≤ rest.length → (∀ x ∈ rest, 0 ≤ x ∧ x < 256) → (sp cs rest).isSome = rck cs rest
  | [], rest, _, _, _ => by
    unfold sp rck
    by_cases h : rest.all (· == 0) = true
    · rw [if_pos h, h]; rfl
    · rw [if_neg h]; simp at h ⊢; exact h
  | c :: cs, rest, hk, hl, hb => by
    have hc := hk c (by simp)
    have hl' : kby c + tby cs ≤ rest.length := by simpa [tby] using hl
    have ih := fun n (h : kby c = n) => sp_rck cs (rest.drop n) (fun c hc => hk c (by simp [hc])) (by rw [List.length_drop]; omega) (fun x hx => hb x (List.mem_of_mem_drop hx))
    have im : ∀ n, ((sp cs (rest.drop n)).map (num (rest.take n) :: ·)).isSome = (sp cs (rest.drop n)).isSome := fun n => by cases sp cs (rest.drop n) <;> rfl
    have g1 : ∀ x r, rest = x :: r → num (rest.take 1) = x := fun x r e => by rw [e]; rfl
    unfold isK at hc
    simp only [Bool.or_eq_true, beq_iff_eq] at hc
    have one : 1 ≤ rest.length → ∃ x r, rest = x :: r := fun h => by
      cases rest with
      | nil => simp at h
      | cons x r => exact ⟨x, r, rfl⟩
    have two : 2 ≤ rest.length → ∃ x y r, rest = x :: y :: r := fun h => by
      match rest, h with
      | x :: y :: r, _ => exact ⟨x, y, r, rfl⟩
      | [x], h => simp at h
      | [], h => simp at h
    rcases hc with (((rfl | rfl) | rfl) | rfl) | rfl
    · have k1 : kby 114 = 1 := rfl
      rw [k1] at hl'
      obtain ⟨x, r, rfl⟩ := one (by omega)
      have hx := hb x (by simp)
      simp only [sp, rck, k1]
      have := ih 1 k1
      have e : mayK 114 (num (List.take 1 (x :: r))) = decide (x ≤ 7) := by rw [g1 x r rfl, Bool.eq_iff_iff]; simp [mayK, klo, khi]; omega
      rw [e]
      by_cases h : x ≤ 7
      · simp only [h, decide_true, if_true, List.headD_cons, Bool.true_and]
        rw [im 1, this]; rfl
      · simp [h]
    · have k1 : kby 110 = 2 := rfl
      rw [k1] at hl'
      obtain ⟨x, y, r, rfl⟩ := two (by omega)
      have hx := hb x (by simp)
      have hy := hb y (by simp)
      simp only [sp, rck, k1]
      have := ih 2 k1
      have e : mayK 110 (num (List.take 2 (x :: y :: r))) = true := by simp [mayK, klo, khi, num]; omega
      rw [e]
      simp only [if_true]
      rw [im 2, this]; rfl
    · have k1 : kby 98 = 1 := rfl
      rw [k1] at hl'
      obtain ⟨x, r, rfl⟩ := one (by omega)
      have hx := hb x (by simp)
      simp only [sp, rck, k1]
      have := ih 1 k1
      have e : mayK 98 (num (List.take 1 (x :: r))) = true := by rw [g1 x r rfl, Bool.eq_iff_iff]; simp [mayK, klo, khi]; omega
      rw [e]
      simp only [if_true]
      rw [im 1, this]; rfl
    · have k1 : kby 119 = 1 := rfl
      rw [k1] at hl'
      obtain ⟨x, r, rfl⟩ := one (by omega)
      have hx := hb x (by simp)
      simp only [sp, rck, k1]
      have := ih 1 k1
      have e : mayK 119 (num (List.take 1 (x :: r))) = (decide (1 ≤ x) && decide (x ≤ 20)) := by rw [g1 x r rfl, Bool.eq_iff_iff]; simp [mayK, klo, khi]; omega
      rw [e]
      by_cases h : 1 ≤ x ∧ x ≤ 20
      · simp only [h.1, h.2, decide_true, Bool.and_self, if_true, List.headD_cons, Bool.true_and]
        rw [im 1, this]; rfl
      · have : (decide (1 ≤ x) && decide (x ≤ 20)) = false := by
          rw [Bool.eq_false_iff]; intro hc; simp at hc; exact h hc
        simp [this]
    · have k1 : kby 115 = 1 := rfl
      rw [k1] at hl'
      obtain ⟨x, r, rfl⟩ := one (by omega)
      have hx := hb x (by simp)
      simp only [sp, rck, k1]
      have := ih 1 k1
      have e : mayK 115 (num (List.take 1 (x :: r))) = true := by rw [g1 x r rfl, Bool.eq_iff_iff]; simp [mayK, klo, khi]; omega
      rw [e]
      simp only [if_true]
      rw [im 1, this]; rfl
/-- Whether an instruction may be. -/
def ck (op : Nat) (a b c : Int) : Bool := decide (op ≤ 22) && rck (fl op) [a, b, c]

/-! ### forms. -/
abbrev FORMS : Array Value := #[.string ⟨#[110, 111, 112]⟩, .string ⟨#[]⟩, .string ⟨#[115, 101, 116]⟩, .string ⟨#[114, 110]⟩, .string ⟨#[109, 111, 118, 101]⟩, .string ⟨#[114, 114]⟩, .string ⟨#[97, 100, 100]⟩, .string ⟨#[114, 114, 114]⟩, .string ⟨#[115, 117, 98]⟩, .string ⟨#[114, 114, 114]⟩, .string ⟨#[109, 117, 108]⟩, .string ⟨#[114, 114, 114]⟩, .string ⟨#[97, 110, 100]⟩, .string ⟨#[114, 114, 114]⟩, .string ⟨#[111, 114]⟩, .string ⟨#[114, 114, 114]⟩, .string ⟨#[120, 111, 114]⟩, .string ⟨#[114, 114, 114]⟩, .string ⟨#[108, 101, 102, 116]⟩, .string ⟨#[114, 114, 114]⟩, .string ⟨#[114, 105, 103, 104, 116]⟩, .string ⟨#[114, 114, 114]⟩, .string ⟨#[108, 111, 97, 100]⟩, .string ⟨#[114, 114, 98]⟩, .string ⟨#[115, 116, 111, 114, 101]⟩, .string ⟨#[114, 114, 98]⟩, .string ⟨#[98, 121, 116, 101]⟩, .string ⟨#[114, 114, 98]⟩, .string ⟨#[112, 117, 116]⟩, .string ⟨#[114, 114, 98]⟩, .string ⟨#[115, 97, 109, 101]⟩, .string ⟨#[114, 114, 115]⟩, .string ⟨#[111, 116, 104, 101, 114]⟩, .string ⟨#[114, 114, 115]⟩, .string ⟨#[108, 101, 115, 115]⟩, .string ⟨#[114, 114, 115]⟩, .string ⟨#[98, 101, 108, 111, 119]⟩, .string ⟨#[114, 114, 115]⟩, .string ⟨#[103, 111]⟩, .string ⟨#[110]⟩, .string ⟨#[116, 101, 108, 108]⟩, .string ⟨#[114]⟩, .string ⟨#[97, 115, 107]⟩, .string ⟨#[119]⟩, .string ⟨#[101, 110, 100]⟩, .string ⟨#[]⟩]
theorem index_forms (op : Nat) (h : op ≤ 22) (w : World) : (Instr.index 186 (.agg FORMS) (.int .u8 op)).run Tryz.prog w = .ok (.agg #[.string (wd op), .string (fd op)]) w := by
  exact match op, h with
  | 0, _ => by kernel_rfl
  | 1, _ => by kernel_rfl
  | 2, _ => by kernel_rfl
  | 3, _ => by kernel_rfl
  | 4, _ => by kernel_rfl
  | 5, _ => by kernel_rfl
  | 6, _ => by kernel_rfl
  | 7, _ => by kernel_rfl
  | 8, _ => by kernel_rfl
  | 9, _ => by kernel_rfl
  | 10, _ => by kernel_rfl
  | 11, _ => by kernel_rfl
  | 12, _ => by kernel_rfl
  | 13, _ => by kernel_rfl
  | 14, _ => by kernel_rfl
  | 15, _ => by kernel_rfl
  | 16, _ => by kernel_rfl
  | 17, _ => by kernel_rfl
  | 18, _ => by kernel_rfl
  | 19, _ => by kernel_rfl
  | 20, _ => by kernel_rfl
  | 21, _ => by kernel_rfl
  | 22, _ => by kernel_rfl
  | n + 23, h => absurd h (by omega)
abbrev ZEROS : Array Value := #[.string ⟨#[]⟩, .string ⟨#[]⟩, .string ⟨#[]⟩, .string ⟨#[]⟩, .string ⟨#[]⟩, .string ⟨#[]⟩, .string ⟨#[]⟩, .string ⟨#[]⟩, .string ⟨#[]⟩, .string ⟨#[]⟩, .string ⟨#[]⟩, .string ⟨#[]⟩, .string ⟨#[]⟩, .string ⟨#[]⟩, .string ⟨#[]⟩, .string ⟨#[]⟩, .string ⟨#[]⟩, .string ⟨#[]⟩, .string ⟨#[]⟩, .string ⟨#[]⟩, .string ⟨#[]⟩, .string ⟨#[]⟩, .string ⟨#[]⟩, .string ⟨#[]⟩, .string ⟨#[]⟩, .string ⟨#[]⟩, .string ⟨#[]⟩, .string ⟨#[]⟩, .string ⟨#[]⟩, .string ⟨#[]⟩, .string ⟨#[]⟩, .string ⟨#[]⟩, .string ⟨#[]⟩, .string ⟨#[]⟩, .string ⟨#[]⟩, .string ⟨#[]⟩, .string ⟨#[]⟩, .string ⟨#[]⟩, .string ⟨#[]⟩, .string ⟨#[]⟩, .string ⟨#[]⟩, .string ⟨#[]⟩, .string ⟨#[]⟩, .string ⟨#[]⟩, .string ⟨#[]⟩, .string ⟨#[]⟩]
theorem forms_laid : laid ZEROS 0 FORMS.toList = FORMS := by kernel_rfl
theorem forms_there (w : World) : (w.alloc (.cells ZEROS 186)).there w.heap.size 0 FORMS.size := fun j hj => by
  have hb := blk_alloc_new w (.cells ZEROS 186)
  refine ⟨?_, free_blk hb _⟩
  rw [cell_blk hb, Array.getElem?_eq_getElem (by rw [Nat.zero_add]; exact hj)]
  rfl
theorem forms_one : FORMS.all (·.oneCell') = true := by kernel_rfl
theorem forms_info : (Tryz.prog.info? 186).map (·.size) = some FORMS.size := by kernel_rfl
set_option maxHeartbeats 4000000 in
set_option maxRecDepth 20000 in
theorem forms_c (w : World) :
    Calls Tryz.prog 136 #[] w fun e w' => e = .returned (.agg FORMS) ∧ Below w.heap.size w w' := by
  have H1 := Lib.hid (forms_there w)
  go_enter Tryz.func136, Tryz.ntmps136
  go_upto_region 1 with fail
  have hb := blk_alloc_new w (.cells ZEROS 186)
  have hB := (Below.refl w.heap.size w).alloc (Nat.le_refl _) (.cells ZEROS 186)
  have hB2 : Below w.heap.size w ((w.alloc (.cells ZEROS 186)).setCells w.heap.size 0 FORMS.toList) := ((Tch.of_below hB).setCells (b := w.heap.size) (o := 0) (fun h => by omega) _).below (Nat.le_refl _) (fun k hk h => by omega)
  have hb2 := blk_setCells FORMS.toList hb 0
  rw [forms_laid] at hb2
  have HB := Lib.hid hb2
  have HB2 := Lib.hid hB2
  clear hb hB hB2 hb2
  generalize (w.alloc (.cells ZEROS 186)) = w1 at *
  go_wp2_with (refine wpList_store_mid rfl 186 (.tmp 0) (.tmp 24) rfl w.heap.size 0 FORMS rfl rfl H1.out forms_info forms_one ?_)
  generalize w1.setCells w.heap.size 0 FORMS.toList = w2 at *
  go_wp2
  exact bodyPost_ret (results_cell_row rfl _ _ w.heap.size _ FORMS _ _ rfl HB.out Tryz.underlying186 rfl forms_info) rfl ⟨rfl, HB2.out⟩
end Go.Proofs.YtijkkompnfpdeaaGreatDoor
