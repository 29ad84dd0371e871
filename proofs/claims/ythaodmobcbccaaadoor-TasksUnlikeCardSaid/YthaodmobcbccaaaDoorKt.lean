/- A task as a line: the program's text. -/
import Derived.Test.YthaodmobcbccaaaDoorKr
import Derived.Test.YthaodmobcbccaaaDoorShelf
import Derived.OwnWalk
import Derived.Lib.OwnKind
set_option linter.unusedVariables false
set_option linter.unusedSimpArgs false
namespace Go.Proofs.YthaodmobcbccaaaDoor
open Go.RowKit Go.Shelf
attribute [local go_sem] Oper.semAt_some

/-- The library's table of powers of ten. -/
abbrev Tb (B : Nat) (w : World) : Prop := Lib.TabBelow Tryd.prog B w "internal/strconv.uint64pow10" .u64 Lib.pow10Tab
theorem Tb.up {B B' : Nat} {w : World} (h : Tb B w) (hl : B ≤ B') : Tb B' w := fun w' hb => h w' (hb.mono hl)
theorem Tb.on {B : Nat} {w w' : World} (h : Tb B w) (hb : Below B w w') : Tb B w' := Lib.TabBelow.on h hb
theorem frz {w : World} {b : Nat} {cs : Array Value} {e : TypeId} (h : w.heap[b]? = some (.cells cs e (0, 0))) (o : Nat) : w.frozen? ⟨b, o, none⟩ = false := by
  simp [World.frozen?, h]
/-- Numbers, each behind a blank. -/
def nums (xs : List Int) : List UInt8 := xs.flatMap num
theorem nums_snoc (xs : List Int) (x : Int) : nums (xs ++ [x]) = nums xs ++ num x := by simp [nums]
theorem info_u8 : (Tryd.prog.info? 5).map (fun i => (i.zero, i.size, i.bytes)) = some (some (.int .u8 0), 1, 1) := by kernel_rfl
theorem nums_len {xs : List Int} (h : ∀ x ∈ xs, -9223372036854775808 ≤ x ∧ x < 9223372036854775808) : (nums xs).length ≤ 22 * xs.length := by
  induction xs with
  | nil => simp [nums]
  | cons x r ih =>
    have h1 := itoa_le (h x (by simp))
    have h2 := ih (fun y hy => h y (by simp [hy]))
    have e : nums (x :: r) = num x ++ nums r := by simp [nums]
    rw [e, List.length_append]
    have : (num x).length = (Lib.itoa x).length + 1 := by simp [num]
    simp only [List.length_cons]
    omega

theorem own_shape {w : World} {B : Nat} {e : TypeId} {size : Nat} {v : Value} {n : Nat} {xs : List Value} (h : w.ownsRow B e size v n xs) : ∃ a c, v = .slice a n c := by
  rcases h.2 with ⟨rfl, rfl⟩ | ⟨g, cap, cur, rfl, _⟩ <;> exact ⟨_, _, rfl⟩

set_option maxHeartbeats 8000000 in
set_option maxRecDepth 20000 in
theorem put_c (B0 : Nat) (w : World) (Bb A c : Nat) (xs : List Int) (v : Value) (cs : List UInt8) (hB : B0 ≤ Bb) (ht : Tb B0 w) (hbox : w.heap[Bb]? = some (.cells #[v] 37 (0, 0)))
    (ho : w.ownsRow (Bb + 1) 5 1 v cs.length (Lib.byteCells cs)) (hA : w.heap[A]? = some (.cells (xs.map (Value.int .i64)).toArray 2 (0, 0))) (hAB : A ≠ Bb) (hwf : ∀ x ∈ xs, -9223372036854775808 ≤ x ∧ x < 9223372036854775808) (hxl : xs.length < 100) (hcl : cs.length < 10000) :
    Calls Tryd.prog 17 #[.slice (some ⟨A, 0, none⟩) xs.length c, .pointer (some ⟨Bb, 0, none⟩)] w fun e w' => e = .returned (.tuple #[]) ∧ ∃ v', w'.heap[Bb]? = some (.cells #[v'] 37 (0, 0)) ∧ w'.ownsRow (Bb + 1) 5 1 v' (cs ++ nums xs).length (Lib.byteCells (cs ++ nums xs)) ∧ Below Bb w w' := by
  obtain ⟨i0, hi, hz0, hz1, hz2⟩ := info_parts info_u8
  have HT := Lib.hid ht
  have HW := Lib.hid hwf
  have HL := Lib.hid (fun k => nums_len (xs := xs.take k) (fun x hx => hwf x (List.mem_of_mem_take hx)))
  clear ht hwf
  go_enter Tryd.func17, Tryd.ntmps17
  go_wp2
  go_loopw [7] (fun i wr => ∃ k : Nat, k ≤ xs.length ∧ i = .int .i64 k ∧ ∃ v', wr.heap[Bb]? = some (.cells #[v'] 37 (0, 0)) ∧ wr.ownsRow (Bb + 1) 5 1 v' (cs ++ nums (xs.take k)).length (Lib.byteCells (cs ++ nums (xs.take k))) ∧ wr.heap[A]? = some (.cells (xs.map (Value.int .i64)).toArray 2 (0, 0)) ∧ Below Bb w wr) (fun i _ => xs.length - (intOf i).toNat)
  case atStart => exact ⟨0, Nat.zero_le _, rfl, v, hbox, by simpa [nums] using ho, hA, Below.refl _ _⟩
  case round =>
    obtain ⟨k, hk, rfl, v1, hbox1, ho1, hA1, hB1⟩ := hrel
    clear hbox ho hA
    by_cases hlt : k < xs.length
    · have c1 : (k : Int) < (xs.length : Int) := by omega
      have e1 : wr.cell? ⟨A, k, none⟩ = some (.int .i64 xs[k]) := by rw [cell_blk hA1]; simp [hlt]
      have e2 : wr.cell? ⟨Bb, 0, none⟩ = some v1 := by rw [cell_blk hbox1]; rfl
      have hx := HW.out _ (List.getElem_mem hlt)
      have hll := HL.out k
      rw [List.length_take] at hll
      have hts : nums (xs.take (k + 1)) = nums (xs.take k) ++ num xs[k] := by rw [List.take_succ_eq_append_getElem hlt, nums_snoc]
      have HTS := Lib.hid hts
      have HX := Lib.hid hx
      have hbl : Bb < wr.heap.size := (Array.getElem?_eq_some_iff.1 hbox1).1
      clear hts hx
      obtain ⟨ds, hds, hdl⟩ : ∃ ds, ds = cs ++ nums (xs.take k) ∧ ds.length ≤ 20000 := ⟨_, rfl, by rw [List.length_append]; omega⟩
      rw [← hds] at ho1
      have HDS := Lib.hid hds
      clear hds hll
      generalize xs[k] = x at *
      go_wp2_with (at_builtin; refine wpList_append_own _ rfl (.tmp 11) (.tmp 12) 37 rfl (Bb + 1) 5 i0 (.int .u8 0) 1 1 Tryd.underlying37 hi hz0 hz1 hz2 rfl (by decide) _ _ _ rfl (ho1.alloc _) ⟨wr.heap.size, 0, none⟩ 1 1 [.int .u8 32] rfl rfl ?c1 ?c2 ?c3 ?c4 ?c5 ?_)
      case c1 =>
        intro j u hj
        match j, hj with
        | 0, hj => simp at hj; subst hj; simp [Addr.add]
      case c2 => intro u hu; simp at hu; subst hu; rfl
      case c3 => unfold maxLen; omega
      case c4 => omega
      case c5 => rw [sz]; omega
      intro v2 w1 hown' hgrow _
      have hB2 : Below (Bb + 1) wr w1 := ((Below.refl _ wr).alloc (by omega) _).grown hgrow (by rw [sz]; omega) (fun g' e => (ho1.lt g' e).1)
      have hOK : Lib.OthersKept 5 none (wr.alloc (.cells #[.int .u8 32] 5)) w1 := (Lib.OthersKept.refl _ _ _).grown hgrow (Lib.ownsRow_kind (ho1.alloc _))
      have hA2 : w1.heap[A]? = some (.cells (xs.map (Value.int .i64)).toArray 2 (0, 0)) := by
        refine hOK A _ ?_ (by simp) (fun c fz => by simp)
        have hal : A < wr.heap.size := (Array.getElem?_eq_some_iff.1 hA1).1
        exact ((Below.refl wr.heap.size wr).alloc (Nat.le_refl _) _).block A hal |>.trans hA1
      have hbox2 : w1.heap[Bb]? = some (.cells #[v1] 37 (0, 0)) := (hB2.block Bb (by omega)).trans hbox1
      have ho2 : w1.ownsRow (Bb + 1) 5 1 v2 (ds ++ [32]).length (Lib.byteCells (ds ++ [32])) := by
        rw [List.length_append, Lib.byteCells_append]; exact hown'
      have hT2 : Tb B0 w1 := HT.out.on (hB1.mono hB |>.trans (hB2.mono (by omega)))
      clear hown' hgrow hOK
      go_wp2_with fail
      refine (Tryd.strconv_AppendInt_10 (Bb + 1) _ x HX.out.1 (by have := HX.out; omega) v2 _ w1 ho2 (by have := hB2.size; omega) (by rw [List.length_append]; simp; omega) (hT2.up (by omega))).mono ?_; rintro e w3 ⟨v3, rfl, ho3, hb3, hk3⟩
      have hn3 : (ds ++ [32]).length + (Lib.itoa x).length = (ds ++ [32] ++ Lib.itoa x).length := List.length_append.symm
      obtain ⟨n3, hn4⟩ : ∃ n3, n3 = (ds ++ [32] ++ Lib.itoa x).length := ⟨_, rfl⟩
      rw [hn3, ← hn4] at ho3
      have HN4 := Lib.hid hn4
      clear hn3 hn4
      obtain ⟨a3, c3, rfl⟩ := own_shape ho3
      have hA3 : w3.heap[A]? = some (.cells (xs.map (Value.int .i64)).toArray 2 (0, 0)) := hk3 A _ hA2 (by simp) (fun c fz => by simp)
      have hbox3 : w3.heap[Bb]? = some (.cells #[v1] 37 (0, 0)) := (hb3.block Bb (by omega)).trans hbox2
      have e3 : w3.cell? ⟨Bb, 0, none⟩ = some v1 := by rw [cell_blk hbox3]; rfl
      have f3 := frz hbox3 0
      have hbl3 : Bb < w3.heap.size := (Array.getElem?_eq_some_iff.1 hbox3).1
      clear hA2 hbox2 ho2 e2 e1
      have fin : ∃ v', (w3.setCell ⟨Bb, 0, none⟩ (.slice a3 n3 c3)).heap[Bb]? = some (.cells #[v'] 37 (0, 0)) ∧ (w3.setCell ⟨Bb, 0, none⟩ (.slice a3 n3 c3)).ownsRow (Bb + 1) 5 1 v' (cs ++ nums (xs.take (k + 1))).length (Lib.byteCells (cs ++ nums (xs.take (k + 1)))) ∧ (w3.setCell ⟨Bb, 0, none⟩ (.slice a3 n3 c3)).heap[A]? = some (.cells (xs.map (Value.int .i64)).toArray 2 (0, 0)) ∧ Below Bb w (w3.setCell ⟨Bb, 0, none⟩ (.slice a3 n3 c3)) := by
        refine ⟨.slice a3 n3 c3, ?_, ?_, ?_, ?_⟩
        · rw [show (w3.setCell ⟨Bb, 0, none⟩ (.slice a3 n3 c3)).heap[Bb]? = some (.cells (#[v1].setIfInBounds 0 (.slice a3 n3 c3)) 37 (0, 0)) by simp [World.setCell, Array.getElem?_modify, hbox3]]; rfl
        · have hl3 : (cs ++ nums (xs.take (k + 1))) = ds ++ [32] ++ Lib.itoa x := by rw [HTS.out, HDS.out]; simp [num]
          rw [hl3, ← HN4.out, Lib.byteCells_append]
          refine ho3.kept (row := some Bb) ⟨rfl, rfl, rfl, by simp [World.setCell], fun j hj hne => Below.heap_setCell _ _ _ _ (fun e => hne (by rw [e]))⟩ ?_
          by_cases hn : (Value.slice a3 n3 c3).ownBlock = none
          · exact Or.inl hn
          · exact Or.inr (fun e => by have := (ho3.lt Bb e).1; omega)
        · rw [Below.heap_setCell _ _ _ _ hAB]; exact hA3
        · exact ((hB1.trans (hB2.mono (by omega))).trans (hb3.mono (by omega))).setCell (Nat.le_refl _) _
      have FIN := Lib.hid fin
      clear fin hA3 ho3 hk3 hb3 hB2 hT2 hB1
      go_wp2
      go_roundw
      case rel => exact ⟨k + 1, by omega, by go_num, FIN.out⟩
      case measure => simp [intOf]; omega
    · obtain rfl : k = xs.length := by omega
      have c1 : ¬ (xs.length : Int) < (xs.length : Int) := by omega
      rw [List.take_length] at ho1
      go_wp2
      exact bodyPost_end (results_none rfl _ _ _) rfl ⟨rfl, v1, hbox1, by first | exact ho1 | (rw [List.length_append] at ho1; exact ho1), hB1⟩
end Go.Proofs.YthaodmobcbccaaaDoor
