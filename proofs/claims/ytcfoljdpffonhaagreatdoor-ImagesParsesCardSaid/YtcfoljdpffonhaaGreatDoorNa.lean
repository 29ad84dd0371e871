/- A copy of bytes in memory of its own, with a mark behind it: walked. -/
import Derived.Test.YtcfoljdpffonhaaGreatDoorLd
set_option linter.unusedVariables false
set_option linter.unusedSimpArgs false
namespace Go.Proofs.YtcfoljdpffonhaaGreatDoor
open Go.RowKit Go.Joins Go.Shelf
attribute [local go_sem] Oper.semAt_some

theorem wpList_make_hp {P : Program} {w0 w : World} {ops : Array Oper} {rest : List Oper} {o : Oper} {a : Act} {Q : Exit → Act → World → Prop} (hgd : o.guard = none) (l c : Operand) (t : TypeId) (ho : o.op = Op.makeSlice t l c)
    (e : TypeId) (i : TypeInfo) (z : Value) (size bytes : Nat) (ht : P.underlying t = some (.slice e)) (hi : P.info? e = some i) (hz : i.zero = some z) (hsize : i.size = size) (hby : i.bytes = bytes)
    {r : List Thing} (H : Hp w0 w r) (kl kc : IntKind) (C : Int) (n : Nat) (hl : a.eval l = .int kl 0) (hc : a.eval c = .int kc C) (hC : C = (n : Int)) (hn : n ≤ 4000000) (hb : bytes ≤ 1000)
    (h : ∀ w', Hp w0 w' (Own e size (.slice (some ⟨w.heap.size, 0, none⟩) 0 n) 0 [] :: r) → wpList P ops Q rest (a.put o.dst (.slice (some ⟨w.heap.size, 0, none⟩) 0 n)) w') :
    wpList P ops Q (o :: rest) a w := by
  refine wpList_make_own w hgd l c t ho w.heap.size e i z size ht hi hz hsize kl kc C n hl hc hC ?_ (by unfold maxLen; omega) (Nat.le_refl _) ?_
  · rw [hby]
    have : bytes * n ≤ 1000 * 4000000 := Nat.mul_le_mul hb hn
    omega
  · intro w' h1 h2
    exact h w' (own_new H ((Tch.refl Nil w).grown h2 (fun k hk => by cases hk)) h1)
/-- Only the first ones of a row. -/
theorem own_cut {w0 w : World} {r : List Thing} {e : TypeId} {size n c : Nat} {g : Nat} {cs : List Value} (m : Nat) (hm : m ≤ n) (H : Hp w0 w (Own e size (.slice (some ⟨g, 0, none⟩) n c) n cs :: r)) : Hp w0 w (Own e size (.slice (some ⟨g, 0, none⟩) m c) m (cs.take (m * size)) :: r) := by
  obtain ⟨S, ⟨h1, rfl⟩, h2, h3⟩ := H.lay
  refine ⟨H.below, _, ⟨?_, rfl⟩, h2, h3⟩
  have hms : m * size ≤ n * size := Nat.mul_le_mul_right _ hm
  rcases h1 with ⟨h0, ⟨hq, _⟩ | ⟨g', cap, cur, hq, a1, a2, a3, a4, a5, a6⟩⟩
  · cases hq
  · injection hq with b1 b2 b3
    cases b1
    subst b3
    refine ⟨by rw [List.length_take, h0]; omega, Or.inr ⟨g, c, cur, rfl, a1, a2, by omega, a4, a5, ?_⟩⟩
    rw [← a6, List.take_take, Nat.min_eq_left hms]
abbrev OwnT (g cap : Nat) (xs : List UInt8) : Thing := Own 5 1 (.slice (some ⟨g, 0, none⟩) (xs.length + 1) cap) (xs.length + 1) (xs.map bv ++ [.int .u8 77])
theorem ownT_cut {w0 w : World} {r : List Thing} {g cap : Nat} {xs : List UInt8} (H : Hp w0 w (OwnT g cap xs :: r)) : Hp w0 w (OwnU (.slice (some ⟨g, 0, none⟩) xs.length cap) xs :: r) := by
  have := own_cut xs.length (Nat.le_succ _) H
  rw [Nat.mul_one, List.take_append_of_le_length (by simp), List.take_of_length_le (by simp)] at this
  exact this
theorem own_capn {w0 w : World} {r : List Thing} {e : TypeId} {size n c : Nat} {a : Option Addr} {cs : List Value} (H : Hp w0 w (Own e size (.slice a n c) n cs :: r)) : n ≤ c := by
  rcases (own_get H).2 with ⟨h1, h2⟩ | ⟨_, _, _, hq, _, _, hq2, _⟩
  · injection h1 with _ h4 h3; omega
  · injection hq with _ _ h3; omega
set_option maxHeartbeats 4000000 in
set_option maxRecDepth 20000 in
theorem twin_bytes (a : Option Addr) (c : Nat) (xs : List UInt8) (w : World) (hx : CellsIn w a (xs.map bv)) (hl : xs.length < 900000) :
    Calls Tryz.prog 18 #[.slice a xs.length c] w fun e w' => ∃ g cap, e = .returned (.slice (some ⟨g, 0, none⟩) xs.length cap) ∧ Hp w w' [OwnT g cap xs] := by
  have H0 := Lib.hid (Hp.start w)
  have HX := Lib.hid hx
  have HL := Lib.hid hl
  obtain ⟨i0, hi, hz0, hz1, hz2⟩ := info_parts info_u8
  have hw1 : IntKind.i64.wrap ((xs.length : Int) + 1) = (xs.length : Int) + 1 := by rw [IntKind.wrap_i64]; omega
  clear hx
  go_enter Tryz.func18, Tryz.ntmps18
  go_wp2_with (refine wpList_make_hp rfl _ (.tmp 7) 22 rfl 5 i0 _ 1 1 Tryz.underlying22 hi hz0 hz1 hz2 H0.out .i64 .i64 _ (xs.length + 1) rfl rfl (by omega) (by omega) (by omega) ?_; intro w1 H1'; have H1 := Lib.hid H1'; clear H1' H0)
  clear hw1 hl
  go_loopw [3, 4] (fun s3 s4 wr => ∃ k : Nat, k ≤ xs.length ∧ s4 = .int .i64 k ∧ Hid (Hp w wr [Own 5 1 s3 k ((xs.take k).map bv)])) (fun _ s4 _ => xs.length - (intOf s4).toNat)
  case atStart => exact ⟨0, Nat.zero_le _, rfl, H1⟩
  case round =>
    obtain ⟨k, hk, rfl, hH⟩ := hrel
    clear H1
    obtain ⟨a3, c3, rfl⟩ := own_slice hH.out
    by_cases hlt : k < xs.length
    · obtain ⟨g, o, rfl, c0⟩ := byte_cell (HX.out.hp hH.out) hlt
      have hkw : IntKind.i64.wrap ((k : Int) + 1) = (k : Int) + 1 := by rw [IntKind.wrap_i64]; have := HL.out; omega
      have hst := Lib.hid (show ((xs.take k).map bv ++ [bv xs[k]] : List Value) = (xs.take (k + 1)).map bv by rw [List.take_succ_eq_append_getElem hlt, List.map_append]; rfl)
      have HLT := Lib.hid hlt
      generalize xs[k] = x at *
      go_wp2_with (at_builtin; refine wpList_append_hp rfl (.tmp 15) (.tmp 20) 22 rfl 5 i0 _ 1 1 Tryz.underlying22 hi hz0 hz1 hz2 rfl (by decide) (hH.out.alloc _) rfl ⟨wr.heap.size, 0, none⟩ 1 1 [bv x] rfl rfl (cell_one_new _ _ _) (by simp [Value.oneCell', bv]) (by have := HLT.out; have := HL.out; omega) (by omega) ?_; intro v' w2 HA0)
      have HA : Hid (Hp w w2 [Own 5 1 v' (k + 1) ((xs.take (k + 1)).map bv)]) := Lib.hid (by rw [← hst.out]; exact HA0)
      obtain ⟨a4, c4, rfl⟩ := own_slice HA0
      clear HA0 hH c0
      go_wp2
      go_roundw
      case rel => exact ⟨k + 1, by have := HLT.out; omega, by go_num, HA⟩
      case measure => have := HLT.out; simp [intOf]; omega
    · obtain rfl : k = xs.length := by omega
      have hH2 : Hid (Hp w wr [Own 5 1 (.slice a3 xs.length c3) xs.length (xs.map bv)]) := Lib.hid (by have := hH.out; rwa [List.take_length] at this)
      clear hH
      go_wp2_with (at_builtin; refine wpList_append_hp rfl (.tmp 22) (.tmp 23) 22 rfl 5 i0 _ 1 1 Tryz.underlying22 hi hz0 hz1 hz2 rfl (by decide) (hH2.out.alloc _) rfl ⟨wr.heap.size, 0, none⟩ 1 1 [.int .u8 77] rfl rfl (cell_one_new _ _ _) (by simp [Value.oneCell']) (by have := HL.out; omega) (by omega) ?_; intro v' w2 HA0; obtain ⟨g, cap, rfl⟩ := Go.Joins.ownsRow_form (own_get HA0) (by omega); have hcap := own_capn HA0; have hc2 : (xs.length : Int) ≤ (cap : Int) := by omega)
      have HA := Lib.hid HA0
      clear HA0 hH2
      go_wp2
      go_ret
      exact ⟨g, cap, rfl, HA.out⟩
end Go.Proofs.YtcfoljdpffonhaaGreatDoor
