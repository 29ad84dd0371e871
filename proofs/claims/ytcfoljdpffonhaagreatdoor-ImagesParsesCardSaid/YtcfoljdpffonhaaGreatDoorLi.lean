/- Images: a row of bytes, walked. -/
import Derived.Test.YtcfoljdpffonhaaGreatDoorLh
import Derived.Test.YtcfoljdpffonhaaGreatDoorLs
set_option linter.unusedVariables false
set_option linter.unusedSimpArgs false
namespace Go.Proofs.YtcfoljdpffonhaaGreatDoor
open Go.RowKit Go.Joins Go.Shelf
attribute [local go_sem] Oper.semAt_some

theorem ba_at {s : List UInt8} {i : Nat} {c : UInt8} (h : s[i]? = some c) : (⟨s.toArray⟩ : ByteArray)[i]? = some c := by
  obtain ⟨hi, e⟩ := List.getElem?_eq_some_iff.1 h
  rw [getElem?_pos _ _ (by show i < s.toArray.size; simpa using hi)]
  show some (s.toArray[i]) = _
  simp [e]
theorem ba_get {s : List UInt8} {i : Nat} {c : UInt8} (h : s[i]? = some c) (hz : i < (⟨s.toArray⟩ : ByteArray).size) : (⟨s.toArray⟩ : ByteArray)[i] = c := by
  obtain ⟨hi, e⟩ := List.getElem?_eq_some_iff.1 h
  show s.toArray[i]'hz = c
  simp [e]
theorem byte_or : ∀ a ∈ hexd, ∀ b ∈ hexd, IntKind.u8.wrap (bits .or .i64 (IntKind.i64.wrap ((hx a : Int) * 16)) (hx b : Int)) = ((hb a b).toNat : Int) := by decide
theorem meas_two {n p : Nat} {v : Value} {x : Int} (hv : v = .int .i64 x) (hx : x = (p : Int) + 2) (h : p < n) : n - (intOf v).toNat < n - (intOf (.int .i64 (p : Int))).toNat := by
  subst hv; subst hx
  show n - ((p : Int) + 2).toNat < n - ((p : Int)).toNat
  omega
theorem take_two {s : List UInt8} {p : Nat} {a b : UInt8} (h1 : s[p]? = some a) (h2 : s[p + 1]? = some b) : s.take (p + 2) = s.take p ++ [a, b] := by
  obtain ⟨h3, rfl⟩ := List.getElem?_eq_some_iff.1 h1
  obtain ⟨h4, rfl⟩ := List.getElem?_eq_some_iff.1 h2
  rw [show p + 2 = (p + 1) + 1 from rfl, List.take_succ_eq_append_getElem h4, List.take_succ_eq_append_getElem h3, List.append_assoc]; rfl
theorem trim_c (s : List UInt8) (w : World) (hs : s.length < 4294967281) : Calls Tryz.prog 115 #[strv s, .string ⟨#[48, 49, 50, 51, 52, 53, 54, 55, 56, 57, 97, 98, 99, 100, 101, 102]⟩] w fun e w' => e = .returned (strv (Lib.trimS s hexd)) ∧ Below w.heap.size w w' :=
  Any.strings_Trim_laid Tryz.lays160 (by kernel_rfl) ⟨s.toArray⟩ ⟨#[48, 49, 50, 51, 52, 53, 54, 55, 56, 57, 97, 98, 99, 100, 101, 102]⟩ w (by simp [ByteArray.size]; omega) (by decide) (ascii_of_all (by decide))
theorem ixb_c (c : UInt8) (hc : c ∈ hexd) (w : World) : Calls Tryz.prog 116 #[.string ⟨#[48, 49, 50, 51, 52, 53, 54, 55, 56, 57, 97, 98, 99, 100, 101, 102]⟩, bv c] w fun e w' => e = .returned (.int .i64 (hx c)) ∧ w' = w := by
  have h := Tryz.strings_IndexByte ⟨hexd.toArray⟩ (c.toNat : Int) w
  refine h.mono ?_
  rintro e w' ⟨rfl, rfl⟩
  refine ⟨?_, rfl⟩
  have e : ((c.toNat : Int)).toNat.toUInt8 = c := by simp
  rw [e]
  show Ending.returned (.int .i64 (Lib.indexByte hexd c)) = _
  rw [(hx_index c hc).1]
set_option maxHeartbeats 16000000 in
set_option maxRecDepth 20000 in
theorem row2_c {w0 w : World} {r : List Thing} {pb rb : Nat} {n : Int} {dv cv : Value} {z : Bool} {d : List UInt8} (s : List UInt8) (hs : s.length < 4294967281) (hd : d.length + s.length < 100000000000) (H : Hp w0 w (OwnU dv d :: RD rb n dv cv z :: PB pb rb :: r)) :
    Calls Tryz.prog 114 #[strv s, .pointer (some ⟨pb, 0, none⟩)] w fun e w' => e = .returned (.bool (dok s)) ∧ ∃ dv', Hp w0 w' (OwnU dv' (if dok s then d ++ hbs s else d) :: RD rb n dv' cv z :: PB pb rb :: r) := by
  have HH := Lib.hid H
  have TR := Lib.hid (trim_c s w hs)
  have HT := Lib.hid (trimS_nil s hexd)
  have hdk : dok s = (!s.isEmpty && s.length % 2 == 0 && s.all (hexd.contains ·)) := rfl
  have HDK := Lib.hid hdk
  clear H hdk
  by_cases h0 : s = []
  · subst h0
    go_enter Tryz.func114, Tryz.ntmps114
    go_wp2_with fail
    go_ret
    exact ⟨rfl, _, HH.out⟩
  · by_cases h1 : s.length % 2 = 0
    · have g1 : (s == []) = false := by simpa using h0
      have g2 : (s.length : Int) % 2 = 0 := by omega
      have g3 : ¬ s.length = 0 := by intro h; exact h0 (List.eq_nil_of_length_eq_zero h)
      cases hall : s.all (hexd.contains ·) with
      | false =>
        have hf : dok s = false := by rw [HDK.out, hall]; simp
        rw [hf]
        have ht : ¬ Lib.trimS s hexd = [] := by rw [HT.out, hall]; simp
        generalize Lib.trimS s hexd = t at *
        have hq : (t == []) = false := by simpa using ht
        clear h1 hd hs ht HT HDK hf hall
        go_enter Tryz.func114, Tryz.ntmps114
        go_wp2_with fail
        refine TR.out.mono ?_; rintro e w1 ⟨rfl, hb1⟩
        have H1 := Lib.hid (HH.out.below_read hb1)
        clear hb1 TR HH
        go_wp2
        go_ret
        exact ⟨rfl, _, H1.out⟩
      | true =>
        have hf : dok s = true := by rw [HDK.out, hall]; simp [h0, h1]
        rw [hf]
        have ht : Lib.trimS s hexd = [] := by rw [HT.out, hall]
        rw [ht] at TR
        have HALL : Hid (∀ c ∈ s, c ∈ hexd) := Lib.hid (fun c hc => by simpa using List.all_eq_true.1 hall c hc)
        obtain ⟨i0, hi, hz0, hz1, hz2⟩ := info_parts info_u8
        have HE : Hid (s.length % 2 = 0 ∧ s.length < 4294967281 ∧ d.length + s.length < 100000000000) := Lib.hid ⟨h1, hs, hd⟩
        clear h1 hd hs ht HT HDK hf hall h0
        go_enter Tryz.func114, Tryz.ntmps114
        go_wp2_with fail
        refine TR.out.mono ?_; rintro e w1 ⟨rfl, hb1⟩
        have H1 := Lib.hid (HH.out.below_read hb1)
        clear hb1 TR HH
        go_wp2
        go_loopw [4] (fun s4 wr => ∃ (p : Nat) (dv' : Value) (ds : List UInt8), s4 = .int .i64 p ∧ p ≤ s.length ∧ Hid (p % 2 = 0 ∧ ds = d ++ hbs (s.take p)) ∧ Hid (Hp w0 wr (OwnU dv' ds :: RD rb n dv' cv z :: PB pb rb :: r))) (fun s4 _ => s.length - (intOf s4).toNat)
        case atStart => exact ⟨0, dv, d, rfl, Nat.zero_le _, Lib.hid ⟨rfl, by simp [hbs]⟩, H1⟩
        case round =>
          obtain ⟨p, dv', ds, rfl, hp, hN, hH⟩ := hrel
          clear H1 g1 g2 g3
          by_cases hlt : p < s.length
          · have hlt2 : p + 1 < s.length := by have := hN.out.1; have := HE.out.1; omega
            obtain ⟨a, ha⟩ : ∃ a, s[p]? = some a := ⟨_, List.getElem?_eq_getElem hlt⟩
            obtain ⟨b, hb'⟩ : ∃ b, s[p + 1]? = some b := ⟨_, List.getElem?_eq_getElem hlt2⟩
            have ma : a ∈ hexd := HALL.out a (List.mem_of_getElem? ha)
            have mb : b ∈ hexd := HALL.out b (List.mem_of_getElem? hb')
            have htk := take_two ha hb'
            have b0 := ba_at ha
            have b1 := ba_at hb'
            have q1 : IntKind.i64.wrap ((p : Int) + 1) = (p : Int) + 1 := by rw [IntKind.wrap_i64]; have := HE.out.2; omega
            have q2 : 0 ≤ (p : Int) + 1 := by omega
            have q4 : (p : Int) + 1 < (s.length : Int) := by omega
            have q3 : ((p : Int) + 1).toNat = p + 1 := by omega
            have hds : ds.length ≤ d.length + s.length := by have h1 := hbs_le (s.take p); rw [List.length_take] at h1; rw [hN.out.2, List.length_append]; omega
            have HDS := Lib.hid hds
            have HTK := Lib.hid htk
            have HBS : Hid (hbs (s.take (p + 2)) = hbs (s.take p) ++ [hb a b]) := Lib.hid (by rw [htk]; exact hbs_two _ a b (p / 2) (by rw [List.length_take]; have := hN.out.1; omega))
            have z0 : p < (⟨s.toArray⟩ : ByteArray).size := by simpa [ByteArray.size] using hlt
            have z1 : p + 1 < (⟨s.toArray⟩ : ByteArray).size := by simpa [ByteArray.size] using hlt2
            have y0 : (⟨s.toArray⟩ : ByteArray)[p] = a := ba_get ha z0
            have y1 : (⟨s.toArray⟩ : ByteArray)[p + 1] = b := ba_get hb' z1
            have IA := Lib.hid (ixb_c a ma)
            have IB := Lib.hid (ixb_c b mb)
            have vb := byte_or a ma b mb
            rw [← y0] at IA
            rw [← y1] at IB
            generalize hb a b = ab at *
            rw [← y0, ← y1] at vb
            clear y0 y1
            clear ha hb' htk hds
            obtain ⟨av, cp, rfl⟩ := own_slice hH.out
            have hown := own_get hH.out
            have br := blk_get (hH.out.pull 1 rfl)
            have bp := blk_get (hH.out.pull 2 rfl)
            have p0 : wr.cell? ⟨pb, 0, none⟩ = some (.pointer (some ⟨rb, 0, none⟩)) := cell_blk bp 0
            have r1 : wr.cell? ⟨rb, 1, none⟩ = some (.slice av ds.length cp) := cell_blk br 1
            have pa0 : ∀ o, (wr.alloc o).cell? ⟨pb, 0, none⟩ = some (.pointer (some ⟨rb, 0, none⟩)) := fun o => cell_alloc_l' o p0
            have ra1 : ∀ o, (wr.alloc o).cell? ⟨rb, 1, none⟩ = some (.slice av ds.length cp) := fun o => cell_alloc_l' o r1
            have pd0 : wr.drew.cell? ⟨pb, 0, none⟩ = some (.pointer (some ⟨rb, 0, none⟩)) := p0
            have rd1 : wr.drew.cell? ⟨rb, 1, none⟩ = some (.slice av ds.length cp) := r1
            clear br bp
            go_upto_region 6 with fail
            refine wp_region_S 23 (fun x => x.cell? ⟨pb, 0, none⟩ = some (.pointer (some ⟨rb, 0, none⟩)) ∧ x.cell? ⟨rb, 1, none⟩ = some (.slice av ds.length cp)) (by as_aux_lemma => kernel_rfl) ?_
            have hSS : (fun (x : World) => x.cell? ⟨pb, 0, none⟩ = some (.pointer (some ⟨rb, 0, none⟩)) ∧ x.cell? ⟨rb, 1, none⟩ = some (.slice av ds.length cp)) wr.drew := ⟨p0, r1⟩
            refine wpAnyS_take (i := 0) (by as_aux_lemma => kernel_rfl) (by as_aux_lemma => kernel_rfl) (by as_aux_lemma => kernel_rfl) (by as_aux_lemma => kernel_rfl) (by as_aux_lemma => kernel_rfl) (by as_aux_lemma => kernel_rfl) (by as_aux_lemma => kernel_rfl) (by as_aux_lemma => kernel_rfl) (by intro c a d v w h; cases d <;> exact h) hSS (fun oi hoi => ?_)
            simp only [List.getElem?_toArray, List.getElem?_cons_zero, List.getElem?_cons_succ, Option.some.injEq] at hoi; subst hoi
            refine ⟨?_, by rfl, fun wx hSx => ?_, ?_⟩
            rotate_left
            · obtain ⟨s1, s2⟩ := hSx
              go_simp
              try with_reducible rfl
            try simp only [Act.put, List.setIfInBounds_toArray, List.set_cons_zero, List.set_cons_succ]
            refine wpAnyS_take (i := 1) (by as_aux_lemma => kernel_rfl) (by as_aux_lemma => kernel_rfl) (by as_aux_lemma => kernel_rfl) (by as_aux_lemma => kernel_rfl) (by as_aux_lemma => kernel_rfl) (by as_aux_lemma => kernel_rfl) (by as_aux_lemma => kernel_rfl) (by as_aux_lemma => kernel_rfl) (by intro c a d v w h; cases d <;> exact h) hSS (fun oi hoi => ?_)
            simp only [List.getElem?_toArray, List.getElem?_cons_zero, List.getElem?_cons_succ, Option.some.injEq] at hoi; subst hoi
            refine ⟨?_, by rfl, fun wx hSx => ?_, ?_⟩
            rotate_left
            · obtain ⟨s1, s2⟩ := hSx
              go_simp
              try with_reducible rfl
            try simp only [Act.put, List.setIfInBounds_toArray, List.set_cons_zero, List.set_cons_succ]
            refine wpAnyS_take (i := 2) (by as_aux_lemma => kernel_rfl) (by as_aux_lemma => kernel_rfl) (by as_aux_lemma => kernel_rfl) (by as_aux_lemma => kernel_rfl) (by as_aux_lemma => kernel_rfl) (by as_aux_lemma => kernel_rfl) (by as_aux_lemma => kernel_rfl) (by as_aux_lemma => kernel_rfl) (by intro c a d v w h; cases d <;> exact h) hSS (fun oi hoi => ?_)
            simp only [List.getElem?_toArray, List.getElem?_cons_zero, List.getElem?_cons_succ, Option.some.injEq] at hoi; subst hoi
            refine ⟨?_, by rfl, fun wx hSx => ?_, ?_⟩
            rotate_left
            · obtain ⟨s1, s2⟩ := hSx
              go_simp
              try with_reducible rfl
            try simp only [Act.put, List.setIfInBounds_toArray, List.set_cons_zero, List.set_cons_succ]
            refine wpAnyS_take (i := 3) (by as_aux_lemma => kernel_rfl) (by as_aux_lemma => kernel_rfl) (by as_aux_lemma => kernel_rfl) (by as_aux_lemma => kernel_rfl) (by as_aux_lemma => kernel_rfl) (by as_aux_lemma => kernel_rfl) (by as_aux_lemma => kernel_rfl) (by as_aux_lemma => kernel_rfl) (by intro c a d v w h; cases d <;> exact h) hSS (fun oi hoi => ?_)
            simp only [List.getElem?_toArray, List.getElem?_cons_zero, List.getElem?_cons_succ, Option.some.injEq] at hoi; subst hoi
            refine ⟨?_, by rfl, fun wx hSx => ?_, ?_⟩
            rotate_left
            · obtain ⟨s1, s2⟩ := hSx
              go_simp
              try with_reducible rfl
            try simp only [Act.put, List.setIfInBounds_toArray, List.set_cons_zero, List.set_cons_succ]
            refine wpAnyS_take (i := 4) (by as_aux_lemma => kernel_rfl) (by as_aux_lemma => kernel_rfl) (by as_aux_lemma => kernel_rfl) (by as_aux_lemma => kernel_rfl) (by as_aux_lemma => kernel_rfl) (by as_aux_lemma => kernel_rfl) (by as_aux_lemma => kernel_rfl) (by as_aux_lemma => kernel_rfl) (by intro c a d v w h; cases d <;> exact h) hSS (fun oi hoi => ?_)
            simp only [List.getElem?_toArray, List.getElem?_cons_zero, List.getElem?_cons_succ, Option.some.injEq] at hoi; subst hoi
            refine ⟨?_, by rfl, fun wx hSx => ?_, ?_⟩
            rotate_left
            · obtain ⟨s1, s2⟩ := hSx
              go_simp
              try with_reducible rfl
            try simp only [Act.put, List.setIfInBounds_toArray, List.set_cons_zero, List.set_cons_succ]
            refine wpAnyS_take (i := 5) (by as_aux_lemma => kernel_rfl) (by as_aux_lemma => kernel_rfl) (by as_aux_lemma => kernel_rfl) (by as_aux_lemma => kernel_rfl) (by as_aux_lemma => kernel_rfl) (by as_aux_lemma => kernel_rfl) (by as_aux_lemma => kernel_rfl) (by as_aux_lemma => kernel_rfl) (by intro c a d v w h; cases d <;> exact h) hSS (fun oi hoi => ?_)
            simp only [List.getElem?_toArray, List.getElem?_cons_zero, List.getElem?_cons_succ, Option.some.injEq] at hoi; subst hoi
            refine ⟨?_, by rfl, fun wx hSx => ?_, ?_⟩
            rotate_left
            · obtain ⟨s1, s2⟩ := hSx
              go_simp
              try with_reducible rfl
            try simp only [Act.put, List.setIfInBounds_toArray, List.set_cons_zero, List.set_cons_succ]
            refine wpAnyS_take (i := 6) (by as_aux_lemma => kernel_rfl) (by as_aux_lemma => kernel_rfl) (by as_aux_lemma => kernel_rfl) (by as_aux_lemma => kernel_rfl) (by as_aux_lemma => kernel_rfl) (by as_aux_lemma => kernel_rfl) (by as_aux_lemma => kernel_rfl) (by as_aux_lemma => kernel_rfl) (by intro c a d v w h; cases d <;> exact h) hSS (fun oi hoi => ?_)
            simp only [List.getElem?_toArray, List.getElem?_cons_zero, List.getElem?_cons_succ, Option.some.injEq] at hoi; subst hoi
            refine ⟨?_, by rfl, fun wx hSx => ?_, ?_⟩
            rotate_left
            · obtain ⟨s1, s2⟩ := hSx
              go_simp
              try with_reducible rfl
            try simp only [Act.put, List.setIfInBounds_toArray, List.set_cons_zero, List.set_cons_succ]
            refine wpAnyS_take (i := 7) (by as_aux_lemma => kernel_rfl) (by as_aux_lemma => kernel_rfl) (by as_aux_lemma => kernel_rfl) (by as_aux_lemma => kernel_rfl) (by as_aux_lemma => kernel_rfl) (by as_aux_lemma => kernel_rfl) (by as_aux_lemma => kernel_rfl) (by as_aux_lemma => kernel_rfl) (by intro c a d v w h; cases d <;> exact h) hSS (fun oi hoi => ?_)
            simp only [List.getElem?_toArray, List.getElem?_cons_zero, List.getElem?_cons_succ, Option.some.injEq] at hoi; subst hoi
            refine ⟨?_, by rfl, fun wx hSx => ?_, ?_⟩
            rotate_left
            · obtain ⟨s1, s2⟩ := hSx
              go_simp
              try with_reducible rfl
            try simp only [Act.put, List.setIfInBounds_toArray, List.set_cons_zero, List.set_cons_succ]
            refine wpAnyS_take (i := 8) (by as_aux_lemma => kernel_rfl) (by as_aux_lemma => kernel_rfl) (by as_aux_lemma => kernel_rfl) (by as_aux_lemma => kernel_rfl) (by as_aux_lemma => kernel_rfl) (by as_aux_lemma => kernel_rfl) (by as_aux_lemma => kernel_rfl) (by as_aux_lemma => kernel_rfl) (by intro c a d v w h; cases d <;> exact h) hSS (fun oi hoi => ?_)
            simp only [List.getElem?_toArray, List.getElem?_cons_zero, List.getElem?_cons_succ, Option.some.injEq] at hoi; subst hoi
            refine ⟨?_, by rfl, fun wx hSx => ?_, ?_⟩
            rotate_left
            · obtain ⟨s1, s2⟩ := hSx
              go_simp
              try with_reducible rfl
            try simp only [Act.put, List.setIfInBounds_toArray, List.set_cons_zero, List.set_cons_succ]
            refine wpAnyS_take (i := 11) (by as_aux_lemma => kernel_rfl) (by as_aux_lemma => kernel_rfl) (by as_aux_lemma => kernel_rfl) (by as_aux_lemma => kernel_rfl) (by as_aux_lemma => kernel_rfl) (by as_aux_lemma => kernel_rfl) (by as_aux_lemma => kernel_rfl) (by as_aux_lemma => kernel_rfl) (by intro c a d v w h; cases d <;> exact h) hSS (fun oi hoi => ?_)
            simp only [List.getElem?_toArray, List.getElem?_cons_zero, List.getElem?_cons_succ, Option.some.injEq] at hoi; subst hoi
            refine ⟨?_, by rfl, fun wx hSx => ?_, ?_⟩
            rotate_left
            · obtain ⟨s1, s2⟩ := hSx
              go_simp
              try with_reducible rfl
            try simp only [Act.put, List.setIfInBounds_toArray, List.set_cons_zero, List.set_cons_succ]
            refine wpAnyS_take (i := 12) (by as_aux_lemma => kernel_rfl) (by as_aux_lemma => kernel_rfl) (by as_aux_lemma => kernel_rfl) (by as_aux_lemma => kernel_rfl) (by as_aux_lemma => kernel_rfl) (by as_aux_lemma => kernel_rfl) (by as_aux_lemma => kernel_rfl) (by as_aux_lemma => kernel_rfl) (by intro c a d v w h; cases d <;> exact h) hSS (fun oi hoi => ?_)
            simp only [List.getElem?_toArray, List.getElem?_cons_zero, List.getElem?_cons_succ, Option.some.injEq] at hoi; subst hoi
            refine ⟨?_, by rfl, fun wx hSx => ?_, ?_⟩
            rotate_left
            · obtain ⟨s1, s2⟩ := hSx
              go_simp
              try with_reducible rfl
            try simp only [Act.put, List.setIfInBounds_toArray, List.set_cons_zero, List.set_cons_succ]
            refine wpAnyS_take (i := 13) (by as_aux_lemma => kernel_rfl) (by as_aux_lemma => kernel_rfl) (by as_aux_lemma => kernel_rfl) (by as_aux_lemma => kernel_rfl) (by as_aux_lemma => kernel_rfl) (by as_aux_lemma => kernel_rfl) (by as_aux_lemma => kernel_rfl) (by as_aux_lemma => kernel_rfl) (by intro c a d v w h; cases d <;> exact h) hSS (fun oi hoi => ?_)
            simp only [List.getElem?_toArray, List.getElem?_cons_zero, List.getElem?_cons_succ, Option.some.injEq] at hoi; subst hoi
            refine ⟨?_, by rfl, fun wx hSx => ?_, ?_⟩
            rotate_left
            · obtain ⟨s1, s2⟩ := hSx
              go_simp
              try with_reducible rfl
            try simp only [Act.put, List.setIfInBounds_toArray, List.set_cons_zero, List.set_cons_succ]
            refine wpAnyS_take (i := 14) (by as_aux_lemma => kernel_rfl) (by as_aux_lemma => kernel_rfl) (by as_aux_lemma => kernel_rfl) (by as_aux_lemma => kernel_rfl) (by as_aux_lemma => kernel_rfl) (by as_aux_lemma => kernel_rfl) (by as_aux_lemma => kernel_rfl) (by as_aux_lemma => kernel_rfl) (by intro c a d v w h; cases d <;> exact h) hSS (fun oi hoi => ?_)
            simp only [List.getElem?_toArray, List.getElem?_cons_zero, List.getElem?_cons_succ, Option.some.injEq] at hoi; subst hoi
            refine ⟨?_, by rfl, fun wx hSx => ?_, ?_⟩
            rotate_left
            · obtain ⟨s1, s2⟩ := hSx
              go_simp
              try with_reducible rfl
            try simp only [Act.put, List.setIfInBounds_toArray, List.set_cons_zero, List.set_cons_succ]
            refine wpAnyS_one (i := 9) (by as_aux_lemma => kernel_rfl) ?_
            intro oi hoi K hK
            simp only [List.getElem?_toArray, List.getElem?_cons_zero, List.getElem?_cons_succ, Option.some.injEq] at hoi; subst hoi
            go_simp
            go_at_call 116
            refine (IA.out _).mono ?_; rintro e wz ⟨rfl, rfl⟩
            refine hK.out _ _ (fun _ => hSS) ?_
            clear hK K
            try simp only [Act.put, List.setIfInBounds_toArray, List.set_cons_zero, List.set_cons_succ]
            refine wpAnyS_take (i := 10) (by as_aux_lemma => kernel_rfl) (by as_aux_lemma => kernel_rfl) (by as_aux_lemma => kernel_rfl) (by as_aux_lemma => kernel_rfl) (by as_aux_lemma => kernel_rfl) (by as_aux_lemma => kernel_rfl) (by as_aux_lemma => kernel_rfl) (by as_aux_lemma => kernel_rfl) (by intro c a d v w h; cases d <;> exact h) hSS (fun oi hoi => ?_)
            simp only [List.getElem?_toArray, List.getElem?_cons_zero, List.getElem?_cons_succ, Option.some.injEq] at hoi; subst hoi
            refine ⟨?_, by rfl, fun wx hSx => ?_, ?_⟩
            rotate_left
            · obtain ⟨s1, s2⟩ := hSx
              go_simp
              try with_reducible rfl
            try simp only [Act.put, List.setIfInBounds_toArray, List.set_cons_zero, List.set_cons_succ]
            refine wpAnyS_one (i := 15) (by as_aux_lemma => kernel_rfl) ?_
            intro oi hoi K hK
            simp only [List.getElem?_toArray, List.getElem?_cons_zero, List.getElem?_cons_succ, Option.some.injEq] at hoi; subst hoi
            go_simp
            go_at_call 116
            refine (IB.out _).mono ?_; rintro e wz ⟨rfl, rfl⟩
            refine hK.out _ _ (fun _ => hSS) ?_
            clear hK K
            try simp only [Act.put, List.setIfInBounds_toArray, List.set_cons_zero, List.set_cons_succ]
            refine wpAnyS_take (i := 16) (by as_aux_lemma => kernel_rfl) (by as_aux_lemma => kernel_rfl) (by as_aux_lemma => kernel_rfl) (by as_aux_lemma => kernel_rfl) (by as_aux_lemma => kernel_rfl) (by as_aux_lemma => kernel_rfl) (by as_aux_lemma => kernel_rfl) (by as_aux_lemma => kernel_rfl) (by intro c a d v w h; cases d <;> exact h) hSS (fun oi hoi => ?_)
            simp only [List.getElem?_toArray, List.getElem?_cons_zero, List.getElem?_cons_succ, Option.some.injEq] at hoi; subst hoi
            refine ⟨?_, by rfl, fun wx hSx => ?_, ?_⟩
            rotate_left
            · obtain ⟨s1, s2⟩ := hSx
              go_simp
              try with_reducible rfl
            try simp only [Act.put, List.setIfInBounds_toArray, List.set_cons_zero, List.set_cons_succ]
            refine wpAnyS_take (i := 17) (by as_aux_lemma => kernel_rfl) (by as_aux_lemma => kernel_rfl) (by as_aux_lemma => kernel_rfl) (by as_aux_lemma => kernel_rfl) (by as_aux_lemma => kernel_rfl) (by as_aux_lemma => kernel_rfl) (by as_aux_lemma => kernel_rfl) (by as_aux_lemma => kernel_rfl) (by intro c a d v w h; cases d <;> exact h) hSS (fun oi hoi => ?_)
            simp only [List.getElem?_toArray, List.getElem?_cons_zero, List.getElem?_cons_succ, Option.some.injEq] at hoi; subst hoi
            refine ⟨?_, by rfl, fun wx hSx => ?_, ?_⟩
            rotate_left
            · obtain ⟨s1, s2⟩ := hSx
              go_simp
              try with_reducible rfl
            try simp only [Act.put, List.setIfInBounds_toArray, List.set_cons_zero, List.set_cons_succ]
            refine wpAnyS_one (i := 18) (by as_aux_lemma => kernel_rfl) ?_
            intro oi hoi K hK
            simp only [List.getElem?_toArray, List.getElem?_cons_zero, List.getElem?_cons_succ, Option.some.injEq] at hoi; subst hoi
            go_simp
            refine hK.out _ _ (fun _ => ⟨cell_alloc_l' _ p0, cell_alloc_l' _ r1⟩) ?_
            clear hK K
            try simp only [Act.put, List.setIfInBounds_toArray, List.set_cons_zero, List.set_cons_succ]
            refine wpAnyS_one (i := 19) (by as_aux_lemma => kernel_rfl) ?_
            intro oi hoi K hK
            simp only [List.getElem?_toArray, List.getElem?_cons_zero, List.getElem?_cons_succ, Option.some.injEq] at hoi; subst hoi
            refine step_append_lies _ (by rfl) _ _ _ (by rfl) 0 5 i0 _ 1 1 Tryz.underlying22 hi hz0 hz1 hz2 rfl (by omega) (.slice av ds.length cp) ds.length (ds.map bv) (by rfl) (hown.drew.alloc _) ⟨wr.heap.size, 0, none⟩ 1 1 [bv ab] (by rfl) (by rfl) (World.news_of_block (cs := #[bv ab]) (t := 5) (fr := (0, 0)) (blk_alloc_new _ _)) (by simp [Value.oneCell', bv]) (by omega) (by have := HDS.out; have := HE.out; unfold maxLen; omega) (by have := HDS.out; have := HE.out; omega) (by omega) _ rfl ?_
            intro g cap w2 hown2 hgrow hat hlt9
            have HB := own_turn (hH.out.drew.alloc _) hgrow hown2 (hat.elim (fun h => Or.inl h.symm) (fun h => Or.inr (by rw [h]; rfl)))
            have r2 : w2.cell? ⟨rb, 1, none⟩ = some (.slice av ds.length cp) := cell_blk (blk_get (HB.pull 1 rfl)) 1
            have f1 := free_blk (blk_get (HB.pull 1 rfl)) 1
            have hSS : (fun (x : World) => x.cell? ⟨pb, 0, none⟩ = some (.pointer (some ⟨rb, 0, none⟩)) ∧ x.cell? ⟨rb, 1, none⟩ = some (.slice av ds.length cp)) w2 := ⟨cell_blk (blk_get (HB.pull 2 rfl)) 0, r2⟩
            refine hK.out _ _ (fun _ => hSS) ?_
            replace HB := Lib.hid HB
            clear hK K hown2 hgrow hat hlt9
            try simp only [Act.put, List.setIfInBounds_toArray, List.set_cons_zero, List.set_cons_succ]
            refine wpAnyS_take (i := 20) (by as_aux_lemma => kernel_rfl) (by as_aux_lemma => kernel_rfl) (by as_aux_lemma => kernel_rfl) (by as_aux_lemma => kernel_rfl) (by as_aux_lemma => kernel_rfl) (by as_aux_lemma => kernel_rfl) (by as_aux_lemma => kernel_rfl) (by as_aux_lemma => kernel_rfl) (by intro c a d v w h; cases d <;> exact h) hSS (fun oi hoi => ?_)
            simp only [List.getElem?_toArray, List.getElem?_cons_zero, List.getElem?_cons_succ, Option.some.injEq] at hoi; subst hoi
            refine ⟨?_, by rfl, fun wx hSx => ?_, ?_⟩
            rotate_left
            · obtain ⟨s1, s2⟩ := hSx
              go_simp
              try with_reducible rfl
            try simp only [Act.put, List.setIfInBounds_toArray, List.set_cons_zero, List.set_cons_succ]
            refine wpAnyS_take (i := 21) (by as_aux_lemma => kernel_rfl) (by as_aux_lemma => kernel_rfl) (by as_aux_lemma => kernel_rfl) (by as_aux_lemma => kernel_rfl) (by as_aux_lemma => kernel_rfl) (by as_aux_lemma => kernel_rfl) (by as_aux_lemma => kernel_rfl) (by as_aux_lemma => kernel_rfl) (by intro c a d v w h; cases d <;> exact h) hSS (fun oi hoi => ?_)
            simp only [List.getElem?_toArray, List.getElem?_cons_zero, List.getElem?_cons_succ, Option.some.injEq] at hoi; subst hoi
            refine ⟨?_, by rfl, fun wx hSx => ?_, ?_⟩
            rotate_left
            · obtain ⟨s1, s2⟩ := hSx
              go_simp
              try with_reducible rfl
            try simp only [Act.put, List.setIfInBounds_toArray, List.set_cons_zero, List.set_cons_succ]
            refine wpAnyS_take (i := 22) (by as_aux_lemma => kernel_rfl) (by as_aux_lemma => kernel_rfl) (by as_aux_lemma => kernel_rfl) (by as_aux_lemma => kernel_rfl) (by as_aux_lemma => kernel_rfl) (by as_aux_lemma => kernel_rfl) (by as_aux_lemma => kernel_rfl) (by as_aux_lemma => kernel_rfl) (by intro c a d v w h; cases d <;> exact h) hSS (fun oi hoi => ?_)
            simp only [List.getElem?_toArray, List.getElem?_cons_zero, List.getElem?_cons_succ, Option.some.injEq] at hoi; subst hoi
            refine ⟨?_, by rfl, fun wx hSx => ?_, ?_⟩
            rotate_left
            · obtain ⟨s1, s2⟩ := hSx
              go_simp
              try with_reducible rfl
            try simp only [Act.put, List.setIfInBounds_toArray, List.set_cons_zero, List.set_cons_succ]
            refine wpAnyS_one (i := 23) (by as_aux_lemma => kernel_rfl) ?_
            intro oi hoi K hK
            simp only [List.getElem?_toArray, List.getElem?_cons_zero, List.getElem?_cons_succ, Option.some.injEq] at hoi; subst hoi
            go_simp
            refine hK.out _ _ (fun h => absurd h (by decide)) ?_
            clear hK K
            try simp only [Act.put, List.setIfInBounds_toArray, List.set_cons_zero, List.set_cons_succ]
            refine wpAnyS_done (by as_aux_lemma => kernel_rfl) ?_ _
            have HC := blk_set (HB.out.pull 1 rfl) 1 (.slice (some ⟨g, 0, none⟩) (ds.length + 1) cap)
            have HD : Hid (Hp w0 _ (OwnU (.slice (some ⟨g, 0, none⟩) (ds.length + 1) cap) (ds ++ [ab]) :: RD rb n (.slice (some ⟨g, 0, none⟩) (ds.length + 1) cap) cv z :: PB pb rb :: r)) := Lib.hid (ou_snoc (ys := [ab]) (HC.pull 1 rfl) rfl rfl)
            clear HC HB p0 r1 r2 f1 b0 b1 IA IB hown pa0 ra1 pd0 rd1
            have q5 : wrap64 ((p : Int) + 2) = (p : Int) + 2 := by have := HE.out.2; unfold wrap64; omega
            go_wp2
            go_roundw
            case rel => exact ⟨p + 2, _, _, by simp [q5], by omega, Lib.hid ⟨by have := hN.out.1; omega, by rw [HBS.out, ← List.append_assoc, ← hN.out.2]⟩, HD⟩
            case measure => exact meas_two rfl q5 hlt
          · obtain rfl : p = s.length := by omega
            go_wp2
            go_ret
            exact ⟨rfl, _, by have := hH.out; rw [hN.out.2, List.take_length] at this; exact this⟩
    · have hf : dok s = false := by rw [HDK.out]; simp [h1]
      rw [hf]
      have g1 : (s == []) = false := by simpa using h0
      have g2 : (s.length : Int) % 2 = 1 := by omega
      have g3 : ¬ s.length = 0 := by intro h; exact h0 (List.eq_nil_of_length_eq_zero h)
      clear h1 hd hs
      go_enter Tryz.func114, Tryz.ntmps114
      go_wp2_with fail
      go_ret
      exact ⟨rfl, _, HH.out⟩
end Go.Proofs.YtcfoljdpffonhaaGreatDoor
