/- Images: Parse, walked. -/
import Derived.Test.YtcfoljdpffonhaaGreatDoorLk
set_option linter.unusedVariables false
set_option linter.unusedSimpArgs false
namespace Go.Proofs.YtcfoljdpffonhaaGreatDoor
open Go.RowKit Go.Joins Go.Shelf
attribute [local go_sem] Oper.semAt_some

theorem results_cell_tmp2 {P : Program} {fn : Func} {p u v : Tmp} {ty : TypeId} (h : fn.results = #[.cell p ty, .tmp u, .tmp v]) (tmps : Array Value) (w : World) :
    (results fn tmps).run P w =
      ((asAddr (tmps.getD p undef)).run P w).andThen fun a w₁ => ((loadVar ty a).run P w₁).andThen fun x w₂ => .ok (.tuple #[x, tmps.getD u undef, tmps.getD v undef]) w₂ := by
  simp only [results, h]
  simp [Sem.run_bind, Result.andThen]
theorem results_cell_tmp2_row {P : Program} {fn : Func} {p u v : Tmp} {ty : TypeId} (h : fn.results = #[.cell p ty, .tmp u, .tmp v]) (tmps : Array Value) (w : World) (g : Nat) (t : TypeId) (cs : Array Value) (fr : Nat × Nat) (d : TypeDesc)
    (hp : tmps.getD p undef = .pointer (some ⟨g, 0, none⟩)) (hg : w.heap[g]? = some (.cells cs t fr))
    (hu : P.underlying ty = some d) (hd : (match d with | .struct _ | .array _ _ => true | _ => false) = true) (hi : (P.info? ty).map (·.size) = some cs.size) :
    (results fn tmps).run P w = .ok (.tuple #[.agg cs, tmps.getD u undef, tmps.getD v undef]) w := by
  rw [results_cell_tmp2 h, hp]
  simp [asAddr, Result.andThen, run_loadVar_row w g t ty cs fr d hg hu hd hi]
/-- What Parse tells. -/
def ParsePost (w0 : World) (r : List Thing) (q : Rs ⊕ Nat) (e : Ending) (w' : World) : Prop :=
  match q with
  | .inl t => if imck t.n t.d t.c then ∃ dv cv, e = .returned (.tuple #[.agg #[.int .i64 t.n, dv, cv], .int .i64 0, .int .i64 0]) ∧ Hp w0 w' (OwnU dv t.d :: OwnN cv t.c :: r)
    else e = .returned (.tuple #[.agg zI, .int .i64 0, .int .i64 1]) ∧ Hp w0 w' r
  | .inr i => e = .returned (.tuple #[.agg zI, .int .i64 (i : Int), .int .i64 14]) ∧ Hp w0 w' r
theorem parse_none {w0 w' : World} {r : List Thing} {q : Rs ⊕ Nat} {i : Nat} (h : q = .inr i) (H : Hp w0 w' r) : ParsePost w0 r q (.returned (.tuple #[.agg #[.int .i64 0, .slice none 0 0, .slice none 0 0], .int .i64 (i : Int), .int .i64 14])) w' := by subst h; exact ⟨rfl, H⟩
theorem parse_not {w0 w' : World} {r : List Thing} {q : Rs ⊕ Nat} {t : Rs} (h : q = .inl t) (hk : imck t.n t.d t.c = false) (H : Hp w0 w' r) : ParsePost w0 r q (.returned (.tuple #[.agg #[.int .i64 0, .slice none 0 0, .slice none 0 0], .int .i64 0, .int .i64 1])) w' := by
  subst h
  show (if imck t.n t.d t.c = true then _ else _)
  rw [if_neg (by rw [hk]; simp)]; exact ⟨rfl, H⟩
theorem parse_some {w0 w' : World} {r : List Thing} {q : Rs ⊕ Nat} {t : Rs} {dv cv : Value} (h : q = .inl t) (hk : imck t.n t.d t.c = true) (H : Hp w0 w' (OwnU dv t.d :: OwnN cv t.c :: r)) : ParsePost w0 r q (.returned (.tuple #[.agg #[.int .i64 t.n, dv, cv], .int .i64 0, .int .i64 0])) w' := by
  subst h
  show (if imck t.n t.d t.c = true then _ else _)
  rw [if_pos hk]; exact ⟨_, _, rfl, H⟩
theorem parseL_step {t : Rs} {ls : List (List UInt8)} {k : Nat} {l : List UInt8} {q : Rs ⊕ Nat} (hl : ls[k]? = some l) (h : parseL t (ls.drop k) k = q) :
    (skip l = true → parseL t (ls.drop (k + 1)) (k + 1) = q) ∧ (skip l = false → (lineP t l).2 = true → parseL (lineP t l).1 (ls.drop (k + 1)) (k + 1) = q) ∧ (skip l = false → (lineP t l).2 = false → q = .inr k) := by
  obtain ⟨hk, e⟩ := List.getElem?_eq_some_iff.1 hl
  rw [List.drop_eq_getElem_cons hk, e, parseL] at h
  refine ⟨fun h1 => by rw [if_pos h1] at h; exact h, fun h1 h2 => by rw [if_neg (by simp [h1]), if_pos h2] at h; exact h, fun h1 h2 => by rw [if_neg (by simp [h1]), if_neg (by simp [h2])] at h; exact h.symm⟩
theorem sum_at {ls : List (List UInt8)} {k : Nat} {l : List UInt8} (hl : ls[k]? = some l) : ((ls.drop k).map List.length).sum = l.length + ((ls.drop (k + 1)).map List.length).sum := by
  obtain ⟨hk, e⟩ := List.getElem?_eq_some_iff.1 hl
  rw [List.drop_eq_getElem_cons hk, e]; simp
theorem meas_one {n p : Nat} {v : Value} {x : Int} (hv : v = .int .i64 x) (hx : x = (p : Int) + 1) (h : p < n) : n - (intOf v).toNat < n - (intOf (.int .i64 (p : Int))).toNat := by
  subst hv; subst hx
  show n - ((p : Int) + 1).toNat < n - ((p : Int)).toNat
  omega
abbrev zR : Array Value := #[.int .i64 0, .slice none 0 0, .slice none 0 0, .bool false]
set_option maxHeartbeats 16000000 in
set_option maxRecDepth 20000 in
theorem imparse_c {w0 w : World} {r : List Thing} (L : Lf w0) (s : List UInt8) (hs : s.length < 4294967281) (H : Hp w0 w r) :
    Calls Tryz.prog 23 #[strv s] w (ParsePost w0 r (parseL rs0 (lns s) 0)) := by
  have H1 := Lib.hid (own_nil (own_nil (blk_new_at (blk_new H (.cells zI 25)) (.cells zR 77) (w.heap.size + 1) (size_alloc1 _ _)) 61 4) 5 1)
  have LC := Lib.hid (lines_c L s hs H1.out)
  have hsum := lns_sum s
  have hlen := lns_len s
  generalize hq : parseL rs0 (lns s) 0 = q
  generalize lns s = ls at *
  have HQ0 : Hid (parseL rs0 (ls.drop 0) 0 = q) := Lib.hid hq
  have HSM : Hid ((ls.map List.length).sum ≤ s.length ∧ ls.length ≤ s.length + 1 ∧ s.length < 4294967281) := Lib.hid ⟨hsum.1, hsum.2, hs⟩
  have HLN : Hid (∀ (k : Nat) (l : List UInt8), ls[k]? = some l → l.length < 4294967281) := Lib.hid (fun k l h => by have := hlen l (List.mem_of_getElem? h); omega)
  clear H hq hsum hlen hs
  go_enter Tryz.func23, Tryz.ntmps23
  go_wp2_with fail
  refine LC.out.mono ?_; rintro e w1 ⟨B, rfl, H2⟩
  have H2' : Hid (Hp w0 w1 (OwnU (.slice none 0 0) rs0.d :: OwnN (.slice none 0 0) rs0.c :: RdT (w.heap.size + 1) rs0 (.slice none 0 0) (.slice none 0 0) :: Blk B (.cells (ls.map strv).toArray 9 (0, 0)) :: Blk w.heap.size (.cells zI 25 (0, 0)) :: r)) := Lib.hid (((H2.pull 3 rfl).pull 3 rfl).pull 3 rfl)
  clear LC H2 H1
  go_wp2
  generalize w.heap.size = xb at *
  go_loopw [13] (fun s13 wr => ∃ (k : Nat) (t : Rs) (dv cv : Value), s13 = .int .i64 k ∧ k ≤ ls.length ∧ Hid (parseL t (ls.drop k) k = q ∧ t.d.length + ((ls.drop k).map List.length).sum ≤ s.length ∧ t.c.length ≤ k) ∧ Hid (Hp w0 wr (OwnU dv t.d :: OwnN cv t.c :: RdT (xb + 1) t dv cv :: Blk B (.cells (ls.map strv).toArray 9 (0, 0)) :: Blk xb (.cells zI 25 (0, 0)) :: r))) (fun s13 _ => ls.length - (intOf s13).toNat)
  case atStart => exact ⟨0, rs0, _, _, rfl, Nat.zero_le _, Lib.hid ⟨HQ0.out, by have := HSM.out.1; simpa [rs0] using this, Nat.le_refl _⟩, H2'⟩
  case round =>
    obtain ⟨k, t, dv, cv, rfl, hk, hN, hH⟩ := hrel
    clear H2' HQ0
    by_cases hlt : k < ls.length
    · obtain ⟨l, hl⟩ : ∃ l, ls[k]? = some l := ⟨_, List.getElem?_eq_getElem hlt⟩
      obtain ⟨hs1, hs2, hs3⟩ := parseL_step hl hN.out.1
      have HS1 := Lib.hid hs1
      have HS2 := Lib.hid hs2
      have HS3 := Lib.hid hs3
      have HSU := Lib.hid (sum_at hl)
      have HLL := Lib.hid (HLN.out k l hl)
      have b0 : wr.cell? ⟨B, k, none⟩ = some (strv l) := by rw [cell_blk (blk_get (hH.out.pull 3 rfl)) k]; simp [hl]
      have q1 : wrap64 ((k : Int) + 1) = (k : Int) + 1 := by have := HSM.out.2; unfold wrap64; omega
      have q2 : (k : Int) < (ls.length : Int) := by omega
      clear hs1 hs2 hs3 hl
      match l with
      | [] =>
        go_wp2
        go_roundw
        case rel => exact ⟨k + 1, t, dv, cv, by simp [q1], by omega, Lib.hid ⟨HS1.out (by unfold skip; simp), by have := HSU.out; have := hN.out.2.1; omega, by have := hN.out.2.2; omega⟩, hH⟩
        case measure => exact meas_one rfl q1 hlt
      | c :: l =>
        by_cases hc : c = 35
        · subst hc
          go_wp2
          go_roundw
          case rel => exact ⟨k + 1, t, dv, cv, by simp [q1], by omega, Lib.hid ⟨HS1.out (by unfold skip; simp), by have := HSU.out; have := hN.out.2.1; omega, by have := hN.out.2.2; omega⟩, hH⟩
          case measure => exact meas_one rfl q1 hlt
        · have c1 : ¬ ((c.toNat : Int) = 35) := by intro h; apply hc; exact UInt8.toNat_inj.1 (show c.toNat = 35 by omega)
          have c2 : ((c.toNat : Int) != 35) = true := by simpa using c1
          have hsk : skip (c :: l) = false := by unfold skip; simpa using hc
          have HL := Lib.hid (line_c L (c :: l) HLL.out (by have := HSU.out; have := hN.out.2.1; have := HSM.out.2; omega) (by have := hN.out.2.2; have := HSM.out.2; omega) hH.out)
          have HLE := Lib.hid (lineP_len t (c :: l))
          have HS4 : Hid ((lineP t (c :: l)).2 = true → parseL (lineP t (c :: l)).1 (ls.drop (k + 1)) (k + 1) = q) := Lib.hid (HS2.out hsk)
          have HS5 : Hid ((lineP t (c :: l)).2 = false → q = .inr k) := Lib.hid (HS3.out hsk)
          generalize lineP t (c :: l) = lp at *
          obtain ⟨t2, ok⟩ := lp
          clear HS1 HS2 HS3 hsk hc
          go_wp2_with fail
          refine HL.out.mono ?_; rintro e w2 ⟨dv', cv', rfl, H3⟩
          have H4 := Lib.hid H3
          clear HL H3 b0
          simp only at H4 HLE HS4 HS5
          cases ok with
          | true =>
            have hp2 := Lib.hid (HS4.out rfl)
            clear HS4 HS5
            go_wp2
            go_roundw
            case rel => exact ⟨k + 1, t2, dv', cv', by simp [q1], by omega, Lib.hid ⟨hp2.out, by have := HSU.out; have := hN.out.2.1; have := HLE.out.1; omega, by have := HLE.out.2; have := hN.out.2.2; omega⟩, H4⟩
            case measure => exact meas_one rfl q1 hlt
          | false =>
            have hqi := Lib.hid (HS5.out rfl)
            have bz := blk_get (H4.out.pull 4 rfl)
            have z0 : w2.cell? ⟨xb, 0, none⟩ = some (.int .i64 0) := cell_blk bz 0
            have e0 := free_blk bz 0
            have z1 : w2.cell? ⟨xb, 1, none⟩ = some (.slice none 0 0) := cell_blk bz 1
            have e1 := free_blk bz 1
            have z2 : w2.cell? ⟨xb, 2, none⟩ = some (.slice none 0 0) := cell_blk bz 2
            have e2 := free_blk bz 2
            have H5 := Lib.hid (set3 (H4.out.pull 4 rfl) (.int .i64 0) (.slice none 0 0) (.slice none 0 0))
            clear bz H4
            go_wp2
            refine bodyPost_ret (results_cell_tmp2_row rfl _ _ xb _ _ _ _ rfl (blk_get H5.out) Tryz.underlying25 rfl im_info) rfl ?_
            exact parse_none hqi.out H5.out.tail.tail.tail.tail.tail
    · obtain rfl : k = ls.length := by omega
      have hq : q = .inl t := by have := hN.out.1; rw [List.drop_length] at this; exact this.symm
      obtain ⟨ad, dc, rfl⟩ := own_slice hH.out
      obtain ⟨ac, cc, rfl⟩ := own_slice hH.out.tail
      have IC := Lib.hid (imcheck_c t.n ad ac dc cc t.d t.c wr (CellsIn.own hH.out.tail))
      have HQ := Lib.hid hq
      have bq := blk_get (hH.out.pull 2 rfl)
      have s0 : wr.cell? ⟨xb + 1, 0, none⟩ = some (.int .i64 t.n) := cell_blk bq 0
      have s1 : wr.cell? ⟨xb + 1, 1, none⟩ = some (.slice ad t.d.length dc) := cell_blk bq 1
      have s2 : wr.cell? ⟨xb + 1, 2, none⟩ = some (.slice ac t.c.length cc) := cell_blk bq 2
      clear hN hq hlt hk bq
      cases hck : imck t.n t.d t.c with
      | true =>
        rw [hck] at IC
        have HCK := Lib.hid hck
        clear hck
        go_wp2_with fail
        refine IC.out.mono ?_; rintro e w2 ⟨rfl, hb⟩
        have H2 := Lib.hid (hH.out.below_read hb)
        clear hb IC hH
        have br := blk_get (H2.out.pull 2 rfl)
        have r0 : w2.cell? ⟨xb + 1, 0, none⟩ = some (.int .i64 t.n) := cell_blk br 0
        have r1 : w2.cell? ⟨xb + 1, 1, none⟩ = some (.slice ad t.d.length dc) := cell_blk br 1
        have r2 : w2.cell? ⟨xb + 1, 2, none⟩ = some (.slice ac t.c.length cc) := cell_blk br 2
        have bz := blk_get (H2.out.pull 4 rfl)
        have z0 : w2.cell? ⟨xb, 0, none⟩ = some (.int .i64 0) := cell_blk bz 0
        have e0 := free_blk bz 0
        have z1 : w2.cell? ⟨xb, 1, none⟩ = some (.slice none 0 0) := cell_blk bz 1
        have e1 := free_blk bz 1
        have z2 : w2.cell? ⟨xb, 2, none⟩ = some (.slice none 0 0) := cell_blk bz 2
        have e2 := free_blk bz 2
        have H5 := Lib.hid (set3 (H2.out.pull 4 rfl) (.int .i64 t.n) (.slice ad t.d.length dc) (.slice ac t.c.length cc))
        clear br bz H2 s0 s1 s2
        go_wp2
        refine bodyPost_ret (results_cell_tmp2_row rfl _ _ xb _ _ _ _ rfl (blk_get H5.out) Tryz.underlying25 rfl im_info) rfl ?_
        exact parse_some HQ.out HCK.out ((H5.out.tail.pull 2 rfl).tail.pull 2 rfl).tail
      | false =>
        rw [hck] at IC
        have HCK := Lib.hid hck
        clear hck
        go_wp2_with fail
        refine IC.out.mono ?_; rintro e w2 ⟨rfl, hb⟩
        have H2 := Lib.hid (hH.out.below_read hb)
        clear hb IC hH
        have br := blk_get (H2.out.pull 2 rfl)
        have r0 : w2.cell? ⟨xb + 1, 0, none⟩ = some (.int .i64 t.n) := cell_blk br 0
        have r1 : w2.cell? ⟨xb + 1, 1, none⟩ = some (.slice ad t.d.length dc) := cell_blk br 1
        have r2 : w2.cell? ⟨xb + 1, 2, none⟩ = some (.slice ac t.c.length cc) := cell_blk br 2
        have bz := blk_get (H2.out.pull 4 rfl)
        have z0 : w2.cell? ⟨xb, 0, none⟩ = some (.int .i64 0) := cell_blk bz 0
        have e0 := free_blk bz 0
        have z1 : w2.cell? ⟨xb, 1, none⟩ = some (.slice none 0 0) := cell_blk bz 1
        have e1 := free_blk bz 1
        have z2 : w2.cell? ⟨xb, 2, none⟩ = some (.slice none 0 0) := cell_blk bz 2
        have e2 := free_blk bz 2
        have H5 := Lib.hid (set3 (H2.out.pull 4 rfl) (.int .i64 0) (.slice none 0 0) (.slice none 0 0))
        clear br bz H2 s0 s1 s2
        go_wp2
        refine bodyPost_ret (results_cell_tmp2_row rfl _ _ xb _ _ _ _ rfl (blk_get H5.out) Tryz.underlying25 rfl im_info) rfl ?_
        exact parse_not HQ.out HCK.out H5.out.tail.tail.tail.tail.tail
end Go.Proofs.YtcfoljdpffonhaaGreatDoor
