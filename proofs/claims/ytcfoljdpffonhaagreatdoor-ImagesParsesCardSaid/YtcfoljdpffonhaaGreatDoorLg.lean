/- Images: Get: walked. -/
import Derived.Test.YtcfoljdpffonhaaGreatDoorLe
set_option linter.unusedVariables false
set_option linter.unusedSimpArgs false
namespace Go.Proofs.YtcfoljdpffonhaaGreatDoor
open Go.RowKit Go.Joins Go.Shelf
attribute [local go_sem] Oper.semAt_some

theorem im_info : (Tryz.prog.info? 25).map (·.size) = some 3 := by kernel_rfl
abbrev zI : Array Value := #[.int .i64 0, .slice none 0 0, .slice none 0 0]
abbrev IM (b : Nat) (n : Int) (u v : Value) : Thing := Blk b (.cells #[.int .i64 n, u, v] 25 (0, 0))
theorem set3 {w0 w : World} {r : List Thing} {g : Nat} {t : TypeId} {v0 v1 v2 : Value} (H : Hp w0 w (Blk g (.cells #[v0, v1, v2] t (0, 0)) :: r)) (u0 u1 u2 : Value) :
    Hp w0 (((w.setCell ⟨g, 0, none⟩ u0).setCell ⟨g, 1, none⟩ u1).setCell ⟨g, 2, none⟩ u2) (Blk g (.cells #[u0, u1, u2] t (0, 0)) :: r) :=
  blk_set (blk_set (blk_set H 0 u0) 1 u1) 2 u2
/-- What Get tells. -/
def GetPost (w : World) (o : Option (Nat × List UInt8 × List I4)) (e : Ending) (w' : World) : Prop :=
  Below w.heap.size w w' ∧ match o with
  | some (n, d, c) => ∃ ad dc ac cc, e = .returned (.tuple #[imV n ad d.length dc ac c.length cc, .int .i64 0]) ∧ CellsIn w' ad (d.map bv) ∧ CellsIn w' ac (ics c)
  | none => e = .returned (.tuple #[imV 0 none 0 0 none 0 0, .int .i64 14])
theorem get_none {w w' : World} {o : Option (Nat × List UInt8 × List I4)} (h : o = none) (hb : Below w.heap.size w w') : GetPost w o (.returned (.tuple #[imV 0 none 0 0 none 0 0, .int .i64 14])) w' := by subst h; exact ⟨hb, rfl⟩
theorem get_some {w w' : World} {o : Option (Nat × List UInt8 × List I4)} {n : Nat} {d : List UInt8} {c : List I4} {ad ac : Option Addr} {dl dc cl cc : Nat} (h : o = some (n, d, c)) (hd : d.length = dl) (hc : c.length = cl) (hb : Below w.heap.size w w') (h1 : CellsIn w' ad (d.map bv)) (h2 : CellsIn w' ac (ics c)) :
    GetPost w o (.returned (.tuple #[imV n ad dl dc ac cl cc, .int .i64 0])) w' := by subst h; subst hd; subst hc; exact ⟨hb, _, _, _, _, rfl, h1, h2⟩
theorem head_cases (b : List UInt8) : (Lib.hasPrefix b [116, 107, 49] = false ∧ imget b = none) ∨ (Lib.hasPrefix b [116, 107, 49] = true ∧ b.length < 9 ∧ imget b = none) ∨ ∃ n1 n0 d1 d0 c1 c0 r, b = 116 :: 107 :: 49 :: n1 :: n0 :: d1 :: d0 :: c1 :: c0 :: r := by
  by_cases hp : Lib.hasPrefix b [116, 107, 49] = true
  · by_cases hl : b.length < 9
    · refine Or.inr (Or.inl ⟨hp, hl, ?_⟩)
      unfold imget
      split
      · simp at hl; omega
      · rfl
    · refine Or.inr (Or.inr ?_)
      match b, hl with
      | x :: y :: z :: n1 :: n0 :: d1 :: d0 :: c1 :: c0 :: r, _ =>
        have : x = 116 ∧ y = 107 ∧ z = 49 := by
          simp [Lib.hasPrefix, List.isPrefixOf] at hp
          exact ⟨hp.1.symm, hp.2.1.symm, hp.2.2.symm⟩
        obtain ⟨rfl, rfl, rfl⟩ := this
        exact ⟨n1, n0, d1, d0, c1, c0, r, rfl⟩
      | [], h => simp at h
      | [_], h => simp at h
      | [_, _], h => simp at h
      | [_, _, _], h => simp at h
      | [_, _, _, _], h => simp at h
      | [_, _, _, _, _], h => simp at h
      | [_, _, _, _, _, _], h => simp at h
      | [_, _, _, _, _, _, _], h => simp at h
      | [_, _, _, _, _, _, _, _], h => simp at h
  · refine Or.inl ⟨by simpa using hp, ?_⟩
    unfold imget
    split
    · exact absurd (by simp [Lib.hasPrefix, List.isPrefixOf]) hp
    · rfl
theorem cutp3 (s : List UInt8) (w : World) : Calls Tryz.prog 62 #[strv s, .string ⟨#[116, 107, 49]⟩] w fun e w' => e = .returned (.tuple #[strv (Lib.trimPrefix s [116, 107, 49]), .bool (Lib.hasPrefix s [116, 107, 49])]) ∧ w' = w := Tryz.strings_CutPrefix ⟨s.toArray⟩ ⟨#[116, 107, 49]⟩ w
abbrev OwnN (v : Value) (l : List I4) : Thing := Own 61 4 v l.length (ics l)
theorem on_snoc {w0 w : World} {r : List Thing} {v : Value} {l : List I4} {x : I4} (H : Hp w0 w (Own 61 4 v (l.length + 1) (ics l ++ i4c x) :: r)) : Hp w0 w (OwnN v (l ++ [x]) :: r) :=
  own_as H (by simp) (by simp [ics])
theorem info_ins : (Tryz.prog.info? 61).map (fun i => (i.zero, i.size, i.bytes)) = some (some (.agg #[.int .u8 0, .int .u8 0, .int .u8 0, .int .u8 0]), 4, 4) := by kernel_rfl
theorem arr_at (W : World) (g c : Nat) : (Instr.arrayAt 62 (.slice (some ⟨g, 0, none⟩) 4 c)).run Tryz.prog W = .ok (.pointer (some ⟨g, 0, none⟩)) W := by kernel_rfl
def restLen (w : World) (rb : Nat) : Nat := match w.cell? ⟨rb, 0, none⟩ with
  | some (.string b) => b.size
  | _ => 0
theorem restLen_of {w : World} {rb : Nat} {l : List UInt8} (h : w.cell? ⟨rb, 0, none⟩ = some (strv l)) : restLen w rb = l.length := by
  unfold restLen; rw [h]; simp [ByteArray.size]
theorem ext_take (r : List UInt8) (D : Nat) : (⟨r.toArray⟩ : ByteArray).extract 0 D = ⟨(r.take D).toArray⟩ := by
  apply ByteArray.ext; simp
theorem ext_drop (r : List UInt8) (D : Nat) : (⟨r.toArray⟩ : ByteArray).extract D r.length = ⟨(r.drop D).toArray⟩ := by
  apply ByteArray.ext; simp
  exact List.take_of_length_le (by simp)
theorem ibs_cons (x : I4) (l : List I4) : ibs (x :: l) = x.1 :: x.2.1 :: x.2.2.1 :: x.2.2.2 :: ibs l := rfl
set_option maxHeartbeats 16000000 in
set_option maxRecDepth 20000 in
theorem imget_c (a : Option Addr) (bc : Nat) (b : List UInt8) (w : World) (hb : CellsIn w a (b.map bv)) (hbl : b.length < 100000000) :
    Calls Tryz.prog 19 #[.slice a b.length bc] w (GetPost w (imget b)) := by
  have H1 := Lib.hid (blk_new (Hp.start w) (.cells zI 25))
  have kc := conv_in (w.alloc (.cells zI 25)) a bc b (hb.hp H1.out)
  have CP := Lib.hid (cutp3 b (w.alloc (.cells zI 25)))
  clear hb
  have fin : ∀ (o : Option (Nat × List UInt8 × List I4)), o = none → True := fun _ _ => trivial
  rcases head_cases b with ⟨hp, hn⟩ | ⟨hp, hl, hn⟩ | ⟨n1, n0, d1, d0, c1, c0, r, rfl⟩
  · rw [hp] at CP
    have HN := Lib.hid hn
    generalize imget b = o at *
    clear hp hn fin
    go_enter Tryz.func19, Tryz.ntmps19
    go_wp2_with fail
    refine CP.out.mono ?_; rintro e w1 ⟨rfl, rfl⟩
    generalize Lib.trimPrefix b [116, 107, 49] = t at *
    have H2 := Lib.hid (blk_new H1.out (.cells #[strv t] 9))
    clear kc CP H1
    go_upto_region 2 with fail
    have bz := blk_get (H2.out.pull 1 rfl)
    generalize (w.alloc (.cells zI 25)) = w1 at *
    have z0 : (w1.alloc (.cells #[strv t] 9)).cell? ⟨w.heap.size, 0, none⟩ = some (.int .i64 0) := cell_blk bz 0
    have e0 := free_blk bz 0
    have z1 : (w1.alloc (.cells #[strv t] 9)).cell? ⟨w.heap.size, 1, none⟩ = some (.slice none 0 0) := cell_blk bz 1
    have e1 := free_blk bz 1
    have z2 : (w1.alloc (.cells #[strv t] 9)).cell? ⟨w.heap.size, 2, none⟩ = some (.slice none 0 0) := cell_blk bz 2
    have e2 := free_blk bz 2
    have H5 := Lib.hid (set3 (H2.out.pull 1 rfl) (.int .i64 0) (.slice none 0 0) (.slice none 0 0))
    clear bz
    generalize (w1.alloc (.cells #[strv t] 9)) = w2 at *
    go_wp2
    refine bodyPost_ret (results_cell_tmp_row rfl _ _ w.heap.size _ _ _ _ rfl (blk_get H5.out) Tryz.underlying25 rfl im_info) rfl ?_
    exact get_none HN.out H5.out.below
  · rw [hp] at CP
    have HN := Lib.hid hn
    have hli : (b.length : Int) < 9 := by omega
    generalize imget b = o at *
    clear hp hn hl fin
    go_enter Tryz.func19, Tryz.ntmps19
    go_wp2_with fail
    refine CP.out.mono ?_; rintro e w1 ⟨rfl, rfl⟩
    generalize Lib.trimPrefix b [116, 107, 49] = t at *
    have H2 := Lib.hid (blk_new H1.out (.cells #[strv t] 9))
    clear kc CP H1
    go_upto_region 2 with fail
    have bz := blk_get (H2.out.pull 1 rfl)
    generalize (w.alloc (.cells zI 25)) = w1 at *
    have z0 : (w1.alloc (.cells #[strv t] 9)).cell? ⟨w.heap.size, 0, none⟩ = some (.int .i64 0) := cell_blk bz 0
    have e0 := free_blk bz 0
    have z1 : (w1.alloc (.cells #[strv t] 9)).cell? ⟨w.heap.size, 1, none⟩ = some (.slice none 0 0) := cell_blk bz 1
    have e1 := free_blk bz 1
    have z2 : (w1.alloc (.cells #[strv t] 9)).cell? ⟨w.heap.size, 2, none⟩ = some (.slice none 0 0) := cell_blk bz 2
    have e2 := free_blk bz 2
    have H5 := Lib.hid (set3 (H2.out.pull 1 rfl) (.int .i64 0) (.slice none 0 0) (.slice none 0 0))
    clear bz
    generalize (w1.alloc (.cells #[strv t] 9)) = w2 at *
    go_wp2
    refine bodyPost_ret (results_cell_tmp_row rfl _ _ w.heap.size _ _ _ _ rfl (blk_get H5.out) Tryz.underlying25 rfl im_info) rfl ?_
    exact get_none HN.out H5.out.below
  · have hle : (116 :: 107 :: 49 :: n1 :: n0 :: d1 :: d0 :: c1 :: c0 :: r : List UInt8).length = r.length + 9 := by simp
    have hpre : Lib.hasPrefix (116 :: 107 :: 49 :: n1 :: n0 :: d1 :: d0 :: c1 :: c0 :: r) [116, 107, 49] = true := by simp [Lib.hasPrefix, List.isPrefixOf]
    have htr : Lib.trimPrefix (116 :: 107 :: 49 :: n1 :: n0 :: d1 :: d0 :: c1 :: c0 :: r) [116, 107, 49] = n1 :: n0 :: d1 :: d0 :: c1 :: c0 :: r := by simp [Lib.trimPrefix, hpre]
    rw [hpre, htr] at CP
    have hg : imget (116 :: 107 :: 49 :: n1 :: n0 :: d1 :: d0 :: c1 :: c0 :: r) = if r.length = nb d1 d0 + nb c1 c0 * 4 then
      if imck (nb n1 n0) (r.take (nb d1 d0)) (chunk (r.drop (nb d1 d0))) = true then some (nb n1 n0, r.take (nb d1 d0), chunk (r.drop (nb d1 d0))) else none
      else none := rfl
    generalize imget (116 :: 107 :: 49 :: n1 :: n0 :: d1 :: d0 :: c1 :: c0 :: r) = o at *
    rw [hle] at kc hbl ⊢
    have HG := Lib.hid hg
    have hr : r.length < 100000000 := by omega
    have HR := Lib.hid hr
    have hli : ¬ ((r.length : Int) + 9 < 9) := by omega
    have hlj : decide ((r.length : Int) + 9 < 9) = false := by simpa using hli
    clear hpre htr hg hle fin hr hbl
    generalize hbb : (116 :: 107 :: 49 :: n1 :: n0 :: d1 :: d0 :: c1 :: c0 :: r : List UInt8) = bb at *
    go_enter Tryz.func19, Tryz.ntmps19
    go_wp2_with fail
    refine CP.out.mono ?_; rintro e w1 ⟨rfl, rfl⟩
    have H2 := Lib.hid (blk_new H1.out (.cells #[strv (n1 :: n0 :: d1 :: d0 :: c1 :: c0 :: r)] 9))
    clear kc CP H1 hbb
    generalize (w.alloc (.cells zI 25)) = w1 at *
    generalize hxb : w.heap.size = xb at *
    clear hxb
    go_wp2_with fail
    refine (num_c n1 n0 (d1 :: d0 :: c1 :: c0 :: r) (by have := HR.out; simp; omega) H2.out).mono ?_; rintro e w2 ⟨rfl, H3⟩
    have H4 := Lib.hid H3
    clear H2 H3
    go_wp2_with fail
    refine (num_c d1 d0 (c1 :: c0 :: r) (by have := HR.out; simp; omega) H4.out).mono ?_; rintro e w3 ⟨rfl, H3⟩
    have H5 := Lib.hid H3
    clear H4 H3
    go_wp2_with fail
    refine (num_c c1 c0 r (by have := HR.out; omega) H5.out).mono ?_; rintro e w4 ⟨rfl, H3⟩
    have H6 := Lib.hid H3
    clear H5 H3
    have hn := nb_lt n1 n0
    have hd := nb_lt d1 d0
    have hc := nb_lt c1 c0
    generalize nb n1 n0 = N at *
    generalize nb d1 d0 = D at *
    generalize nb c1 c0 = C at *
    generalize w1.heap.size = rb at *
    have r0 : w4.cell? ⟨rb, 0, none⟩ = some (strv r) := cell_blk (blk_get H6.out) 0
    have q1 : IntKind.i64.wrap ((C : Int) * 4) = (C : Int) * 4 := by rw [IntKind.wrap_i64]; omega
    have q2 : IntKind.i64.wrap ((D : Int) + (C : Int) * 4) = (D : Int) + (C : Int) * 4 := by rw [IntKind.wrap_i64]; omega
    have HN := Lib.hid hn
    have HDD := Lib.hid hd
    have HCC := Lib.hid hc
    by_cases hl : r.length = D + C * 4
    · have hne : ((r.length : Int) != (D : Int) + (C : Int) * 4) = false := by simp; omega
      have ho : o = if imck N (r.take D) (chunk (r.drop D)) = true then some (N, r.take D, chunk (r.drop D)) else none := by rw [HG.out, if_pos hl]
      obtain ⟨hib, hcl⟩ := ibs_chunk C (r.drop D) (by rw [List.length_drop]; omega)
      have x1 := ext_take r D
      have x2 := ext_drop r D
      have hdl : (r.take D).length = D := by rw [List.length_take]; omega
      generalize hcode : chunk (r.drop D) = code at *
      generalize hdd : r.take D = dl at *
      rw [← hib] at x2
      have HO := Lib.hid ho
      have HDL := Lib.hid hdl
      have HCL := Lib.hid hcl
      have hD1 : (D : Int) ≤ (r.length : Int) := by omega
      have hD2 : D ≤ r.length := by omega
      have kd := conv_to w4 dl
      have H7 := Lib.hid (rdr_bytes H6.out dl)
      have hsz : (Lib.bytesWorld w4 5 ⟨dl.toArray⟩).heap.size = w4.heap.size + 1 := Lib.bytesWorld_size _ _ _
      have HSZ := Lib.hid hsz
      have r1 : (Lib.bytesWorld w4 5 ⟨dl.toArray⟩).cell? ⟨rb, 0, none⟩ = some (strv r) := cell_blk (blk_get (H7.out.pull 1 rfl)) 0
      obtain ⟨i0, hi, hz0, hz1, hz2⟩ := info_parts info_ins
      clear HG ho hib hcl hcode hdd hdl hl hn hd hc hsz
      go_upto_region 9 with fail
      clear kd r0 hne q1 q2
      have H8 := Lib.hid (blk_new H7.out (.cells #[.int .i64 N, .slice (some ⟨w4.heap.size, 0, none⟩) dl.length (grownCap w4 dl.length 0 5), .slice none 0 0] 25))
      clear H6 H7 r1 HSZ
      generalize ((Lib.bytesWorld w4 5 ⟨dl.toArray⟩).alloc (.cells #[.int .i64 N, .slice (some ⟨w4.heap.size, 0, none⟩) dl.length (grownCap w4 dl.length 0 5), .slice none 0 0] 25)) = w5 at *
      generalize (Lib.bytesWorld w4 5 ⟨dl.toArray⟩).heap.size = mb at *
      generalize grownCap w4 dl.length 0 5 = cp at *
      generalize w4.heap.size = gd at *
      have r1 : w5.cell? ⟨rb, 0, none⟩ = some (strv r) := cell_blk (blk_get (H8.out.pull 2 rfl)) 0
      have rf := free_blk (blk_get (H8.out.pull 2 rfl)) 0
      have H9 : Hid (Hp w (w5.setCell ⟨rb, 0, none⟩ (strv (ibs code))) (OwnN (.slice none 0 0) (code.take 0) :: Blk rb (.cells #[strv (ibs (code.drop 0))] 9 (0, 0)) :: IM mb N (.slice (some ⟨gd, 0, none⟩) dl.length cp) (.slice none 0 0) :: Rdr gd (dl.map bv) :: [Blk xb (.cells zI 25 (0, 0))])) := Lib.hid (own_nil (blk_set (H8.out.pull 2 rfl) 0 (strv (ibs code))) 61 4)
      clear H8
      go_wp2
      clear r1 rf x1 x2 hD1 hD2
      go_loopw [] (fun wr => ∃ (k : Nat) (v : Value), k ≤ C ∧ Hid (∀ j (h : j < code.length), j < k → ik code[j] = true) ∧ Hid (Hp w wr (OwnN v (code.take k) :: Blk rb (.cells #[strv (ibs (code.drop k))] 9 (0, 0)) :: IM mb N (.slice (some ⟨gd, 0, none⟩) dl.length cp) v :: Rdr gd (dl.map bv) :: [Blk xb (.cells zI 25 (0, 0))]))) (fun wr => restLen wr rb)
      case atStart => exact ⟨0, _, Nat.zero_le _, Lib.hid (fun j _ h => by omega), H9⟩
      case round =>
        obtain ⟨k, v, hk, hN, hH⟩ := hrel
        clear H9
        have r1 : wr.cell? ⟨rb, 0, none⟩ = some (strv (ibs (code.drop k))) := cell_blk (blk_get (hH.out.pull 1 rfl)) 0
        have rf := free_blk (blk_get (hH.out.pull 1 rfl)) 0
        have HRL := Lib.hid (restLen_of r1)
        by_cases hlt : k < C
        · have hkl : k < code.length := by rw [HCL.out]; exact hlt
          have hdr : code.drop k = code[k] :: code.drop (k + 1) := List.drop_eq_getElem_cons hkl
          have htk := Lib.hid (List.take_succ_eq_append_getElem hkl)
          have HN2 : Hid (ik code[k] = true → ∀ j (h : j < code.length), j < k + 1 → ik code[j] = true) := Lib.hid (fun h j hj hjk => by
            by_cases e : j = k
            · subst e; exact h
            · exact hN.out j hj (by omega))
          have HN3 : Hid (ik code[k] = false → o = none) := Lib.hid (fun h => by
            rw [HO.out, if_neg]
            unfold imck
            intro h2
            rw [Bool.and_eq_true] at h2
            have := List.all_eq_true.1 h2.2 code[k] (List.getElem_mem hkl)
            rw [h] at this; cases this)
          rw [hdr, ibs_cons] at r1 HRL hH
          have hlk : (code.take k).length = k := by rw [List.length_take]; omega
          have HLK := Lib.hid hlk
          generalize code[k] = x at *
          generalize hR : ibs (code.drop (k + 1)) = R at *
          have HR2 := Lib.hid hR
          generalize code.take k = tk at *
          obtain ⟨xo, xa, xc, xd⟩ := x
          simp only at r1 HRL hH
          have x4 : (⟨(xo :: xa :: xc :: xd :: R).toArray⟩ : ByteArray).extract 0 4 = ⟨[xo, xa, xc, xd].toArray⟩ := by apply ByteArray.ext; simp
          have x5 : (⟨(xo :: xa :: xc :: xd :: R).toArray⟩ : ByteArray).extract 4 (R.length + 1 + 1 + 1 + 1) = ⟨R.toArray⟩ := by apply ByteArray.ext; simp
          have kd := conv_to wr [xo, xa, xc, xd]
          have H5 := Lib.hid (rdr_bytes hH.out [xo, xa, xc, xd])
          have hcl := rdr_get H5.out
          have c0 : (Lib.bytesWorld wr 5 ⟨[xo, xa, xc, xd].toArray⟩).cell? ⟨wr.heap.size, 0, none⟩ = some (bv xo) := by obtain ⟨_, _, e, h⟩ := hcl 0 (by simp); cases e; exact h
          have c1 : (Lib.bytesWorld wr 5 ⟨[xo, xa, xc, xd].toArray⟩).cell? ⟨wr.heap.size, 1, none⟩ = some (bv xa) := by obtain ⟨_, _, e, h⟩ := hcl 1 (by simp); cases e; exact h
          have c2 : (Lib.bytesWorld wr 5 ⟨[xo, xa, xc, xd].toArray⟩).cell? ⟨wr.heap.size, 2, none⟩ = some (bv xc) := by obtain ⟨_, _, e, h⟩ := hcl 2 (by simp); cases e; exact h
          have c3 : (Lib.bytesWorld wr 5 ⟨[xo, xa, xc, xd].toArray⟩).cell? ⟨wr.heap.size, 3, none⟩ = some (bv xd) := by obtain ⟨_, _, e, h⟩ := hcl 3 (by simp); cases e; exact h
          have HLT := Lib.hid hlt
          have HRLN : Hid (R.length < 100000000) := Lib.hid (by
            have h1 := ibs_len (code.drop (k + 1))
            rw [hR] at h1
            rw [h1, List.length_drop]
            have := HCL.out; have := HCC.out
            omega)
          have ka := arr_at (Lib.bytesWorld wr 5 ⟨[xo, xa, xc, xd].toArray⟩) wr.heap.size (grownCap wr 4 0 5)
          clear hcl hkl hdr hlk hR hN hk hlt
          cases hx : ik (xo, xa, xc, xd) with
          | false =>
            have ho := HN3.out hx
            subst ho
            have GC := Lib.hid (get_no (op := xo.toNat) H5.out (by4 (xo, xa, xc, xd)) hx)
            clear hx HN2 HN3 HO hH rf
            go_wp2_with fail
            refine GC.out.mono ?_; rintro e w7 ⟨rfl, H6⟩
            have H7 := Lib.hid (H6.alloc (.cells zS 61))
            clear GC H5 H6 kd ka c0 c1 c2 c3 r1
            go_upto_region 14 with fail
            have bz := blk_get (H7.out.pull 5 rfl)
            have z0 : (w7.alloc (.cells zS 61)).cell? ⟨xb, 0, none⟩ = some (.int .i64 0) := cell_blk bz 0
            have e0 := free_blk bz 0
            have z1 : (w7.alloc (.cells zS 61)).cell? ⟨xb, 1, none⟩ = some (.slice none 0 0) := cell_blk bz 1
            have e1 := free_blk bz 1
            have z2 : (w7.alloc (.cells zS 61)).cell? ⟨xb, 2, none⟩ = some (.slice none 0 0) := cell_blk bz 2
            have e2 := free_blk bz 2
            have H9 := Lib.hid (set3 (H7.out.pull 5 rfl) (.int .i64 0) (.slice none 0 0) (.slice none 0 0))
            clear bz H7
            generalize (w7.alloc (.cells zS 61)) = w8 at *
            go_wp2
            refine bodyPost_ret (results_cell_tmp_row rfl _ _ xb _ _ _ _ rfl (blk_get H9.out) Tryz.underlying25 rfl im_info) rfl ?_
            exact get_none rfl H9.out.below
          | true =>
            have hn := Lib.hid (HN2.out hx)
            have GC := Lib.hid (get_yes (op := xo.toNat) H5.out (by4 (xo, xa, xc, xd)) hx)
            clear hx HN2 HN3
            go_wp2_with fail
            refine GC.out.mono ?_; rintro e w7 ⟨rfl, H6⟩
            have H7 := Lib.hid (blk_new H6 (.cells #[bv xo, bv xa, bv xc, bv xd] 61))
            clear GC H5 H6 hH kd ka c0 c1 c2 c3 r1 rf
            go_upto_region 15 with fail
            have m2 : (w7.alloc (.cells #[bv xo, bv xa, bv xc, bv xd] 61)).cell? ⟨mb, 2, none⟩ = some v := cell_blk (blk_get (H7.out.pull 4 rfl)) 2
            have by0 := blk_get H7.out
            have y0 : (w7.alloc (.cells #[bv xo, bv xa, bv xc, bv xd] 61)).cell? ⟨w7.heap.size, 0, none⟩ = some (bv xo) := cell_blk by0 0
            have y1 : (w7.alloc (.cells #[bv xo, bv xa, bv xc, bv xd] 61)).cell? ⟨w7.heap.size, 1, none⟩ = some (bv xa) := cell_blk by0 1
            have y2 : (w7.alloc (.cells #[bv xo, bv xa, bv xc, bv xd] 61)).cell? ⟨w7.heap.size, 2, none⟩ = some (bv xc) := cell_blk by0 2
            have y3 : (w7.alloc (.cells #[bv xo, bv xa, bv xc, bv xd] 61)).cell? ⟨w7.heap.size, 3, none⟩ = some (bv xd) := cell_blk by0 3
            clear by0
            generalize (w7.alloc (.cells #[bv xo, bv xa, bv xc, bv xd] 61)) = w8 at *
            generalize w7.heap.size = yb at *
            have HP := Lib.hid (Hp.alloc (H7.out.pull 2 rfl) (.cells #[bv xo, bv xa, bv xc, bv xd] 61))
            go_wp2_with (at_builtin; refine wpList_append_hp rfl (.tmp 69) (.tmp 71) 23 rfl 61 i0 _ 4 4 Tryz.underlying23 hi hz0 hz1 hz2 rfl (by decide) HP.out rfl ⟨w8.heap.size, 0, none⟩ 1 1 (i4c (xo, xa, xc, xd)) rfl rfl (blk_newsU (l := i4c (xo, xa, xc, xd)) (blk_alloc_new w8 _)) (by simp [Value.oneCell', bv, i4c]) (by have := HLK.out; have := HLT.out; have := HCC.out; omega) (by omega) ?_)
            intro v' w9 HA0
            have HA := on_snoc HA0
            have m3 : w9.cell? ⟨mb, 2, none⟩ = some v := cell_blk (blk_get (HA.pull 4 rfl)) 2
            have mf := free_blk (blk_get (HA.pull 4 rfl)) 2
            have H10 := Lib.hid (blk_set (HA.pull 4 rfl) 2 v')
            have r2 : (w9.setCell ⟨mb, 2, none⟩ v').cell? ⟨rb, 0, none⟩ = some (strv (xo :: xa :: xc :: xd :: R)) := cell_blk (blk_get (H10.out.pull 4 rfl)) 0
            have r3 := free_blk (blk_get (H10.out.pull 4 rfl)) 0
            have H11 := blk_set (H10.out.pull 4 rfl) 0 (strv R)
            have r4 : ((w9.setCell ⟨mb, 2, none⟩ v').setCell ⟨rb, 0, none⟩ (strv R)).cell? ⟨rb, 0, none⟩ = some (strv R) := cell_blk (blk_get H11) 0
            have HRN := Lib.hid (restLen_of r4)
            have H12 : Hid (Hp w ((w9.setCell ⟨mb, 2, none⟩ v').setCell ⟨rb, 0, none⟩ (strv R)) (OwnN v' (tk ++ [(xo, xa, xc, xd)]) :: Blk rb (.cells #[strv R] 9 (0, 0)) :: IM mb N (.slice (some ⟨gd, 0, none⟩) dl.length cp) v' :: Rdr gd (dl.map bv) :: [Blk xb (.cells zI 25 (0, 0))])) := Lib.hid ((((H11.pull 2 rfl).pull 3 rfl).tail.pull 3 rfl).tail)
            have hvt : ∃ q1 q2 q3, v' = .slice q1 q2 q3 := by obtain ⟨q1, q3, h⟩ := own_slice HA0; exact ⟨q1, _, q3, h⟩
            obtain ⟨q1, q2, q3, rfl⟩ := hvt
            clear HA0 HA HP H7 H10 H11 m2 y0 y1 y2 y3 r4
            go_wp2
            go_roundw
            case rel => exact ⟨k + 1, _, by have := HLT.out; omega, hn, by rw [htk.out, HR2.out]; exact H12⟩
            case measure => rw [HRN.out, HRL.out]; simp; omega
        · obtain rfl : k = C := by omega
          have e1 : code.drop k = [] := List.drop_of_length_le (by have := HCL.out; omega)
          have e2 : code.take k = code := List.take_of_length_le (by have := HCL.out; omega)
          rw [e1] at r1 hH
          rw [e2] at hH
          have r2 : wr.cell? ⟨rb, 0, none⟩ = some (strv []) := r1
          obtain ⟨av, cv, rfl⟩ := own_slice hH.out
          have CK := Lib.hid (imcheck_c (N : Int) (some ⟨gd, 0, none⟩) av cp cv dl code wr (CellsIn.own hH.out))
          obtain ⟨m0, m1, m2⟩ := im_cells (hH.out.pull 2 rfl)
          clear r1 rf e1 e2 hN hlt hk HRL
          go_wp2_with fail
          refine CK.out.mono ?_
          clear CK m0 m1 m2 r2
          cases hik : imck (N : Int) dl code with
          | false =>
            have ho : o = none := by rw [HO.out, if_neg (by rw [hik]; simp)]
            have HO2 := Lib.hid ho
            rintro e w5 ⟨rfl, hb⟩
            have H7 := Lib.hid (hH.out.below_read hb)
            clear hb hH HO hik ho
            go_upto_region 17 with fail
            have bz := blk_get (H7.out.pull 4 rfl)
            have z0 : w5.cell? ⟨xb, 0, none⟩ = some (.int .i64 0) := cell_blk bz 0
            have e0 := free_blk bz 0
            have z1 : w5.cell? ⟨xb, 1, none⟩ = some (.slice none 0 0) := cell_blk bz 1
            have e1 := free_blk bz 1
            have z2 : w5.cell? ⟨xb, 2, none⟩ = some (.slice none 0 0) := cell_blk bz 2
            have e2 := free_blk bz 2
            have H9 := Lib.hid (set3 (H7.out.pull 4 rfl) (.int .i64 0) (.slice none 0 0) (.slice none 0 0))
            clear bz H7
            go_wp2
            refine bodyPost_ret (results_cell_tmp_row rfl _ _ xb _ _ _ _ rfl (blk_get H9.out) Tryz.underlying25 rfl im_info) rfl ?_
            exact get_none HO2.out H9.out.below
          | true =>
            have ho : o = some (N, dl, code) := by rw [HO.out, if_pos hik]
            have HO2 := Lib.hid ho
            rintro e w5 ⟨rfl, hb⟩
            have H7 := Lib.hid (hH.out.below_read hb)
            clear hb hH HO hik ho
            go_upto_region 18 with fail
            obtain ⟨m0, m1, m2⟩ := im_cells (H7.out.pull 2 rfl)
            have bz := blk_get (H7.out.pull 4 rfl)
            have z0 : w5.cell? ⟨xb, 0, none⟩ = some (.int .i64 0) := cell_blk bz 0
            have e0 := free_blk bz 0
            have z1 : w5.cell? ⟨xb, 1, none⟩ = some (.slice none 0 0) := cell_blk bz 1
            have e1 := free_blk bz 1
            have z2 : w5.cell? ⟨xb, 2, none⟩ = some (.slice none 0 0) := cell_blk bz 2
            have e2 := free_blk bz 2
            have H9 := Lib.hid (set3 (H7.out.pull 4 rfl) (.int .i64 N) (.slice (some ⟨gd, 0, none⟩) dl.length cp) (.slice av code.length cv))
            clear bz H7
            go_wp2
            refine bodyPost_ret (results_cell_tmp_row rfl _ _ xb _ _ _ _ rfl (blk_get H9.out) Tryz.underlying25 rfl im_info) rfl ?_
            exact get_some HO2.out rfl rfl H9.out.below (rdr_get (H9.out.pull 4 rfl)) (CellsIn.own (H9.out.pull 1 rfl))
    · have hne : ((r.length : Int) != (D : Int) + (C : Int) * 4) = true := by simp; omega
      have ho : o = none := by rw [HG.out, if_neg hl]
      have HO := Lib.hid ho
      clear HG ho hl hn hd hc
      go_upto_region 7 with fail
      have bz := blk_get (H6.out.pull 1 rfl)
      have z0 : w4.cell? ⟨xb, 0, none⟩ = some (.int .i64 0) := cell_blk bz 0
      have e0 := free_blk bz 0
      have z1 : w4.cell? ⟨xb, 1, none⟩ = some (.slice none 0 0) := cell_blk bz 1
      have e1 := free_blk bz 1
      have z2 : w4.cell? ⟨xb, 2, none⟩ = some (.slice none 0 0) := cell_blk bz 2
      have e2 := free_blk bz 2
      have H9 := Lib.hid (set3 (H6.out.pull 1 rfl) (.int .i64 0) (.slice none 0 0) (.slice none 0 0))
      clear bz H6 r0
      go_wp2
      refine bodyPost_ret (results_cell_tmp_row rfl _ _ xb _ _ _ _ rfl (blk_get H9.out) Tryz.underlying25 rfl im_info) rfl ?_
      exact get_none HO.out H9.out.below
end Go.Proofs.YtcfoljdpffonhaaGreatDoor
