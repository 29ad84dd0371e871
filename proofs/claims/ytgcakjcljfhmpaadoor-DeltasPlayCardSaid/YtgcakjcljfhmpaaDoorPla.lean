/- Who wakes when somebody is removed, and put again. No program in sight. -/
import Derived.Test.YtgcakjcljfhmpaaDoorPlm
set_option linter.unusedVariables false
set_option linter.unusedSimpArgs false
namespace Go.Proofs.YtgcakjcljfhmpaaDoor
open Go.RowKit Go.Shelf

/-- Whose ticks are so many less one, of the first ones, but for one. -/
def wtk (ts : List Int) (k : Nat) (t : Int) (j : Nat) : List Int := ((List.range j).filter (fun i => i != k && ts.getD i 0 == t)).map (fun i : Nat => (i : Int))
theorem wtk_succ (ts : List Int) (k : Nat) (t : Int) (j : Nat) : wtk ts k t (j + 1) = if j ≠ k ∧ ts.getD j 0 = t then wtk ts k t j ++ [(j : Int)] else wtk ts k t j := by
  unfold wtk
  rw [List.range_succ, List.filter_append, List.map_append]
  by_cases h : j ≠ k ∧ ts.getD j 0 = t
  · rw [if_pos h, List.filter_cons, if_pos (by simpa using h)]; rfl
  · rw [if_neg h, List.filter_cons, if_neg (by simpa using h)]; simp
theorem wtk_le (ts : List Int) (k : Nat) (t : Int) (j : Nat) : (wtk ts k t j).length ≤ j := by
  unfold wtk
  rw [List.length_map]
  exact Nat.le_trans (List.length_filter_le _ _) (by simp)
theorem grp_but (l : List (Int × Int)) (who v : Int) : grp (but l who) v = (grp l v).filter (fun x => x != who) := by
  unfold grp but
  rw [List.filter_map, List.filter_filter, List.filter_filter]
  congr 1
  refine List.filter_congr fun y _ => ?_
  simp only [Function.comp]
  rw [Bool.and_comm]
theorem wt_but (ts : List Int) (k : Nat) (t : Int) (n : Nat) : (wt ts t n).filter (fun x => x != (k : Int)) = wtk ts k t n := by
  unfold wt wtk
  rw [List.filter_map, List.filter_filter]
  congr 1
  refine List.filter_congr fun i _ => ?_
  simp only [Function.comp]
  rw [Bool.eq_iff_iff]; simp; omega
theorem but_out (l : List (Int × Int)) (who : Int) : who ∉ (but l who).map Prod.fst := by
  unfold but
  intro h
  obtain ⟨y, hy, e⟩ := List.mem_map.1 h
  have := (List.mem_filter.1 hy).2
  simp at this
  exact this e
theorem but_len (l : List (Int × Int)) (who : Int) : (but l who).length ≤ l.length := List.length_filter_le _ _
/-- One is removed, and put again for r ticks (0: not at all). -/
def apt (ts : List Int) (n k r : Nat) : List (Int × Int) := if 0 < r then ins (but (fil ts n) k) k r else but (fil ts n) k
theorem ok_apt {ts : List Int} (h : ∀ i, 0 ≤ ts.getD i 0 ∧ ts.getD i 0 < 256) (n k r : Nat) (hr : r < 256) : Ok (apt ts n k r) := by
  unfold apt
  split
  · exact ok_ins (ok_but (ok_fil h n) _) (but_out _ _) (by omega) (by omega)
  · exact ok_but (ok_fil h n) _
theorem apt_len (ts : List Int) (n k r : Nat) : (apt ts n k r).length ≤ n + 1 := by
  have h1 := but_len (fil ts n) k
  rw [fil_len] at h1
  unfold apt
  split
  · rw [ins_len]; omega
  · omega
theorem wake_apt {ts : List Int} (h : ∀ i, 0 ≤ ts.getD i 0 ∧ ts.getD i 0 < 256) (n k r t : Nat) : wake (lessN (apt ts n k r) t) = if r = t + 1 then wtk ts k t n ++ [(k : Int)] else wtk ts k t n := by
  have hb : grp (but (fil ts n) k) ((t : Int) + 1) = wtk ts k t n := by rw [grp_but, grp_fil h, wt_but]
  rw [wake_lessN]
  unfold apt
  by_cases h0 : 0 < r
  · rw [if_pos h0, grp_ins (ok_but (ok_fil h n) _).srt, hb]
    by_cases e : r = t + 1
    · rw [if_pos (by omega), if_pos e]
    · rw [if_neg (by omega), if_neg e]
  · rw [if_neg h0, hb, if_neg (by omega)]
end Go.Proofs.YtgcakjcljfhmpaaDoor
