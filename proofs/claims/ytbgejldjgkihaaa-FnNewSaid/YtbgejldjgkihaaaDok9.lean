/- The reference's DecOk. -/
import Derived.Test.YtbgejldjgkihaaaDok6
import Derived.Test.YtbgejldjgkihaaaDok7
import Derived.Test.YtbgejldjgkihaaaDok8
namespace Go.Proofs.Ytbgejldjgkihaaa
set_option linter.unusedSimpArgs false
set_option linter.unusedVariables false
open Go.ChangeShapes Go.WideShapes Go.ChangeAt Go.RowKit Go.BigFrame

theorem head_parts {d : Dc} {xs : List Shp} {ls : List Lvl} {n : Nat} (hx : xs.length = n) (h : headOk d xs ls = true) : planOk d.p xs = true ∧ inB d.mode 1 9 = true ∧ inB d.at_ 0 1000000000 = true ∧ inB d.start 0 d.at_ = true ∧ utfOk d.utf = true ∧ wireOk d.wire = true ∧ fieldIn d.field xs = true ∧ stackOk d n ls = true := by
  subst hx
  simpa only [headOk, Bool.and_eq_true] using h
theorem nine_modes {d : Dc} (h : inB d.mode 1 9 = true) : d.mode = 1 ∨ d.mode = 2 ∨ d.mode = 3 ∨ d.mode = 4 ∨ d.mode = 5 ∨ d.mode = 6 ∨ d.mode = 7 ∨ d.mode = 8 ∨ d.mode = 9 := by simp only [inB, decide_eq_true_eq] at h; omega
theorem specDecOk_any (d : Dc) (a : Option Addr) (cap n : Nat) (xs : List Shp) (sa : Option Addr) (scap m : Nat) (ls : List Lvl) (w : World) (h : Shs w a xs) (h' : Lvls w sa ls) (hx : xs.length = n) (hl : ls.length = m) (hn : n ≤ 1048576) (hm : fldSum xs ≤ 1048576) (hm' : m ≤ 1048576) :
    Calls Try.prog 25 #[d.val (.slice a n cap) (.slice sa m scap)] w fun r w' => r = .returned (.bool (decOk d xs ls)) ∧ Below w.heap.size w w' := by
  cases hh : headOk d xs ls
  · rw [show decOk d xs ls = false by simp only [decOk, hh, Bool.false_and]]
    exact specDecOk_head d a cap n xs sa scap m ls w h h' hx hl hn hm hm' hh
  · obtain ⟨R, hR⟩ : ∃ R, decOk d xs ls = R := ⟨_, rfl⟩
    rw [hR]
    have hT : (endOk d && (wantOk d ls && (kindOk d && scanD d ls))) = R := by rw [← hR]; simp only [decOk, hh, Bool.true_and]
    obtain ⟨h1, h2, h3, h4, h5, h6, h7, h8⟩ := head_parts hx hh
    rcases nine_modes h2 with hM | hM | hM | hM | hM | hM | hM | hM | hM
    · exact specDecOk_m1 d a cap n xs sa scap m ls w h h' hx hl hn hm hm' h1 h2 h3 h4 h5 h6 h7 h8 hM R hT
    · exact specDecOk_m2 d a cap n xs sa scap m ls w h h' hx hl hn hm hm' h1 h2 h3 h4 h5 h6 h7 h8 hM R hT
    · exact specDecOk_m3 d a cap n xs sa scap m ls w h h' hx hl hn hm hm' h1 h2 h3 h4 h5 h6 h7 h8 hM R hT
    · exact specDecOk_m4 d a cap n xs sa scap m ls w h h' hx hl hn hm hm' h1 h2 h3 h4 h5 h6 h7 h8 hM R hT
    · exact specDecOk_m5 d a cap n xs sa scap m ls w h h' hx hl hn hm hm' h1 h2 h3 h4 h5 h6 h7 h8 hM R hT
    · exact specDecOk_m6 d a cap n xs sa scap m ls w h h' hx hl hn hm hm' h1 h2 h3 h4 h5 h6 h7 h8 hM R hT
    · exact specDecOk_m7 d a cap n xs sa scap m ls w h h' hx hl hn hm hm' h1 h2 h3 h4 h5 h6 h7 h8 hM R hT
    · exact specDecOk_m8 d a cap n xs sa scap m ls w h h' hx hl hn hm hm' h1 h2 h3 h4 h5 h6 h7 h8 hM R hT
    · exact specDecOk_m9 d a cap n xs sa scap m ls w h h' hx hl hn hm hm' h1 h2 h3 h4 h5 h6 h7 h8 hM R hT
end Go.Proofs.Ytbgejldjgkihaaa
