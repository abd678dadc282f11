/- Lists of events that the program has made: what they hold, and when they are nil. -/
import Derived.Test.YtaoejdbkbnonpaaDrawS
import Derived.Test.YtaoejdbkbnonpaaMLaw1
namespace Go.Proofs.Ytaoejdbkbnonpaa
set_option linter.unusedSimpArgs false
set_option linter.unusedVariables false
open Go.ChangeShapes Go.WideShapes Go.ChangeAt Go.RowKit Go.BigFrame

def NewEv (w : World) (ys : List Ev) (r : Ending) (w' : World) : Prop := ∃ a cap, r = .returned (.slice a ys.length cap) ∧ Evs w' a ys ∧ (a = none → ys.length = 0 ∧ cap = 0) ∧ Below w.heap.size w w'
theorem newEv {f : FuncId} {args : Array Value} {w : World} {xs ys : List Ev} {t : TypeId} (h : Calls Try.prog f args w fun r w' => ∃ v, r = .returned v ∧ w'.ownsRow w.heap.size 78 7 v xs.length (xs.flatMap Ev.cs) ∧ Below w.heap.size w w') (e : ys = xs) :
    Calls Try.prog f args w (NewEv w ys) := by
  subst e
  refine h.mono ?_
  rintro r w' ⟨v, rfl, ho, hb⟩
  obtain ⟨a, cap, rfl, h2⟩ := owned_shape ho
  exact ⟨a, cap, rfl, evs_of_own h2 rfl, own_nil h2, hb⟩
theorem specShatN (a : Option Addr) (cap n : Nat) (xs : List Ev) (m : Int) (w : World) (h : Evs w a xs) (hx : xs.length = n) (hn : n ≤ 1048576) (hm : textSum xs ≤ 1048576) (hm2 : m ≤ 9223372036854775807) (hnil : a = none → n = 0 ∧ cap = 0) :
    Calls Try.prog 17 #[.slice a n cap, .int .i64 m] w (NewEv w (shattered m xs)) := by
  by_cases h1 : m < 1
  · exact newEv (t := 78) (specShattered_neg a cap n xs m w h hx hn h1 hnil) (shattered_neg h1 xs)
  · exact newEv (t := 78) (specShattered_pos a cap n xs m w h hx hn hm (by omega) hm2) (shattered_pos (by omega) xs)
theorem implShatN (a : Option Addr) (cap n : Nat) (xs : List Ev) (m : Int) (w : World) (h : Evs w a xs) (hx : xs.length = n) (hn : n ≤ 1048576) (hm : textSum xs ≤ 1048576) (hm2 : m ≤ 9223372036854775807) (hnil : a = none → n = 0 ∧ cap = 0) :
    Calls Try.prog 16 #[.slice a n cap, .int .i64 m] w (NewEv w (shattered m xs)) := by
  by_cases h1 : m < 1
  · exact newEv (t := 78) (implShattered_neg a cap n xs m w h hx hn h1 hnil) (shattered_neg h1 xs)
  · exact newEv (t := 78) (implShattered_pos a cap n xs m w h hx hn hm (by omega) hm2) (shattered_pos (by omega) xs)
theorem specMergN (a : Option Addr) (cap n : Nat) (xs : List Ev) (w : World) (h : Evs w a xs) (hx : xs.length = n) (hn : n ≤ 1048576) (hm : textSum xs ≤ 1048576) :
    Calls Try.prog 20 #[.slice a n cap] w (NewEv w (merged xs)) := newEv (t := 78) (specMerged_any a cap n xs w h hx hn hm) rfl
theorem implMergN (a : Option Addr) (cap n : Nat) (xs : List Ev) (w : World) (h : Evs w a xs) (hx : xs.length = n) (hn : n ≤ 1048576) (hm : textSum xs ≤ 1048576) :
    Calls Try.prog 19 #[.slice a n cap] w (NewEv w (merged xs)) := newEv (t := 78) (implMerged_any a cap n xs w h hx hn hm) rfl
end Go.Proofs.Ytaoejdbkbnonpaa
