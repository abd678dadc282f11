/- Both DecOk. -/
import Derived.Test.YtbgejldjgkihaaaDok4
namespace Go.Proofs.Ytbgejldjgkihaaa
set_option linter.unusedSimpArgs false
set_option linter.unusedVariables false
open Go.ChangeShapes Go.WideShapes Go.ChangeAt Go.RowKit Go.BigFrame

theorem wpQuiet_load_mid {P : Program} {ops : Array Oper} {rest : List Oper} {op : Oper} {a : Act} {w : World} {Q : Act → Prop} (ty : TypeId) (x : Operand) (ho : op.op = .load ty x) (hw : Region.wanted op (yielded ops a.tmps) = true)
    (b o : Nat) (hx : a.eval x = .pointer (some ⟨b, o, none⟩)) (cs : List Value) (d : TypeDesc) (hc : w.rangeAt b o cs) (hlt : b < w.heap.size)
    (hu : P.underlying ty = some d) (hd : d.isRow = true) (hi : (P.info? ty).map (·.size) = some cs.length)
    (h : wpQuiet P ops (fun w' => ∃ x, w' = World.ext w x) Q rest (a.put op.dst (.agg cs.toArray))) : wpQuiet P ops (fun w' => ∃ x, w' = World.ext w x) Q (op :: rest) a :=
  BigFrame.wpQuiet_want hw fun K hK => ⟨.agg cs.toArray, fun w' hw' => by
    obtain ⟨y, rfl⟩ := hw'
    have hb := World.ext_below w y
    have hr : (World.ext w y).rangeAt b o cs := fun j v hj => (hb.cell (p := ⟨b, o + j, none⟩) hlt).trans (hc j v hj)
    unfold Oper.quietAt execOp
    simp only [ho, hx, Instr.loadAt, Instr.sureAddr, Sem.run_bind, Sem.run_pure, Result.andThen_ok, run_loadVar_mid _ b o ty cs d hr hu hd hi]
    exact ⟨rfl, rfl⟩, hK _ h⟩
def zeroE : Ev := ⟨0, 0, 0, 0, ⟨#[]⟩, 0, 0⟩
def endOk (d : Dc) : Bool := if d.mode = 9 then eventOk d.end_ && terminal d.end_ else decide (d.end_ = zeroE)
def wantOk (d : Dc) (ls : List Lvl) : Bool := if d.mode = 6 ∨ d.mode = 7 ∨ d.mode = 8 then inB d.want 1 (topL ls) else d.want == 0
def free (d : Dc) : Bool := decide (d.field = zeroF) || allowed d.field d.wire
def kindOk (d : Dc) : Bool :=
  if d.mode = 3 then d.wire == 0 && free d
  else if d.mode = 4 then d.wire == 2 && free d
  else if d.mode = 5 then !(widthOf d.wire == 0) && free d
  else if d.mode = 6 then d.field.kind == 6 || d.field.kind == 7
  else if d.mode = 8 then runsF d.field
  else true
/-- What is asked of every decoder, whatever its mode. -/
def headOk (d : Dc) (xs : List Shp) (ls : List Lvl) : Bool :=
  planOk d.p xs && (inB d.mode 1 9 && (inB d.at_ 0 1000000000 && (inB d.start 0 d.at_ && (utfOk d.utf && (wireOk d.wire && (fieldIn d.field xs && stackOk d xs.length ls))))))
def decOk (d : Dc) (xs : List Shp) (ls : List Lvl) : Bool :=
  headOk d xs ls && (endOk d && (wantOk d ls && (kindOk d && scanD d ls)))
set_option maxRecDepth 100000 in
set_option maxHeartbeats 8000000 in
theorem specDecOk_head (d : Dc) (a : Option Addr) (cap n : Nat) (xs : List Shp) (sa : Option Addr) (scap m : Nat) (ls : List Lvl) (w : World) (h : Shs w a xs) (h' : Lvls w sa ls) (hx : xs.length = n) (hl : ls.length = m) (hn : n ≤ 1048576) (hm : fldSum xs ≤ 1048576) (hm' : m ≤ 1048576) (hh : headOk d xs ls = false) :
    Calls Try.prog 25 #[d.val (.slice a n cap) (.slice sa m scap)] w fun r w' => r = .returned (.bool false) ∧ Below w.heap.size w w' := by
  have HL := Lib.hid hl; clear hl
  have HX := Lib.hid hx; clear hx
  have HSs := Lib.hid h; clear h
  have HSl := Lib.hid h'; clear h'
  have hxn : xs.length = n := HX.out
  have HH := Lib.hid hh; clear hh
  go_enter Try.func25, Try.ntmps25
  go_wp2_with fail
  refine (specPlanOk_any a cap n d.p xs _ (HSs.out.keep (by ((repeat (first | (with_reducible exact Below.refl _ _) | (with_reducible assumption) | (with_reducible refine Below.alloc ?_ ?_ _) | (with_reducible refine Below.setCell ?_ ?_ _) | (with_reducible refine Below.drew ?_) | (with_reducible refine below_setRow ?_ ?_ _) | (refine Below.trans ?_ (Below.mono (by assumption) ?_)))); all_goals (first | omega | (simp; done) | (simp; omega))))) HX.out hn hm).mono ?_
  rintro r w1 ⟨rfl, hb1⟩
  have hz1 := hb1.size
  try simp only [World.size_alloc, World.size_setCell, World.size_drew] at hz1
  have hb1b : Below w.heap.size w w1 := by ((repeat (first | (with_reducible exact Below.refl _ _) | (with_reducible assumption) | (with_reducible refine Below.alloc ?_ ?_ _) | (with_reducible refine Below.setCell ?_ ?_ _) | (with_reducible refine Below.drew ?_) | (with_reducible refine below_setRow ?_ ?_ _) | (refine Below.trans ?_ (Below.mono (by assumption) ?_)))); all_goals (first | omega | (simp; done) | (simp; omega)))
  have kA := box_new0 hb1
  have hBA := box_lt0 hb1
  try simp only [World.size_alloc, World.size_setCell, World.size_drew] at kA
  try simp only [World.size_alloc, World.size_setCell, World.size_drew] at hBA
  clear hb1; have hb1 := hb1b; clear hb1b
  cases h1 : planOk d.p xs
  · skip
    skip
    go_wp2
    go_ret
    exact ⟨rfl, by ((repeat (first | (with_reducible exact Below.refl _ _) | (with_reducible assumption) | (with_reducible refine Below.alloc ?_ ?_ _) | (with_reducible refine Below.setCell ?_ ?_ _) | (with_reducible refine Below.drew ?_) | (with_reducible refine below_setRow ?_ ?_ _) | (refine Below.trans ?_ (Below.mono (by assumption) ?_)))); all_goals (first | omega | (simp; done) | (simp; omega)))⟩
  · skip
    go_wp2_with (first | ((with_reducible show wpList _ _ _ (⟨_, Op.load 66 _, _, _, _, _⟩ :: _) _ _); first | (refine wpList_load_mid rfl 66 _ rfl w.heap.size 0 rfl (Dc.cl d (.slice a n cap) (.slice sa m scap)) _ (range_of_cells (by assumption)) Try.underlying66 rfl size_Dec ?_) | (refine wpList_load_want 66 _ rfl rfl w.heap.size 0 rfl (Dc.cl d (.slice a n cap) (.slice sa m scap)) _ (range_of_cells (by assumption)) Try.underlying66 rfl size_Dec ?_)))
    refine (l1In_any _ _ _ _).mono ?_
    rintro r wx2 ⟨rfl, rfl⟩
    cases h2 : inB d.mode 1 9
    · skip
      skip
      go_wp2
      go_ret
      exact ⟨rfl, by ((repeat (first | (with_reducible exact Below.refl _ _) | (with_reducible assumption) | (with_reducible refine Below.alloc ?_ ?_ _) | (with_reducible refine Below.setCell ?_ ?_ _) | (with_reducible refine Below.drew ?_) | (with_reducible refine below_setRow ?_ ?_ _) | (refine Below.trans ?_ (Below.mono (by assumption) ?_)))); all_goals (first | omega | (simp; done) | (simp; omega)))⟩
    · skip
      go_wp2_with (first | ((with_reducible show wpList _ _ _ (⟨_, Op.load 66 _, _, _, _, _⟩ :: _) _ _); first | (refine wpList_load_mid rfl 66 _ rfl w.heap.size 0 rfl (Dc.cl d (.slice a n cap) (.slice sa m scap)) _ (range_of_cells (by assumption)) Try.underlying66 rfl size_Dec ?_) | (refine wpList_load_want 66 _ rfl rfl w.heap.size 0 rfl (Dc.cl d (.slice a n cap) (.slice sa m scap)) _ (range_of_cells (by assumption)) Try.underlying66 rfl size_Dec ?_)))
      refine (l1In_any _ _ _ _).mono ?_
      rintro r wx3 ⟨rfl, rfl⟩
      cases h3 : inB d.at_ 0 1000000000
      · skip
        skip
        go_wp2
        go_ret
        exact ⟨rfl, by ((repeat (first | (with_reducible exact Below.refl _ _) | (with_reducible assumption) | (with_reducible refine Below.alloc ?_ ?_ _) | (with_reducible refine Below.setCell ?_ ?_ _) | (with_reducible refine Below.drew ?_) | (with_reducible refine below_setRow ?_ ?_ _) | (refine Below.trans ?_ (Below.mono (by assumption) ?_)))); all_goals (first | omega | (simp; done) | (simp; omega)))⟩
      · skip
        go_wp2_with (first | ((with_reducible show wpList _ _ _ (⟨_, Op.load 66 _, _, _, _, _⟩ :: _) _ _); first | (refine wpList_load_mid rfl 66 _ rfl w.heap.size 0 rfl (Dc.cl d (.slice a n cap) (.slice sa m scap)) _ (range_of_cells (by assumption)) Try.underlying66 rfl size_Dec ?_) | (refine wpList_load_want 66 _ rfl rfl w.heap.size 0 rfl (Dc.cl d (.slice a n cap) (.slice sa m scap)) _ (range_of_cells (by assumption)) Try.underlying66 rfl size_Dec ?_)))
        refine (l1In_any _ _ _ _).mono ?_
        rintro r wx4 ⟨rfl, rfl⟩
        cases h4 : inB d.start 0 d.at_
        · skip
          skip
          go_wp2
          go_ret
          exact ⟨rfl, by ((repeat (first | (with_reducible exact Below.refl _ _) | (with_reducible assumption) | (with_reducible refine Below.alloc ?_ ?_ _) | (with_reducible refine Below.setCell ?_ ?_ _) | (with_reducible refine Below.drew ?_) | (with_reducible refine below_setRow ?_ ?_ _) | (refine Below.trans ?_ (Below.mono (by assumption) ?_)))); all_goals (first | omega | (simp; done) | (simp; omega)))⟩
        · skip
          go_wp2_with (first | ((with_reducible show wpList _ _ _ (⟨_, Op.load 66 _, _, _, _, _⟩ :: _) _ _); first | (refine wpList_load_mid rfl 66 _ rfl w.heap.size 0 rfl (Dc.cl d (.slice a n cap) (.slice sa m scap)) _ (range_of_cells (by assumption)) Try.underlying66 rfl size_Dec ?_) | (refine wpList_load_want 66 _ rfl rfl w.heap.size 0 rfl (Dc.cl d (.slice a n cap) (.slice sa m scap)) _ (range_of_cells (by assumption)) Try.underlying66 rfl size_Dec ?_)))
          refine (specUtfOk_any d.utf _).mono ?_
          rintro r w5 ⟨rfl, hb5⟩
          have hz5 := hb5.size
          try simp only [World.size_alloc, World.size_setCell, World.size_drew] at hz5
          have hb5b : Below w1.heap.size w1 w5 := by ((repeat (first | (with_reducible exact Below.refl _ _) | (with_reducible assumption) | (with_reducible refine Below.alloc ?_ ?_ _) | (with_reducible refine Below.setCell ?_ ?_ _) | (with_reducible refine Below.drew ?_) | (with_reducible refine below_setRow ?_ ?_ _) | (refine Below.trans ?_ (Below.mono (by assumption) ?_)))); all_goals (first | omega | (simp; done) | (simp; omega)))
          have kA_ := box_next hb5b hBA kA; clear kA
          have kA := kA_; clear kA_
          have hBA_ := Nat.lt_of_lt_of_le hBA hb5b.size; clear hBA; have hBA := hBA_; clear hBA_
          clear hb5; have hb5 := hb5b; clear hb5b
          cases h5 : utfOk d.utf
          · skip
            skip
            go_wp2
            go_ret
            exact ⟨rfl, by ((repeat (first | (with_reducible exact Below.refl _ _) | (with_reducible assumption) | (with_reducible refine Below.alloc ?_ ?_ _) | (with_reducible refine Below.setCell ?_ ?_ _) | (with_reducible refine Below.drew ?_) | (with_reducible refine below_setRow ?_ ?_ _) | (refine Below.trans ?_ (Below.mono (by assumption) ?_)))); all_goals (first | omega | (simp; done) | (simp; omega)))⟩
          · skip
            go_wp2_with (first | ((with_reducible show wpList _ _ _ (⟨_, Op.load 66 _, _, _, _, _⟩ :: _) _ _); first | (refine wpList_load_mid rfl 66 _ rfl w.heap.size 0 rfl (Dc.cl d (.slice a n cap) (.slice sa m scap)) _ (range_of_cells (by assumption)) Try.underlying66 rfl size_Dec ?_) | (refine wpList_load_want 66 _ rfl rfl w.heap.size 0 rfl (Dc.cl d (.slice a n cap) (.slice sa m scap)) _ (range_of_cells (by assumption)) Try.underlying66 rfl size_Dec ?_)))
            refine (specWireOk_any _ _).mono ?_
            rintro r wx6 ⟨rfl, rfl⟩
            cases h6 : wireOk d.wire
            · skip
              skip
              go_wp2
              go_ret
              exact ⟨rfl, by ((repeat (first | (with_reducible exact Below.refl _ _) | (with_reducible assumption) | (with_reducible refine Below.alloc ?_ ?_ _) | (with_reducible refine Below.setCell ?_ ?_ _) | (with_reducible refine Below.drew ?_) | (with_reducible refine below_setRow ?_ ?_ _) | (refine Below.trans ?_ (Below.mono (by assumption) ?_)))); all_goals (first | omega | (simp; done) | (simp; omega)))⟩
            · skip
              go_wp2_with (first | ((with_reducible show wpList _ _ _ (⟨_, Op.load 66 _, _, _, _, _⟩ :: _) _ _); first | (refine wpList_load_mid rfl 66 _ rfl w.heap.size 0 rfl (Dc.cl d (.slice a n cap) (.slice sa m scap)) _ (range_of_cells (by assumption)) Try.underlying66 rfl size_Dec ?_) | (refine wpList_load_want 66 _ rfl rfl w.heap.size 0 rfl (Dc.cl d (.slice a n cap) (.slice sa m scap)) _ (range_of_cells (by assumption)) Try.underlying66 rfl size_Dec ?_)))
              refine (specFieldOk_any d a cap n xs sa scap m ls _ (HSs.out.keep (by ((repeat (first | (with_reducible exact Below.refl _ _) | (with_reducible assumption) | (with_reducible refine Below.alloc ?_ ?_ _) | (with_reducible refine Below.setCell ?_ ?_ _) | (with_reducible refine Below.drew ?_) | (with_reducible refine below_setRow ?_ ?_ _) | (refine Below.trans ?_ (Below.mono (by assumption) ?_)))); all_goals (first | omega | (simp; done) | (simp; omega))))) (Sl.keep HSl.out (by ((repeat (first | (with_reducible exact Below.refl _ _) | (with_reducible assumption) | (with_reducible refine Below.alloc ?_ ?_ _) | (with_reducible refine Below.setCell ?_ ?_ _) | (with_reducible refine Below.drew ?_) | (with_reducible refine below_setRow ?_ ?_ _) | (refine Below.trans ?_ (Below.mono (by assumption) ?_)))); all_goals (first | omega | (simp; done) | (simp; omega))))) HX.out HL.out hn hm hm').mono ?_
              rintro r w7 ⟨rfl, hb7⟩
              have hz7 := hb7.size
              try simp only [World.size_alloc, World.size_setCell, World.size_drew] at hz7
              have hb7b : Below w5.heap.size w5 w7 := by ((repeat (first | (with_reducible exact Below.refl _ _) | (with_reducible assumption) | (with_reducible refine Below.alloc ?_ ?_ _) | (with_reducible refine Below.setCell ?_ ?_ _) | (with_reducible refine Below.drew ?_) | (with_reducible refine below_setRow ?_ ?_ _) | (refine Below.trans ?_ (Below.mono (by assumption) ?_)))); all_goals (first | omega | (simp; done) | (simp; omega)))
              have kA_ := box_next hb7b hBA kA; clear kA
              have kA := kA_; clear kA_
              have hBA_ := Nat.lt_of_lt_of_le hBA hb7b.size; clear hBA; have hBA := hBA_; clear hBA_
              clear hb7; have hb7 := hb7b; clear hb7b
              cases h7 : fieldIn d.field xs
              · skip
                skip
                go_wp2
                go_ret
                exact ⟨rfl, by ((repeat (first | (with_reducible exact Below.refl _ _) | (with_reducible assumption) | (with_reducible refine Below.alloc ?_ ?_ _) | (with_reducible refine Below.setCell ?_ ?_ _) | (with_reducible refine Below.drew ?_) | (with_reducible refine below_setRow ?_ ?_ _) | (refine Below.trans ?_ (Below.mono (by assumption) ?_)))); all_goals (first | omega | (simp; done) | (simp; omega)))⟩
              · skip
                go_wp2_with (first | ((with_reducible show wpList _ _ _ (⟨_, Op.load 66 _, _, _, _, _⟩ :: _) _ _); first | (refine wpList_load_mid rfl 66 _ rfl w.heap.size 0 rfl (Dc.cl d (.slice a n cap) (.slice sa m scap)) _ (range_of_cells (by assumption)) Try.underlying66 rfl size_Dec ?_) | (refine wpList_load_want 66 _ rfl rfl w.heap.size 0 rfl (Dc.cl d (.slice a n cap) (.slice sa m scap)) _ (range_of_cells (by assumption)) Try.underlying66 rfl size_Dec ?_)))
                refine (specStackOk_any d a cap n xs sa scap m ls _ (HSs.out.keep (by ((repeat (first | (with_reducible exact Below.refl _ _) | (with_reducible assumption) | (with_reducible refine Below.alloc ?_ ?_ _) | (with_reducible refine Below.setCell ?_ ?_ _) | (with_reducible refine Below.drew ?_) | (with_reducible refine below_setRow ?_ ?_ _) | (refine Below.trans ?_ (Below.mono (by assumption) ?_)))); all_goals (first | omega | (simp; done) | (simp; omega))))) (Sl.keep HSl.out (by ((repeat (first | (with_reducible exact Below.refl _ _) | (with_reducible assumption) | (with_reducible refine Below.alloc ?_ ?_ _) | (with_reducible refine Below.setCell ?_ ?_ _) | (with_reducible refine Below.drew ?_) | (with_reducible refine below_setRow ?_ ?_ _) | (refine Below.trans ?_ (Below.mono (by assumption) ?_)))); all_goals (first | omega | (simp; done) | (simp; omega))))) HX.out HL.out hn hm hm').mono ?_
                rintro r w8 ⟨rfl, hb8⟩
                have hz8 := hb8.size
                try simp only [World.size_alloc, World.size_setCell, World.size_drew] at hz8
                have hb8b : Below w7.heap.size w7 w8 := by ((repeat (first | (with_reducible exact Below.refl _ _) | (with_reducible assumption) | (with_reducible refine Below.alloc ?_ ?_ _) | (with_reducible refine Below.setCell ?_ ?_ _) | (with_reducible refine Below.drew ?_) | (with_reducible refine below_setRow ?_ ?_ _) | (refine Below.trans ?_ (Below.mono (by assumption) ?_)))); all_goals (first | omega | (simp; done) | (simp; omega)))
                have kA_ := box_next hb8b hBA kA; clear kA
                have kA := kA_; clear kA_
                have hBA_ := Nat.lt_of_lt_of_le hBA hb8b.size; clear hBA; have hBA := hBA_; clear hBA_
                clear hb8; have hb8 := hb8b; clear hb8b
                cases h8 : stackOk d n ls
                · skip
                  skip
                  go_wp2
                  go_ret
                  exact ⟨rfl, by ((repeat (first | (with_reducible exact Below.refl _ _) | (with_reducible assumption) | (with_reducible refine Below.alloc ?_ ?_ _) | (with_reducible refine Below.setCell ?_ ?_ _) | (with_reducible refine Below.drew ?_) | (with_reducible refine below_setRow ?_ ?_ _) | (refine Below.trans ?_ (Below.mono (by assumption) ?_)))); all_goals (first | omega | (simp; done) | (simp; omega)))⟩
                · skip
                  exact absurd HH.out (by simp only [headOk, hxn, h1, h2, h3, h4, h5, h6, h7, h8, Bool.true_and]; decide)
end Go.Proofs.Ytbgejldjgkihaaa
