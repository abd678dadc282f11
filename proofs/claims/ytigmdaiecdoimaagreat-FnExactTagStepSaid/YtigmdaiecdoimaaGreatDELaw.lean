/- What the laws over decoders and events use: wrappers. -/
import Derived.Test.YtigmdaiecdoimaaGreatFailS
import Derived.Test.YtigmdaiecdoimaaGreatEqDec
namespace Go.Proofs.YtigmdaiecdoimaaGreat
set_option linter.unusedSimpArgs false
set_option linter.unusedVariables false
open Go.ChangeShapes Go.WideShapes Go.ChangeAt Go.RowKit Go.BigFrame

theorem box_chg {w w' : World} {B lo hi : Nat} {cs : Array Value} (hc : Chg lo hi w w') (hB : B < w.heap.size) (hd : B < lo ∨ hi ≤ B) (k : ∀ i, w.cell? ⟨B, i, none⟩ = cs[i]?) : ∀ i, w'.cell? ⟨B, i, none⟩ = cs[i]? :=
  fun i => (World.cell?_of_block (a := ⟨B, i, none⟩) (hc.block B hB hd)).trans (k i)
theorem OwnDE.of_dec {w : World} {base n cap m scap : Nat} {a sa : Option Addr} {rs : List ShR} {xs : List Shp} {L : List Value} (h : OwnShs w base 116 47 (.slice a n cap) n rs xs) (h' : w.ownsRow base 78 2 (.slice sa m scap) m L) (hb : base ≤ w.heap.size) :
    OwnDE w base w.heap.size a n rs xs sa m L none 0 [] :=
  OwnDE.of_own h h' (World.ownsRow_nil w base 49 7) hb (by decide) (by decide) (by decide) (by decide) (by decide) (by decide)
theorem OwnDE.of_de {w : World} {base n cap m scap k ecap : Nat} {a sa ea : Option Addr} {rs : List ShR} {xs : List Shp} {L E : List Value} (h : OwnShs w base 116 47 (.slice a n cap) n rs xs) (h' : w.ownsRow base 78 2 (.slice sa m scap) m L) (h'' : w.ownsRow base 49 7 (.slice ea k ecap) k E) (hb : base ≤ w.heap.size) :
    OwnDE w base w.heap.size a n rs xs sa m L ea k E :=
  OwnDE.of_own h h' h'' hb (by decide) (by decide) (by decide) (by decide) (by decide) (by decide)
theorem markD_N (d : Dc) (a : Option Addr) (cap n : Nat) (rs : List ShR) (xs : List Shp) (sa : Option Addr) (scap m : Nat) (L : List Value) (ea : Option Addr) (k : Nat) (E : List Value) (lo hi N : Nat) (w : World) (ho : OwnDE w lo hi a n rs xs sa m L ea k E) (hn : n ≤ 1048576) (hm : fldSum xs ≤ 1048576) (hm' : m ≤ 1048576) (hN : kS 1 xs n + 2 * m = N) :
    Calls Tryz.prog 12 #[d.val (.slice a n cap) (.slice sa m scap), .int .i64 1] w fun r w' => r = .returned (.int .i64 (N : Int)) ∧ (∃ rs', OwnDE w' lo hi a n rs' (marksS 1 xs) sa m ((marksL (kS 1 xs n) m).flatMap Lvl.cs) ea k E) ∧ Chg lo hi w w' := by
  subst hN
  exact markDec_own d a cap n rs xs sa scap m L ea k E lo hi w ho hn hm hm'
theorem heldD_N (d : Dc) (a : Option Addr) (cap n : Nat) (rs : List ShR) (xs : List Shp) (sa : Option Addr) (scap m : Nat) (ea : Option Addr) (k : Nat) (E : List Value) (lo hi N : Nat) (w : World) (ho : OwnDE w lo hi a n rs (marksS 1 xs) sa m ((marksL (kS 1 xs n) m).flatMap Lvl.cs) ea k E) (hx : xs.length = n) (hn : n ≤ 1048576) (hm : fldSum xs ≤ 1048576) (hm' : m ≤ 1048576) (hN : kS 1 xs n + 2 * m = N) :
    Calls Tryz.prog 14 #[d.val (.slice a n cap) (.slice sa m scap), .int .i64 1] w fun r w' => r = .returned (.int .i64 (N : Int)) ∧ Below w.heap.size w w' := by
  subst hN
  exact heldDec_own d a cap n rs xs sa scap m ea k E lo hi w ho hx hn hm hm'
theorem markE_N (a : Option Addr) (cap n : Nat) (sh : Option Addr) (q : Nat) (rs : List ShR) (xs : List Shp) (sa : Option Addr) (m : Nat) (L E : List Value) (lo hi k : Nat) (w : World) (ho : OwnDE w lo hi sh q rs xs sa m L a n E) (hn : n ≤ 1048576) (h0 : 0 < k) (hk : k ≤ 100000000) :
    Calls Tryz.prog 13 #[.slice a n cap, .int .i64 (k : Int)] w fun r w' => r = .returned (.int .i64 ((k : Int) + 7 * (n : Int))) ∧ OwnDE w' lo hi sh q rs xs sa m L a n (marksE k n) ∧ Chg lo hi w w' := by
  obtain ⟨g1, e1, p1, p2, p3, p4⟩ := ho.ev.narrow ho.sh.le
  refine (markEventS_any a cap n E k g1 e1 w p3 (by omega) h0 hk).mono ?_
  rintro r w' ⟨hr, h2, hc⟩
  exact ⟨hr, ho.event h2 p1 p2 p4 hc, hc.widen p1 p2⟩
theorem heldE_N (a : Option Addr) (cap n : Nat) (sh : Option Addr) (q : Nat) (rs : List ShR) (xs : List Shp) (sa : Option Addr) (m : Nat) (L : List Value) (lo hi k : Nat) (w : World) (ho : OwnDE w lo hi sh q rs xs sa m L a n (marksE k n)) (hn : n ≤ 1048576) (h0 : 0 < k) (hk : k ≤ 100000000) :
    Calls Tryz.prog 15 #[.slice a n cap, .int .i64 (k : Int)] w fun r w' => r = .returned (.int .i64 ((k : Int) + 7 * (n : Int))) ∧ Below w.heap.size w w' :=
  heldEventS_any a cap n k lo hi w ho.ev (by omega) h0 hk
theorem eqE_same (a a' : Option Addr) (cap cap' n : Nat) (xs : List Ev) (w : World) (h : Evs w a xs) (h' : Evs w a' xs) (hx : xs.length = n) (hn : n ≤ 1048576) :
    Calls Tryz.prog 11 #[.slice a n cap, .slice a' n cap'] w fun r w' => r = .returned (.bool true) ∧ Below w.heap.size w w' :=
  (eqEventS_any a a' cap cap' n n xs xs w h h' hx hx hn hn).mono fun r w' ⟨h1, h2⟩ => ⟨by simpa using h1, h2⟩
end Go.Proofs.YtigmdaiecdoimaaGreat
