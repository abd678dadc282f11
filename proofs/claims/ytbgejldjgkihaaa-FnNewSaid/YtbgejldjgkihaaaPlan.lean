/- Plans: what the laws' own functions do with them; which are valid. -/
import Derived.Test.YtbgejldjgkihaaaSchOk
namespace Go.Proofs.Ytbgejldjgkihaaa
set_option linter.unusedSimpArgs false
set_option linter.unusedVariables false
open Go.ChangeShapes Go.WideShapes Go.ChangeAt Go.RowKit Go.BigFrame

/-- A plan without its shapes. -/
structure Pl where
  root : Int
  deep : Int
  most : Int
  deriving DecidableEq
@[reducible] def Pl.val (p : Pl) (sh : Value) : Value := .agg #[sh, .int .i64 p.root, .int .i64 p.deep, .int .i64 p.most]
def planOk (p : Pl) (xs : List Shp) : Bool := schOk xs && (inB p.root 0 (xs.length - 1) && (inB p.deep 1 8 && inB p.most 0 2000))
def FreshPlan (w : World) (T TF : TypeId) (n : Nat) (p : Pl) (xs : List Shp) (r : Ending) (w' : World) : Prop :=
  ∃ a cap rs, r = .returned (p.val (.slice a n cap)) ∧ OwnShs w' w.heap.size T TF (.slice a n cap) n rs xs ∧ Below w.heap.size w w'
end Go.Proofs.Ytbgejldjgkihaaa
