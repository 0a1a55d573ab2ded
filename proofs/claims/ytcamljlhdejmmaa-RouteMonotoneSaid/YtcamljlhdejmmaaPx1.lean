-- Written by this session's own copy of a printing program (wip/tools); Lean checks it.
import Derived.Test.YtcamljlhdejmmaaPx0
namespace Go.Proofs.Ytcamljlhdejmmaa.P
open Go.RowKit Go.Proofs.YtcamljlhdejmmaaW.PrintWords Go.Proofs.YtcamljlhdejmmaaW.PrintLast Go.Proofs.YtcamljlhdejmmaaW.PrintMore
attribute [local go_sem] max2_int min2_int max_two min_two max_three min_three max_four min_four   -- for this text's walks alone
set_option linter.unusedVariables false
set_option linter.unusedSimpArgs false

theorem eqi27_cons {d c : Nat} {xs ys : Array Value} {i : Nat} {is : List Nat} {a b : Value} {r s : Bool} {w : World} (ha : (part 3 xs (i * c)).run Try.prog w = .ok a w) (hb : (part 3 ys (i * c)).run Try.prog w = .ok b w) (he : (Op.equalIn d 3 a b).run Try.prog w = .ok r w) (hr : (Op.eqItems d 3 c xs ys is).run Try.prog w = .ok s w) : (Op.eqItems d 3 c xs ys (i :: is)).run Try.prog w = .ok (r && s) w := by
  rw [Op.eqItems]
  simp only [Sem.run_bind, ha, hb, he, Result.andThen_ok]
  cases r
  · simp
  · simpa using hr
theorem eqA27 (d : Nat) (w : World) (x0 y0 : Int) (x1 y1 : Int) :
    (Op.equalIn (d + 2) 27 (.agg #[.int .i64 x0, .int .i64 x1]) (.agg #[.int .i64 y0, .int .i64 y1])).run Try.prog w = .ok (x0 == y0 && (x1 == y1)) w := by
  have hs : (Try.prog.info? 3).isSome = true := by kernel_rfl
  obtain ⟨i, hi⟩ := Option.isSome_iff_exists.1 hs
  have hc : Try.prog.cellsOf 3 = 1 := by kernel_rfl
  rw [run_equalIn_array (P := Try.prog) (w := w) (d + 1) _ _ Try.underlying27 hi, hc, show List.range 2 = [0, 1] from rfl]
  have hh : (Op.eqItems (d + 1) 3 1 #[.int .i64 x0, .int .i64 x1] #[.int .i64 y0, .int .i64 y1] [0, 1]).run Try.prog w = .ok (x0 == y0 && (x1 == y1 && true)) w := by
    refine eqi27_cons (by go_simp; rfl) (by go_simp; rfl) (by go_simp) ?_
    refine eqi27_cons (by go_simp; rfl) (by go_simp; rfl) (by go_simp) ?_
    simp [Op.eqItems]
  rw [hh, Bool.and_true]
end Go.Proofs.Ytcamljlhdejmmaa.P
