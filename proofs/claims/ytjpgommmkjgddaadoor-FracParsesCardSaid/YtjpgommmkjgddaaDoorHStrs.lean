/- strconv.Itoa, strings.Cut, strconv.Atoi where the variables of the library stand as the program lays them. -/
import Derived.Test.YtjpgommmkjgddaaDoorPx0
import Derived.Test.YtjpgommmkjgddaaDoorHShelf
import Derived.Test.YtjpgommmkjgddaaDoorWMore
import Derived.Lib.AppendIntMem
import Derived.Lib.AtoiErrMem
import Derived.Sort.Grow
namespace Go.Proofs.YtjpgommmkjgddaaDoor.P
open Go.RowKit Go.Proofs.YtjpgommmkjgddaaDoorW.PrintWords Go.Proofs.YtjpgommmkjgddaaDoorW.PrintLast Go.Proofs.YtjpgommmkjgddaaDoorW.PrintMore
set_option linter.unusedVariables false
set_option linter.unusedSimpArgs false

theorem below_grown_ (w : World) (q : Nat) (os : Array Obj) : Below w.heap.size w (Go.Sort.grow (w.drewN q) os) :=
  ⟨rfl, rfl, rfl, by first | (simp [Go.Sort.grow]; done) | (simp [Go.Sort.grow]; omega), fun i hi => by
    show ((w.drewN q).heap ++ os)[i]? = _
    rw [Array.getElem?_append_left (by show i < w.heap.size; omega)]
    rfl⟩
/-- The library's variables stand as they are laid. -/
structure GL (w : World) : Prop where
  tab : Lib.TabIs Tryd.prog w "internal/strconv.uint64pow10" .u64 Lib.pow10Tab
  syn : ∃ tp p, w.var? Tryd.prog "strconv.ErrSyntax" = some #[.iface tp p]
  rng : ∃ tp p, w.var? Tryd.prog "strconv.ErrRange" = some #[.iface tp p]
theorem var_below {P : Program} {w w' : World} {n : String} {cs : Array Value} (h : w.var? P n = some cs) (hb : Below w.heap.size w w') : w'.var? P n = some cs := by
  unfold World.var? at *
  cases hg : P.globalNamed n with
  | none => simp [hg] at h
  | some g =>
    simp only [hg, Option.bind_some] at h ⊢
    have hlt : g < w.heap.size := by
      rcases Nat.lt_or_ge g w.heap.size with h' | h'
      · exact h'
      · rw [Array.getElem?_eq_none h'] at h; simp at h
    rw [hb.block g hlt]
    exact h
theorem GL.below {w w' : World} (h : GL w) (hb : Below w.heap.size w w') : GL w' where
  tab := var_below h.tab hb
  syn := by
    obtain ⟨tp, p, h⟩ := h.syn
    exact ⟨tp, p, var_below h hb⟩
  rng := by
    obtain ⟨tp, p, h⟩ := h.rng
    exact ⟨tp, p, var_below h hb⟩
theorem glq {w W W' : World} (h : Aside0 (GL w)) (hb : Aside0 (Below w.heap.size w W)) (e : Below w.heap.size w W → Below w.heap.size w W' := by intro h_; repeat (first | (with_reducible first | exact h_ | apply below_alloc | apply pw_below_drewN | apply below_drew1 | refine below_set ?_ (Aside0.out (by assumption))) | exact h_)) : GL W' := h.out.below (e hb.out)

def strconv_Itoa.f (n : Int) : Option ByteArray := if -9223372036854775808 ≤ n ∧ n ≤ 9223372036854775807 then some ⟨(Lib.itoa n).toArray⟩ else none
theorem strconv_Itoa.calls (n : Int) (r : ByteArray) (w : World) (hGL : GL w) (h : strconv_Itoa.f n = some r) :
    Calls Tryd.prog 47 #[.int .i64 n] w fun e w' => e = .returned (.string r) ∧ Below w.heap.size w w' := by
  unfold strconv_Itoa.f at h
  split at h
  · rename_i hc
    cases h
    refine (Tryd.strconv_Itoa n hc.1 hc.2 w hGL.tab).mono ?_
    rintro e w' ⟨rfl, k, os, rfl⟩
    exact ⟨rfl, below_grown_ w k os⟩
  · cases h

/-- What the text is cut into at its first '/'. -/
def cutS (s : ByteArray) : List UInt8 × List UInt8 × Bool := Lib.cut s.data.toList [47]
theorem index_slash (s : ByteArray) : Lib.index s.data.toList (⟨#[47]⟩ : ByteArray).data.toList = Lib.indexByte s.data.toList 47 := Lib.index_one _ _
set_option maxHeartbeats 1000000 in
theorem litecut_calls (s : ByteArray) (hs : s.size ≤ 281474976710656) (w : World) :
    Calls Tryd.prog 79 #[.string s, .string ⟨#[47]⟩] w fun e w' => e = .returned (.tuple #[.string ⟨(cutS s).1.toArray⟩, .string ⟨(cutS s).2.1.toArray⟩, .bool (cutS s).2.2]) ∧ ∃ n, w' = w.drewN n := by
  have mixed : Tryd.prog.follows .mixedOrders = true := by kernel_rfl
  rcases Lib.indexB_cases s ⟨#[47]⟩ with hix | ⟨i, hix, hroom⟩
  · obtain ⟨e1, e2, e3⟩ := Lib.cutB_miss s ⟨#[47]⟩ hix
    have e1 : (⟨(cutS s).1.toArray⟩ : ByteArray) = _ := e1
    have e2 : (⟨(cutS s).2.1.toArray⟩ : ByteArray) = _ := e2
    have e3 : (cutS s).2.2 = _ := e3
    rw [e1, e2, e3]
    go_enter Tryd.func79, Tryd.ntmps79
    go_wp2_with (go_at_call 91; refine (Tryd.stringslite_Index_one s 47 _).mono ?_; rintro e w' ⟨rfl, rfl⟩; rw [← index_slash, show Lib.index s.data.toList (⟨#[47]⟩ : ByteArray).data.toList = _ from hix])
    go_ret3
    exact ⟨rfl, 0, rfl⟩
  · obtain ⟨e1, e2, e3⟩ := Lib.cutB_hit s ⟨#[47]⟩ i hix
    have e1 : (⟨(cutS s).1.toArray⟩ : ByteArray) = _ := e1
    have e2 : (⟨(cutS s).2.1.toArray⟩ : ByteArray) = _ := e2
    have e3 : (cutS s).2.2 = _ := e3
    rw [e1, e2, e3]
    have hroom : i + 1 ≤ s.size := hroom
    have c1 : (0 : Int) ≤ ↑i := by omega
    have c2 : (↑i : Int) ≤ ↑s.size := by omega
    have hw : IntKind.i64.wrap ((i : Int) + 1) = ((i + 1 : Nat) : Int) := by rw [IntKind.wrap_i64]; omega
    have c3 : (0 : Int) ≤ IntKind.i64.wrap ((i : Int) + 1) := by rw [hw]; omega
    have c4 : IntKind.i64.wrap ((i : Int) + 1) ≤ ↑s.size := by rw [hw]; omega
    go_enter Tryd.func79, Tryd.ntmps79
    go_wp2_with (go_at_call 91; refine (Tryd.stringslite_Index_one s 47 _).mono ?_; rintro e w' ⟨rfl, rfl⟩; rw [← index_slash, show Lib.index s.data.toList (⟨#[47]⟩ : ByteArray).data.toList = _ from hix])
    go_region_o
    go_wp2
    go_ret3
    exact ⟨rfl, 1, rfl⟩
theorem cut_calls (s : ByteArray) (hs : s.size ≤ 281474976710656) (w : World) :
    Calls Tryd.prog 51 #[.string s, .string ⟨#[47]⟩] w fun e w' => e = .returned (.tuple #[.string ⟨(cutS s).1.toArray⟩, .string ⟨(cutS s).2.1.toArray⟩, .bool (cutS s).2.2]) ∧ Below w.heap.size w w' := by
  go_enter Tryd.func51, Tryd.ntmps51
  go_wp2_with (go_at_call 79; refine (litecut_calls s hs _).mono ?_; rintro e w' ⟨rfl, n, rfl⟩)
  go_ret3
  refine ⟨rfl, ?_⟩
  apply pw_below_drewN
  exact Below.refl _ _
/-- strconv.Atoi, where the text spells an int. -/
theorem atoi_ok (s : ByteArray) (hs : s.size ≤ 281474976710656) (v : Int) (h : Lib.atoiAll s.data.toList = .ok v) (w : World) :
    Calls Tryd.prog 52 #[.string s] w fun e w' => e = .returned (.tuple #[.int .i64 v, .nilIface]) ∧ Below w.heap.size w w' := by
  refine (Tryd.strconv_Atoi_ok s (by omega) v h w).mono ?_
  rintro e w' ⟨rfl, h⟩
  refine ⟨rfl, ?_⟩
  rcases h with rfl | ⟨t, rfl⟩
  · exact Below.refl _ _
  · exact Lib.bytesWorld_below _ _ _
/-- strconv.Atoi, where it does not. -/
theorem atoi_bad (s : ByteArray) (hs : s.size ≤ 281474976710656) (h : ∀ v, Lib.atoiAll s.data.toList ≠ .ok v) (w : World) (hGL : GL w) :
    Calls Tryd.prog 52 #[.string s] w fun e w' => ∃ v N, e = .returned (.tuple #[.int .i64 v, .iface 112 (.pointer (some ⟨N, 0, none⟩))]) ∧ Below w.heap.size w w' := by
  cases hc : Lib.atoiAll s.data.toList with
  | ok v => exact absurd hc (h v)
  | «syntax» =>
    obtain ⟨tp, p, hv⟩ := hGL.syn
    refine (Tryd.strconv_Atoi_syntax_var s hs hc tp p w hv).mono ?_
    rintro e w' ⟨N, rfl, _, _, hb⟩
    exact ⟨_, N, rfl, hb⟩
  | range =>
    obtain ⟨tp, p, hv⟩ := hGL.rng
    refine (Tryd.strconv_Atoi_range_var s hs hc tp p w hv).mono ?_
    rintro e w' ⟨N, rfl, _, _, hb⟩
    exact ⟨_, N, rfl, hb⟩
end Go.Proofs.YtjpgommmkjgddaaDoor.P
