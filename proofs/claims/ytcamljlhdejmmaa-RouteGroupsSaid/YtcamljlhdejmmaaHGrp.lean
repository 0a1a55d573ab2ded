/- route.Groups itself, walked once. -/
import Derived.Test.YtcamljlhdejmmaaHGroups
import Derived.Test.YtcamljlhdejmmaaHIns
import Derived.Test.YtcamljlhdejmmaaMCmp
import Derived.Test.YtcamljlhdejmmaaWApart
import Derived.Test.YtcamljlhdejmmaaWMore
namespace Go.Proofs.Ytcamljlhdejmmaa.P
open Go.RowKit Go.Proofs.YtcamljlhdejmmaaW.PrintWords Go.Proofs.YtcamljlhdejmmaaW.PrintLast Go.Proofs.YtcamljlhdejmmaaW.PrintMore
set_option linter.unusedVariables false
set_option linter.unusedSimpArgs false

theorem run_store_func_ {P : Program} {w : World} {a : Addr} {m : Mode} (f : Fn) (x : Array Value) (y : Array Value) : (store a (.func f x y) m).run P w = stored P w a (.func f x y) m := run_store P w a _ m rfl
attribute [local go_sem] run_store_func_
theorem makeInts (W : World) (n : Nat) (hn : n ≤ 1000) : (Instr.makeSlice 22 (.int .i64 n) (.int .i64 n)).run Try.prog W = .ok (.slice (some ⟨W.heap.size, 0, none⟩) n n) (W.alloc (.cells (Array.replicate n (.int .i64 0)) 3)) := by
  obtain ⟨i0, hi, hzz⟩ := Option.map_eq_some_iff.1 info3
  simp only [Prod.mk.injEq] at hzz
  obtain ⟨hz0, hz1, hz2⟩ := hzz
  have hr := run_make (P := Try.prog) (w := W) 22 3 i0 (.int .i64 0) Try.underlying22 hi hz0 .i64 .i64 (n : Int) (n : Int) (by omega) (by omega) (by rw [hz2]; omega) (by omega)
  simp only [Int.toNat_natCast, hz1, Nat.mul_one] at hr
  rw [hr]
  congr 3
  apply Array.ext
  · simp [madeCells]
  · intro k h1 h2
    simp [madeCells, Value.cells, Nat.mod_one]
def fillA (n i : Nat) : Array Int := (Array.range n).map fun j => if j < i then (j : Int) else 0
theorem fillA_size (n i : Nat) : (fillA n i).size = n := by simp [fillA]
theorem fillA_zero (n : Nat) : (fillA n 0).map (Value.int .i64) = Array.replicate n (.int .i64 0) := by
  apply Array.ext
  · simp [fillA]
  · intro k h1 h2
    simp [fillA]
theorem fillA_full (n : Nat) : fillA n n = (Array.range n).map Int.ofNat := by
  apply Array.ext
  · simp [fillA]
  · intro k h1 h2
    have : k < n := by simpa [fillA] using h1
    simp [fillA, this]
theorem fillA_step (n i : Nat) (h : i < n) : (fillA n i).setIfInBounds i (i : Int) = fillA n (i + 1) := by
  apply Array.ext
  · simp [fillA]
  · intro k h1 h2
    rw [Array.getElem_setIfInBounds]
    · by_cases hk : i = k
      · subst hk; simp [fillA]
      · simp only [hk, if_false]
        simp only [fillA, Array.getElem_map, Array.getElem_range]
        by_cases h3 : k < i
        · simp [h3, Nat.lt_succ_of_lt h3]
        · have : ¬ k < i + 1 := by omega
          simp [h3, this]
    · simpa [fillA] using h2
/-- The indices, sorted by their keys. -/
def orderL (l0 : List Al) (l1 : List ByteArray) : Array Int :=
  Sort.insertionSort (fun x y : Int => decide (cmpLs (keyL l0 l1 x.toNat) (keyL l0 l1 y.toNat) < 0)) ((Array.range l0.length).map Int.ofNat) 0 l0.length
theorem swoKey (l0 : List Al) (l1 : List ByteArray) : Sort.SWO (fun x y : Int => decide (cmpLs (keyL l0 l1 x.toNat) (keyL l0 l1 y.toNat) < 0)) := by
  refine ⟨fun x => ?_, fun x y z h1 h2 => ?_, fun x y z h1 h2 => ?_⟩
  · simp [(Pure.cmpLs_eq0 (keyL l0 l1 x.toNat) _).2 rfl]
  · simp only [decide_eq_true_eq] at h1 h2 ⊢
    generalize keyL l0 l1 x.toNat = a at *
    generalize keyL l0 l1 y.toNat = b at *
    generalize keyL l0 l1 z.toNat = c at *
    have h3 := Pure.cmpLs_trans a b c (by omega) (by omega)
    by_cases h4 : cmpLs a c = 0
    · rw [(Pure.cmpLs_eq0 a c).1 h4, Pure.cmpLs_anti] at h1
      omega
    · omega
  · simp only [decide_eq_false_iff_not] at h1 h2 ⊢
    generalize keyL l0 l1 x.toNat = a at *
    generalize keyL l0 l1 y.toNat = b at *
    generalize keyL l0 l1 z.toNat = c at *
    have e1 := Pure.cmpLs_anti a b
    have e2 := Pure.cmpLs_anti b c
    have e3 := Pure.cmpLs_anti a c
    have := Pure.cmpLs_trans c b a (by omega) (by omega)
    omega
theorem orderL_perm (l0 : List Al) (l1 : List ByteArray) : (orderL l0 l1).size = l0.length ∧ (orderL l0 l1).toList.Perm ((List.range l0.length).map Int.ofNat) ∧ Sort.SortedIn (fun x y : Int => decide (cmpLs (keyL l0 l1 x.toNat) (keyL l0 l1 y.toNat) < 0)) 0 l0.length (orderL l0 l1) := by
  obtain ⟨⟨h1, _, h2⟩, h3⟩ := Sort.insertionSort_holds (swoKey l0 l1) ((Array.range l0.length).map Int.ofNat) 0 l0.length (Nat.zero_le _) (by simp)
  have hs : (orderL l0 l1).size = l0.length := by have := h1; simp only [Array.size_map, Array.size_range] at this; exact this
  refine ⟨hs, ?_, h3⟩
  have e1 : (Sort.insertionSort (fun x y : Int => decide (cmpLs (keyL l0 l1 x.toNat) (keyL l0 l1 y.toNat) < 0)) ((Array.range l0.length).map Int.ofNat) 0 l0.length) = orderL l0 l1 := rfl
  rw [e1] at h2
  have e2 : (orderL l0 l1).extract 0 l0.length = orderL l0 l1 := by rw [← hs]; simp
  have e3 : ((Array.range l0.length).map Int.ofNat).extract 0 l0.length = (Array.range l0.length).map Int.ofNat := by
    have : ((Array.range l0.length).map Int.ofNat).size = l0.length := by simp
    conv => lhs; rw [← this]
    simp
  rw [e2, e3] at h2
  simpa using h2
theorem orderL_in (l0 : List Al) (l1 : List ByteArray) : (orderL l0 l1).size = l0.length ∧ ∀ i, i < l0.length → ∃ p : Nat, (orderL l0 l1)[i]! = (p : Int) ∧ p < l0.length := by
  obtain ⟨h1, h2, _⟩ := orderL_perm l0 l1
  refine ⟨h1, fun i hi => ?_⟩
  have hm : (orderL l0 l1)[i]! ∈ (orderL l0 l1).toList := by
    rw [getElem!_pos _ i (by omega)]
    simp
  have := (h2.mem_iff).1 hm
  obtain ⟨p, hp, he⟩ := List.mem_map.1 this
  exact ⟨p, he.symm, List.mem_range.1 hp⟩
/-- One more index: a group of its own, or the last group's. -/
def cutStep (l0 : List Al) (l1 : List ByteArray) (o : Array Int) (out : List (List Int)) (n : Nat) : List (List Int) :=
  let o1 := if n = 0 ∨ cmpLs (keyL l0 l1 (o[n - 1]!).toNat) (keyL l0 l1 (o[n]!).toNat) ≠ 0 then out ++ [[]] else out
  o1.set (o1.length - 1) (o1.getD (o1.length - 1) [] ++ [o[n]!])
def cutL (l0 : List Al) (l1 : List ByteArray) (o : Array Int) (out : List (List Int)) : Nat → Nat → List (List Int)
  | 0, _ => out
  | k + 1, n => cutL l0 l1 o (cutStep l0 l1 o out n) k (n + 1)
def groupsL (l0 : List Al) (l1 : List ByteArray) : List (List Int) := cutL l0 l1 (orderL l0 l1) [] l0.length 0
def fitsG (l0 : List Al) (l1 : List ByteArray) : Bool := decide (l0.length ≤ 8) && decide (l1.length ≤ 1000) && l0.all (fun a => decide (a.f2.length ≤ 1000))
def route_Groups.f (l0 : List Al) (l1 : List ByteArray) : Option (List (List Int)) := if fitsG l0 l1 = true then some (groupsL l0 l1) else none

theorem wrap64_small (m : Nat) (h : m ≤ 8) : wrap64 (m : Int) = (m : Int) := by rw [← i64_w, IntKind.wrap_i64]; omega
theorem goesv_ {P : Program} {ops : Array Oper} {Q : Exit → Act → World → Prop} {oi : Oper} {N : Option Tmp} {a : Act} {w : World} {K : Act → World → Prop} {f : FuncId} {fn : Func} {xs : Array Operand} {ts : Array TypeId} {t : Tmp} (hf : P.funcs[f]? = some fn) (hname : (fn.name == "runtime.NumGoroutine") = false) (hb : fn.body.isSome = true) (cb args0 args : Array Value)
    (hw : Region.wanted oi (yielded ops a.tmps) = true) (hN : oi.dst = N) (hop : oi.op = .call { callee := .value (.tmp t), args := xs, argTypes := ts }) (hfn : a.eval (.tmp t) = .func (.func f) #[] cb) (hargs0 : xs.map a.eval = args0) (hcat : args0 ++ cb = args)
    (h : Calls P f args w fun e w' => ∃ v, e = .returned v ∧ K (a.put N v) w') : if Region.wanted oi (yielded ops a.tmps) = true then Oper.wp P oi a w K Q else K (a.put N undef) w := by
  refine call_ f args hw hN ?_ h
  have he := enters_ hf hname hb args w
  unfold execOp
  simp [hop, resolve, Deferred.ofValue, invoke, hfn, hargs0, hcat, he]
def route_Groups.T13 : Bool × List (List Nat × List Nat) := (true, [([], []), ([0], [0]), ([1], [1]), ([2], [2]), ([2], [2]), ([2], [2]), ([5, 2], [2, 5]), ([4, 6, 2], [2, 4, 6]), ([7, 2], [2, 7]), ([3, 8, 2, 2], [2, 3, 8]), ([2], [2]), ([2], [2]), ([10, 11, 9, 2], [2, 10, 11]), ([9, 12, 12, 2], [2, 9, 12]), ([13, 2], [2, 13]), ([2, 14], [2, 14])])
def route_Groups.B13 : List Nat := [0, 1, 3, 7, 7, 7, 39, 119, 247, 511, 7, 7, 4095, 8191, 16383, 32767]
theorem route_Groups.tab13 : rtab .any (opsOf Try.f34 13) = route_Groups.T13 := by kernel_rfl
theorem route_Groups.bits13 : waitsOk route_Groups.T13.2 route_Groups.B13 = true := by kernel_rfl
abbrev dSI : Kd (List Int) := Kd.slice 3 (Kd.int .i64)
/-- The last inner row, lent. -/
def Lent (w : World) (base g cap m : Nat) (G : List (List Int)) (A : Option Addr) (c : Nat) (y : List Int) : Prop :=
  ∃ oki : Nat → Prop, Kd.R (Kd.int .i64) 3 w base oki (.slice A y.length c) y ∧ Kd.H dSI 22 w base (fun _ => True) (.slice (some ⟨g, 0, none⟩) (m + 1) cap) G (m : Int) oki [.slice A y.length c]
theorem lend_last {w : World} {base g cap m : Nat} {G : List (List Int)} (h : Kd.S dSI 22 w base (fun _ => True) (.slice (some ⟨g, 0, none⟩) (m + 1) cap) G) (hm : G.length = m + 1) :
    ∃ A c y, y = G.getD m [] ∧ w.cell? ⟨g, m, none⟩ = some (.slice A y.length c) ∧ Lent w base g cap m G A c y := by
  obtain ⟨oki, c, hcl, hM, hcs, _, hH⟩ := Kd.S_lend h ([] : List Int) (m : Int) (by omega) (by omega)
  obtain ⟨vv, rfl, hR⟩ := hM
  obtain ⟨A, cv, rfl⟩ := Kd.R_slice hR
  simp only [Int.toNat_natCast] at hR hcs hH
  have hc := hcs 0 _ rfl
  simp only [show dSI.sz = 1 from rfl, Nat.mul_one, Nat.add_zero] at hc
  exact ⟨A, cv, G.getD m [], rfl, hc, oki, hR, hH⟩
theorem lent_back {w w1 : World} {base g cap m c : Nat} {G : List (List Int)} {A : Option Addr} {y y1 : List Int} {oki : Nat → Prop} {v1 : Value}
    (hR : Kd.R (Kd.int .i64) 3 w base oki (.slice A y.length c) y) (hH : Kd.H dSI 22 w base (fun _ => True) (.slice (some ⟨g, 0, none⟩) (m + 1) cap) G (m : Int) oki [.slice A y.length c]) (hg : w.grownBy w1 (Value.slice A y.length c).ownBlock)
    (ho : Kd.R (Kd.int .i64) 3 w1 base (fun k => oki k ∨ True ∧ w.heap.size ≤ k) v1 y1) :
    w1.cell? ⟨g, m, none⟩ = some (.slice A y.length c) ∧ w1.frozen? ⟨g, m, none⟩ = false ∧ Kd.S dSI 22 (w1.setCell ⟨g, m, none⟩ v1) base (fun _ => True) (.slice (some ⟨g, 0, none⟩) (m + 1) cap) (G.set m y1) := by
  have hH1 := Kd.H_grown (Kd.H_widen hH) hg (fun k e => .inl (hR.1 k e))
  obtain ⟨hcc, hfr⟩ := Kd.H_at hH1 (by omega) (by omega)
  have h1 := hcc 0 _ rfl
  have h2 := hfr 0
  simp only [Int.toNat_natCast, show dSI.sz = 1 from rfl, Nat.mul_one, Nat.add_zero] at h1 h2
  have h3 := (Kd.S_seg0 hH1 (by omega) (by omega) (seg := [v1]) (j := 0) (show 1 ≤ 1 from by decide) (x' := y1) (Kd.M_row ho) (fun _ hk => hk)).1
  simp only [Int.toNat_natCast, show dSI.sz = 1 from rfl, Nat.mul_one, Nat.add_zero] at h3
  exact ⟨h1, h2, h3⟩

theorem lenY {gs G1 : List (List Int)} {i m : Nat} {y : List Int} (h : ∀ g ∈ gs, g.length ≤ i) (hG : gs ++ [([] : List Int)] = G1 ∨ gs = G1) (hy : y = G1.getD m []) : y.length ≤ i := by
  have h1 : ∀ g ∈ G1, g.length ≤ i := by
    rcases hG with rfl | rfl
    · intro g hg
      rcases List.mem_append.1 hg with hg | hg
      · exact h g hg
      · simp at hg; subst hg; simp
    · exact h
  rw [hy, List.getD_eq_getElem?_getD]
  cases hq : G1[m]? with
  | none => simp
  | some z => exact h1 z (List.mem_of_getElem? hq)
theorem lenG {gs G1 : List (List Int)} {i m : Nat} {x : Int} {y : List Int} (h : ∀ g ∈ gs, g.length ≤ i) (hG : gs ++ [([] : List Int)] = G1 ∨ gs = G1) (hy : y = G1.getD m []) : ∀ g ∈ G1.set m (y ++ [x]), g.length ≤ i + 1 := by
  intro g hg
  have hl := lenY h hG hy
  rcases List.mem_or_eq_of_mem_set hg with hg | rfl
  · have : g.length ≤ i := by
      rcases hG with rfl | rfl
      · rcases List.mem_append.1 hg with hg | hg
        · exact h g hg
        · simp at hg; subst hg; simp
      · exact h g hg
    omega
  · simp; omega
theorem cut_on {l0 : List Al} {l1 : List ByteArray} {o : Array Int} {gs G1 : List (List Int)} {i m n : Nat} {x : Int} {y : List Int} {r : List (List Int)} (hC : cutL l0 l1 o gs (n - i) i = r) (hi : i < n)
    (hG : ((i = 0 ∨ cmpLs (keyL l0 l1 (o[i - 1]!).toNat) (keyL l0 l1 (o[i]!).toNat) ≠ 0) ∧ gs ++ [([] : List Int)] = G1) ∨ (¬ (i = 0 ∨ cmpLs (keyL l0 l1 (o[i - 1]!).toNat) (keyL l0 l1 (o[i]!).toNat) ≠ 0) ∧ gs = G1))
    (hm : G1.length = m + 1) (hy : y = G1.getD m []) (hx : x = o[i]!) : cutL l0 l1 o (G1.set m (y ++ [x])) (n - (i + 1)) (i + 1) = r := by
  obtain ⟨k, hk⟩ : ∃ k, n - i = k + 1 := ⟨n - i - 1, by omega⟩
  rw [hk] at hC
  have hk2 : n - (i + 1) = k := by omega
  rw [hk2, ← hC]
  show _ = cutL l0 l1 o (cutStep l0 l1 o gs i) k (i + 1)
  congr 1
  have ho1 : (if i = 0 ∨ cmpLs (keyL l0 l1 (o[i - 1]!).toNat) (keyL l0 l1 (o[i]!).toNat) ≠ 0 then gs ++ [[]] else gs) = G1 := by
    rcases hG with ⟨h1, h2⟩ | ⟨h1, h2⟩
    · rw [if_pos h1]; exact h2
    · rw [if_neg h1]; exact h2
  unfold cutStep
  simp only [ho1, hm, Nat.add_sub_cancel, hy, hx]
set_option maxHeartbeats 8000000 in
set_option maxRecDepth 1000000 in
theorem route_Groups.calls (A0 : Option Addr) (c0 : Nat) (l0 : List Al) (A1 : Option Addr) (c1 : Nat) (l1 : List ByteArray) (r : List (List Int)) (w : World) (hr0 : Kd.C k73 w A0 l0.length l0) (hc0 : l0.length ≤ c0) (hr1 : Kd.C Kd.string w A1 l1.length l1) (hc1 : l1.length ≤ c1) (h : route_Groups.f l0 l1 = some r) :
    Calls Try.prog 34 #[.slice A0 l0.length c0, .slice A1 l1.length c1] w fun e w' => ∃ v0_, e = .returned v0_ ∧ Kd.S (Kd.slice 3 (Kd.int .i64)) 22 w' w.heap.size (fun _ => True) v0_ r ∧ Below w.heap.size w w' := by
  have mixed : Try.prog.follows .mixedOrders = true := by kernel_rfl
  have hfit : fitsG l0 l1 = true := by
    by_cases hf : fitsG l0 l1 = true
    · exact hf
    · simp [route_Groups.f, hf] at h
  have hrr : groupsL l0 l1 = r := by simpa [route_Groups.f, hfit] using h
  simp only [fitsG, Bool.and_eq_true, decide_eq_true_eq, List.all_eq_true] at hfit
  obtain ⟨⟨hn8, hs1⟩, hs0⟩ := hfit
  have HRR := Aside0.mk hrr
  have HS0 := Aside0.mk hs0
  have HS1 := Aside0.mk hs1
  have HR0 := Aside0.mk hr0
  have HR1 := Aside0.mk hr1
  clear h hrr hs0 hs1 hr0 hr1
  go_enter Try.func34, Try.ntmps34
  have e0 := ((blk_alloc (blk_alloc (blk_new w (Obj.cells #[.slice A0 l0.length c0] 61)) (Obj.cells #[.slice A1 l1.length c1] 57)) (Obj.cells #[(.func (.func 50) #[] #[.pointer (some ⟨w.heap.size, 0, none⟩), .pointer (some ⟨w.heap.size + 1, 0, none⟩)])] 85)))
  have e1 := (blk_alloc (blk_new (w.alloc (Obj.cells #[.slice A0 l0.length c0] 61)) (Obj.cells #[.slice A1 l1.length c1] 57)) (Obj.cells #[(.func (.func 50) #[] #[.pointer (some ⟨w.heap.size, 0, none⟩), .pointer (some ⟨w.heap.size + 1, 0, none⟩)])] 85))
  have e2 := blk_new ((w.alloc (Obj.cells #[.slice A0 l0.length c0] 61)).alloc (Obj.cells #[.slice A1 l1.length c1] 57)) (Obj.cells #[(.func (.func 50) #[] #[.pointer (some ⟨w.heap.size, 0, none⟩), .pointer (some ⟨w.heap.size + 1, 0, none⟩)])] 85)
  have e3 : Below w.heap.size w (((w.alloc (Obj.cells #[.slice A0 l0.length c0] 61)).alloc (Obj.cells #[.slice A1 l1.length c1] 57)).alloc (Obj.cells #[(.func (.func 50) #[] #[.pointer (some ⟨w.heap.size, 0, none⟩), .pointer (some ⟨w.heap.size + 1, 0, none⟩)])] 85)) := below_alloc (below_alloc (below_alloc (Below.refl _ _) _) _) _
  have e4 : (((w.alloc (Obj.cells #[.slice A0 l0.length c0] 61)).alloc (Obj.cells #[.slice A1 l1.length c1] 57)).alloc (Obj.cells #[(.func (.func 50) #[] #[.pointer (some ⟨w.heap.size, 0, none⟩), .pointer (some ⟨w.heap.size + 1, 0, none⟩)])] 85)).heap.size = w.heap.size + 3 := by simp only [World.size_alloc]
  have hm := fun W => makeInts W l0.length (by omega)
  simp only [World.size_alloc] at e1 e2
  have d0 : (((w.alloc (Obj.cells #[.slice A0 l0.length c0] 61)).alloc (Obj.cells #[.slice A1 l1.length c1] 57)).alloc (Obj.cells #[(.func (.func 50) #[] #[.pointer (some ⟨w.heap.size, 0, none⟩), .pointer (some ⟨w.heap.size + 1, 0, none⟩)])] 85)).cell? ⟨w.heap.size, 0, none⟩ = some (.slice A0 l0.length c0) := (blk_cell e0 0).trans rfl
  have d1 : ((((w.alloc (Obj.cells #[.slice A0 l0.length c0] 61)).alloc (Obj.cells #[.slice A1 l1.length c1] 57)).alloc (Obj.cells #[(.func (.func 50) #[] #[.pointer (some ⟨w.heap.size, 0, none⟩), .pointer (some ⟨w.heap.size + 1, 0, none⟩)])] 85)).alloc (.cells (Array.replicate l0.length (.int .i64 0)) 3)).cell? ⟨w.heap.size, 0, none⟩ = some (.slice A0 l0.length c0) := (blk_cell (blk_alloc e0 _) 0).trans rfl
  have E0 := Aside0.mk (blk_alloc e0 (.cells (Array.replicate l0.length (.int .i64 0)) 3))
  have E1 := Aside0.mk (blk_alloc e1 (.cells (Array.replicate l0.length (.int .i64 0)) 3))
  have E2 := Aside0.mk (blk_alloc e2 (.cells (Array.replicate l0.length (.int .i64 0)) 3))
  have E3 := Aside0.mk (below_alloc e3 (.cells (Array.replicate l0.length (.int .i64 0)) 3))
  have E4 := Aside0.mk e4
  have E5 := Aside0.mk (blk_new (((w.alloc (Obj.cells #[.slice A0 l0.length c0] 61)).alloc (Obj.cells #[.slice A1 l1.length c1] 57)).alloc (Obj.cells #[(.func (.func 50) #[] #[.pointer (some ⟨w.heap.size, 0, none⟩), .pointer (some ⟨w.heap.size + 1, 0, none⟩)])] 85)) (.cells (Array.replicate l0.length (.int .i64 0)) 3))
  clear e0 e1 e2 e3 e4
  go_wp2
  generalize (((w.alloc (Obj.cells #[.slice A0 l0.length c0] 61)).alloc (Obj.cells #[.slice A1 l1.length c1] 57)).alloc (Obj.cells #[(.func (.func 50) #[] #[.pointer (some ⟨w.heap.size, 0, none⟩), .pointer (some ⟨w.heap.size + 1, 0, none⟩)])] 85)).alloc (.cells (Array.replicate l0.length (.int .i64 0)) 3) = w5 at *
  have SW0 : Aside0 (SW (w.heap.size + 1 + 1 + 1) w5 (fillA l0.length 0) w5) := ⟨⟨by have := E5.out; rw [E4.out] at this; rw [fillA_zero]; exact this, Below.refl _ _⟩⟩
  clear d0 d1 hm E5 E4
  go_loopg [7, 17] (l0.length) (fun g1 v7 v17 wr => ∃ (i : Nat), v17 = .int .i64 i ∧ i ≤ l0.length ∧ l0.length - i ≤ g1 ∧ Aside0 (SW (w.heap.size + 1 + 1 + 1) w5 (fillA l0.length i) wr))
  case atStart => exact ⟨0, rfl, by omega, by omega, SW0⟩
  case round =>
    obtain ⟨i, rfl, hi, hg1, HS⟩ := hrel
    by_cases hlt : i < l0.length
    · have hltz : ((i : Int) < (l0.length : Int)) = True := eq_true (by omega)
      have hp0 : ((0 : Int) ≤ (i : Int)) = True := eq_true (by omega)
      have hc : wr.cell? ⟨w.heap.size + 1 + 1 + 1, i, none⟩ = some (.int .i64 (fillA l0.length i)[i]!) := HS.out.cell i (by rw [fillA_size]; exact hlt)
      have hf := swFrozen HS.out i
      have HS2 : Aside0 (SW (w.heap.size + 1 + 1 + 1) w5 (fillA l0.length (i + 1)) (wr.setCell ⟨w.heap.size + 1 + 1 + 1, i, none⟩ (.int .i64 i))) := ⟨by rw [← fillA_step _ _ hlt]; exact HS.out.set i i⟩
      generalize (fillA l0.length i)[i]! = z at hc
      clear HS
      go_wp2
      go_roundg (l0.length - (i + 1))
      case measure => omega
      case rel => exact ⟨i + 1, by first | rfl | go_num | (congr 1; omega), by omega, Nat.le_refl _, HS2⟩
    · have hltz : ((i : Int) < (l0.length : Int)) = False := eq_false (by omega)
      have hin : i = l0.length := by omega
      subst hin
      have hcap : ∀ W, Below (w.heap.size + 1 + 1 + 1) wr W → Capt W w.heap.size (w.heap.size + 1) A0 c0 l0 A1 c1 l1 ∧ W.heap[w.heap.size + 1 + 1]? = some (.cells #[keyFn w.heap.size (w.heap.size + 1)] 85 (0, 0)) := by
        intro W hW
        have hb5 : Below (w.heap.size + 1 + 1 + 1) w5 W := HS.out.bel.trans hW
        have hbw : Below w.heap.size w W := E3.out.trans (hb5.mono (by omega))
        exact ⟨⟨(hb5.block _ (by omega)).trans E0.out, (hb5.block _ (by omega)).trans E1.out, Kd.C_below HR0.out hbw, Kd.C_below HR1.out hbw, hc0, hc1, HS0.out, HS1.out⟩, (hb5.block _ (by omega)).trans E2.out⟩
      have hst := sortStable_calls (w.heap.size + 1 + 1 + 1) l0.length 52 #[.pointer (some ⟨w.heap.size + 1 + 1, 0, none⟩)]
        (fun x y => cmpLs (keyL l0 l1 x.toNat) (keyL l0 l1 y.toNat)) (fun x => ∃ p : Nat, x = (p : Int) ∧ p < l0.length) (fillA l0.length l0.length) wr (by rw [fillA_size]; omega) ⟨HS.out.row, Below.refl _ _⟩
        (by
          intro i hi
          rw [fillA_size] at hi
          refine ⟨i, ?_, hi⟩
          rw [getElem!_pos _ i (by rw [fillA_size]; exact hi)]
          simp [fillA, hi])
        (enters_of Try.func52 (by kernel_rfl) rfl)
        (by
          rintro W x y hW ⟨p, rfl, hp⟩ ⟨q, rfl, hq⟩
          obtain ⟨hc, h5⟩ := hcap W hW
          simpa using cmpKey_calls w.heap.size (w.heap.size + 1) (w.heap.size + 1 + 1) A0 c0 l0 A1 c1 l1 p q hp hq W hc h5)
      rw [fillA_size] at hst
      have HBW := Aside0.mk (show Below w.heap.size w wr from E3.out.trans (HS.out.bel.mono (by omega)))
      have HCAP := Aside0.mk hcap
      have HSZ := Aside0.mk (show w.heap.size + 1 + 1 + 1 < wr.heap.size from blk_lt HS.out.row)
      clear hcap HS E0 E1 E2 E3 SW0
      rw [show Sort.insertionSort (fun x y : Int => decide (cmpLs (keyL l0 l1 x.toNat) (keyL l0 l1 y.toNat) < 0)) (fillA l0.length l0.length) 0 l0.length = orderL l0 l1 from by rw [fillA_full]; rfl] at hst
      have hin2 := orderL_in l0 l1
      generalize hO : orderL l0 l1 = o at hst hin2
      have HO := Aside0.mk hO
      have HIN := Aside0.mk hin2
      clear hO hin2
      go_wp2_with (go_at_call 51; refine hst.mono ?_; rintro e w6 ⟨rfl, hs6⟩; have HS6 := Aside0.mk hs6; clear hs6 hst)
      have HB6 := Aside0.mk (HBW.out.trans (HS6.out.bel.mono (by have := HSZ.out; omega)))
      have hsz6 : w.heap.size + 1 + 1 + 1 < w6.heap.size := blk_lt HS6.out.row
      have HSZ6 := Aside0.mk hsz6
      have HCAP6 := Aside0.mk (HCAP.out w6 HS6.out.bel)
      have hrow : ∀ W, Below w6.heap.size w6 W → ∀ q, q < l0.length → W.cell? ⟨w.heap.size + 1 + 1 + 1, q, none⟩ = some (.int .i64 o[q]!) := by
        intro W hW q hq
        have := SW.cell (w0 := w6) ⟨(hW.block _ hsz6).trans HS6.out.row, hW.mono (Nat.le_of_lt hsz6)⟩ q (by rw [HIN.out.1]; exact hq)
        exact this
      have HROW := Aside0.mk hrow
      clear hrow hsz6 HBW HS6 HCAP
      have ul65_ : Try.prog.underlying 65 = some (.slice 22) := by kernel_rfl
      go_loopg [8, 9, 10, 30] (l0.length) (fun g1 v8 v9 v10 v30 wq => ∃ (i : Nat) (gs : List (List Int)), v30 = .int .i64 i ∧ i ≤ l0.length ∧ l0.length - i ≤ g1 ∧ Aside0 (Kd.S (Kd.slice 3 (Kd.int .i64)) 22 wq w6.heap.size (fun _ => True) v8 gs) ∧ Aside0 (Below w6.heap.size w6 wq) ∧ Aside0 (cutL l0 l1 o gs (l0.length - i) i = groupsL l0 l1) ∧ (0 < i → 0 < gs.length) ∧ gs.length ≤ i ∧ Aside0 (∀ g ∈ gs, g.length ≤ i))
      case atStart => exact ⟨0, [], rfl, by omega, by omega, ⟨Kd.S_nil _ _ _ _ _⟩, ⟨Below.refl _ _⟩, ⟨by rw [← HO.out]; rfl⟩, by omega, by simp, ⟨by simp⟩⟩
      case round =>
        obtain ⟨i, gs, rfl, hi, hg1, HG, HB, HC, hne, hgl, HGL⟩ := hrel
        by_cases hlt : i < l0.length
        · have hltz : ((i : Int) < (l0.length : Int)) = True := eq_true (by omega)
          have hp0 : ((0 : Int) ≤ (i : Int)) = True := eq_true (by omega)
          have hci := HROW.out wr HB.out i hlt
          obtain ⟨x, hx⟩ : ∃ x, x = o[i]! := ⟨_, rfl⟩
          rw [← hx] at hci
          have HX := Aside0.mk hx
          clear hx
          obtain ⟨A8, c8, rfl⟩ := Kd.S_slice HG.out
          have HGN := Aside0.mk (show gs.length ≤ 8 from by omega)
          by_cases hi0 : i = 0
          · subst hi0
            have hgs : gs = [] := List.length_eq_zero_iff.1 (by omega)
            have HGS := Aside0.mk hgs
            clear hgs
            go_wp2
            go_big_region_o
            have HGD := Aside0.mk (Kd.S_drew HG.out)
            have HBD := Aside0.mk (below_drew HB.out)
            clear HG HB hci
            generalize wr.drew = w7 at HGD HBD ⊢
            go_wp2_with (first
              | ((with_reducible refine gate_builtin (b := .append) (xs := #[.tmp 51, .tmp 52]) rfl ?_); at_builtin; go_loud (refine Kd.S_append (Kd.slice 3 (Kd.int .i64)) (w0 := w6) w6.heap.size rfl (.tmp 51) (.tmp 52) 65 22 (.slice none 0 0) 24 rfl ul65_ info22 rfl (by decide) (by omega) (.slice A8 gs.length c8) gs ([] : List Int) [.slice none 0 0] (fun _ => True) (fun _ => False) rfl rfl ?aP (fun _ hk => hk.elim) (fun _ _ => trivial) ?aO ?aB ?aS ?aL ?_); (case aP => exact Kd.M_row (Kd.R_nil _ _ _ _ _)); (case aB => exact HBD.out); (case aO => exact Kd.S_mono HGD.out (fun _ _ => ⟨trivial, fun h => h⟩)); (case aS => exact HBD.out.size); (case aL => have := HGN.out; omega); intro v8 w8 ho hb hg hat; obtain ⟨G1, hG1⟩ : ∃ G1, G1 = gs ++ [([] : List Int)] := ⟨_, rfl⟩; rw [← hG1] at ho; obtain ⟨m, hm⟩ : ∃ m, G1.length = m + 1 := ⟨gs.length, by rw [hG1]; simp⟩; obtain ⟨g8, cap8, rfl, hb8, _, _⟩ := Kd.S_form ho (by omega); have HGE := Aside0.mk (show gs ++ [([] : List Int)] = G1 from hG1.symm); have HM := Aside0.mk hm; have HMI := Aside0.mk (show m = gs.length from by have := congrArg List.length hG1; rw [hm] at this; simp at this; omega); have HML := Aside0.mk (show m ≤ 8 from by have := congrArg List.length hG1; have := HGN.out; rw [hm] at *; simp at *; omega); rw [hm] at ho ⊢; have hw1 := wrap64_small m HML.out; have hw2 : (0 : Int) ≤ (m : Int) := Int.natCast_nonneg m; have HW := Aside0.mk hw1; obtain ⟨Ay, cy, y, hy, hcy, hL⟩ := lend_last ho HM.out; have HLY := Aside0.mk (show y.length ≤ 8 from Nat.le_trans (lenY HGL.out (.inl HGE.out) hy) (by omega)); have HY := Aside0.mk hy; have HL := Aside0.mk hL; have HB2 := Aside0.mk hb; have HB8 := Aside0.mk hb8; clear ho hb hg hat HGD HBD hG1 hm hb8 hy hL)
              | ((with_reducible refine gate_builtin (b := .append) (xs := #[.tmp 63, .tmp 65]) rfl ?_); at_builtin; obtain ⟨oki, hR, hH⟩ := HL.out; go_loud (refine Kd.R_append (Kd.int .i64) (w0 := w6) w6.heap.size rfl (.tmp 63) (.tmp 65) 22 3 (.int .i64 0) 8 rfl Try.underlying22 info3 rfl (by decide) (by omega) (.slice Ay y.length cy) y x [.int .i64 x] (fun k_ => oki k_ ∨ True ∧ w8.heap.size ≤ k_) (fun _ => False) rfl rfl ?aP (fun _ hk => hk.elim) (fun _ hk => .inr ⟨trivial, hk⟩) ?aO ?aB ?aS ?aL ?_); (case aP => exact rfl); (case aB => exact HB2.out); (case aO => exact Kd.R_mono hR (fun _ hk => .inl hk)); (case aS => exact HB2.out.size); (case aL => have := HLY.out; omega); intro v9 w9 ho hb hg hat; obtain ⟨A9, c9, rfl⟩ := Kd.R_slice ho; obtain ⟨k1, k2, k3⟩ := lent_back hR hH hg ho; have HG3 := Aside0.mk k3; have HB3 := Aside0.mk hb; clear ho hb hg hat hR hH HL hcy k3))
            go_roundg (l0.length - (0 + 1))
            case measure => omega
            case rel =>
              exact ⟨0 + 1, G1.set m (y ++ [x]), by first | rfl | go_num | (congr 1; omega), by omega, Nat.le_refl _, ⟨by have := HG3.out; rw [List.length_append] at this; exact this⟩, ⟨HB3.out.setCell HB8.out _⟩, ⟨cut_on HC.out hlt (.inl ⟨.inl rfl, HGE.out⟩) HM.out HY.out HX.out⟩,
                fun _ => by rw [List.length_set, HM.out]; omega, by rw [List.length_set, HM.out]; have := HMI.out; omega, ⟨lenG HGL.out (.inl HGE.out) HY.out⟩⟩
          · obtain ⟨ip, rfl⟩ : ∃ ip, i = ip + 1 := ⟨i - 1, by omega⟩
            obtain ⟨q, hq, hql⟩ := HIN.out.2 (ip + 1) hlt
            rw [← HX.out] at hq
            subst hq
            obtain ⟨p, hp, hpl⟩ := HIN.out.2 ip (by omega)
            have dp := HROW.out wr HB.out ip (by omega)
            rw [hp] at dp
            have HXP := Aside0.mk hp
            have h5 := (HB.out.block _ (by have := HSZ6.out; omega)).trans HCAP6.out.2
            have d5 : wr.cell? ⟨w.heap.size + 1 + 1, 0, none⟩ = some (.func (.func 50) #[] #[.pointer (some ⟨w.heap.size, 0, none⟩), .pointer (some ⟨w.heap.size + 1, 0, none⟩)]) := (blk_cell h5 0).trans rfl
            have HCW := Aside0.mk (HCAP6.out.1.below HB.out)
            have H5 := Aside0.mk (show w.heap.size + 1 + 1 < wr.heap.size from blk_lt h5)
            have H6 := Aside0.mk (show w.heap.size + 1 + 1 + 1 < wr.heap.size from Nat.lt_of_lt_of_le HSZ6.out HB.out.size)
            have HP := Aside0.mk hpl
            have HQ := Aside0.mk hql
            generalize hkp : keyL l0 l1 p = kp
            generalize hkq : keyL l0 l1 q = kq
            have HKP := Aside0.mk hkp
            have HKQ := Aside0.mk hkq
            have hip8 : ip ≤ 8 := by omega
            have hw4 : (0 : Int) ≤ (ip : Int) := Int.natCast_nonneg ip
            have hw5 : ((ip : Int) < (l0.length : Int)) = True := eq_true (by omega)
            have hw6 : ((ip : Int) + 1 = 0) = False := eq_false (by omega)
            have hw7 : ((ip : Int) + 1 < (l0.length : Int)) = True := eq_true (by omega)
            have hw8 : ((0 : Int) ≤ (ip : Int) + 1) = True := eq_true (by omega)
            have hw3 : wrap64 (ip : Int) = (ip : Int) := wrap64_small ip hip8
            clear hp h5 hpl hql hkp hkq
            by_cases hcz : cmpLs kp kq = 0
            · have hcz2 : (cmpLs kp kq = 0) = True := eq_true hcz
              have HCZ := Aside0.mk hcz
              have hcz3 : (cmpLs kp kq == 0) = true := by rw [hcz]; rfl
              have hcz4 : (cmpLs kp kq != 0) = false := by rw [hcz]; rfl
              have hcz5 : ((ip : Int) + 1 == 0) = false := by simpa using hw6
              clear hcz
              go_wp2
              -- R13 begin
              refine start_ (n := 16) (S := fun w' => w'.cell? ⟨w.heap.size + 1 + 1, 0, none⟩ = some (.func (.func 50) #[] #[.pointer (some ⟨w.heap.size, 0, none⟩), .pointer (some ⟨w.heap.size + 1, 0, none⟩)]) ∧ w'.cell? ⟨w.heap.size + 1 + 1 + 1, ip, none⟩ = some (.int .i64 (p : Int))) (ds := []) #[false, false, false, false, false, false, false, false, false, false, false, false, false, false, false, false] (by assumption) rfl rfl ⟨d5, dp⟩ (fun hHeld => ?_)
              refine with_tabW route_Groups.tab13 route_Groups.bits13 (fun HT_ HW_ => ?_)
              refine pure_ (i := 0) (N := some 35) (v := ?_) (a' := ?_) #[true, false, false, false, false, false, false, false, false, false, false, false, false, false, false, false] rfl rfl (any_of HT_.out (by kernel_rfl)) (fun _ _ _ h => h) (Or.inl ⟨by rfl, ?_⟩) ?_ ?_
              rotate_left
              · intro w'
                go_simp
                with_reducible rfl
              rotate_left
              · simp only [Act.put, List.setIfInBounds_toArray, List.set_cons_zero, List.set_cons_succ, i64_w, i32_w]
                rfl
              refine pure_ (i := 1) (N := some 36) (v := ?_) (a' := ?_) #[true, true, false, false, false, false, false, false, false, false, false, false, false, false, false, false] rfl rfl (any_of HT_.out (by kernel_rfl)) (fun _ _ _ h => h) (Or.inl ⟨by rfl, ?_⟩) ?_ ?_
              rotate_left
              · intro w'
                go_simp
                with_reducible rfl
              rotate_left
              · simp only [Act.put, List.setIfInBounds_toArray, List.set_cons_zero, List.set_cons_succ, i64_w, i32_w]
                rfl
              refine pure_ (i := 2) (N := some 37) (v := ?_) (a' := ?_) #[true, true, true, false, false, false, false, false, false, false, false, false, false, false, false, false] rfl rfl (any_of HT_.out (by kernel_rfl)) (fun _ _ _ h => h) (Or.inl ⟨by rfl, ?_⟩) ?_ ?_
              rotate_left
              · intro w'
                go_simp
                with_reducible rfl
              rotate_left
              · simp only [Act.put, List.setIfInBounds_toArray, List.set_cons_zero, List.set_cons_succ, i64_w, i32_w]
                rfl
              refine take_ (i := 3) (N := some 38) (v := ?_) (a' := ?_) #[true, true, true, true, false, false, false, false, false, false, false, false, false, false, false, false] rfl rfl (take_ofW HT_.out HW_.out (by kernel_rfl)) (fun _ _ _ h => h) (Or.inl ⟨by rfl, ?_⟩) hHeld ?_ ?_
              rotate_left
              · rintro w' ⟨sa, sb⟩
                go_simp
                with_reducible rfl
              rotate_left
              · simp only [Act.put, List.setIfInBounds_toArray, List.set_cons_zero, List.set_cons_succ, i64_w, i32_w]
                rfl
              refine pure_ (i := 4) (N := some 39) (v := ?_) (a' := ?_) #[true, true, true, true, true, false, false, false, false, false, false, false, false, false, false, false] rfl rfl (any_of HT_.out (by kernel_rfl)) (fun _ _ _ h => h) (Or.inl ⟨by rfl, ?_⟩) ?_ ?_
              rotate_left
              · intro w'
                go_simp
                with_reducible rfl
              rotate_left
              · simp only [Act.put, List.setIfInBounds_toArray, List.set_cons_zero, List.set_cons_succ, i64_w, i32_w]
                rfl
              refine pure_ (i := 5) (N := some 40) (v := ?_) (a' := ?_) #[true, true, true, true, true, true, false, false, false, false, false, false, false, false, false, false] rfl rfl (any_of HT_.out (by kernel_rfl)) (fun _ _ _ h => h) (Or.inl ⟨by rfl, ?_⟩) ?_ ?_
              rotate_left
              · intro w'
                go_simp
                with_reducible rfl
              rotate_left
              · simp only [Act.put, List.setIfInBounds_toArray, List.set_cons_zero, List.set_cons_succ, i64_w, i32_w]
                rfl
              refine pure_ (i := 6) (N := some 41) (v := ?_) (a' := ?_) #[true, true, true, true, true, true, true, false, false, false, false, false, false, false, false, false] rfl rfl (any_of HT_.out (by kernel_rfl)) (fun _ _ _ h => h) (Or.inl ⟨by rfl, ?_⟩) ?_ ?_
              rotate_left
              · intro w'
                go_simp
                with_reducible rfl
              rotate_left
              · simp only [Act.put, List.setIfInBounds_toArray, List.set_cons_zero, List.set_cons_succ, i64_w, i32_w]
                rfl
              refine pure_ (i := 7) (N := some 42) (v := ?_) (a' := ?_) #[true, true, true, true, true, true, true, true, false, false, false, false, false, false, false, false] rfl rfl (any_of HT_.out (by kernel_rfl)) (fun _ _ _ h => h) (Or.inl ⟨by rfl, ?_⟩) ?_ ?_
              rotate_left
              · intro w'
                go_simp
                with_reducible rfl
              rotate_left
              · simp only [Act.put, List.setIfInBounds_toArray, List.set_cons_zero, List.set_cons_succ, i64_w, i32_w]
                rfl
              refine take_ (i := 8) (N := some 43) (v := ?_) (a' := ?_) #[true, true, true, true, true, true, true, true, true, false, false, false, false, false, false, false] rfl rfl (take_ofW HT_.out HW_.out (by kernel_rfl)) (fun _ _ _ h => h) (Or.inl ⟨by rfl, ?_⟩) hHeld ?_ ?_
              rotate_left
              · rintro w' ⟨sa, sb⟩
                go_simp
                with_reducible rfl
              rotate_left
              · simp only [Act.put, List.setIfInBounds_toArray, List.set_cons_zero, List.set_cons_succ, i64_w, i32_w]
                rfl
              refine take_ (i := 10) (N := some 45) (v := ?_) (a' := ?_) #[true, true, true, true, true, true, true, true, true, false, true, false, false, false, false, false] rfl rfl (take_ofW HT_.out HW_.out (by kernel_rfl)) (fun _ _ _ h => h) (Or.inl ⟨by rfl, ?_⟩) hHeld ?_ ?_
              rotate_left
              · rintro w' ⟨sa, sb⟩
                go_simp
                with_reducible rfl
              rotate_left
              · simp only [Act.put, List.setIfInBounds_toArray, List.set_cons_zero, List.set_cons_succ, i64_w, i32_w]
                rfl
              refine pure_ (i := 11) (N := some 46) (v := ?_) (a' := ?_) #[true, true, true, true, true, true, true, true, true, false, true, true, false, false, false, false] rfl rfl (any_of HT_.out (by kernel_rfl)) (fun _ _ _ h => h) (Or.inl ⟨by rfl, ?_⟩) ?_ ?_
              rotate_left
              · intro w'
                go_simp
                with_reducible rfl
              rotate_left
              · simp only [Act.put, List.setIfInBounds_toArray, List.set_cons_zero, List.set_cons_succ, i64_w, i32_w]
                rfl
              refine one_ (i := 9) (N := some 44) #[true, true, true, true, true, true, true, true, true, true, true, true, false, false, false, false] rfl rfl (one_of HT_.out (by kernel_rfl)) (by decide) (fun K hK => ?_)
              refine goesv_ Try.func50 (by kernel_rfl) rfl #[.pointer (some ⟨w.heap.size, 0, none⟩), .pointer (some ⟨w.heap.size + 1, 0, none⟩)] #[.int .i64 (p : Int)] #[.int .i64 (p : Int), .pointer (some ⟨w.heap.size, 0, none⟩), .pointer (some ⟨w.heap.size + 1, 0, none⟩)] (by rfl) rfl rfl (by rfl) aq (by rfl) ?_
              refine (key_calls w.heap.size (w.heap.size + 1) A0 c0 l0 A1 c1 l1 p HP.out _ (HCW.out.below (below_drew (Below.refl _ _)))).mono ?_
              rintro e w2 ⟨v2, rfl, ho2, hb2⟩
              rw [HKP.out] at ho2
              obtain ⟨A2, c2, rfl, l2, r2⟩ := Kd.R_reads ho2
              have s2 : w2.cell? ⟨w.heap.size + 1 + 1, 0, none⟩ = some (.func (.func 50) #[] #[.pointer (some ⟨w.heap.size, 0, none⟩), .pointer (some ⟨w.heap.size + 1, 0, none⟩)]) ∧ w2.cell? ⟨w.heap.size + 1 + 1 + 1, ip, none⟩ = some (.int .i64 (p : Int)) := ⟨(hb2.cell (show w.heap.size + 1 + 1 < _ from H5.out)).trans d5, (hb2.cell (show w.heap.size + 1 + 1 + 1 < _ from H6.out)).trans dp⟩
              have CA := Aside0.mk r2
              have LA := Aside0.mk l2
              have HK1 := Aside0.mk (show Below wr.heap.size wr w2 from (below_drew (Below.refl _ _)).trans hb2)
              have HC2 := Aside0.mk (HCW.out.below HK1.out)
              have H3 := Aside0.mk (Nat.lt_of_lt_of_le H5.out HK1.out.size)
              have H4 := Aside0.mk (Nat.lt_of_lt_of_le H6.out HK1.out.size)
              clear ho2 l2 r2 hb2
              refine ⟨_, rfl, ?_⟩
              refine hK.out _ _ s2 (fun hHeld => ?_)
              clear hK K
              refine norm_ (a' := ?_) ?_ ?_
              rotate_left
              · show Act.put _ (some 44) _ = _
                simp only [Act.put, List.setIfInBounds_toArray, List.set_cons_zero, List.set_cons_succ, i64_w, i32_w]
                rfl
              refine one_ (i := 12) (N := some 47) #[true, true, true, true, true, true, true, true, true, true, true, true, true, false, false, false] rfl rfl (one_of HT_.out (by kernel_rfl)) (by decide) (fun K hK => ?_)
              refine goesv_ Try.func50 (by kernel_rfl) rfl #[.pointer (some ⟨w.heap.size, 0, none⟩), .pointer (some ⟨w.heap.size + 1, 0, none⟩)] #[.int .i64 (q : Int)] #[.int .i64 (q : Int), .pointer (some ⟨w.heap.size, 0, none⟩), .pointer (some ⟨w.heap.size + 1, 0, none⟩)] (by rfl) rfl rfl (by rfl) aq (by rfl) ?_
              refine (key_calls w.heap.size (w.heap.size + 1) A0 c0 l0 A1 c1 l1 q HQ.out _ HC2.out).mono ?_
              rintro e w3 ⟨v3, rfl, ho3, hb3⟩
              rw [HKQ.out] at ho3
              obtain ⟨A3, c3, rfl, l3, r3⟩ := Kd.R_reads ho3
              have s3 : w3.cell? ⟨w.heap.size + 1 + 1, 0, none⟩ = some (.func (.func 50) #[] #[.pointer (some ⟨w.heap.size, 0, none⟩), .pointer (some ⟨w.heap.size + 1, 0, none⟩)]) ∧ w3.cell? ⟨w.heap.size + 1 + 1 + 1, ip, none⟩ = some (.int .i64 (p : Int)) := ⟨(hb3.cell (show w.heap.size + 1 + 1 < _ from H3.out)).trans s2.1, (hb3.cell (show w.heap.size + 1 + 1 + 1 < _ from H4.out)).trans s2.2⟩
              have CB := Aside0.mk r3
              have LB := Aside0.mk l3
              have HK2 := Aside0.mk hb3
              have HK3 := Aside0.mk (below_step HK1.out hb3)
              clear ho3 l3 r3 hb3
              refine ⟨_, rfl, ?_⟩
              refine hK.out _ _ s3 (fun hHeld => ?_)
              clear hK K
              refine norm_ (a' := ?_) ?_ ?_
              rotate_left
              · show Act.put _ (some 47) _ = _
                simp only [Act.put, List.setIfInBounds_toArray, List.set_cons_zero, List.set_cons_succ, i64_w, i32_w]
                rfl
              refine one_ (i := 13) (N := some 48) #[true, true, true, true, true, true, true, true, true, true, true, true, true, true, false, false] rfl rfl (one_of HT_.out (by kernel_rfl)) (by decide) (fun K hK => ?_)
              refine goes_ Try.func37 (by kernel_rfl) rfl #[.slice A2 kp.length c2, .slice A3 kq.length c3] (by rfl) rfl rfl aq ?_
              refine (labels_Compare.calls A2 c2 kp A3 c3 kq (cmpLs kp kq) _ (Kd.C_below CA.out HK2.out) LA.out CB.out LB.out rfl).mono ?_
              rintro e w4 ⟨rfl, hb4⟩
              have s4 : w4.cell? ⟨w.heap.size + 1 + 1, 0, none⟩ = some (.func (.func 50) #[] #[.pointer (some ⟨w.heap.size, 0, none⟩), .pointer (some ⟨w.heap.size + 1, 0, none⟩)]) ∧ w4.cell? ⟨w.heap.size + 1 + 1 + 1, ip, none⟩ = some (.int .i64 (p : Int)) := ⟨(hb4.cell (show w.heap.size + 1 + 1 < _ from Nat.lt_of_lt_of_le H3.out HK2.out.size)).trans s3.1, (hb4.cell (show w.heap.size + 1 + 1 + 1 < _ from Nat.lt_of_lt_of_le H4.out HK2.out.size)).trans s3.2⟩
              have HK4 := Aside0.mk (below_step HK3.out hb4)
              clear hb4
              refine ⟨_, rfl, ?_⟩
              refine hK.out _ _ s4 (fun hHeld => ?_)
              clear hK K
              refine norm_ (a' := ?_) ?_ ?_
              rotate_left
              · show Act.put _ (some 48) _ = _
                simp only [Act.put, List.setIfInBounds_toArray, List.set_cons_zero, List.set_cons_succ, i64_w, i32_w]
                rfl
              refine pure_ (i := 14) (N := some 49) (v := ?_) (a' := ?_) #[true, true, true, true, true, true, true, true, true, true, true, true, true, true, true, false] rfl rfl (any_of HT_.out (by kernel_rfl)) (fun _ _ _ h => h) (Or.inl ⟨by rfl, ?_⟩) ?_ ?_
              rotate_left
              · intro w'
                go_simp
                with_reducible rfl
              rotate_left
              · simp only [Act.put, List.setIfInBounds_toArray, List.set_cons_zero, List.set_cons_succ, i64_w, i32_w]
                rfl
              refine pure_ (i := 15) (N := some 50) (v := ?_) (a' := ?_) #[true, true, true, true, true, true, true, true, true, true, true, true, true, true, true, true] rfl rfl (any_of HT_.out (by kernel_rfl)) (fun _ _ _ h => h) (Or.inl ⟨by rfl, ?_⟩) ?_ ?_
              rotate_left
              · intro w'
                go_simp
                with_reducible rfl
              rotate_left
              · simp only [Act.put, List.setIfInBounds_toArray, List.set_cons_zero, List.set_cons_succ, i64_w, i32_w]
                rfl
              refine done_ (done_of HT_.out (by kernel_rfl)) ?_
              -- R13 end
              have HBD := Aside0.mk (HB.out.trans (HK4.out.mono HB.out.size))
              have HGD := Aside0.mk (Kd.S_below HG.out HK4.out)
              clear HG HB hci dp d5 hw3 s2 s3 s4 hHeld
              obtain ⟨G1, hG1⟩ : ∃ G1, gs = G1 := ⟨_, rfl⟩
              have HGE := Aside0.mk hG1
              obtain ⟨m, hm⟩ : ∃ m, gs.length = m + 1 := ⟨gs.length - 1, by have := hne (by omega); omega⟩
              have HMI := Aside0.mk hm
              have HML := Aside0.mk (show m ≤ 8 from by omega)
              have hgd := HGD.out
              obtain ⟨g8, cap8, ev8, hb8, _, _⟩ := Kd.S_form hgd (by omega)
              rw [ev8, hm] at hgd ⊢
              have hmG : G1.length = m + 1 := by rw [← hG1]; exact hm
              have HM := Aside0.mk hmG
              rw [hG1] at hgd
              have hw1 := wrap64_small m HML.out
              have hw2 : (0 : Int) ≤ (m : Int) := Int.natCast_nonneg m
              obtain ⟨Ay, cy, y, hy, hcy, hL⟩ := lend_last hgd HM.out
              have HLY := Aside0.mk (show y.length ≤ 8 from Nat.le_trans (lenY HGL.out (.inr hG1) hy) (by have := hlt; exact Nat.le_trans (Nat.le_of_lt hlt) hn8))
              have HY := Aside0.mk hy
              have HL := Aside0.mk hL
              have HB2 := HBD
              have HB8 := Aside0.mk hb8
              clear hgd hb8 hy hL HGD HBD ev8 hmG hG1 hm
              go_wp2_with (first
                | ((with_reducible refine gate_builtin (b := .append) (xs := #[.tmp 63, .tmp 65]) rfl ?_); at_builtin; obtain ⟨oki, hR, hH⟩ := HL.out; go_loud (refine Kd.R_append (Kd.int .i64) (w0 := w6) w6.heap.size rfl (.tmp 63) (.tmp 65) 22 3 (.int .i64 0) 8 rfl Try.underlying22 info3 rfl (by decide) (by omega) (.slice Ay y.length cy) y (q : Int) [.int .i64 (q : Int)] (fun k_ => oki k_ ∨ True ∧ w4.heap.size ≤ k_) (fun _ => False) rfl rfl ?aP (fun _ hk => hk.elim) (fun _ hk => .inr ⟨trivial, hk⟩) ?aO ?aB ?aS ?aL ?_); (case aP => exact rfl); (case aB => exact HB2.out); (case aO => exact Kd.R_mono hR (fun _ hk => .inl hk)); (case aS => exact HB2.out.size); (case aL => have := HLY.out; omega); intro v9 w9 ho hb hg hat; obtain ⟨A9, c9, rfl⟩ := Kd.R_slice ho; obtain ⟨k1, k2, k3⟩ := lent_back hR hH hg ho; have HG3 := Aside0.mk k3; have HB3 := Aside0.mk hb; clear ho hb hg hat hR hH HL hcy k3))
              go_roundg (l0.length - (ip + 1 + 1))
              case measure => omega
              case rel =>
                exact ⟨ip + 1 + 1, G1.set m (y ++ [(q : Int)]), by first | rfl | go_num | (congr 1; omega), by omega, Nat.le_refl _, ⟨by have := HG3.out; rw [List.length_append] at this; exact this⟩, ⟨HB3.out.setCell HB8.out _⟩, ⟨cut_on HC.out hlt (.inr ⟨by rintro (h | h); exact absurd h (by omega); exact h (by rw [Nat.add_sub_cancel, HXP.out, ← HX.out]; simp only [Int.toNat_natCast]; rw [HKP.out, HKQ.out]; exact HCZ.out), HGE.out⟩) HM.out HY.out HX.out⟩,
                  fun _ => by rw [List.length_set, HM.out]; omega, by rw [List.length_set, HM.out]; have := HMI.out; omega, ⟨lenG HGL.out (.inr HGE.out) HY.out⟩⟩
            · have HCZ := Aside0.mk hcz
              have hcz2 : (cmpLs kp kq = 0) = False := eq_false hcz
              have hcz3 : (cmpLs kp kq == 0) = false := by simpa using hcz
              have hcz4 : (cmpLs kp kq != 0) = true := by simpa using hcz
              have hcz5 : ((ip : Int) + 1 == 0) = false := by simpa using hw6
              clear hcz
              go_wp2
              -- R13 begin
              refine start_ (n := 16) (S := fun w' => w'.cell? ⟨w.heap.size + 1 + 1, 0, none⟩ = some (.func (.func 50) #[] #[.pointer (some ⟨w.heap.size, 0, none⟩), .pointer (some ⟨w.heap.size + 1, 0, none⟩)]) ∧ w'.cell? ⟨w.heap.size + 1 + 1 + 1, ip, none⟩ = some (.int .i64 (p : Int))) (ds := []) #[false, false, false, false, false, false, false, false, false, false, false, false, false, false, false, false] (by assumption) rfl rfl ⟨d5, dp⟩ (fun hHeld => ?_)
              refine with_tabW route_Groups.tab13 route_Groups.bits13 (fun HT_ HW_ => ?_)
              refine pure_ (i := 0) (N := some 35) (v := ?_) (a' := ?_) #[true, false, false, false, false, false, false, false, false, false, false, false, false, false, false, false] rfl rfl (any_of HT_.out (by kernel_rfl)) (fun _ _ _ h => h) (Or.inl ⟨by rfl, ?_⟩) ?_ ?_
              rotate_left
              · intro w'
                go_simp
                with_reducible rfl
              rotate_left
              · simp only [Act.put, List.setIfInBounds_toArray, List.set_cons_zero, List.set_cons_succ, i64_w, i32_w]
                rfl
              refine pure_ (i := 1) (N := some 36) (v := ?_) (a' := ?_) #[true, true, false, false, false, false, false, false, false, false, false, false, false, false, false, false] rfl rfl (any_of HT_.out (by kernel_rfl)) (fun _ _ _ h => h) (Or.inl ⟨by rfl, ?_⟩) ?_ ?_
              rotate_left
              · intro w'
                go_simp
                with_reducible rfl
              rotate_left
              · simp only [Act.put, List.setIfInBounds_toArray, List.set_cons_zero, List.set_cons_succ, i64_w, i32_w]
                rfl
              refine pure_ (i := 2) (N := some 37) (v := ?_) (a' := ?_) #[true, true, true, false, false, false, false, false, false, false, false, false, false, false, false, false] rfl rfl (any_of HT_.out (by kernel_rfl)) (fun _ _ _ h => h) (Or.inl ⟨by rfl, ?_⟩) ?_ ?_
              rotate_left
              · intro w'
                go_simp
                with_reducible rfl
              rotate_left
              · simp only [Act.put, List.setIfInBounds_toArray, List.set_cons_zero, List.set_cons_succ, i64_w, i32_w]
                rfl
              refine take_ (i := 3) (N := some 38) (v := ?_) (a' := ?_) #[true, true, true, true, false, false, false, false, false, false, false, false, false, false, false, false] rfl rfl (take_ofW HT_.out HW_.out (by kernel_rfl)) (fun _ _ _ h => h) (Or.inl ⟨by rfl, ?_⟩) hHeld ?_ ?_
              rotate_left
              · rintro w' ⟨sa, sb⟩
                go_simp
                with_reducible rfl
              rotate_left
              · simp only [Act.put, List.setIfInBounds_toArray, List.set_cons_zero, List.set_cons_succ, i64_w, i32_w]
                rfl
              refine pure_ (i := 4) (N := some 39) (v := ?_) (a' := ?_) #[true, true, true, true, true, false, false, false, false, false, false, false, false, false, false, false] rfl rfl (any_of HT_.out (by kernel_rfl)) (fun _ _ _ h => h) (Or.inl ⟨by rfl, ?_⟩) ?_ ?_
              rotate_left
              · intro w'
                go_simp
                with_reducible rfl
              rotate_left
              · simp only [Act.put, List.setIfInBounds_toArray, List.set_cons_zero, List.set_cons_succ, i64_w, i32_w]
                rfl
              refine pure_ (i := 5) (N := some 40) (v := ?_) (a' := ?_) #[true, true, true, true, true, true, false, false, false, false, false, false, false, false, false, false] rfl rfl (any_of HT_.out (by kernel_rfl)) (fun _ _ _ h => h) (Or.inl ⟨by rfl, ?_⟩) ?_ ?_
              rotate_left
              · intro w'
                go_simp
                with_reducible rfl
              rotate_left
              · simp only [Act.put, List.setIfInBounds_toArray, List.set_cons_zero, List.set_cons_succ, i64_w, i32_w]
                rfl
              refine pure_ (i := 6) (N := some 41) (v := ?_) (a' := ?_) #[true, true, true, true, true, true, true, false, false, false, false, false, false, false, false, false] rfl rfl (any_of HT_.out (by kernel_rfl)) (fun _ _ _ h => h) (Or.inl ⟨by rfl, ?_⟩) ?_ ?_
              rotate_left
              · intro w'
                go_simp
                with_reducible rfl
              rotate_left
              · simp only [Act.put, List.setIfInBounds_toArray, List.set_cons_zero, List.set_cons_succ, i64_w, i32_w]
                rfl
              refine pure_ (i := 7) (N := some 42) (v := ?_) (a' := ?_) #[true, true, true, true, true, true, true, true, false, false, false, false, false, false, false, false] rfl rfl (any_of HT_.out (by kernel_rfl)) (fun _ _ _ h => h) (Or.inl ⟨by rfl, ?_⟩) ?_ ?_
              rotate_left
              · intro w'
                go_simp
                with_reducible rfl
              rotate_left
              · simp only [Act.put, List.setIfInBounds_toArray, List.set_cons_zero, List.set_cons_succ, i64_w, i32_w]
                rfl
              refine take_ (i := 8) (N := some 43) (v := ?_) (a' := ?_) #[true, true, true, true, true, true, true, true, true, false, false, false, false, false, false, false] rfl rfl (take_ofW HT_.out HW_.out (by kernel_rfl)) (fun _ _ _ h => h) (Or.inl ⟨by rfl, ?_⟩) hHeld ?_ ?_
              rotate_left
              · rintro w' ⟨sa, sb⟩
                go_simp
                with_reducible rfl
              rotate_left
              · simp only [Act.put, List.setIfInBounds_toArray, List.set_cons_zero, List.set_cons_succ, i64_w, i32_w]
                rfl
              refine take_ (i := 10) (N := some 45) (v := ?_) (a' := ?_) #[true, true, true, true, true, true, true, true, true, false, true, false, false, false, false, false] rfl rfl (take_ofW HT_.out HW_.out (by kernel_rfl)) (fun _ _ _ h => h) (Or.inl ⟨by rfl, ?_⟩) hHeld ?_ ?_
              rotate_left
              · rintro w' ⟨sa, sb⟩
                go_simp
                with_reducible rfl
              rotate_left
              · simp only [Act.put, List.setIfInBounds_toArray, List.set_cons_zero, List.set_cons_succ, i64_w, i32_w]
                rfl
              refine pure_ (i := 11) (N := some 46) (v := ?_) (a' := ?_) #[true, true, true, true, true, true, true, true, true, false, true, true, false, false, false, false] rfl rfl (any_of HT_.out (by kernel_rfl)) (fun _ _ _ h => h) (Or.inl ⟨by rfl, ?_⟩) ?_ ?_
              rotate_left
              · intro w'
                go_simp
                with_reducible rfl
              rotate_left
              · simp only [Act.put, List.setIfInBounds_toArray, List.set_cons_zero, List.set_cons_succ, i64_w, i32_w]
                rfl
              refine one_ (i := 9) (N := some 44) #[true, true, true, true, true, true, true, true, true, true, true, true, false, false, false, false] rfl rfl (one_of HT_.out (by kernel_rfl)) (by decide) (fun K hK => ?_)
              refine goesv_ Try.func50 (by kernel_rfl) rfl #[.pointer (some ⟨w.heap.size, 0, none⟩), .pointer (some ⟨w.heap.size + 1, 0, none⟩)] #[.int .i64 (p : Int)] #[.int .i64 (p : Int), .pointer (some ⟨w.heap.size, 0, none⟩), .pointer (some ⟨w.heap.size + 1, 0, none⟩)] (by rfl) rfl rfl (by rfl) aq (by rfl) ?_
              refine (key_calls w.heap.size (w.heap.size + 1) A0 c0 l0 A1 c1 l1 p HP.out _ (HCW.out.below (below_drew (Below.refl _ _)))).mono ?_
              rintro e w2 ⟨v2, rfl, ho2, hb2⟩
              rw [HKP.out] at ho2
              obtain ⟨A2, c2, rfl, l2, r2⟩ := Kd.R_reads ho2
              have s2 : w2.cell? ⟨w.heap.size + 1 + 1, 0, none⟩ = some (.func (.func 50) #[] #[.pointer (some ⟨w.heap.size, 0, none⟩), .pointer (some ⟨w.heap.size + 1, 0, none⟩)]) ∧ w2.cell? ⟨w.heap.size + 1 + 1 + 1, ip, none⟩ = some (.int .i64 (p : Int)) := ⟨(hb2.cell (show w.heap.size + 1 + 1 < _ from H5.out)).trans d5, (hb2.cell (show w.heap.size + 1 + 1 + 1 < _ from H6.out)).trans dp⟩
              have CA := Aside0.mk r2
              have LA := Aside0.mk l2
              have HK1 := Aside0.mk (show Below wr.heap.size wr w2 from (below_drew (Below.refl _ _)).trans hb2)
              have HC2 := Aside0.mk (HCW.out.below HK1.out)
              have H3 := Aside0.mk (Nat.lt_of_lt_of_le H5.out HK1.out.size)
              have H4 := Aside0.mk (Nat.lt_of_lt_of_le H6.out HK1.out.size)
              clear ho2 l2 r2 hb2
              refine ⟨_, rfl, ?_⟩
              refine hK.out _ _ s2 (fun hHeld => ?_)
              clear hK K
              refine norm_ (a' := ?_) ?_ ?_
              rotate_left
              · show Act.put _ (some 44) _ = _
                simp only [Act.put, List.setIfInBounds_toArray, List.set_cons_zero, List.set_cons_succ, i64_w, i32_w]
                rfl
              refine one_ (i := 12) (N := some 47) #[true, true, true, true, true, true, true, true, true, true, true, true, true, false, false, false] rfl rfl (one_of HT_.out (by kernel_rfl)) (by decide) (fun K hK => ?_)
              refine goesv_ Try.func50 (by kernel_rfl) rfl #[.pointer (some ⟨w.heap.size, 0, none⟩), .pointer (some ⟨w.heap.size + 1, 0, none⟩)] #[.int .i64 (q : Int)] #[.int .i64 (q : Int), .pointer (some ⟨w.heap.size, 0, none⟩), .pointer (some ⟨w.heap.size + 1, 0, none⟩)] (by rfl) rfl rfl (by rfl) aq (by rfl) ?_
              refine (key_calls w.heap.size (w.heap.size + 1) A0 c0 l0 A1 c1 l1 q HQ.out _ HC2.out).mono ?_
              rintro e w3 ⟨v3, rfl, ho3, hb3⟩
              rw [HKQ.out] at ho3
              obtain ⟨A3, c3, rfl, l3, r3⟩ := Kd.R_reads ho3
              have s3 : w3.cell? ⟨w.heap.size + 1 + 1, 0, none⟩ = some (.func (.func 50) #[] #[.pointer (some ⟨w.heap.size, 0, none⟩), .pointer (some ⟨w.heap.size + 1, 0, none⟩)]) ∧ w3.cell? ⟨w.heap.size + 1 + 1 + 1, ip, none⟩ = some (.int .i64 (p : Int)) := ⟨(hb3.cell (show w.heap.size + 1 + 1 < _ from H3.out)).trans s2.1, (hb3.cell (show w.heap.size + 1 + 1 + 1 < _ from H4.out)).trans s2.2⟩
              have CB := Aside0.mk r3
              have LB := Aside0.mk l3
              have HK2 := Aside0.mk hb3
              have HK3 := Aside0.mk (below_step HK1.out hb3)
              clear ho3 l3 r3 hb3
              refine ⟨_, rfl, ?_⟩
              refine hK.out _ _ s3 (fun hHeld => ?_)
              clear hK K
              refine norm_ (a' := ?_) ?_ ?_
              rotate_left
              · show Act.put _ (some 47) _ = _
                simp only [Act.put, List.setIfInBounds_toArray, List.set_cons_zero, List.set_cons_succ, i64_w, i32_w]
                rfl
              refine one_ (i := 13) (N := some 48) #[true, true, true, true, true, true, true, true, true, true, true, true, true, true, false, false] rfl rfl (one_of HT_.out (by kernel_rfl)) (by decide) (fun K hK => ?_)
              refine goes_ Try.func37 (by kernel_rfl) rfl #[.slice A2 kp.length c2, .slice A3 kq.length c3] (by rfl) rfl rfl aq ?_
              refine (labels_Compare.calls A2 c2 kp A3 c3 kq (cmpLs kp kq) _ (Kd.C_below CA.out HK2.out) LA.out CB.out LB.out rfl).mono ?_
              rintro e w4 ⟨rfl, hb4⟩
              have s4 : w4.cell? ⟨w.heap.size + 1 + 1, 0, none⟩ = some (.func (.func 50) #[] #[.pointer (some ⟨w.heap.size, 0, none⟩), .pointer (some ⟨w.heap.size + 1, 0, none⟩)]) ∧ w4.cell? ⟨w.heap.size + 1 + 1 + 1, ip, none⟩ = some (.int .i64 (p : Int)) := ⟨(hb4.cell (show w.heap.size + 1 + 1 < _ from Nat.lt_of_lt_of_le H3.out HK2.out.size)).trans s3.1, (hb4.cell (show w.heap.size + 1 + 1 + 1 < _ from Nat.lt_of_lt_of_le H4.out HK2.out.size)).trans s3.2⟩
              have HK4 := Aside0.mk (below_step HK3.out hb4)
              clear hb4
              refine ⟨_, rfl, ?_⟩
              refine hK.out _ _ s4 (fun hHeld => ?_)
              clear hK K
              refine norm_ (a' := ?_) ?_ ?_
              rotate_left
              · show Act.put _ (some 48) _ = _
                simp only [Act.put, List.setIfInBounds_toArray, List.set_cons_zero, List.set_cons_succ, i64_w, i32_w]
                rfl
              refine pure_ (i := 14) (N := some 49) (v := ?_) (a' := ?_) #[true, true, true, true, true, true, true, true, true, true, true, true, true, true, true, false] rfl rfl (any_of HT_.out (by kernel_rfl)) (fun _ _ _ h => h) (Or.inl ⟨by rfl, ?_⟩) ?_ ?_
              rotate_left
              · intro w'
                go_simp
                with_reducible rfl
              rotate_left
              · simp only [Act.put, List.setIfInBounds_toArray, List.set_cons_zero, List.set_cons_succ, i64_w, i32_w]
                rfl
              refine pure_ (i := 15) (N := some 50) (v := ?_) (a' := ?_) #[true, true, true, true, true, true, true, true, true, true, true, true, true, true, true, true] rfl rfl (any_of HT_.out (by kernel_rfl)) (fun _ _ _ h => h) (Or.inl ⟨by rfl, ?_⟩) ?_ ?_
              rotate_left
              · intro w'
                go_simp
                with_reducible rfl
              rotate_left
              · simp only [Act.put, List.setIfInBounds_toArray, List.set_cons_zero, List.set_cons_succ, i64_w, i32_w]
                rfl
              refine done_ (done_of HT_.out (by kernel_rfl)) ?_
              -- R13 end
              have HBD := Aside0.mk (HB.out.trans (HK4.out.mono HB.out.size))
              have HGD := Aside0.mk (Kd.S_below HG.out HK4.out)
              clear HG HB hci dp d5 hw3 s2 s3 s4 hHeld
              go_wp2_with (first
                | ((with_reducible refine gate_builtin (b := .append) (xs := #[.tmp 51, .tmp 52]) rfl ?_); at_builtin; go_loud (refine Kd.S_append (Kd.slice 3 (Kd.int .i64)) (w0 := w6) w6.heap.size rfl (.tmp 51) (.tmp 52) 65 22 (.slice none 0 0) 24 rfl ul65_ info22 rfl (by decide) (by omega) (.slice A8 gs.length c8) gs ([] : List Int) [.slice none 0 0] (fun _ => True) (fun _ => False) rfl rfl ?aP (fun _ hk => hk.elim) (fun _ _ => trivial) ?aO ?aB ?aS ?aL ?_); (case aP => exact Kd.M_row (Kd.R_nil _ _ _ _ _)); (case aB => exact HBD.out); (case aO => exact Kd.S_mono HGD.out (fun _ _ => ⟨trivial, fun h => h⟩)); (case aS => exact HBD.out.size); (case aL => have := HGN.out; omega); intro v8 w8 ho hb hg hat; obtain ⟨G1, hG1⟩ : ∃ G1, G1 = gs ++ [([] : List Int)] := ⟨_, rfl⟩; rw [← hG1] at ho; obtain ⟨m, hm⟩ : ∃ m, G1.length = m + 1 := ⟨gs.length, by rw [hG1]; simp⟩; obtain ⟨g8, cap8, rfl, hb8, _, _⟩ := Kd.S_form ho (by omega); have HGE := Aside0.mk (show gs ++ [([] : List Int)] = G1 from hG1.symm); have HM := Aside0.mk hm; have HMI := Aside0.mk (show m = gs.length from by have := congrArg List.length hG1; rw [hm] at this; simp at this; omega); have HML := Aside0.mk (show m ≤ 8 from by have := congrArg List.length hG1; have := HGN.out; rw [hm] at *; simp at *; omega); rw [hm] at ho ⊢; have hw1 := wrap64_small m HML.out; have hw2 : (0 : Int) ≤ (m : Int) := Int.natCast_nonneg m; have HW := Aside0.mk hw1; obtain ⟨Ay, cy, y, hy, hcy, hL⟩ := lend_last ho HM.out; have HLY := Aside0.mk (show y.length ≤ 8 from Nat.le_trans (lenY HGL.out (.inl HGE.out) hy) (by omega)); have HY := Aside0.mk hy; have HL := Aside0.mk hL; have HB2 := Aside0.mk hb; have HB8 := Aside0.mk hb8; clear ho hb hg hat HGD HBD hG1 hm hb8 hy hL)
                | ((with_reducible refine gate_builtin (b := .append) (xs := #[.tmp 63, .tmp 65]) rfl ?_); at_builtin; obtain ⟨oki, hR, hH⟩ := HL.out; go_loud (refine Kd.R_append (Kd.int .i64) (w0 := w6) w6.heap.size rfl (.tmp 63) (.tmp 65) 22 3 (.int .i64 0) 8 rfl Try.underlying22 info3 rfl (by decide) (by omega) (.slice Ay y.length cy) y (q : Int) [.int .i64 (q : Int)] (fun k_ => oki k_ ∨ True ∧ w8.heap.size ≤ k_) (fun _ => False) rfl rfl ?aP (fun _ hk => hk.elim) (fun _ hk => .inr ⟨trivial, hk⟩) ?aO ?aB ?aS ?aL ?_); (case aP => exact rfl); (case aB => exact HB2.out); (case aO => exact Kd.R_mono hR (fun _ hk => .inl hk)); (case aS => exact HB2.out.size); (case aL => have := HLY.out; omega); intro v9 w9 ho hb hg hat; obtain ⟨A9, c9, rfl⟩ := Kd.R_slice ho; obtain ⟨k1, k2, k3⟩ := lent_back hR hH hg ho; have HG3 := Aside0.mk k3; have HB3 := Aside0.mk hb; clear ho hb hg hat hR hH HL hcy k3))
              go_roundg (l0.length - (ip + 1 + 1))
              case measure => omega
              case rel =>
                exact ⟨ip + 1 + 1, G1.set m (y ++ [(q : Int)]), by first | rfl | go_num | (congr 1; omega), by omega, Nat.le_refl _, ⟨by have := HG3.out; rw [List.length_append] at this; exact this⟩, ⟨HB3.out.setCell HB8.out _⟩, ⟨cut_on HC.out hlt (.inl ⟨.inr (fun h => HCZ.out (by rw [Nat.add_sub_cancel, HXP.out, ← HX.out] at h; simp only [Int.toNat_natCast] at h; rw [HKP.out, HKQ.out] at h; exact h)), HGE.out⟩) HM.out HY.out HX.out⟩,
                  fun _ => by rw [List.length_set, HM.out]; omega, by rw [List.length_set, HM.out]; have := HMI.out; omega, ⟨lenG HGL.out (.inl HGE.out) HY.out⟩⟩
        · have hltz : ((i : Int) < (l0.length : Int)) = False := eq_false (by omega)
          have hin : i = l0.length := by omega
          subst hin
          have hfin := HC.out
          simp only [Nat.sub_self, cutL] at hfin
          go_wp2
          go_ret
          exact ⟨_, rfl, by rw [← HRR.out, ← hfin]; exact Kd.S_lower HG.out (by have := HSZ6.out; omega), HB6.out.trans (HB.out.mono (by have := HSZ6.out; omega))⟩
end Go.Proofs.Ytcamljlhdejmmaa.P
