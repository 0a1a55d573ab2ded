/- slices.insertionSortCmpFunc at ints, whole rows of the call's own, under a comparison that may lay blocks: walked by hand. -/
import Derived.Test.YtcamljlhdejmmaaPx0
import Derived.Deep.QuietTactic
import Derived.BigQuiet
import Derived.BigRegion
import Derived.Shelf.Abstract
import Derived.Sort.WalkA
import Derived.Sort.LotA
import Derived.Shelf.RegionOpenPlain
namespace Go.Proofs.Ytcamljlhdejmmaa.P
open Go.RowKit Go.Proofs.YtcamljlhdejmmaaW.PrintWords Go.Proofs.YtcamljlhdejmmaaW.PrintLast Go.Proofs.YtcamljlhdejmmaaW.PrintMore
set_option linter.unusedVariables false
set_option linter.unusedSimpArgs false

/-! ### the worlds in which nothing old has changed -/
structure GrB where
  n : Nat
  os : Array Obj
  deriving Inhabited
def setG (W : World) (p : GrB) : World := { W with heap := W.heap ++ p.os, drawn := p.n }
theorem setG_block (W : World) (p : GrB) (k : Nat) (h : k < W.heap.size) : (setG W p).heap[k]? = W.heap[k]? := by
  unfold setG; simp only; rw [Array.getElem?_append_left h]
theorem setG_cell {W : World} {a : Addr} {v : Value} (h : W.cell? a = some v) (p : GrB) : (setG W p).cell? a = some v := by
  have hb := World.block_lt_of_cell? W _ h
  unfold World.cell? at h ⊢
  rw [setG_block W p a.block hb]; exact h
theorem setG_below (W : World) (p : GrB) : Below W.heap.size W (setG W p) := ⟨rfl, rfl, rfl, by unfold setG; simp, fun k h => setG_block W p k h⟩
theorem setG_of {W w' : World} (h : Below W.heap.size W w') : ∃ p, w' = setG W p := by
  refine ⟨⟨w'.drawn, w'.heap.extract W.heap.size w'.heap.size⟩, ?_⟩
  unfold setG
  have hh : w'.heap = W.heap ++ w'.heap.extract W.heap.size w'.heap.size := by
    have hz := h.size
    apply Array.ext_getElem?
    intro k
    by_cases hk : k < W.heap.size
    · rw [h.block k hk, Array.getElem?_append_left hk]
    · rw [Array.getElem?_append_right (by omega)]
      by_cases hk2 : k < w'.heap.size
      · rw [Array.getElem?_eq_getElem hk2, Array.getElem?_eq_getElem (by simp; omega)]
        simp; congr 1; omega
      · rw [Array.getElem?_eq_none (by omega), Array.getElem?_eq_none (by simp; omega)]
  have h1 := h.os; have h2 := h.tape; have h3 := h.output
  clear h
  obtain ⟨hp, tp, dr, os, out⟩ := w'
  obtain ⟨hp0, tp0, dr0, os0, out0⟩ := W
  dsimp only at h1 h2 h3 hh ⊢
  subst h1 h2 h3
  exact congrArg (fun z => World.mk z tp dr os out) hh
theorem wp_region_setG {P : Program} {id : Nat} {Q : Exit → Act → World → Prop} {a : Act} {w : World} {l : List Oper} (hm : P.follows .mixedOrders = true) (hB : Region.lexB .any l.toArray = true)
    (h : wpQuiet P l.toArray (fun w' => ∃ p : GrB, w' = setG w p) (fun a' => ∀ w', (∃ p : GrB, w' = setG w p) → Q .normal a' w') l a) : (Code.region id l.toArray true).wp P Q a w :=
  wp_region_quiet (C := fun w' => ∃ p : GrB, w' = setG w p) hm hB ⟨⟨w.drawn + 1, #[]⟩, by unfold setG; simp⟩ (by simpa using h)
theorem calls_setG {P : Program} {f : FuncId} {args : Array Value} {W : World} {p : GrB} {v : Value} (h : Calls P f args (setG W p) fun e w' => e = .returned v ∧ Below (setG W p).heap.size (setG W p) w') :
    Calls P f args (setG W p) fun e w' => e = .returned v ∧ ∃ q : GrB, w' = setG W q :=
  h.mono fun _ _ ⟨he, hb⟩ => ⟨he, setG_of ((setG_below W p).trans (hb.mono (setG_below W p).size))⟩

/-- What is known of a world of the sort's: block b holds L; what lies below b is as it was. -/
structure SW (b : Nat) (w0 : World) (L : Array Int) (w : World) : Prop where
  row : w.heap[b]? = some (.cells (L.map (Value.int .i64)) 3 (0, 0))
  bel : Below b w0 w
theorem SW.step {b : Nat} {w0 w w' : World} {L : Array Int} (h : SW b w0 L w) (hb : Below w.heap.size w w') : SW b w0 L w' :=
  ⟨(hb.block b (blk_lt h.row)).trans h.row, h.bel.trans (hb.mono (Nat.le_of_lt (blk_lt h.row)))⟩
theorem SW.cell {b : Nat} {w0 w : World} {L : Array Int} (h : SW b w0 L w) (i : Nat) (hi : i < L.size) : w.cell? ⟨b, i, none⟩ = some (.int .i64 L[i]!) := by
  rw [blk_cell h.row i, Array.getElem?_map, Array.getElem?_eq_getElem hi, getElem!_pos L i hi]; rfl
theorem SW.set {b : Nat} {w0 w : World} {L : Array Int} (h : SW b w0 L w) (i : Nat) (x : Int) : SW b w0 (L.setIfInBounds i x) (w.setCell ⟨b, i, none⟩ (.int .i64 x)) := by
  refine ⟨?_, h.bel.setCell (Nat.le_refl _) _⟩
  have := h.row
  simp only [World.setCell, Array.getElem?_modify, this, if_true, Option.map_some, Option.isSome_none, Bool.false_eq_true, if_false, Array.map_setIfInBounds]
theorem SW.swap {b : Nat} {w0 w : World} {L : Array Int} (h : SW b w0 L w) (i j : Nat) (hi : i < L.size) (hj : j < L.size) :
    SW b w0 (Sort.swp L i j) ((w.drew.setCell ⟨b, i, none⟩ (.int .i64 L[j]!)).setCell ⟨b, j, none⟩ (.int .i64 L[i]!)) := by
  have h1 : SW b w0 L w.drew := ⟨h.row, h.bel.drew⟩
  have h2 := (h1.set i L[j]!).set j L[i]!
  unfold Sort.swp
  exact h2

theorem ok_swp {ok : Int → Prop} {d : Array Int} (h : ∀ i, i < d.size → ok d[i]!) (a b : Nat) (ha : a < d.size) (hb : b < d.size) : ∀ i, i < (Sort.swp d a b).size → ok (Sort.swp d a b)[i]! := by
  intro i hi
  rw [Sort.swp_size] at hi
  rw [Sort.swp_get d ha hb]
  split
  · exact h _ ha
  · split
    · exact h _ hb
    · exact h _ hi
theorem swFrozen {b : Nat} {w0 w : World} {L : Array Int} (h : SW b w0 L w) (i : Nat) : w.frozen? ⟨b, i, none⟩ = false := blk_frozen h.row i
set_option maxHeartbeats 4000000 in
set_option maxRecDepth 1000000 in
theorem insertion_calls (b cap g : Nat) (cb : Array Value) (cf : Int → Int → Int) (ok : Int → Prop) (L : Array Int) (w0 : World) (hsz : L.size ≤ 1000) (hS : SW b w0 L w0) (hok : ∀ i, i < L.size → ok L[i]!)
    (eg : ∀ args w, (callFunc g args).run Try.prog w = .ok (.enter g args) w)
    (hcmp : ∀ W x y, Below b w0 W → ok x → ok y → Calls Try.prog g (#[.int .i64 x, .int .i64 y] ++ cb) W fun e w' => e = .returned (.int .i64 (cf x y)) ∧ Below W.heap.size W w') :
    Calls Try.prog 68 #[.slice (some ⟨b, 0, none⟩) L.size cap, .int .i64 0, .int .i64 L.size, .func (.func g) #[] cb] w0 fun e w' => e = .returned (.tuple #[]) ∧ SW b w0 (Sort.insertionSort (fun x y => decide (cf x y < 0)) L 0 L.size) w' := by
  have mixed : Try.prog.follows .mixedOrders = true := by kernel_rfl
  unfold Sort.insertionSort
  generalize hlt0 : (fun x y : Int => decide (cf x y < 0)) = lt
  have HLT := Aside0.mk (fun x y => (congrFun (congrFun hlt0 x) y).symm : ∀ x y, lt x y = decide (cf x y < 0))
  clear hlt0
  have HS0 := Aside0.mk hS
  have HO0 := Aside0.mk hok
  clear hS hok
  go_enter Try.func68, Try.ntmps68
  go_wp2
  go_loopg [8] (L.size) (fun g1 vi wr => ∃ (i : Nat) (dk : Array Int), vi = .int .i64 i ∧ 0 < i ∧ i ≤ L.size + 1 ∧ L.size + 1 - i ≤ g1 + 1 ∧ dk.size = L.size ∧ Aside0 (SW b w0 dk wr) ∧ Aside0 (∀ q, q < dk.size → ok dk[q]!) ∧ Aside0 (Sort.insOuter lt 0 L.size i dk = Sort.insOuter lt 0 L.size (0 + 1) L))
  case atStart => exact ⟨1, L, by first | rfl | go_num, by omega, by omega, by omega, rfl, HS0, HO0, ⟨rfl⟩⟩
  case round =>
    obtain ⟨i, dk, rfl, hai, hib, hg1, hsk, HS, HO, HE⟩ := hrel
    by_cases hlt : i < L.size
    · have hltz : ((i : Int) < (L.size : Int)) = True := eq_true (by omega)
      go_wp2
      go_loopg [9] i (fun g2 vj wr2 => ∃ (j : Nat) (dj : Array Int), vj = .int .i64 j ∧ j ≤ i ∧ j ≤ g2 ∧ dj.size = L.size ∧ Aside0 (SW b w0 dj wr2) ∧ Aside0 (∀ q, q < dj.size → ok dj[q]!) ∧ Aside0 (Sort.insInner lt 0 j dj = Sort.insInner lt 0 i dk))
      case atStart => exact ⟨i, dk, rfl, Nat.le_refl _, Nat.le_refl _, hsk, HS, HO, ⟨rfl⟩⟩
      case round =>
        obtain ⟨j, dj, rfl, hji, hg2, hsj, HSj, HOj, HI⟩ := hrel
        have OUT : Aside0 ((j ≤ 0 ∨ lt dj[j]! dj[j - 1]! = false) → Sort.insOuter lt 0 L.size (i + 1) dj = Sort.insOuter lt 0 L.size (0 + 1) L) := ⟨fun hs => by
          have e1 := insOuter_go lt 0 L.size i dk hlt
          have e2 := insInner_stop lt 0 j dj hs
          exact Eq.trans (by rw [e1, ← HI.out, e2]) HE.out⟩
        by_cases hja : 0 < j
        · obtain ⟨jp, rfl⟩ : ∃ jp, j = jp + 1 := ⟨j - 1, by omega⟩
          have hwp : IntKind.i64.wrap (jp : Int) = (jp : Int) := by rw [IntKind.wrap_i64]; omega
          have hwp2 : (0 : Int) ≤ (jp : Int) := by omega
          have p0 : (0 : Int) ≤ (jp : Int) + 1 := by omega
          have jz : ((jp : Int) + 1 < (L.size : Int)) = True := eq_true (by omega)
          have jz1 : ((jp : Int) < (L.size : Int)) = True := eq_true (by omega)
          have jg : ((0 : Int) < (jp : Int) + 1) = True := eq_true (by omega)
          have cx := fun p => setG_cell (HSj.out.cell (jp + 1) (by omega)) p
          have cy := fun p => setG_cell (HSj.out.cell jp (by omega)) p
          have okx := HOj.out (jp + 1) (by omega)
          have oky := HOj.out jp (by omega)
          have hcc := fun p => calls_setG (hcmp (setG wr p) dj[jp + 1]! dj[jp]! (HSj.out.bel.trans ((setG_below _ p).mono (Nat.le_of_lt (blk_lt HSj.out.row)))) okx oky)
          obtain ⟨x, hx⟩ : ∃ x, dj[jp + 1]! = x := ⟨_, rfl⟩
          obtain ⟨y, hy⟩ : ∃ y, dj[jp]! = y := ⟨_, rfl⟩
          rw [hx] at cx
          rw [hy] at cy
          rw [hx, hy] at hcc
          have HXY := Aside0.mk (And.intro hx hy)
          have HCMP := Aside0.mk hcmp
          clear hx hy okx oky hcmp
          by_cases hlv : cf x y < 0
          · have hlv2 : (cf x y < 0) = True := eq_true hlv
            have HSW := Aside0.mk (show Sort.insInner lt 0 jp (Sort.swp dj (jp + 1) jp) = Sort.insInner lt 0 i dk by
              rw [← HI.out, insInner_go lt 0 (jp + 1) dj (by omega) (by rw [HLT.out, Nat.add_sub_cancel, HXY.out.1, HXY.out.2]; exact decide_eq_true hlv)]; rfl)
            clear hlv
            go_wp2_with fail
            refine wp_region_setG mixed (by kernel_rfl) ?_
            repeat (quiet_step ((go_at_fn g; exact hcc _)))
            refine wpQuiet_nil ?_
            intro _ hw'
            obtain ⟨pq, hw''⟩ := hw'
            subst hw''
            have S2 : Aside0 (SW b w0 dj (setG wr pq)) := ⟨HSj.out.step (setG_below wr pq)⟩
            clear cx cy hcc HSj
            generalize setG wr pq = w2 at S2 ⊢
            clear pq
            have c1 : w2.cell? ⟨b, jp + 1, none⟩ = some (.int .i64 x) := by rw [S2.out.cell (jp + 1) (by omega), HXY.out.1]
            have c2 : w2.cell? ⟨b, jp, none⟩ = some (.int .i64 y) := by rw [S2.out.cell jp (by omega), HXY.out.2]
            have f1 := swFrozen S2.out (jp + 1)
            have f2 := swFrozen S2.out jp
            have c3 : (w2.setCell ⟨b, jp + 1, none⟩ (.int .i64 y)).cell? ⟨b, jp, none⟩ = some (.int .i64 y) :=
              (World.cell?_setCell_other _ _ _ _ (by intro e'; simp only [Addr.mk.injEq] at e'; omega)).trans c2
            have S3 : Aside0 (SW b w0 (Sort.swp dj (jp + 1) jp) ((w2.setCell ⟨b, jp + 1, none⟩ (.int .i64 y)).setCell ⟨b, jp, none⟩ (.int .i64 x)).drew) := ⟨by
              have := S2.out.swap (jp + 1) jp (by omega) (by omega)
              rw [HXY.out.1, HXY.out.2] at this
              exact this⟩
            clear S2
            go_wp2_with fail
            go_big_region_o
            clear c1 c2 c3 f1 f2
            generalize ((w2.setCell ⟨b, jp + 1, none⟩ (.int .i64 y)).setCell ⟨b, jp, none⟩ (.int .i64 x)).drew = w3 at S3 ⊢
            go_wp2
            go_roundg jp
            case measure => omega
            case rel => exact ⟨jp, Sort.swp dj (jp + 1) jp, by first | rfl | go_num | (congr 1; omega), by omega, Nat.le_refl _, by rw [Sort.swp_size]; exact hsj, S3, ⟨ok_swp HOj.out _ _ (by omega) (by omega)⟩, HSW⟩
          · have hlv2 : (cf x y < 0) = False := eq_false hlv
            have HST := Aside0.mk (OUT.out (.inr (by rw [HLT.out, Nat.add_sub_cancel, HXY.out.1, HXY.out.2]; exact decide_eq_false hlv)))
            clear hlv
            go_wp2_with fail
            refine wp_region_setG mixed (by kernel_rfl) ?_
            repeat (quiet_step ((go_at_fn g; exact hcc _)))
            refine wpQuiet_nil ?_
            intro _ hw'
            obtain ⟨pq, hw''⟩ := hw'
            subst hw''
            have S2 : Aside0 (SW b w0 dj (setG wr pq)) := ⟨HSj.out.step (setG_below wr pq)⟩
            clear cx cy hcc HSj
            generalize setG wr pq = w2 at S2 ⊢
            clear pq
            go_wp2
            go_roundg (L.size - (i + 1))
            case measure => omega
            case rel => exact ⟨i + 1, dj, by first | rfl | go_num | (congr 1; omega), by omega, by omega, by omega, hsj, S2, HOj, HST⟩
        · have hjaz : decide ((j : Int) > (0 : Int)) = false := decide_eq_false (by omega)
          have hjaz' : ((0 : Int) < (j : Int)) = False := eq_false (by omega)
          have HST := Aside0.mk (OUT.out (.inl (by omega)))
          go_wp2_with fail
          go_big_region_o
          have S2 : Aside0 (SW b w0 dj wr.drew) := ⟨⟨HSj.out.row, HSj.out.bel.drew⟩⟩
          clear HSj
          generalize wr.drew = w2 at S2 ⊢
          go_wp2
          go_roundg (L.size - (i + 1))
          case measure => omega
          case rel => exact ⟨i + 1, dj, by first | rfl | go_num | (congr 1; omega), by omega, by omega, by omega, hsj, S2, HOj, HST⟩
    · have hltz : ((i : Int) < (L.size : Int)) = False := eq_false (by omega)
      have hfin := HE.out
      rw [insOuter_stop lt 0 L.size i dk hlt] at hfin
      have HF := Aside0.mk hfin
      clear hfin
      go_wp2
      go_end0
      exact ⟨rfl, by rw [← HF.out]; exact HS.out⟩

set_option maxHeartbeats 4000000 in
set_option maxRecDepth 1000000 in
theorem stable_calls (b cap g : Nat) (cb : Array Value) (cf : Int → Int → Int) (ok : Int → Prop) (L : Array Int) (w0 : World) (hsz : L.size ≤ 19) (hS : SW b w0 L w0) (hok : ∀ i, i < L.size → ok L[i]!)
    (eg : ∀ args w, (callFunc g args).run Try.prog w = .ok (.enter g args) w)
    (hcmp : ∀ W x y, Below b w0 W → ok x → ok y → Calls Try.prog g (#[.int .i64 x, .int .i64 y] ++ cb) W fun e w' => e = .returned (.int .i64 (cf x y)) ∧ Below W.heap.size W w') :
    Calls Try.prog 64 #[.slice (some ⟨b, 0, none⟩) L.size cap, .int .i64 L.size, .func (.func g) #[] cb] w0 fun e w' => e = .returned (.tuple #[]) ∧ SW b w0 (Sort.insertionSort (fun x y => decide (cf x y < 0)) L 0 L.size) w' := by
  have hI := insertion_calls b cap g cb cf ok L w0 (by omega) hS hok eg hcmp
  generalize Sort.insertionSort (fun x y => decide (cf x y < 0)) L 0 L.size = L2 at *
  clear hcmp hok hS eg
  have h1 : ((20 : Int) ≤ (L.size : Int)) = False := eq_false (by omega)
  have h2 : ((20 : Int) < (L.size : Int)) = False := eq_false (by omega)
  go_enter Try.func64, Try.ntmps64
  go_wp2
  go_loopg [7, 8] 0 (fun g1 v7 v8 wr => v7 = .int .i64 0 ∧ v8 = .int .i64 20 ∧ wr = w0)
  case atStart => exact ⟨rfl, rfl, rfl⟩
  case round =>
    obtain ⟨rfl, rfl, rfl⟩ := hrel
    go_wp2_with (go_at_call 68; refine hI.mono ?_; rintro e w2 ⟨rfl, hs2⟩; have HS2 := Aside0.mk hs2; clear hs2 hI)
    go_loopg [6, 7, 8, 9] 0 (fun g1 v6 v7 v8 v9 wr => v6 = .int .i64 20 ∧ wr = w2)
    case atStart => exact ⟨rfl, rfl⟩
    case round =>
      obtain ⟨rfl, rfl⟩ := hrel
      go_wp2
      go_end0
      exact ⟨rfl, HS2.out⟩

set_option maxHeartbeats 4000000 in
set_option maxRecDepth 1000000 in
theorem sortStable_calls (b cap g : Nat) (cb : Array Value) (cf : Int → Int → Int) (ok : Int → Prop) (L : Array Int) (w0 : World) (hsz : L.size ≤ 19) (hS : SW b w0 L w0) (hok : ∀ i, i < L.size → ok L[i]!)
    (eg : ∀ args w, (callFunc g args).run Try.prog w = .ok (.enter g args) w)
    (hcmp : ∀ W x y, Below b w0 W → ok x → ok y → Calls Try.prog g (#[.int .i64 x, .int .i64 y] ++ cb) W fun e w' => e = .returned (.int .i64 (cf x y)) ∧ Below W.heap.size W w') :
    Calls Try.prog 51 #[.slice (some ⟨b, 0, none⟩) L.size cap, .func (.func g) #[] cb] w0 fun e w' => e = .returned (.tuple #[]) ∧ SW b w0 (Sort.insertionSort (fun x y => decide (cf x y < 0)) L 0 L.size) w' := by
  have hI := stable_calls b cap g cb cf ok L w0 hsz hS hok eg hcmp
  generalize Sort.insertionSort (fun x y => decide (cf x y < 0)) L 0 L.size = L2 at *
  clear hcmp hok hS eg
  go_enter Try.func51, Try.ntmps51
  go_wp2_with (go_at_call 64; refine hI.mono ?_; rintro e w2 ⟨rfl, hs2⟩; have HS2 := Aside0.mk hs2; clear hs2 hI)
  go_end0
  exact ⟨rfl, HS2.out⟩
end Go.Proofs.Ytcamljlhdejmmaa.P
