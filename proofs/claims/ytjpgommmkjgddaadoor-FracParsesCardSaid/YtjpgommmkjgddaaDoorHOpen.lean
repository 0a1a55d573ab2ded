/- Arguments of any kind laid open: what the memory's reading of an argument says in the words of the kinds (Opens), kind by kind; each with the bounds that a pure statement is told. -/
import Derived.Test.YtjpgommmkjgddaaDoorPx0
import Derived.Deep.Slices
import Derived.OpenShut
import Derived.SizedLaws
namespace Go.Proofs.YtjpgommmkjgddaaDoor.P
open Go.RowKit Go.Deep Go.Proofs.YtjpgommmkjgddaaDoorW.PrintWords Go.Proofs.YtjpgommmkjgddaaDoorW.PrintLast Go.Proofs.YtjpgommmkjgddaaDoorW.PrintMore
set_option linter.unusedVariables false
set_option linter.unusedSimpArgs false

/-- Whatever is read at type t is of kind d, within its bounds. -/
def Opens (P : Program) (t : TypeId) {α : Type} (d : Kd α) (B : α → Prop) : Prop :=
  ∀ (H : Type) (enc : TypeId × Value → H) (w : World) (base : Nat) (spare : Nat → Bool) (held : Bool) (fuel : Nat) (cs : List Value) (x : DataW H) (ps : List MemPlace),
    DataW.trod enc P w base spare held fuel t cs = some (x, ps) → (∀ n ∈ x.weights P t, n ≤ reachBytes) → ∃ a : α, d.K w a cs ∧ B a

theorem Opens.int {P : Program} {t : TypeId} {k : IntKind} (h : P.underlying t = some (.int k)) : Opens P t (Kd.int k) fun a => (Lit.int k a).wf = true := by
  intro H enc w base spare held fuel cs x ps hx hw
  obtain ⟨n, rfl, _, hwf⟩ := DataW.trod_int h hx
  exact ⟨n, rfl, hwf⟩
theorem Opens.bool {P : Program} {t : TypeId} (h : P.underlying t = some .bool) : Opens P t Kd.bool fun _ => True := by
  intro H enc w base spare held fuel cs x ps hx hw
  obtain ⟨n, rfl, _⟩ := DataW.trod_bool h hx
  exact ⟨n, rfl, trivial⟩
theorem Opens.string {P : Program} {t : TypeId} (h : P.underlying t = some .string) : Opens P t Kd.string fun a => a.size ≤ 140737488351232 := by
  intro H enc w base spare held fuel cs x ps hx hw
  obtain ⟨s, rfl, e, _⟩ := DataW.trod_string h hx
  obtain ⟨rfl, rfl⟩ := Prod.mk.inj e
  refine ⟨s, rfl, ?_⟩
  have := hw s.data.toList.length (by simp [DataW.weights])
  simpa [reachBytes] using this

theorem weightsAll_mem {H : Type} {P : Program} {e : TypeId} : ∀ {l : List (DataW H)} {d : DataW H}, d ∈ l → ∀ n ∈ d.weights P e, n ∈ DataW.weightsAll P e l
  | d0 :: r, d, hd, n, hn => by
    rw [DataW.weightsAll, List.mem_append]
    rcases List.mem_cons.1 hd with rfl | hd
    · exact .inl hn
    · exact .inr (weightsAll_mem hd n hn)

theorem Opens.slice {P : Program} {t e : TypeId} {α : Type} {d : Kd α} {B : α → Prop} (ht : P.underlying t = some (.slice e)) (hc : P.cellsOf e = d.sz) {bytes : Nat} (hb : P.bytesOf e = bytes) (he : Opens P e d B) :
    Opens P t (Kd.slice e d) fun l => l.length ≤ maxLen ∧ l.length * bytes ≤ 140737488351232 ∧ ∀ x ∈ l, B x := by
  intro H enc w base spare held fuel cs x ps hx hw
  rcases open_slice ht hx with ⟨rfl, _⟩ | ⟨a, len, cap, m, n, D, Pl, rfl, hba, hl, hm, hmm, hxe, hel⟩
  · exact ⟨[], ⟨none, 0, rfl, Nat.le_refl _, rfl, by simp, fun h => absurd h (Nat.lt_irrefl _)⟩, by simp, by simp, by simp⟩
  · obtain ⟨rfl, rfl⟩ := Prod.mk.inj hxe
    have hlm : len ≤ m := by rw [hmm]; split <;> omega
    have hW : ∀ n ∈ DataW.weights P t (DataW.slice ((List.range len).map D) ((List.range (m - len)).map fun j => D (len + j))), n ≤ reachBytes := hw
    simp only [DataW.weights, ht] at hW
    have each : ∀ i, i < len → ∃ y : α × List Value, d.K w y.1 y.2 ∧ B y.1 ∧ w.cells? base (a.add (i * P.cellsOf e)) (P.cellsOf e) = some y.2 := by
      intro i hi
      obtain ⟨cs', h1, h2⟩ := hel i (by omega)
      obtain ⟨y, hy, hB⟩ := he H enc w base spare held n cs' (D i) (Pl i) h2 (fun q hq => hW q (by
        refine List.mem_cons_of_mem _ (List.mem_append_left _ (weightsAll_mem ?_ q hq))
        exact List.mem_map.2 ⟨i, List.mem_range.2 hi, rfl⟩))
      exact ⟨(y, cs'), hy, hB, h1⟩
    obtain ⟨f, hf⟩ : ∃ f : (i : Nat) → i < len → α × List Value, ∀ i hi, d.K w (f i hi).1 (f i hi).2 ∧ B (f i hi).1 ∧ w.cells? base (a.add (i * P.cellsOf e)) (P.cellsOf e) = some (f i hi).2 :=
      ⟨fun i hi => Classical.choose (each i hi), fun i hi => Classical.choose_spec (each i hi)⟩
    have hlen : (List.ofFn fun i : Fin len => (f i.1 i.2).1).length = len := List.length_ofFn
    have hb63 : maxLen ≤ 9223372036854775807 := by unfold maxLen; omega
    refine ⟨List.ofFn fun i : Fin len => (f i.1 i.2).1, ⟨some a, cap, by rw [hlen], by rw [hlen]; exact hl, rfl, by rw [hlen]; omega, fun h0 => ⟨a, rfl, fun j p hj => ?_⟩⟩, by rw [hlen]; omega, ?_, ?_⟩
    · obtain ⟨hjl, rfl⟩ := List.getElem?_eq_some_iff.1 hj
      rw [hlen] at hjl
      obtain ⟨h1, h2, h3⟩ := hf j hjl
      obtain ⟨_, h4, h5⟩ := World.cells?_some h3
      refine ⟨(f j hjl).2, by rw [h4]; exact hc, by rw [List.getElem_ofFn]; exact h1, fun i u hu => ?_⟩
      have hi : i < P.cellsOf e := by rw [← h4]; exact (List.getElem?_eq_some_iff.1 hu).1
      have := h5 i hi
      rw [hu, Addr.add_add] at this
      rw [← hc]; exact this
    · rw [hlen]
      have := hW ((List.map D (List.range len)).length + (List.map (fun j => D (len + j)) (List.range (m - len))).length * 1 |> fun q => q * P.bytesOf e) (by simp)
      simp only [List.length_map, List.length_range, Nat.mul_one, hb, reachBytes] at this
      exact Nat.le_trans (Nat.mul_le_mul_right bytes (Nat.le_add_right len (m - len))) this
    · intro x hx
      obtain ⟨j, hj, rfl⟩ := List.getElem_of_mem hx
      rw [hlen] at hj
      rw [List.getElem_ofFn]
      exact (hf j hj).2.1

/-! ### structs -/
/-- The fields of a struct, from a place on. -/
def OpensF (P : Program) (off : Nat) (fs : List Field) {α : Type} (d : Kd α) (B : α → Prop) : Prop :=
  ∀ (H : Type) (enc : TypeId × Value → H) (w : World) (base : Nat) (spare : Nat → Bool) (held : Bool) (fuel : Nat) (cs : List Value) (xs : List (DataW H × List MemPlace)),
    cs.length = off + d.sz → xs.length = fs.length → (∀ (i : Nat) (f : Field), fs[i]? = some f → DataW.trod enc P w base spare held fuel f.type ((cs.drop f.offset).take (P.cellsOf f.type)) = xs[i]?) →
    (∀ n ∈ DataW.weightsEach P (fs.map (·.type)) (xs.map (·.1)), n ≤ reachBytes) → ∃ a : α, d.K w a (cs.drop off) ∧ B a
theorem OpensF.one {P : Program} {off : Nat} {f : Field} {α : Type} {d : Kd α} {B : α → Prop} (ho : f.offset = off) (hc : P.cellsOf f.type = d.sz) (h : Opens P f.type d B) : OpensF P off [f] d B := by
  intro H enc w base spare held fuel cs xs hl hx hf hw
  match xs, hx with
  | [y], _ =>
    have h0 := hf 0 f rfl
    rw [ho, hc, List.take_of_length_le (by simp; omega)] at h0
    refine h H enc w base spare held fuel (cs.drop off) y.1 y.2 (by simpa using h0) (fun n hn => hw n ?_)
    simp only [List.map_cons, List.map_nil, DataW.weightsEach, List.mem_append]
    exact .inl hn
theorem OpensF.cons {P : Program} {off : Nat} {f : Field} {fs : List Field} {α β : Type} {d : Kd α} {B : α → Prop} {d' : Kd β} {B' : β → Prop} (ho : f.offset = off) (hc : P.cellsOf f.type = d.sz) (h : Opens P f.type d B) (h' : OpensF P (off + d.sz) fs d' B') :
    OpensF P off (f :: fs) (Kd.pair d d') fun x => B x.1 ∧ B' x.2 := by
  intro H enc w base spare held fuel cs xs hl hx hf hw
  have hl' : cs.length = off + (d.sz + d'.sz) := hl
  match xs, hx with
  | y :: ys, hx =>
    have h0 := hf 0 f rfl
    rw [ho, hc] at h0
    simp only [List.map_cons, DataW.weightsEach, List.mem_append] at hw
    obtain ⟨a, ha, hB⟩ := h H enc w base spare held fuel ((cs.drop off).take d.sz) y.1 y.2 (by simpa using h0) (fun n hn => hw n (.inl hn))
    obtain ⟨b, hb, hB'⟩ := h' H enc w base spare held fuel cs ys (by omega) (by simpa using hx) (fun i g hg => by have := hf (i + 1) g (by simpa using hg); simpa using this) (fun n hn => hw n (.inr hn))
    refine ⟨(a, b), ⟨(cs.drop off).take d.sz, cs.drop (off + d.sz), ?_, ha, hb⟩, hB, hB'⟩
    rw [← List.drop_drop, List.take_append_drop]
theorem Opens.struct {P : Program} {t : TypeId} {fs : Array Field} {α β : Type} {d : Kd α} {B : α → Prop} (f : β → α) (g : α → β) (hfg : ∀ a, f (g a) = a) (ht : P.underlying t = some (.struct fs)) (hc : P.cellsOf t = d.sz) (h : OpensF P 0 fs.toList d B) :
    Opens P t (Kd.iso d f) fun x => B (f x) := by
  intro H enc w base spare held fuel cs x ps hx hw
  obtain ⟨xs, n, rfl, hxe, hl, hlen, hf⟩ := DataW.trod_struct ht hx
  obtain ⟨rfl, rfl⟩ := Prod.mk.inj hxe
  simp only [DataW.weights, ht] at hw
  obtain ⟨a, ha, hB⟩ := h H enc w base spare held n cs xs (by rw [hl, hc, Nat.zero_add]) (by simpa using hlen) (fun i g hg => hf i g (by simpa using hg)) hw
  refine ⟨g a, ?_, by show B (f (g a)); rw [hfg]; exact hB⟩
  show d.K w (f (g a)) cs
  rw [hfg]
  simpa using ha

/-! ### arrays of one-cell elements -/
def OpensN (P : Program) (e : TypeId) (k n : Nat) {α : Type} (d : Kd α) (B : α → Prop) : Prop :=
  ∀ (H : Type) (enc : TypeId × Value → H) (w : World) (base : Nat) (spare : Nat → Bool) (held : Bool) (fuel : Nat) (cs : List Value) (xs : List (DataW H × List MemPlace)),
    cs.length = k + d.sz → xs.length = n → (∀ i, i < n → DataW.trod enc P w base spare held fuel e ((cs.drop (k + i)).take 1) = xs[i]?) →
    (∀ q ∈ DataW.weightsAll P e (xs.map (·.1)), q ≤ reachBytes) → ∃ a : α, d.K w a (cs.drop k) ∧ B a
theorem OpensN.one {P : Program} {e : TypeId} {k : Nat} {α : Type} {d : Kd α} {B : α → Prop} (hc : d.sz = 1) (h : Opens P e d B) : OpensN P e k 1 d B := by
  intro H enc w base spare held fuel cs xs hl hx hf hw
  match xs, hx with
  | [y], _ =>
    have h0 := hf 0 (by omega)
    rw [Nat.add_zero, List.take_of_length_le (by simp; omega)] at h0
    refine h H enc w base spare held fuel (cs.drop k) y.1 y.2 (by simpa using h0) (fun n hn => hw n ?_)
    simp only [List.map_cons, List.map_nil, DataW.weightsAll, List.mem_append]
    exact .inl hn
theorem OpensN.cons {P : Program} {e : TypeId} {k n : Nat} {α β : Type} {d : Kd α} {B : α → Prop} {d' : Kd β} {B' : β → Prop} (hc : d.sz = 1) (h : Opens P e d B) (h' : OpensN P e (k + 1) n d' B') :
    OpensN P e k (n + 1) (Kd.pair d d') fun x => B x.1 ∧ B' x.2 := by
  intro H enc w base spare held fuel cs xs hl hx hf hw
  have hl' : cs.length = k + (d.sz + d'.sz) := hl
  match xs, hx with
  | y :: ys, hx =>
    have h0 := hf 0 (by omega)
    simp only [List.map_cons, DataW.weightsAll, List.mem_append] at hw
    obtain ⟨a, ha, hB⟩ := h H enc w base spare held fuel ((cs.drop k).take 1) y.1 y.2 (by simpa using h0) (fun n hn => hw n (.inl hn))
    obtain ⟨b, hb, hB'⟩ := h' H enc w base spare held fuel cs ys (by omega) (by simpa using hx) (fun i hi => by have := hf (i + 1) (by omega); rw [show k + 1 + i = k + (i + 1) by omega]; simpa using this) (fun n hn => hw n (.inr hn))
    refine ⟨(a, b), ⟨(cs.drop k).take 1, cs.drop (k + 1), ?_, ha, hb⟩, hB, hB'⟩
    rw [← List.drop_drop, List.take_append_drop]
theorem Opens.array {P : Program} {t e : TypeId} {n : Nat} {α β : Type} {d : Kd α} {B : α → Prop} (f : β → α) (g : α → β) (hfg : ∀ a, f (g a) = a) (ht : P.underlying t = some (.array n e)) (he : P.cellsOf e = 1) (hc : P.cellsOf t = d.sz) (h : OpensN P e 0 n d B) :
    Opens P t (Kd.iso d f) fun x => B (f x) := by
  intro H enc w base spare held fuel cs x ps hx hw
  obtain ⟨xs, m, rfl, hxe, hl, hlen, hf⟩ := DataW.trod_array ht hx
  obtain ⟨rfl, rfl⟩ := Prod.mk.inj hxe
  simp only [DataW.weights, ht] at hw
  obtain ⟨a, ha, hB⟩ := h H enc w base spare held m cs xs (by rw [hl, hc, Nat.zero_add]) hlen (fun i hi => by have := hf i hi; rw [he, Nat.mul_one] at this; rw [Nat.zero_add]; exact this) hw
  refine ⟨g a, ?_, by show B (f (g a)); rw [hfg]; exact hB⟩
  show d.K w (f (g a)) cs
  rw [hfg]
  simpa using ha

/-- The argument j, out of the reading of all. -/
theorem Opens.arg {P : Program} {t : TypeId} {α : Type} {d : Kd α} {B : α → Prop} (h : Opens P t d B) {H : Type} {enc : TypeId × Value → H} {W : World} {base : Nat} {spare : Nat → Bool} {held : Bool} {v : Value} {x : DataW H} {ps : List MemPlace} {ts : List TypeId} {ds : List (DataW H)} {j : Nat}
    (hsz : (DataW.weightsEach P ts ds).all (· ≤ reachBytes) = true) (ht : ts[j]? = some t) (hd : ds[j]? = some x) (hT : DataW.Trod enc P W base spare held t v x ps) : ∃ a : α, d.K W a v.cells.toList ∧ B a := by
  obtain ⟨fuel, hf⟩ := hT
  refine h H enc W base spare held fuel _ x ps hf (fun n hn => ?_)
  have := List.all_eq_true.1 hsz n (DataW.weights_mem_each ht hd n hn)
  simpa using this
end Go.Proofs.YtjpgommmkjgddaaDoor.P
