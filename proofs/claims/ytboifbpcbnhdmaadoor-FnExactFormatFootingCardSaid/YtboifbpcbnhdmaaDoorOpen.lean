/- Arguments opened to cells: a slice of any elements, structs of one and of three fields; for the rows of laws over structs. -/
import Derived.Test.YtboifbpcbnhdmaaDoorWMore
import Derived.Deep.Slices
import Derived.Deep.Fields
import Derived.ChangeSame
import Derived.Lib.SmallJoins
namespace Go.Proofs.YtboifbpcbnhdmaaDoor.Open
open Go.Joins Go.ChangeShapes Go.WideShapes Go.RowKit Go.Deep Go.Proofs.YtboifbpcbnhdmaaDoorW.PrintWords
section
variable {H : Type} {enc : TypeId × Value → H} {P : Program} {w : World} {base : Nat} {spare : Nat → Bool} {held : Bool}

theorem rows_open {α : Type} (d : Kd α) (Q : α → Prop) {t e : TypeId} {fuel : Nat} {v : Value} {x : DataW H × List MemPlace} (ht : P.underlying t = some (.slice e)) (hsz : P.cellsOf e = d.sz)
    (hel : ∀ (n : Nat) (cs : List Value) (y : DataW H × List MemPlace), DataW.trod enc P w base spare held n e cs = some y → ∃ z : α, d.K w z cs ∧ Q z)
    (h : DataW.trod enc P w base spare held fuel t [v] = some x) :
    ∃ (A : Option Addr) (c : Nat) (l : List α), v = .slice A l.length c ∧ l.length ≤ c ∧ c ≤ maxLen ∧ d.C w A l.length l ∧ ∀ z ∈ l, Q z := by
  rcases open_slice ht h with ⟨hcs, _⟩ | ⟨a, len, cap, m, n, D, Pl, hcs, hb, hl, hm, hmm, hx, hi⟩
  · obtain rfl := (List.cons.inj hcs).1
    exact ⟨none, 0, [], rfl, Nat.le_refl _, by unfold maxLen; omega, ⟨rfl, by simp, fun h => by simp at h⟩, fun z hz => by simp at hz⟩
  · obtain rfl := (List.cons.inj hcs).1
    have hlm : len ≤ m := by rw [hmm]; split <;> omega
    have hz : ∀ i : Fin len, ∃ z : α, ∃ cs', w.cells? base (a.add (i.val * P.cellsOf e)) (P.cellsOf e) = some cs' ∧ d.K w z cs' ∧ Q z := fun i => by
      obtain ⟨cs', hc, ht'⟩ := hi i.val (by have := i.isLt; omega)
      obtain ⟨z, hk, hq⟩ := hel n cs' _ ht'
      exact ⟨z, cs', hc, hk, hq⟩
    have hlen : len ≤ 9223372036854775807 := by unfold maxLen at hm; omega
    refine ⟨some a, cap, List.ofFn fun i => Classical.choose (hz i), by rw [List.length_ofFn], by rw [List.length_ofFn]; exact hl, hm, ⟨rfl, by rw [List.length_ofFn]; exact hlen, fun _ => ⟨a, rfl, fun j p hj => ?_⟩⟩, fun z hzm => ?_⟩
    · have hjl : j < len := by
        have := (List.getElem?_eq_some_iff.1 hj).1
        rwa [List.length_ofFn] at this
      have hp : p = Classical.choose (hz ⟨j, hjl⟩) := by
        rw [List.getElem?_ofFn, dif_pos hjl] at hj
        exact (Option.some.inj hj).symm
      obtain ⟨cs', hc, hk, _⟩ := Classical.choose_spec (hz ⟨j, hjl⟩)
      rw [← hp] at hk
      obtain ⟨_, hcl, hat⟩ := World.cells?_some hc
      refine ⟨cs', d.K_len hk, hk, fun i u hu => ?_⟩
      have hil : i < P.cellsOf e := by
        have := (List.getElem?_eq_some_iff.1 hu).1
        omega
      have := hat i hil
      rw [hu] at this
      rw [← hsz, ← Go.Deep.add_add]
      exact this
    · obtain ⟨i, rfl⟩ := List.mem_ofFn.1 hzm
      obtain ⟨cs', _, _, hq⟩ := Classical.choose_spec (hz i)
      exact hq

theorem open_agg1 {r : Reach} {b0 : Nat} {t : TypeId} {f0 : Field} {v : Value} {d : DataW H} {p : List MemPlace} (hs : P.underlying t = some (.struct #[f0])) (hone : oneCellFields P #[f0] = true) (hC : P.cellsOf t = 1)
    (hv : Value.okWide P w r b0 t v) (h : DataW.Trod enc P w base spare held t v d p) :
    ∃ (v0 : Value) (y0 : DataW H × List MemPlace) (n : Nat), v = .agg #[v0] ∧ DataW.trod enc P w base spare held n f0.type [v0] = some y0 := by
  obtain ⟨cs, rfl, hsz⟩ := okWide_struct hs hv
  obtain ⟨l⟩ := cs
  match l, hsz.trans hC with
  | [c0], _ =>
    obtain ⟨fuel, hf⟩ := h
    obtain ⟨xs, n, _, hx, _, hlen, hg⟩ := DataW.trod_struct hs hf
    obtain ⟨o0, k0⟩ := hone_of hone 0 f0 rfl
    match xs, hlen with
    | [y0], _ => exact ⟨c0, y0, n, rfl, by simpa [Value.cells, o0, k0] using hg 0 f0 rfl⟩

theorem open_agg3 {r : Reach} {b0 : Nat} {t : TypeId} {f0 f1 f2 : Field} {v : Value} {d : DataW H} {p : List MemPlace} (hs : P.underlying t = some (.struct #[f0, f1, f2])) (hone : oneCellFields P #[f0, f1, f2] = true) (hC : P.cellsOf t = 3)
    (hv : Value.okWide P w r b0 t v) (h : DataW.Trod enc P w base spare held t v d p) :
    ∃ (v0 v1 v2 : Value) (y0 y1 y2 : DataW H × List MemPlace) (n : Nat), v = .agg #[v0, v1, v2] ∧
      DataW.trod enc P w base spare held n f0.type [v0] = some y0 ∧ DataW.trod enc P w base spare held n f1.type [v1] = some y1 ∧ DataW.trod enc P w base spare held n f2.type [v2] = some y2 := by
  obtain ⟨v0, v1, v2, y0, y1, y2, n, hv, _, _, h0, h1, h2⟩ := Go.Joins.open_agg3 hs hone hC hv h
  exact ⟨v0, v1, v2, y0, y1, y2, n, hv, h0, h1, h2⟩
end
end Go.Proofs.YtboifbpcbnhdmaaDoor.Open
