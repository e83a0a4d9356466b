/- For every whole number, FormatInt of the program and of the reference hand back the same text. -/
import Derived.Test.YtboifbpcbnhdmaaDoorHandFnExactFormatInt
import Derived.Test.YtboifbpcbnhdmaaDoorBase
import Derived.KernelRfl
namespace Go.Proofs.YtboifbpcbnhdmaaDoor.Pure
open Go.RowKit Go.Proofs.YtboifbpcbnhdmaaDoor.PFnExactFormatInt Go.Proofs.YtboifbpcbnhdmaaDoorW.PrintWords Go.Proofs.YtboifbpcbnhdmaaDoorW.PrintLast Go.Proofs.YtboifbpcbnhdmaaDoorW.PrintMore Go.Proofs.YtboifbpcbnhdmaaDoor.Base
set_option linter.unusedVariables false
set_option linter.unusedSimpArgs false


def D (u : Nat) : List UInt8 := if u = 0 then [] else Lib.decDigits u
def B (l : List UInt8) : ByteArray := ⟨l.toArray⟩
theorem B_app (a b : List UInt8) : B a ++ B b = B (a ++ b) := ba_ext (by simp [B])
theorem B_size (l : List UInt8) : (B l).size = l.length := by simp [B, ByteArray.size]
theorem D_step (u : Nat) (h : u ≠ 0) : D u = D (u / 10) ++ [UInt8.ofNat (48 + u % 10)] := by
  unfold D
  rw [if_neg h, Lib.decDigits]
  by_cases h1 : u < 10
  · rw [dif_pos h1, if_pos (by omega), List.nil_append, Nat.mod_eq_of_lt h1]
  · rw [dif_neg h1, if_neg (by omega)]
theorem dig10 : ∀ d : Fin 10, strOfNums [(wrap64 (48 + (d.1 : Int))) % 256] = B [UInt8.ofNat (48 + d.1)] := by decide +kernel
theorem dig (d : Nat) (h : d < 10) : strOfNums [(wrap64 (48 + (d : Int))) % 256] = B [UInt8.ofNat (48 + d)] := dig10 ⟨d, h⟩
def fin (b : Bool) (s : ByteArray) : ByteArray := if b = true then (⟨#[45]⟩ : ByteArray) ++ s else s
theorem zero_l0 (b : Bool) (k : Nat) (l : List UInt8) (hl : l.length ≤ 100) : spec_FormatInt.l0 (k + 1) 0 (B l) b = some (fin b (B l)) := by
  rw [spec_FormatInt.l0, if_pos rfl]
  unfold fin
  by_cases h : b = true
  · rw [if_pos h, if_pos h, if_pos (by rw [B_size]; omega)]
  · rw [if_neg h, if_neg h]
theorem tm (u : Nat) : Int.tmod (u : Int) 10 = ((u % 10 : Nat) : Int) := by rw [Int.tmod_eq_emod_of_nonneg (by omega)]; omega
theorem td (u : Nat) : Int.tdiv (u : Int) 10 = ((u / 10 : Nat) : Int) := by rw [Int.tdiv_eq_ediv_of_nonneg (by omega)]; omega
theorem pos_l0 (b : Bool) : ∀ (k u : Nat) (l : List UInt8), u < 10 ^ k → u ≤ 9223372036854775808 → l.length + k ≤ 100 → spec_FormatInt.l0 (k + 1) (u : Int) (B l) b = some (fin b (B (D u ++ l)))
  | 0, u, l, h, _, hl => by
    have : u = 0 := by simpa using h
    subst this
    exact zero_l0 b 0 l (by omega)
  | k + 1, u, l, h, hu, hl => by
    by_cases h0 : u = 0
    · subst h0
      exact zero_l0 b (k + 1) l (by omega)
    · have hk : u / 10 < 10 ^ k := by rw [Nat.pow_succ] at h; omega
      have ih := pos_l0 b k (u / 10) (UInt8.ofNat (48 + u % 10) :: l) hk (by omega) (by rw [List.length_cons]; omega)
      rw [spec_FormatInt.l0, if_neg (by omega), tm, td, if_neg (by omega), Option.bind_some, dig _ (by omega), if_pos (by rw [B_size, B_size]; simp only [List.length_singleton]; omega), w64 (by omega) (by omega), B_app, List.singleton_append, ih, D_step u h0, List.append_assoc, List.singleton_append]
theorem neg_l0 (b : Bool) : ∀ (k u : Nat) (l : List UInt8), u < 10 ^ k → u ≤ 9223372036854775808 → l.length + k ≤ 100 → spec_FormatInt.l0 (k + 1) (-(u : Int)) (B l) b = some (fin b (B (D u ++ l)))
  | 0, u, l, h, _, hl => by
    have : u = 0 := by simpa using h
    subst this
    exact zero_l0 b 0 l (by omega)
  | k + 1, u, l, h, hu, hl => by
    by_cases h0 : u = 0
    · subst h0
      exact zero_l0 b (k + 1) l (by omega)
    · have hk : u / 10 < 10 ^ k := by rw [Nat.pow_succ] at h; omega
      have ih := neg_l0 b k (u / 10) (UInt8.ofNat (48 + u % 10) :: l) hk (by omega) (by rw [List.length_cons]; omega)
      rw [spec_FormatInt.l0, if_neg (by omega), Int.neg_tmod, Int.neg_tdiv, tm, td]
      by_cases hd : -((u % 10 : Nat) : Int) < 0
      · rw [if_pos hd, Option.bind_some, Int.neg_neg, w64 (x := ((u % 10 : Nat) : Int)) (by omega) (by omega), dig _ (by omega), if_pos (by rw [B_size, B_size]; simp only [List.length_singleton]; omega), w64 (by omega) (by omega), B_app, List.singleton_append, ih, D_step u h0, List.append_assoc, List.singleton_append]
      · have e : -((u % 10 : Nat) : Int) = ((u % 10 : Nat) : Int) := by omega
        rw [if_neg hd, Option.bind_some, e, dig _ (by omega), if_pos (by rw [B_size, B_size]; simp only [List.length_singleton]; omega), w64 (by omega) (by omega), B_app, List.singleton_append, ih, D_step u h0, List.append_assoc, List.singleton_append]
theorem FnExactFormatInt : Pure.Fmt := by
  intro a hw
  obtain ⟨h1, h2⟩ := wf64 hw
  refine ⟨31, ?_⟩
  unfold spec_FormatInt.f
  have hnil : (⟨#[]⟩ : ByteArray) = B [] := rfl
  by_cases h0 : a = 0
  · subst h0; rw [if_pos rfl]; decide +kernel
  · rw [if_neg h0, hnil]
    by_cases hn : a < 0
    · obtain ⟨u, rfl⟩ : ∃ u : Nat, a = -(u : Int) := ⟨a.natAbs, by omega⟩
      rw [neg_l0 _ 30 u [] (by have : (10 : Nat) ^ 30 = 1000000000000000000000000000000 := rfl; omega) (by omega) (by decide), decide_eq_true hn, List.append_nil]
      unfold fin Lib.itoa D
      rw [if_pos rfl, if_pos hn, if_neg (by omega), Int.natAbs_neg, Int.natAbs_natCast]
      exact congrArg some (B_app [45] (Lib.decDigits u))
    · obtain ⟨u, rfl⟩ : ∃ u : Nat, a = (u : Int) := ⟨a.toNat, by omega⟩
      rw [pos_l0 _ 30 u [] (by have : (10 : Nat) ^ 30 = 1000000000000000000000000000000 := rfl; omega) (by omega) (by decide), decide_eq_false hn, List.append_nil]
      unfold fin Lib.itoa D
      rw [if_neg (by decide), if_neg hn, if_neg (by omega), Int.toNat_natCast]
      rfl

end Go.Proofs.YtboifbpcbnhdmaaDoor.Pure
