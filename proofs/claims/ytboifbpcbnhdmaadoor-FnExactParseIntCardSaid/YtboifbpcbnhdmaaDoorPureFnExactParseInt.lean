/- For every text, ParseInt of the program and of the reference hand back the same number and the same answer whether it is one. -/
import Derived.Test.YtboifbpcbnhdmaaDoorPFnExactParseIntx1
import Derived.Test.YtboifbpcbnhdmaaDoorBase
import Derived.KernelRfl
import Derived.Lib.AtoiTie
namespace Go.Proofs.YtboifbpcbnhdmaaDoor.Pure
open Go.RowKit Go.Proofs.YtboifbpcbnhdmaaDoor.PFnExactParseInt Go.Proofs.YtboifbpcbnhdmaaDoorW.PrintWords Go.Proofs.YtboifbpcbnhdmaaDoorW.PrintLast Go.Proofs.YtboifbpcbnhdmaaDoorW.PrintMore Go.Proofs.YtboifbpcbnhdmaaDoor.Base
set_option linter.unusedVariables false
set_option linter.unusedSimpArgs false

/-! fmtint -/
def D (u : Nat) : List UInt8 := if u = 0 then [] else Lib.decDigits u
def B (l : List UInt8) : ByteArray := ⟨l.toArray⟩
theorem B_app (a b : List UInt8) : B a ++ B b = B (a ++ b) := ba_ext (by simp [B])
theorem B_size (l : List UInt8) : (B l).size = l.length := by simp [B, ByteArray.size]
theorem D_step (u : Nat) (h : u ≠ 0) : D u = D (u / 10) ++ [UInt8.ofNat (48 + u % 10)] := by
  unfold D
  rw [if_neg h, Lib.decDigits]
  by_cases h1 : u < 10
  · rw [dif_pos h1, if_pos (by omega), List.nil_append, Nat.mod_eq_of_lt h1]
  · rw [dif_neg h1, if_neg (by omega)]
theorem dig10 : ∀ d : Fin 10, strOfNums [(wrap64 (48 + (d.1 : Int))) % 256] = B [UInt8.ofNat (48 + d.1)] := by decide +kernel
theorem dig (d : Nat) (h : d < 10) : strOfNums [(wrap64 (48 + (d : Int))) % 256] = B [UInt8.ofNat (48 + d)] := dig10 ⟨d, h⟩
def fin (b : Bool) (s : ByteArray) : ByteArray := if b = true then (⟨#[45]⟩ : ByteArray) ++ s else s
theorem zero_l0 (b : Bool) (k : Nat) (l : List UInt8) (hl : l.length ≤ 100) : spec_FormatInt.l0 (k + 1) 0 (B l) b = some (fin b (B l)) := by
  rw [spec_FormatInt.l0, if_pos rfl]
  unfold fin
  by_cases h : b = true
  · rw [if_pos h, if_pos h, if_pos (by rw [B_size]; omega)]
  · rw [if_neg h, if_neg h]
theorem tm (u : Nat) : Int.tmod (u : Int) 10 = ((u % 10 : Nat) : Int) := by rw [Int.tmod_eq_emod_of_nonneg (by omega)]; omega
theorem td (u : Nat) : Int.tdiv (u : Int) 10 = ((u / 10 : Nat) : Int) := by rw [Int.tdiv_eq_ediv_of_nonneg (by omega)]; omega
theorem pos_l0 (b : Bool) : ∀ (k u : Nat) (l : List UInt8), u < 10 ^ k → u ≤ 9223372036854775808 → l.length + k ≤ 100 → spec_FormatInt.l0 (k + 1) (u : Int) (B l) b = some (fin b (B (D u ++ l)))
  | 0, u, l, h, _, hl => by
    have : u = 0 := by simpa using h
    subst this
    exact zero_l0 b 0 l (by omega)
  | k + 1, u, l, h, hu, hl => by
    by_cases h0 : u = 0
    · subst h0
      exact zero_l0 b (k + 1) l (by omega)
    · have hk : u / 10 < 10 ^ k := by rw [Nat.pow_succ] at h; omega
      have ih := pos_l0 b k (u / 10) (UInt8.ofNat (48 + u % 10) :: l) hk (by omega) (by rw [List.length_cons]; omega)
      rw [spec_FormatInt.l0, if_neg (by omega), tm, td, if_neg (by omega), Option.bind_some, dig _ (by omega), if_pos (by rw [B_size, B_size]; simp only [List.length_singleton]; omega), w64 (by omega) (by omega), B_app, List.singleton_append, ih, D_step u h0, List.append_assoc, List.singleton_append]
theorem neg_l0 (b : Bool) : ∀ (k u : Nat) (l : List UInt8), u < 10 ^ k → u ≤ 9223372036854775808 → l.length + k ≤ 100 → spec_FormatInt.l0 (k + 1) (-(u : Int)) (B l) b = some (fin b (B (D u ++ l)))
  | 0, u, l, h, _, hl => by
    have : u = 0 := by simpa using h
    subst this
    exact zero_l0 b 0 l (by omega)
  | k + 1, u, l, h, hu, hl => by
    by_cases h0 : u = 0
    · subst h0
      exact zero_l0 b (k + 1) l (by omega)
    · have hk : u / 10 < 10 ^ k := by rw [Nat.pow_succ] at h; omega
      have ih := neg_l0 b k (u / 10) (UInt8.ofNat (48 + u % 10) :: l) hk (by omega) (by rw [List.length_cons]; omega)
      rw [spec_FormatInt.l0, if_neg (by omega), Int.neg_tmod, Int.neg_tdiv, tm, td]
      by_cases hd : -((u % 10 : Nat) : Int) < 0
      · rw [if_pos hd, Option.bind_some, Int.neg_neg, w64 (x := ((u % 10 : Nat) : Int)) (by omega) (by omega), dig _ (by omega), if_pos (by rw [B_size, B_size]; simp only [List.length_singleton]; omega), w64 (by omega) (by omega), B_app, List.singleton_append, ih, D_step u h0, List.append_assoc, List.singleton_append]
      · have e : -((u % 10 : Nat) : Int) = ((u % 10 : Nat) : Int) := by omega
        rw [if_neg hd, Option.bind_some, e, dig _ (by omega), if_pos (by rw [B_size, B_size]; simp only [List.length_singleton]; omega), w64 (by omega) (by omega), B_app, List.singleton_append, ih, D_step u h0, List.append_assoc, List.singleton_append]
theorem ten_k (k : Nat) (h : 20 ≤ k) {u : Nat} (hu : u ≤ 9223372036854775808) : u < 10 ^ k := by
  have h1 : (10 : Nat) ^ 20 ≤ 10 ^ k := Nat.pow_le_pow_right (by decide) h
  have h2 : (10 : Nat) ^ 20 = 100000000000000000000 := rfl
  omega
theorem fmt_int (k : Nat) (hk : 20 ≤ k) (hk2 : k ≤ 100) (a : Int) (h1 : -9223372036854775808 ≤ a) (h2 : a ≤ 9223372036854775807) : spec_FormatInt.f (k + 1) a = some ⟨(Lib.itoa a).toArray⟩ := by
  unfold spec_FormatInt.f
  have hnil : (⟨#[]⟩ : ByteArray) = B [] := rfl
  by_cases h0 : a = 0
  · subst h0; rw [if_pos rfl]; decide +kernel
  · rw [if_neg h0, hnil]
    by_cases hn : a < 0
    · obtain ⟨u, rfl⟩ : ∃ u : Nat, a = -(u : Int) := ⟨a.natAbs, by omega⟩
      rw [neg_l0 _ k u [] (ten_k k hk (by omega)) (by omega) (by rw [List.length_nil]; omega), decide_eq_true hn, List.append_nil]
      unfold fin Lib.itoa D
      rw [if_pos rfl, if_pos hn, if_neg (by omega), Int.natAbs_neg, Int.natAbs_natCast]
      exact congrArg some (B_app [45] (Lib.decDigits u))
    · obtain ⟨u, rfl⟩ : ∃ u : Nat, a = (u : Int) := ⟨a.toNat, by omega⟩
      rw [pos_l0 _ k u [] (ten_k k hk (by omega)) (by omega) (by rw [List.length_nil]; omega), decide_eq_false hn, List.append_nil]
      unfold fin Lib.itoa D
      rw [if_neg (by decide), if_neg hn, if_neg (by omega), Int.toNat_natCast]
      rfl

/-! atoi -/
def p10 : Nat → Nat
  | 0 => 1
  | k + 1 => 10 * p10 k
theorem p10_pos : ∀ k, 1 ≤ p10 k
  | 0 => Nat.le_refl _
  | k + 1 => by have := p10_pos k; show 1 ≤ 10 * p10 k; omega
theorem p10_le {a b : Nat} (h : a ≤ b) : p10 a ≤ p10 b := by
  induction h with
  | refl => exact Nat.le_refl _
  | step _ ih => exact Nat.le_trans ih (by show _ ≤ 10 * _; omega)
/-- The digits' value and their number; what is no digit is passed over. -/
def vc : List Int → Nat → Nat → Nat × Nat
  | [], n, c => (n, c)
  | b :: r, n, c => if 48 ≤ b ∧ b ≤ 57 then vc r (n * 10 + (b - 48).toNat) (c + 1) else vc r n c
theorem vc_snoc (l : List Int) (b : Int) (n c : Nat) (h : 48 ≤ b ∧ b ≤ 57) : vc (b :: l) n c = vc l (n * 10 + (b - 48).toNat) (c + 1) := by rw [vc, if_pos h]
theorem vc_skip (l : List Int) (b : Int) (n c : Nat) (h : ¬ (48 ≤ b ∧ b ≤ 57)) : vc (b :: l) n c = vc l n c := by rw [vc, if_neg h]
theorem vc_app : ∀ (a b : List Int) (n c : Nat), vc (a ++ b) n c = vc b (vc a n c).1 (vc a n c).2
  | [], _, _, _ => rfl
  | x :: a, b, n, c => by
    rw [List.cons_append]
    by_cases h : 48 ≤ x ∧ x ≤ 57
    · rw [vc_snoc _ _ _ _ h, vc_snoc _ _ _ _ h]; exact vc_app a b _ _
    · rw [vc_skip _ _ _ _ h, vc_skip _ _ _ _ h]; exact vc_app a b _ _
theorem vc_lt : ∀ (a : List Int) (n c : Nat), n < p10 c → (vc a n c).1 < p10 (vc a n c).2
  | [], _, _, h => h
  | x :: a, n, c, h => by
    unfold vc
    by_cases hx : 48 ≤ x ∧ x ≤ 57
    · rw [if_pos hx]; refine vc_lt a _ _ ?_; show _ < 10 * p10 c; omega
    · rw [if_neg hx]; exact vc_lt a n c h
theorem vc_cnt : ∀ (a : List Int) (n c : Nat), (vc a n c).2 ≤ c + a.length
  | [], _, _ => Nat.le_refl _
  | x :: a, n, c => by
    unfold vc
    by_cases hx : 48 ≤ x ∧ x ≤ 57
    · rw [if_pos hx]; have := vc_cnt a (n * 10 + (x - 48).toNat) (c + 1); rw [List.length_cons]; omega
    · rw [if_neg hx]; have := vc_cnt a n c; rw [List.length_cons]; omega
def ints (l : List UInt8) : List Int := l.map fun b => (b.toNat : Int)
theorem dg8 (d : Nat) (h : d < 10) : (UInt8.ofNat (48 + d)).toNat = 48 + d := by
  rw [UInt8.toNat_ofNat']; omega
theorem dd_small {u : Nat} (h : u < 10) : Lib.decDigits u = [UInt8.ofNat (48 + u)] := by rw [Lib.decDigits, dif_pos h]
theorem dd_big {u : Nat} (h : ¬ u < 10) : Lib.decDigits u = Lib.decDigits (u / 10) ++ [UInt8.ofNat (48 + u % 10)] := by rw [Lib.decDigits, dif_neg h]
theorem vc_one (n c d : Nat) (h : d < 10) : vc (ints [UInt8.ofNat (48 + d)]) n c = (n * 10 + d, c + 1) := by
  have e := dg8 d h
  show vc [((UInt8.ofNat (48 + d)).toNat : Int)] n c = _
  rw [e]; unfold vc
  rw [if_pos (by omega)]; unfold vc
  congr 1; omega
theorem vc_dd (u : Nat) : vc (ints (Lib.decDigits u)) 0 0 = (u, (Lib.decDigits u).length) := by
  induction u using Nat.strongRecOn with
  | _ u ih =>
    by_cases h : u < 10
    · rw [dd_small h, vc_one _ _ _ h]; simp
    · rw [dd_big h]
      have e : ints (Lib.decDigits (u / 10) ++ [UInt8.ofNat (48 + u % 10)]) = ints (Lib.decDigits (u / 10)) ++ ints [UInt8.ofNat (48 + u % 10)] := List.map_append
      rw [e, vc_app, ih (u / 10) (by omega), vc_one _ _ _ (by omega), List.length_append]
      congr 1
      show u / 10 * 10 + u % 10 = u
      omega
theorem dd_len {k : Nat} : ∀ {u : Nat}, u < p10 (k + 1) → (Lib.decDigits u).length ≤ k + 1 := by
  induction k with
  | zero => intro u h; have h : u < 10 := h; rw [dd_small h, List.length_singleton]; exact Nat.le_refl _
  | succ k ih =>
    intro u h
    by_cases hs : u < 10
    · rw [dd_small hs]; simp
    · have h : u < 10 * p10 (k + 1) := h
      rw [dd_big hs, List.length_append, List.length_singleton]
      have := ih (u := u / 10) (by omega)
      omega
theorem dd_all (u : Nat) : ∀ b ∈ Lib.decDigits u, 48 ≤ b.toNat ∧ b.toNat ≤ 57 := by
  induction u using Nat.strongRecOn with
  | _ u ih =>
    intro b hb
    by_cases h : u < 10
    · rw [dd_small h, List.mem_singleton] at hb; subst hb; rw [dg8 u h]; omega
    · rw [dd_big h, List.mem_append] at hb
      rcases hb with hb | hb
      · exact ih (u / 10) (by omega) b hb
      · rw [List.mem_singleton] at hb; subst hb; rw [dg8 _ (by omega)]; omega
theorem dd_cons (u : Nat) : ∃ c r, Lib.decDigits u = c :: r ∧ 48 ≤ c.toNat ∧ c.toNat ≤ 57 := by
  cases e : Lib.decDigits u with
  | nil =>
    exfalso
    by_cases h : u < 10
    · rw [dd_small h] at e; simp at e
    · rw [dd_big h] at e; simp at e
  | cons c r => exact ⟨c, r, rfl, dd_all u c (by rw [e]; exact List.mem_cons_self)⟩
theorem decFrom_app : ∀ (l : List UInt8) (acc n : Nat) (b : UInt8) (d : Nat), Lib.decFrom acc l = some n → Lib.digitVal b = some d → Lib.decFrom acc (l ++ [b]) = some (n * 10 + d)
  | [], acc, n, b, d, h, hb => by
    have h : acc = n := Option.some.inj h
    subst h
    show (match Lib.digitVal b with | some d => Lib.decFrom (acc * 10 + d) [] | none => none) = _
    rw [hb]; rfl
  | x :: l, acc, n, b, d, h, hb => by
    have h : (match Lib.digitVal x with | some d => Lib.decFrom (acc * 10 + d) l | none => none) = some n := h
    show (match Lib.digitVal x with | some d => Lib.decFrom (acc * 10 + d) (l ++ [b]) | none => none) = _
    cases hx : Lib.digitVal x with
    | none => rw [hx] at h; simp at h
    | some y => rw [hx] at h; exact decFrom_app l _ n b d h hb
theorem dval (d : Nat) (h : d < 10) : Lib.digitVal (UInt8.ofNat (48 + d)) = some d := by
  unfold Lib.digitVal
  rw [dg8 d h, if_pos (by omega)]
  congr 1; omega
theorem decFrom_dd (u : Nat) : Lib.decFrom 0 (Lib.decDigits u) = some u := by
  induction u using Nat.strongRecOn with
  | _ u ih =>
    by_cases h : u < 10
    · rw [dd_small h]; exact (decFrom_app [] 0 0 _ u rfl (dval u h)).trans (by simp)
    · rw [dd_big h, decFrom_app _ 0 (u / 10) _ (u % 10) (ih (u / 10) (by omega)) (dval _ (by omega))]
      congr 1; omega
theorem decNat_dd (u : Nat) : Lib.decNat (Lib.decDigits u) = some u := by
  obtain ⟨c, r, e, -, -⟩ := dd_cons u
  unfold Lib.decNat
  rw [if_neg (by rw [e]; simp)]
  exact decFrom_dd u
/-- Reading a numeral back. -/
theorem atoi_itoa (v : Int) : Lib.atoi (Lib.itoa v) = some v := by
  unfold Lib.itoa
  by_cases h : v < 0
  · rw [if_pos h]
    show (Lib.decNat (Lib.decDigits v.natAbs)).map (fun (m : Nat) => -(m : Int)) = _
    rw [decNat_dd]
    show some (-(v.natAbs : Int)) = some v
    congr 1; omega
  · rw [if_neg h]
    obtain ⟨c, r, e, h1, h2⟩ := dd_cons v.toNat
    have hd := decNat_dd v.toNat
    rw [e] at hd ⊢
    have n45 : ¬ ((c == 45) = true) := by intro q; have q := beq_iff_eq.mp q; subst q; exact absurd h1 (by decide)
    have n43 : ¬ ((c == 43) = true) := by intro q; have q := beq_iff_eq.mp q; subst q; exact absurd h1 (by decide)
    show (if (c == 45) = true then (Lib.decNat r).map (fun (m : Nat) => -(m : Int)) else if (c == 43) = true then (Lib.decNat r).map (fun (m : Nat) => (m : Int)) else (Lib.decNat (c :: r)).map (fun (m : Nat) => (m : Int))) = _
    rw [if_neg n45, if_neg n43, hd]
    show some ((v.toNat : Nat) : Int) = some v
    congr 1; omega

/-! parseint -/
def top (s : ByteArray) : Nat := if s.size ≤ 11 then s.size else 11
def sgn (s : ByteArray) : Bool := decide (0 < s.size) && (bt s 0 == 45)
theorem pi_end (s : ByteArray) (m n c : Nat) : spec_ParseInt.l0 (m + 2) s (n : Int) (c : Int) (top s : Nat) = spec_ParseInt.j2 m s (n : Int) (c : Int) (sgn s) := by
  have hj : spec_ParseInt.j1 (m + 1) s (n : Int) (c : Int) (top s : Nat) false = spec_ParseInt.j2 m s (n : Int) (c : Int) (sgn s) := by
    rw [spec_ParseInt.j1, if_neg (by decide)]
    unfold sgn
    by_cases h0 : 0 < s.size
    · rw [if_pos (by omega), if_pos (by omega), decide_eq_true h0, Bool.true_and]
    · rw [if_neg (by omega), decide_eq_false h0, Bool.false_and]
  rw [spec_ParseInt.l0]
  unfold top at hj ⊢
  by_cases h1 : s.size ≤ 11
  · rw [if_pos h1] at hj ⊢
    rw [if_neg (by omega)]; exact hj
  · rw [if_neg h1] at hj ⊢
    rw [if_pos (by omega), decide_eq_false (by omega)]; exact hj
theorem pi_l0 (s : ByteArray) (m : Nat) : ∀ (d i n c : Nat), d + i = top s → n < p10 i → c ≤ i →
    spec_ParseInt.l0 (2 * d + m + 2) s (n : Int) (c : Int) (i : Int) = spec_ParseInt.j2 m s ((vc (((bytesOf s).drop i).take d) n c).1 : Nat) ((vc (((bytesOf s).drop i).take d) n c).2 : Nat) (sgn s)
  | 0, i, n, c, hd, hn, hc => by
    obtain rfl : i = top s := by omega
    rw [List.take_zero]
    have e : 2 * 0 + m + 2 = m + 2 := by omega
    rw [e]
    exact pi_end s m n c
  | d + 1, i, n, c, hd, hn, hc => by
    have ht : top s ≤ s.size ∧ top s ≤ 11 := by unfold top; split <;> omega
    have hi : i < s.size := by omega
    have hp : p10 i ≤ p10 11 := p10_le (by omega)
    have e11 : p10 11 = 100000000000 := rfl
    have e : 2 * (d + 1) + m + 2 = (2 * d + m + 2) + 1 + 1 := by omega
    have hb := bt_get s i hi
    have hr := bytes_of s _ (List.getElem_mem (l := bytesOf s) (n := i) (by rw [bytesOf_length]; exact hi))
    rw [← hb] at hr
    rw [e, spec_ParseInt.l0, if_pos (by omega), decide_eq_true (show ((i : Int) < 11) by omega), spec_ParseInt.j1, if_pos rfl, if_pos (by omega), if_pos (by omega), drop_bt s i hi, List.take_succ_cons, w64 (x := (i : Int) + 1) (by omega) (by omega)]
    by_cases h : 48 ≤ bt s (i : Int) ∧ bt s (i : Int) ≤ 57
    · rw [if_pos h.1, if_pos h.2, vc_snoc _ _ _ _ h, w64 (x := (n : Int) * 10) (by omega) (by omega), w64 (x := (c : Int) + 1) (by omega) (by omega), w64 (by omega) (by omega)]
      have e1 : (n : Int) * 10 + (bt s (i : Int) - 48) % 256 = ((n * 10 + (bt s (i : Int) - 48).toNat : Nat) : Int) := by omega
      have e2 : (c : Int) + 1 = ((c + 1 : Nat) : Int) := by omega
      have e3 : (i : Int) + 1 = ((i + 1 : Nat) : Int) := by omega
      rw [e1, e2, e3]
      exact pi_l0 s m d (i + 1) _ _ (by omega) (by show _ < 10 * p10 i; omega) (by omega)
    · rw [vc_skip _ _ _ _ h]
      have e3 : (i : Int) + 1 = ((i + 1 : Nat) : Int) := by omega
      have ih := pi_l0 s m d (i + 1) n c (by omega) (by show _ < 10 * p10 i; omega) (by omega)
      by_cases h1 : bt s (i : Int) ≥ 48
      · rw [if_pos h1, if_neg (fun h2 => h ⟨h1, h2⟩), e3]; exact ih
      · rw [if_neg h1, e3]; exact ih
theorem bytes_dd {s : ByteArray} {l : List UInt8} (h : (⟨l.toArray⟩ : ByteArray) = s) : bytesOf s = ints l := by subst h; rfl
/-- spec.ParseInt answers what impl.ParseInt does. -/
theorem parse_int (s : ByteArray) (m : Nat) (hm : 20 ≤ m) (hm2 : m ≤ 100) : spec_ParseInt.f (2 * top s + (m + 2) + 2) s = some (Num.pInt s) := by
  have ht : top s ≤ s.size ∧ top s ≤ 11 := by unfold top; split <;> omega
  unfold spec_ParseInt.f
  have h := pi_l0 s (m + 2) (top s) 0 0 0 (by omega) (by decide) (Nat.le_refl _)
  rw [show ((0 : Nat) : Int) = 0 from rfl, List.drop_zero] at h
  rw [h]
  have hlt := vc_lt ((bytesOf s).take (top s)) 0 0 (by decide)
  have hcn := vc_cnt ((bytesOf s).take (top s)) 0 0
  rw [List.length_take] at hcn
  obtain ⟨q, hq⟩ : ∃ q, q = vc ((bytesOf s).take (top s)) 0 0 := ⟨_, rfl⟩
  rw [← hq] at hlt hcn ⊢
  have hp : p10 q.2 ≤ p10 11 := p10_le (by omega)
  have e11 : p10 11 = 100000000000 := rfl
  have e9 : p10 9 = 1000000000 := rfl
  -- the signed number
  obtain ⟨M, hM⟩ : ∃ M : Int, M = if sgn s = true then -(q.1 : Int) else (q.1 : Int) := ⟨_, rfl⟩
  have hMb : -100000000000 ≤ M ∧ M ≤ 100000000000 := by rw [hM]; split <;> omega
  have hj : spec_ParseInt.j2 (m + 2) s (q.1 : Int) (q.2 : Int) (sgn s) = if 9 < q.2 ∨ 10 < s.size then some (0, false) else (if (⟨(Lib.itoa M).toArray⟩ : ByteArray).toList = s.toList then some (M, true) else some (0, false)) := by
    rw [spec_ParseInt.j2]
    have body : ∀ x : Int, -100000000000 ≤ x → x ≤ 100000000000 → (if (q.2 : Int) > 9 then some ((0 : Int), false) else (if (s.size : Int) > 10 then some (0, false) else ((spec_FormatInt.f (m + 1) x).bind fun t => (if t.toList = s.toList then some (x, true) else some (0, false))))) = if 9 < q.2 ∨ 10 < s.size then some (0, false) else (if (⟨(Lib.itoa x).toArray⟩ : ByteArray).toList = s.toList then some (x, true) else some (0, false)) := by
      intro x hx1 hx2
      by_cases h1 : 9 < q.2
      · rw [if_pos (by omega), if_pos (Or.inl h1)]
      · rw [if_neg (by omega)]
        by_cases h2 : 10 < s.size
        · rw [if_pos (by omega), if_pos (Or.inr h2)]
        · rw [if_neg (by omega), if_neg (by omega), fmt_int m hm hm2 x (by omega) (by omega), Option.bind_some]
    by_cases hs : sgn s = true
    · rw [if_pos hs] at hM ⊢
      rw [w64 (x := -(q.1 : Int)) (by omega) (by omega), ← hM]
      exact body M hMb.1 hMb.2
    · rw [if_neg hs] at hM ⊢
      rw [← hM]
      exact body M hMb.1 hMb.2
  rw [hj]
  unfold Num.pInt
  by_cases hz : 10 < s.size
  · rw [if_pos (Or.inr hz), if_pos hz]
  · rw [if_neg hz]
    have htop : top s = s.size := by unfold top; rw [if_pos (by omega)]
    rw [htop, List.take_of_length_le (by rw [bytesOf_length]; exact Nat.le_refl _)] at hq
    by_cases hv : ∃ v, (⟨(Lib.itoa v).toArray⟩ : ByteArray) = s
    · obtain ⟨v, hv⟩ := hv
      have hb := bytes_dd hv
      have ha : Lib.atoi s.data.toList = some v := by rw [← hv]; exact atoi_itoa v
      have key : M = v ∧ (q.2 ≤ 9 ↔ (-999999999 ≤ v ∧ v ≤ 999999999)) := by
        have hlen : ∀ u : Nat, (Lib.decDigits u).length ≤ 9 ↔ u < p10 9 := fun u => by
          constructor
          · intro hl
            have h1 := vc_lt (ints (Lib.decDigits u)) 0 0 (by decide)
            rw [vc_dd] at h1
            exact Nat.lt_of_lt_of_le h1 (p10_le hl)
          · intro hu; exact dd_len (k := 8) hu
        by_cases hn : v < 0
        · have e : Lib.itoa v = 45 :: Lib.decDigits v.natAbs := by unfold Lib.itoa; rw [if_pos hn]
          rw [e] at hb
          have hq2 : q = (v.natAbs, (Lib.decDigits v.natAbs).length) := by
            rw [hq, hb]
            show vc (45 :: ints (Lib.decDigits v.natAbs)) 0 0 = _
            rw [vc_skip _ _ _ _ (by decide)]; exact vc_dd _
          have hs0 : 0 < s.size := by rw [← bytesOf_length, hb]; simp [ints]
          have hs : sgn s = true := by
            unfold sgn
            have hg : bt s ((0 : Nat) : Int) = 45 := by
              rw [bt_getD, hb]; rfl
            rw [decide_eq_true hs0, Bool.true_and]; rw [show (0 : Int) = ((0 : Nat) : Int) from rfl, hg]; rfl
          rw [if_pos hs, hq2] at hM
          rw [hq2]
          refine ⟨by rw [hM]; show -((v.natAbs : Nat) : Int) = v; omega, ?_⟩
          rw [hlen, e9]; omega
        · have e : Lib.itoa v = Lib.decDigits v.toNat := by unfold Lib.itoa; rw [if_neg hn]
          rw [e] at hb
          have hq2 : q = (v.toNat, (Lib.decDigits v.toNat).length) := by rw [hq, hb]; exact vc_dd _
          obtain ⟨c, r, ec, h48, h57⟩ := dd_cons v.toNat
          have hs : ¬ (sgn s = true) := by
            unfold sgn
            have hg : bt s ((0 : Nat) : Int) = (c.toNat : Int) := by
              rw [bt_getD, hb, ec]; rfl
            rw [show (0 : Int) = ((0 : Nat) : Int) from rfl, hg]
            intro hh
            have := (Bool.and_eq_true_iff.mp hh).2
            have := beq_iff_eq.mp this
            omega
          rw [if_neg hs, hq2] at hM
          rw [hq2]
          refine ⟨by rw [hM]; show ((v.toNat : Nat) : Int) = v; omega, ?_⟩
          rw [hlen, e9]; omega
      obtain ⟨rfl, hiff⟩ := key
      rw [ha]
      by_cases h9 : q.2 ≤ 9
      · rw [if_neg (by omega), if_pos (by rw [hv])]
        show _ = some (if _ then _ else _)
        rw [if_pos ⟨hv, hiff.mp h9⟩]
      · rw [if_pos (by omega)]
        show _ = some (if _ then _ else _)
        rw [if_neg (fun hh => h9 (hiff.mpr hh.2))]
    · have hne : ¬ ((⟨(Lib.itoa M).toArray⟩ : ByteArray).toList = s.toList) := fun hh => hv ⟨M, by rw [toList_data, toList_data] at hh; exact ba_ext hh⟩
      rw [if_neg hne, ite_self]
      cases ha : Lib.atoi s.data.toList with
      | none => rfl
      | some v =>
        show _ = some (if _ then _ else _)
        rw [if_neg (fun hh => hv ⟨v, hh.1⟩)]

theorem FnExactParseInt : laws_FnExactParseInt.Pure := by
  intro a hw
  refine ⟨2 * top a + (30 + 2) + 2, ?_⟩
  unfold laws_FnExactParseInt.f
  by_cases h1 : (a.size : Int) > 1048576
  · rw [if_pos h1]
  · rw [if_neg h1, parse_int a 30 (by decide) (by decide), Option.bind_some]
    unfold impl_ParseInt.f
    rw [if_pos (by omega), Option.bind_some, if_pos rfl, if_neg (by simp)]

end Go.Proofs.YtboifbpcbnhdmaaDoor.Pure
