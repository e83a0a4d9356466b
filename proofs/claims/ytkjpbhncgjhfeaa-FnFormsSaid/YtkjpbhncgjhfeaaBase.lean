import Derived.Test.YtkjpbhncgjhfeaaWMore
import Derived.Test.YtkjpbhncgjhfeaaWLast
import Derived.Test.YtkjpbhncgjhfeaaWN
import Derived.WalkArith
import Derived.IntWalk
import Derived.Laws.BitsLemmas
import Derived.Lib.Bytealg
namespace Go.Proofs.Ytkjpbhncgjhfeaa.Base
open Go.RowKit Go.Proofs.YtkjpbhncgjhfeaaW.PrintWords Go.Proofs.YtkjpbhncgjhfeaaW.PrintLast Go.Proofs.YtkjpbhncgjhfeaaW.PrintMore
set_option linter.unusedVariables false
theorem w64 {x : Int} (h0 : -9223372036854775808 ≤ x) (h1 : x ≤ 9223372036854775807) : wrap64 x = x := by unfold wrap64; omega
def Bytes (l : List Int) : Prop := ∀ x ∈ l, 0 ≤ x ∧ x < 256
theorem bytes_of (s : ByteArray) : Bytes (bytesOf s) := by
 intro x hx; simp only [bytesOf, List.mem_map] at hx; obtain ⟨b, _, rfl⟩ := hx; have := b.toNat_lt; omega
theorem Bytes.append {a b : List Int} (ha : Bytes a) (hb : Bytes b) : Bytes (a ++ b) := fun x hx => by
 rcases List.mem_append.1 hx with h | h
 ·exact ha x h
 ·exact hb x h
theorem Bytes.nil : Bytes [] := fun x hx => by simp at hx
theorem Bytes.cons {x : Int} {l : List Int} (h0 : 0 ≤ x) (h1 : x < 256) (hl : Bytes l) : Bytes (x :: l) := fun y hy => by
 rcases List.mem_cons.1 hy with rfl | h
 ·exact ⟨h0, h1⟩
 ·exact hl y h
theorem Bytes.one {x : Int} (h0 : 0 ≤ x) (h1 : x < 256) : Bytes [x] := Bytes.cons h0 h1 Bytes.nil
theorem Bytes.take {l : List Int} (h : Bytes l) (n : Nat) : Bytes (l.take n) := fun x hx => h x (List.mem_of_mem_take hx)
theorem Bytes.drop {l : List Int} (h : Bytes l) (n : Nat) : Bytes (l.drop n) := fun x hx => h x (List.mem_of_mem_drop hx)
theorem str_size (l : List Int) : (strOfNums l).size = l.length := by
 simp [strOfNums, ByteArray.size]
theorem bytesOf_str {l : List Int} (h : Bytes l) : bytesOf (strOfNums l) = l := by
 simp only [bytesOf, strOfNums, List.toList_toArray, List.map_map]
 conv => rhs; rw [← List.map_id l]
 apply List.map_congr_left; intro x hx; obtain ⟨h0, h1⟩ := h x hx; simp only [Function.comp, id_eq, UInt8.toNat_ofNat']; omega
theorem ba_ext {a b : ByteArray} (h : a.data.toList = b.data.toList) : a = b := by
 cases a; cases b; simp only [ByteArray.mk.injEq]; exact Array.toList_inj.1 h
theorem str_bytesOf (s : ByteArray) : strOfNums (bytesOf s) = s := by
 apply ba_ext; simp only [bytesOf, strOfNums, List.toList_toArray, List.map_map]
 conv => rhs; rw [← List.map_id s.data.toList]
 apply List.map_congr_left; intro x _
 simp
theorem str_append (a b : List Int) : strOfNums a ++ strOfNums b = strOfNums (a ++ b) := by
 apply ba_ext
 simp [strOfNums, ByteArray.data_append]
theorem bytesOf_append (a b : ByteArray) : bytesOf (a ++ b) = bytesOf a ++ bytesOf b := by
 simp [bytesOf, ByteArray.data_append]
theorem bytesOf_inj {a b : ByteArray} (h : bytesOf a = bytesOf b) : a = b := by
 rw [← str_bytesOf a, ← str_bytesOf b, h]
theorem bt_get (s : ByteArray) (i : Nat) (h : i < s.size) : bt s (i : Int) = (bytesOf s)[i]'(by rw [bytesOf_length]; exact h) := by
 simp [bt, h, bytesOf]
 rfl
theorem bt_getD (s : ByteArray) (i : Nat) : bt s (i : Int) = (bytesOf s).getD i 0 := by
 have := rd_bytesOf s (i : Int); rw [← this]; simp [rd]
theorem take_bt (s : ByteArray) (i : Nat) (h : i < s.size) : (bytesOf s).take (i + 1) = (bytesOf s).take i ++ [bt s (i : Int)] := by
 rw [List.take_succ_eq_append_getElem (by rw [bytesOf_length]; exact h), bt_get s i h]
theorem drop_bt (s : ByteArray) (i : Nat) (h : i < s.size) : (bytesOf s).drop i = bt s (i : Int) :: (bytesOf s).drop (i + 1) := by
 rw [List.drop_eq_getElem_cons (by rw [bytesOf_length]; exact h), bt_get s i h]
theorem bytesOf_extract (s : ByteArray) (i j : Nat) : bytesOf (s.extract i j) = ((bytesOf s).take j).drop i := by
 simp [bytesOf, ByteArray.data_extract, List.extract_eq_take_drop, List.drop_take, List.map_take, List.map_drop]
theorem extract_str (s : ByteArray) (i j : Nat) : s.extract i j = strOfNums (((bytesOf s).take j).drop i) := by
 rw [← bytesOf_extract, str_bytesOf]
theorem extract_one (s : ByteArray) (i : Nat) (h : i < s.size) : s.extract i (i + 1) = strOfNums [bt s (i : Int)] := by
 rw [extract_str, take_bt s i h, List.drop_append_of_le_length (by simp [bytesOf_length]; omega), List.drop_of_length_le (by simp; omega), List.nil_append]
theorem toList_data (s : ByteArray) : s.toList = s.data.toList := Go.ByteArray.toList_eq s
theorem toList_nil_iff (s : ByteArray) : s.toList = [] ↔ s.size = 0 := by
 rw [toList_data]
 constructor
 ·intro h; have := congrArg List.length h; simpa using this
 ·intro h; exact List.eq_nil_of_length_eq_zero (by simpa using h)
theorem getD_nat0 {α : Type} (l : List α) (z : α) (i : Nat) (h : i < l.length) : l.getD ((i : Int)).toNat z = l[i] := by
 rw [Int.toNat_natCast, List.getD_eq_getElem?_getD, List.getElem?_eq_getElem h]; rfl
def tab {α : Type} (G : Nat → α) (n : Nat) : List α := (List.range n).map G
theorem tab_length {α : Type} (G : Nat → α) (n : Nat) : (tab G n).length = n := by simp [tab]
theorem tab_get {α : Type} (G : Nat → α) (n i : Nat) (h : i < (tab G n).length) : (tab G n)[i] = G i := by simp [tab]
theorem tab_getD {α : Type} (G : Nat → α) (z : α) (n i : Nat) (h : i < n) : (tab G n).getD ((i : Int)).toNat z = G i := by
 rw [getD_nat0 (tab G n) z i (by rw [tab_length]; exact h), tab_get]
theorem getD_nat {α : Type} (l : List α) (z : α) (i : Nat) (h : i < l.length) : l.getD ((i : Int)).toNat z = l[i] := by
 rw [Int.toNat_natCast, List.getD_eq_getElem?_getD, List.getElem?_eq_getElem h]; rfl
theorem nx {i : Nat} (h : i < 4611686018427387904) : wrap64 ((i : Int) + 1) = ((i + 1 : Nat) : Int) := by rw [w64 (by omega) (by omega)]; omega
theorem data_of_str {l : List Int} : (strOfNums l).data.toList = l.map fun n => UInt8.ofNat n.toNat := by simp [strOfNums]
end Go.Proofs.Ytkjpbhncgjhfeaa.Base
