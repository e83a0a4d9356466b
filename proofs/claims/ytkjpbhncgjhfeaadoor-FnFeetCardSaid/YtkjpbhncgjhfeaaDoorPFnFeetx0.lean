import Derived.Test.YtkjpbhncgjhfeaaDoorProg
import Derived.Below
import Derived.Deep.Draws
import Derived.Deep.AppendLies
import Derived.Maps.AppendAt
import Derived.OwnWalk
import Derived.Laws.BytesArg
import Derived.Laws.MakeOwn
import Derived.Laws.OwnMore
import Derived.Deep.OwnRows
import Derived.Tactics
import Derived.Lib.ConvBytes
import Derived.Laws.Slices
import Derived.WalkKit
import Derived.KernelRfl
import Derived.RowKit3
import Derived.Deep.LoopGhost
import Derived.Deep.QuietTactic
import Derived.BigQuiet
import Derived.WideLaws
import Derived.Deep.DeepCutAuto
import Derived.Deep.CutBlock
import Derived.Deep.RegionHeld3
import Derived.Laws.Rows
import Derived.Lib.AppendStr
import Derived.ArgAppend
import Derived.Laws.IdiomCopy
import Derived.OrdersHeld
import Derived.Laws.BitsLemmas
import Derived.RowKit
import Derived.Lib.Strings
import Derived.Lib.Slices
import Derived.Lib.Walk
import Derived.Lib.Bytealg
import Derived.Deep.WholeRow
import Derived.BigRegion
import Derived.IntWalk
import Derived.Lib.SliceRun
import Derived.Laws.EntriesVeiled
import Derived.Test.YtkjpbhncgjhfeaaDoorShelf
import Derived.Test.YtkjpbhncgjhfeaaDoorWWords
import Derived.Test.YtkjpbhncgjhfeaaDoorWLast
import Derived.Test.YtkjpbhncgjhfeaaDoorWTab
import Derived.Test.YtkjpbhncgjhfeaaDoorWFour
import Derived.Test.YtkjpbhncgjhfeaaDoorWQPut
import Derived.Test.YtkjpbhncgjhfeaaDoorWApart
import Derived.Test.YtkjpbhncgjhfeaaDoorWArr
import Derived.Test.YtkjpbhncgjhfeaaDoorWZeros
import Derived.Test.YtkjpbhncgjhfeaaDoorWFoot
import Derived.Test.YtkjpbhncgjhfeaaDoorWKept
import Derived.Test.YtkjpbhncgjhfeaaDoorWShare
import Derived.Test.YtkjpbhncgjhfeaaDoorWN
import Derived.Test.YtkjpbhncgjhfeaaDoorWFootNe
import Derived.Test.YtkjpbhncgjhfeaaDoorWAt
import Derived.Test.YtkjpbhncgjhfeaaDoorWEqStruct
import Derived.Test.YtkjpbhncgjhfeaaDoorWRepsOne
import Derived.Test.YtkjpbhncgjhfeaaDoorWInv
import Derived.Test.YtkjpbhncgjhfeaaDoorWInvWords
import Derived.Test.YtkjpbhncgjhfeaaDoorWGuard
import Derived.Test.YtkjpbhncgjhfeaaDoorWNEv
import Derived.Test.YtkjpbhncgjhfeaaDoorWMore
namespace Go.Proofs.YtkjpbhncgjhfeaaDoor.PFnFeet
open Go.RowKit Go.Proofs.YtkjpbhncgjhfeaaDoorW.PrintWords Go.Proofs.YtkjpbhncgjhfeaaDoorW.PrintLast Go.Proofs.YtkjpbhncgjhfeaaDoorW.PrintMore
attribute [local go_sem] max2_int min2_int max_two min_two max_three min_three max_four min_four
set_option linter.unusedVariables false
set_option linter.unusedSimpArgs false
theorem info3 : (Tryd.prog.info? 3).map (fun i => (i.zero, i.size, i.bytes)) = some (some (.int .i64 0), 1, 8) := by kernel_rfl
theorem info29 : (Tryd.prog.info? 29).map (fun i => (i.zero, i.size, i.bytes)) = some (some (.slice none 0 0), 1, 24) := by kernel_rfl
theorem info31 : (Tryd.prog.info? 31).map (fun i => (i.zero, i.size, i.bytes)) = some (some (.agg #[(.int .i64 0), (.slice none 0 0), (.int .i64 0)]), 3, 40) := by kernel_rfl
theorem info59 : (Tryd.prog.info? 59).map (fun i => (i.zero, i.size, i.bytes)) = some (some (.agg #[(.int .i64 0), (.int .i64 0), (.int .i64 0)]), 3, 24) := by kernel_rfl
structure S59 where
 f0 : Int
 f1 : Int
 f2 : Int
def z59 : S59 := ⟨(0 : Int), (0 : Int), (0 : Int)⟩
def k59 : Kd S59 := Kd.iso (Kd.pair (Kd.int .i64) (Kd.pair (Kd.int .i64) (Kd.int .i64))) (fun x : S59 => (x.f0, x.f1, x.f2))
theorem k59_open {w : World} {x : S59} {cs : List Value} (h : k59.K w x cs) : cs = [.int .i64 x.f0, .int .i64 x.f1, .int .i64 x.f2] := by
 obtain ⟨_, _, rfl, rfl, ⟨_, _, rfl, rfl, rfl⟩⟩ := h; exact rfl
theorem k59_openM {w : World} {base : Nat} {ok : Nat → Prop} {x : S59} {cs : List Value} (h : k59.M w base ok x cs) : cs = [.int .i64 x.f0, .int .i64 x.f1, .int .i64 x.f2] := by
 obtain ⟨_, _, rfl, rfl, ⟨_, _, rfl, rfl, rfl⟩⟩ := h; exact rfl
theorem k59_mkM (w : World) (base : Nat) (ok : Nat → Prop) (x : S59)  : k59.M w base ok x [.int .i64 x.f0, .int .i64 x.f1, .int .i64 x.f2] := ⟨[.int .i64 x.f0], [.int .i64 x.f1, .int .i64 x.f2], rfl, rfl, ⟨[.int .i64 x.f1], [.int .i64 x.f2], rfl, rfl, rfl⟩⟩
def rd_T59 (xs : List S59) (i : Int) : S59 := xs.getD i.toNat z59
theorem at_T59 {w : World} {A : Option Addr} {n : Nat} {xs : List S59} (h : Kd.C k59 w A n xs) (i : Int) (h0 : 0 ≤ i) (h1 : i < n) : ∃ ad , A = some ad ∧ w.cell? (ad.add (i.toNat * 3)) = some (.int .i64 (rd_T59 xs i).f0) ∧ w.cell? ⟨(ad.add (i.toNat * 3)).block, (ad.add (i.toNat * 3)).off + 1, none⟩ = some (.int .i64 (rd_T59 xs i).f1) ∧ w.cell? ⟨(ad.add (i.toNat * 3)).block, (ad.add (i.toNat * 3)).off + 2, none⟩ = some (.int .i64 (rd_T59 xs i).f2) := by
 obtain ⟨ad, c, e, _, hK, hc0⟩ := Kd.C_get h z59 i h0 h1; have hc : ∀ j u, c[j]? = some u → w.cell? (ad.add (i.toNat * 3 + j)) = some u := hc0; obtain rfl := k59_open hK; exact ⟨ad, e, hc 0 _ rfl, by rw [← add_field _ _ 1 (by omega)]; exact hc 1 _ rfl, by rw [← add_field _ _ 2 (by omega)]; exact hc 2 _ rfl⟩
def rd_L3 (xs : List (List S59)) (i : Int) : (List S59) := xs.getD i.toNat ([] : List S59)
theorem at_L3 {w : World} {A : Option Addr} {n : Nat} {xs : List (List S59)} (h : Kd.C (Kd.slice 59 k59) w A n xs) (i : Int) (h0 : 0 ≤ i) (h1 : i < n) : ∃ ad A0 c0, A = some ad ∧ w.cell? (ad.add i.toNat) = some (.slice A0 (rd_L3 xs i).length c0) ∧ (rd_L3 xs i).length ≤ c0 ∧ k59.C w A0 (rd_L3 xs i).length (rd_L3 xs i) := by
 obtain ⟨ad, c, e, _, hK, hc0⟩ := Kd.C_get h ([] : List S59) i h0 h1; have hc : ∀ j u, c[j]? = some u → w.cell? (ad.add (i.toNat * 1 + j)) = some u := hc0; obtain ⟨A0, c0, rfl, l0, g0⟩ := hK; exact ⟨ad, A0, c0, e, by have hq := hc 0 _ rfl; rwa [Nat.mul_one, Nat.add_zero] at hq, l0, g0⟩
structure S31 where
 f0 : Int
 f1 : (List S59)
 f2 : Int
def z31 : S31 := ⟨(0 : Int), ([] : List S59), (0 : Int)⟩
def k31 : Kd S31 := Kd.iso (Kd.pair (Kd.int .i64) (Kd.pair (Kd.slice 59 k59) (Kd.int .i64))) (fun x : S31 => (x.f0, x.f1, x.f2))
theorem k31_open {w : World} {x : S31} {cs : List Value} (h : k31.K w x cs) : ∃ A1 c1, cs = [.int .i64 x.f0, .slice A1 x.f1.length c1, .int .i64 x.f2] ∧ x.f1.length ≤ c1 ∧ k59.C w A1 x.f1.length x.f1 := by
 obtain ⟨_, _, rfl, rfl, ⟨_, _, rfl, ⟨A1, c1, rfl, l1, g1⟩, rfl⟩⟩ := h; exact ⟨A1, c1, rfl, l1, g1⟩
theorem k31_openM {w : World} {base : Nat} {ok : Nat → Prop} {x : S31} {cs : List Value} (h : k31.M w base ok x cs) : ∃ v1, cs = [.int .i64 x.f0, v1, .int .i64 x.f2] ∧ k59.R 59 w base ok v1 x.f1 := by
 obtain ⟨_, _, rfl, rfl, ⟨_, _, rfl, ⟨v1, rfl, g1⟩, rfl⟩⟩ := h; exact ⟨v1, rfl, g1⟩
theorem k31_mk (w : World) (x : S31) {A1 : Option Addr} {c1 : Nat} (l1 : x.f1.length ≤ c1) (g1 : k59.C w A1 x.f1.length x.f1) : k31.K w x [.int .i64 x.f0, .slice A1 x.f1.length c1, .int .i64 x.f2] := ⟨[.int .i64 x.f0], [.slice A1 x.f1.length c1, .int .i64 x.f2], rfl, rfl, ⟨[.slice A1 x.f1.length c1], [.int .i64 x.f2], rfl, ⟨A1, c1, rfl, l1, g1⟩, rfl⟩⟩
theorem k31_mkM (w : World) (base : Nat) (ok : Nat → Prop) (x : S31) {v1 : Value} (g1 : k59.R 59 w base ok v1 x.f1) : k31.M w base ok x [.int .i64 x.f0, v1, .int .i64 x.f2] := ⟨[.int .i64 x.f0], [v1, .int .i64 x.f2], rfl, rfl, ⟨[v1], [.int .i64 x.f2], rfl, ⟨v1, rfl, g1⟩, rfl⟩⟩
theorem k31_openF {W : World} {ok : Nat → Prop} {x : S31} {cs : List Value} (h : Kd.FK k31 W ok x cs) : ∃ A1 c1, cs = [.int .i64 x.f0, .slice A1 x.f1.length c1, .int .i64 x.f2] ∧ x.f1.length ≤ c1 ∧ Kd.F k59 W ok A1 x.f1.length x.f1 := by
 obtain ⟨A1, c1, rfl, l1, _⟩ := k31_open (Kd.FK_now h); exact ⟨A1, c1, rfl, l1, (fun W' hW => by obtain ⟨A1_, c1_, he, l1_, g1_⟩ := k31_open (h W' hW); injection (Option.some.inj (show some (Value.slice A1 x.f1.length c1) = some (Value.slice A1_ x.f1.length c1_) from congrArg (fun l => l[1]?) he)) with ha_ _ _; rw [ha_]; exact g1_)⟩
theorem k31_mkF (W : World) (ok : Nat → Prop) (x : S31) {A1 : Option Addr} {c1 : Nat} (l1 : x.f1.length ≤ c1) (g1 : Kd.F k59 W ok A1 x.f1.length x.f1) : Kd.FK k31 W ok x [.int .i64 x.f0, .slice A1 x.f1.length c1, .int .i64 x.f2] := fun W2 hW => k31_mk W2 x l1 (g1 W2 hW)
def rd_T31 (xs : List S31) (i : Int) : S31 := xs.getD i.toNat z31
theorem at_T31 {w : World} {A : Option Addr} {n : Nat} {xs : List S31} (h : Kd.C k31 w A n xs) (i : Int) (h0 : 0 ≤ i) (h1 : i < n) : ∃ ad A1 c1, A = some ad ∧ w.cell? (ad.add (i.toNat * 3)) = some (.int .i64 (rd_T31 xs i).f0) ∧ w.cell? ⟨(ad.add (i.toNat * 3)).block, (ad.add (i.toNat * 3)).off + 1, none⟩ = some (.slice A1 (rd_T31 xs i).f1.length c1) ∧ w.cell? ⟨(ad.add (i.toNat * 3)).block, (ad.add (i.toNat * 3)).off + 2, none⟩ = some (.int .i64 (rd_T31 xs i).f2) ∧ (rd_T31 xs i).f1.length ≤ c1 ∧ k59.C w A1 (rd_T31 xs i).f1.length (rd_T31 xs i).f1 := by
 obtain ⟨ad, c, e, _, hK, hc0⟩ := Kd.C_get h z31 i h0 h1; have hc : ∀ j u, c[j]? = some u → w.cell? (ad.add (i.toNat * 3 + j)) = some u := hc0; obtain ⟨A1, c1, rfl, l1, g1⟩ := k31_open hK; exact ⟨ad, A1, c1, e, hc 0 _ rfl, by rw [← add_field _ _ 1 (by omega)]; exact hc 1 _ rfl, by rw [← add_field _ _ 2 (by omega)]; exact hc 2 _ rfl, l1, g1⟩
theorem zb {α β : Type} {o : Option α} {f : α → Option β} {b : β} (h : o.bind f = some b) : ∃ a, o = some a ∧ f a = some b := Option.bind_eq_some_iff.mp h
theorem zc {α : Type} [BEq α] [LawfulBEq α] {a b : α} (h : a = b) : (a != b) = false := bne_eq_false_iff_eq.mpr h
theorem zd {α : Type} [BEq α] [LawfulBEq α] {a b : α} (h : a ≠ b) : (a == b) = false := beq_eq_false_iff_ne.mpr h
theorem ze {α : Type} [BEq α] [LawfulBEq α] {a b : α} (h : a = b) : (a == b) = true := beq_iff_eq.mpr h
theorem zf {α : Type} [BEq α] [LawfulBEq α] {a b : α} (h : a ≠ b) : (a != b) = true := bne_iff_ne.mpr h
theorem qa : type_of% @Aside0.mk := @Aside0.mk
theorem qb : type_of% @List.setIfInBounds_toArray := @List.setIfInBounds_toArray
theorem qc : type_of% @List.set_cons_zero := @List.set_cons_zero
theorem qd : type_of% @List.set_cons_succ := @List.set_cons_succ
theorem qe : type_of% @pw_below_drewN := @pw_below_drewN
theorem qf : type_of% @World.block_lt_of_cell? := @World.block_lt_of_cell?
theorem qg : type_of% @below_drew1 := @below_drew1
theorem qh : type_of% @below_alloc := @below_alloc
theorem qi : type_of% @blk_cell := @blk_cell
theorem qj : type_of% @below_set := @below_set
theorem qk : type_of% @blk_alloc := @blk_alloc
theorem ql : type_of% @blk_drewN := @blk_drewN
theorem qm : type_of% @of_decide_eq_true := @of_decide_eq_true
theorem qn : type_of% @blk_drew := @blk_drew
theorem qo : type_of% @blk_frozen := @blk_frozen
theorem qp : type_of% @below_size := @below_size
theorem qq : type_of% @decide_eq_true := @decide_eq_true
theorem qr : type_of% @decide_eq_false := @decide_eq_false
theorem qs : type_of% @List.map_toArray := @List.map_toArray
theorem qt : type_of% @List.length_take := @List.length_take
theorem qu : type_of% @List.length_drop := @List.length_drop
theorem qv : type_of% @List.map_cons := @List.map_cons
theorem qw : type_of% @List.map_nil := @List.map_nil
theorem qx : type_of% @Kd.R_alloc := @Kd.R_alloc
theorem qy : type_of% @Kd.R_drewN := @Kd.R_drewN
theorem qz : type_of% @Kd.R_drew := @Kd.R_drew
theorem qaa : type_of% @Kd.N_alloc := @Kd.N_alloc
theorem qba : type_of% @Kd.N_drewN := @Kd.N_drewN
theorem qca : type_of% @Kd.N_drew := @Kd.N_drew
theorem qda : type_of% @Kd.V_alloc := @Kd.V_alloc
theorem qea : type_of% @Kd.V_drewN := @Kd.V_drewN
theorem qfa : type_of% @Kd.V_drew := @Kd.V_drew
theorem qga : type_of% @eq_true := @eq_true
theorem qha : type_of% @below_step := @below_step
theorem qia : type_of% @Option.some.inj := @Option.some.inj
theorem qja : type_of% @blk_below := @blk_below
theorem qka : type_of% @Kd.C_alloc := @Kd.C_alloc
theorem qla : type_of% @Kd.C_drewN := @Kd.C_drewN
theorem qma : type_of% @Kd.C_drew := @Kd.C_drew
theorem qna : type_of% @Kd.V_mono := @Kd.V_mono
theorem qoa : type_of% @Kd.R_mono := @Kd.R_mono
theorem qpa : type_of% @Kd.N_mono := @Kd.N_mono
theorem qqa : type_of% @KeepBut.set_ := @KeepBut.set_
theorem qra : type_of% @keep_drewN := @keep_drewN
theorem qsa : type_of% @keep_alloc := @keep_alloc
theorem qta : type_of% @keep_drew := @keep_drew
theorem qua : type_of% @any_of := @any_of
theorem qva : type_of% @take_ofW := @take_ofW
theorem qwa : type_of% @one_of := @one_of
theorem qxa : type_of% @Kd.V_below := @Kd.V_below
theorem qya : type_of% @Kd.R_below := @Kd.R_below
theorem qza : type_of% @Kd.N_below := @Kd.N_below
theorem qab : type_of% @Kd.C_below := @Kd.C_below
theorem qbb : type_of% @KeepBut.trans := @KeepBut.trans
theorem qcb : type_of% @KeepBut.of_below := @KeepBut.of_below
theorem qdb : type_of% @keep_size := @keep_size
theorem qeb : type_of% @gate_callee := @gate_callee
theorem qfb : type_of% @Kd.V_reads' := @Kd.V_reads'
theorem qgb : type_of% @Kd.R_reads' := @Kd.R_reads'
theorem qhb : type_of% @Kd.N_reads' := @Kd.N_reads'
theorem qib : type_of% @Kd.V_elder' := @Kd.V_elder'
theorem qjb : type_of% @Kd.N_elder' := @Kd.N_elder'
theorem qkb : type_of% @Kd.R_elder' := @Kd.R_elder'
theorem qlb : type_of% @blk_far := @blk_far
theorem qmb : type_of% @blk_put := @blk_put
theorem qnb : type_of% @Kd.V_far := @Kd.V_far
theorem qob : type_of% @Kd.R_far := @Kd.R_far
theorem qpb : type_of% @Kd.N_far := @Kd.N_far
theorem qqb : type_of% @Nat.le_refl := @Nat.le_refl
theorem qrb : type_of% @Nat.le_trans := @Nat.le_trans
theorem qsb : type_of% @Below.refl := @Below.refl
theorem qtb : type_of% @KeepBut.blk := @KeepBut.blk
theorem qub : type_of% @keep_far := @keep_far
theorem qvb : type_of% @Kd.R_lower := @Kd.R_lower
theorem qwb : type_of% @Kd.R_newM := @Kd.R_newM
theorem qxb : type_of% @Kd.N_lower := @Kd.N_lower
theorem qyb : type_of% @Kd.R_base := @Kd.R_base
theorem qzb : type_of% @Kd.V_keep := @Kd.V_keep
theorem qac : type_of% @Kd.R_keep := @Kd.R_keep
theorem qbc : type_of% @Kd.N_get := @Kd.N_get
theorem qcc : type_of% @Kd.R_lit := @Kd.R_lit
end Go.Proofs.YtkjpbhncgjhfeaaDoor.PFnFeet
