import Derived.Test.YtkjpbhncgjhfeaaProg
import Derived.Below
import Derived.Deep.Draws
import Derived.Deep.AppendLies
import Derived.Maps.AppendAt
import Derived.OwnWalk
import Derived.Laws.BytesArg
import Derived.Laws.MakeOwn
import Derived.Laws.OwnMore
import Derived.Deep.OwnRows
import Derived.Tactics
import Derived.Lib.ConvBytes
import Derived.Laws.Slices
import Derived.WalkKit
import Derived.KernelRfl
import Derived.RowKit3
import Derived.Deep.LoopGhost
import Derived.Deep.QuietTactic
import Derived.BigQuiet
import Derived.WideLaws
import Derived.Deep.DeepCutAuto
import Derived.Deep.CutBlock
import Derived.Deep.RegionHeld3
import Derived.Laws.Rows
import Derived.Lib.AppendStr
import Derived.ArgAppend
import Derived.Laws.IdiomCopy
import Derived.OrdersHeld
import Derived.Laws.BitsLemmas
import Derived.RowKit
import Derived.Lib.Strings
import Derived.Lib.Slices
import Derived.Lib.Walk
import Derived.Lib.Bytealg
import Derived.Deep.WholeRow
import Derived.BigRegion
import Derived.IntWalk
import Derived.Lib.SliceRun
import Derived.Laws.EntriesVeiled
import Derived.Test.YtkjpbhncgjhfeaaShelf
import Derived.Test.YtkjpbhncgjhfeaaWWords
import Derived.Test.YtkjpbhncgjhfeaaWLast
import Derived.Test.YtkjpbhncgjhfeaaWTab
import Derived.Test.YtkjpbhncgjhfeaaWFour
import Derived.Test.YtkjpbhncgjhfeaaWQPut
import Derived.Test.YtkjpbhncgjhfeaaWApart
import Derived.Test.YtkjpbhncgjhfeaaWArr
import Derived.Test.YtkjpbhncgjhfeaaWZeros
import Derived.Test.YtkjpbhncgjhfeaaWFoot
import Derived.Test.YtkjpbhncgjhfeaaWKept
import Derived.Test.YtkjpbhncgjhfeaaWShare
import Derived.Test.YtkjpbhncgjhfeaaWN
import Derived.Test.YtkjpbhncgjhfeaaWFootNe
import Derived.Test.YtkjpbhncgjhfeaaWAt
import Derived.Test.YtkjpbhncgjhfeaaWEqStruct
import Derived.Test.YtkjpbhncgjhfeaaWRepsOne
import Derived.Test.YtkjpbhncgjhfeaaWInv
import Derived.Test.YtkjpbhncgjhfeaaWInvWords
import Derived.Test.YtkjpbhncgjhfeaaWGuard
import Derived.Test.YtkjpbhncgjhfeaaWNEv
import Derived.Test.YtkjpbhncgjhfeaaWMore
namespace Go.Proofs.Ytkjpbhncgjhfeaa.PFnForms
open Go.RowKit Go.Proofs.YtkjpbhncgjhfeaaW.PrintWords Go.Proofs.YtkjpbhncgjhfeaaW.PrintLast Go.Proofs.YtkjpbhncgjhfeaaW.PrintMore
attribute [local go_sem] max2_int min2_int max_two min_two max_three min_three max_four min_four
set_option linter.unusedVariables false
set_option linter.unusedSimpArgs false
def errW : Option Int → Value
 | none => .nilIface
 | some c => .iface 0 (.int .i64 c)
theorem errW_none : errW none = .nilIface := rfl
theorem errW_some (c : Int) : errW (some c) = .iface 0 (.int .i64 c) := rfl
theorem info3 : (Try.prog.info? 3).map (fun i => (i.zero, i.size, i.bytes)) = some (some (.int .i64 0), 1, 8) := by kernel_rfl
theorem info5 : (Try.prog.info? 5).map (fun i => (i.zero, i.size, i.bytes)) = some (some (.int .u8 0), 1, 1) := by kernel_rfl
theorem info9 : (Try.prog.info? 9).map (fun i => (i.zero, i.size, i.bytes)) = some (some (.string ⟨#[]⟩), 1, 16) := by kernel_rfl
theorem info38 : (Try.prog.info? 38).map (fun i => (i.zero, i.size, i.bytes)) = some (some (.agg #[(.string ⟨#[]⟩), (.string ⟨#[]⟩), (.string ⟨#[]⟩)]), 3, 48) := by kernel_rfl
structure S38 where
 f0 : ByteArray
 f1 : ByteArray
 f2 : ByteArray
def z38 : S38 := ⟨(⟨#[]⟩ : ByteArray), (⟨#[]⟩ : ByteArray), (⟨#[]⟩ : ByteArray)⟩
def k38 : Kd S38 := Kd.iso (Kd.pair Kd.string (Kd.pair Kd.string Kd.string)) (fun x : S38 => (x.f0, x.f1, x.f2))
theorem k38_open {w : World} {x : S38} {cs : List Value} (h : k38.K w x cs) : cs = [.string x.f0, .string x.f1, .string x.f2] := by
 obtain ⟨_, _, rfl, rfl, ⟨_, _, rfl, rfl, rfl⟩⟩ := h; exact rfl
theorem k38_openM {w : World} {base : Nat} {ok : Nat → Prop} {x : S38} {cs : List Value} (h : k38.M w base ok x cs) : cs = [.string x.f0, .string x.f1, .string x.f2] := by
 obtain ⟨_, _, rfl, rfl, ⟨_, _, rfl, rfl, rfl⟩⟩ := h; exact rfl
theorem k38_mkM (w : World) (base : Nat) (ok : Nat → Prop) (x : S38)  : k38.M w base ok x [.string x.f0, .string x.f1, .string x.f2] := ⟨[.string x.f0], [.string x.f1, .string x.f2], rfl, rfl, ⟨[.string x.f1], [.string x.f2], rfl, rfl, rfl⟩⟩
def rd_T38 (xs : List S38) (i : Int) : S38 := xs.getD i.toNat z38
theorem at_T38 {w : World} {A : Option Addr} {n : Nat} {xs : List S38} (h : Kd.C k38 w A n xs) (i : Int) (h0 : 0 ≤ i) (h1 : i < n) : ∃ ad , A = some ad ∧ w.cell? (ad.add (i.toNat * 3)) = some (.string (rd_T38 xs i).f0) ∧ w.cell? ⟨(ad.add (i.toNat * 3)).block, (ad.add (i.toNat * 3)).off + 1, none⟩ = some (.string (rd_T38 xs i).f1) ∧ w.cell? ⟨(ad.add (i.toNat * 3)).block, (ad.add (i.toNat * 3)).off + 2, none⟩ = some (.string (rd_T38 xs i).f2) := by
 obtain ⟨ad, c, e, _, hK, hc0⟩ := Kd.C_get h z38 i h0 h1; have hc : ∀ j u, c[j]? = some u → w.cell? (ad.add (i.toNat * 3 + j)) = some u := hc0; obtain rfl := k38_open hK; exact ⟨ad, e, hc 0 _ rfl, by rw [← add_field _ _ 1 (by omega)]; exact hc 1 _ rfl, by rw [← add_field _ _ 2 (by omega)]; exact hc 2 _ rfl⟩
theorem zb {α β : Type} {o : Option α} {f : α → Option β} {b : β} (h : o.bind f = some b) : ∃ a, o = some a ∧ f a = some b := Option.bind_eq_some_iff.mp h
theorem zc {α : Type} [BEq α] [LawfulBEq α] {a b : α} (h : a = b) : (a != b) = false := bne_eq_false_iff_eq.mpr h
theorem zd {α : Type} [BEq α] [LawfulBEq α] {a b : α} (h : a ≠ b) : (a == b) = false := beq_eq_false_iff_ne.mpr h
theorem ze {α : Type} [BEq α] [LawfulBEq α] {a b : α} (h : a = b) : (a == b) = true := beq_iff_eq.mpr h
theorem zf {α : Type} [BEq α] [LawfulBEq α] {a b : α} (h : a ≠ b) : (a != b) = true := bne_iff_ne.mpr h
theorem qa : type_of% @Aside0.mk := @Aside0.mk
theorem qb : type_of% @List.setIfInBounds_toArray := @List.setIfInBounds_toArray
theorem qc : type_of% @List.set_cons_zero := @List.set_cons_zero
theorem qd : type_of% @List.set_cons_succ := @List.set_cons_succ
theorem qe : type_of% @pw_below_drewN := @pw_below_drewN
theorem qf : type_of% @World.block_lt_of_cell? := @World.block_lt_of_cell?
theorem qg : type_of% @below_drew1 := @below_drew1
theorem qh : type_of% @below_alloc := @below_alloc
theorem qi : type_of% @blk_cell := @blk_cell
theorem qj : type_of% @below_set := @below_set
theorem qk : type_of% @blk_alloc := @blk_alloc
theorem ql : type_of% @blk_drewN := @blk_drewN
theorem qm : type_of% @of_decide_eq_true := @of_decide_eq_true
theorem qn : type_of% @blk_drew := @blk_drew
theorem qo : type_of% @blk_frozen := @blk_frozen
theorem qp : type_of% @below_size := @below_size
theorem qq : type_of% @decide_eq_true := @decide_eq_true
theorem qr : type_of% @decide_eq_false := @decide_eq_false
theorem qs : type_of% @List.map_toArray := @List.map_toArray
theorem qt : type_of% @List.length_take := @List.length_take
theorem qu : type_of% @List.length_drop := @List.length_drop
theorem qv : type_of% @List.map_cons := @List.map_cons
theorem qw : type_of% @List.map_nil := @List.map_nil
theorem qx : type_of% @Kd.R_alloc := @Kd.R_alloc
theorem qy : type_of% @Kd.R_drewN := @Kd.R_drewN
theorem qz : type_of% @Kd.R_drew := @Kd.R_drew
theorem qaa : type_of% @eq_true := @eq_true
theorem qba : type_of% @below_step := @below_step
theorem qca : type_of% @Option.some.inj := @Option.some.inj
theorem qda : type_of% @Kd.C_alloc := @Kd.C_alloc
theorem qea : type_of% @Kd.C_drewN := @Kd.C_drewN
theorem qfa : type_of% @Kd.C_drew := @Kd.C_drew
theorem qga : type_of% @Kd.R_mono := @Kd.R_mono
theorem qha : type_of% @KeepBut.set_ := @KeepBut.set_
theorem qia : type_of% @keep_drewN := @keep_drewN
theorem qja : type_of% @keep_alloc := @keep_alloc
theorem qka : type_of% @keep_drew := @keep_drew
theorem qla : type_of% @any_of := @any_of
theorem qma : type_of% @take_ofW := @take_ofW
theorem qna : type_of% @one_of := @one_of
theorem qoa : type_of% @Kd.R_below := @Kd.R_below
theorem qpa : type_of% @KeepBut.trans := @KeepBut.trans
theorem qqa : type_of% @gate_callee := @gate_callee
theorem qra : type_of% @Kd.R_reads' := @Kd.R_reads'
theorem qsa : type_of% @Kd.R_elder' := @Kd.R_elder'
theorem qta : type_of% @blk_put := @blk_put
theorem qua : type_of% @Kd.R_far := @Kd.R_far
theorem qva : type_of% @Nat.le_refl := @Nat.le_refl
theorem qwa : type_of% @Below.refl := @Below.refl
theorem qxa : type_of% @Kd.R_lower := @Kd.R_lower
theorem qya : type_of% @Kd.R_base := @Kd.R_base
theorem qza : type_of% @Kd.R_lit := @Kd.R_lit
end Go.Proofs.Ytkjpbhncgjhfeaa.PFnForms
