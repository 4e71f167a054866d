/-
 Part of the proof of TapeKnown: what functions of the program and of the statement come to, walked by the rules. No condition beyond those in each theorem.
-/
import Derived.Test.YtlfkmgpngkbhpaaGreatDoorKB
import Derived.Test.YtlfkmgpngkbhpaaGreatDoorCards
import Derived.Test.YtlfkmgpngkbhpaaGreatDoorTie
import Derived.WalkKit
import Derived.ProofKit
import Derived.OpenShut
import Derived.Deep.DeepHandedRow
import Derived.Deep.DeepWitnessRowRef
import Derived.Lib.LaidTab
import Derived.Stop.LaidErr
section
namespace Go.Proofs.YtlfkmgpngkbhpaaGreatDoor.C
open Go PvL Go.Proofs Go.ChangeShapes Go.WideShapes Go.ChangeAt Go.RowKit Go.Proofs.YtlfkmgpngkbhpaaGreatDoor
set_option linter.unusedVariables false
theorem own : ownKnob Tryz.prog.godebug = none := by kernel_rfl
theorem g4 : Tryz.prog.globalNamed "math/bits.deBruijn32tab" = some 4 := by kernel_rfl
theorem g5 : Tryz.prog.globalNamed "math/bits.deBruijn64tab" = some 5 := by kernel_rfl
theorem g2 : Tryz.prog.globalNamed "internal/strconv.uint64pow10" = some 2 := by kernel_rfl
theorem g5t : (Tryz.prog.globals[5]?).map (·.type) = some 245 := by kernel_rfl
theorem g2t : (Tryz.prog.globals[2]?).map (·.type) = some 235 := by kernel_rfl
theorem u245 : Tryz.prog.underlying 245 = some (.array 64 5) := by kernel_rfl
theorem u235 : Tryz.prog.underlying 235 = some (.array 20 214) := by kernel_rfl
theorem u5 : Tryz.prog.underlying 5 = some (.int .u8) := by kernel_rfl
theorem u214 : Tryz.prog.underlying 214 = some (.int .u64) := by kernel_rfl
theorem tabW_of {W : World} (h : laidMetH Tryz.prog Rows.tapeKnownRow.laid W) : TabW tabs W := by
 have h : laidMet Tryz.prog Rows.tapeKnownRow.laid W := h
 have h1 : laidMet Tryz.prog (("math/bits.deBruijn64tab", Lib.tabData .u8 zs5) :: ("internal/strconv.uint64pow10", Lib.tabData .u64 zs2) :: _) W := laidMet.tail h
 have t5 := Lib.tabIs_of_head (P := Tryz.prog) g5 g5t u245 u5 (by kernel_rfl) (by kernel_rfl) h1
 have t2 := Lib.tabIs_of_head (P := Tryz.prog) g2 g2t u235 u214 (by kernel_rfl) (by kernel_rfl) (laidMet.tail h1)
 exact tabW_cons t2 g2 (tabW_cons t5 g5 tabW_nil)

set_option maxRecDepth 100000 in
theorem contract (H : Type) (enc : TypeId × Value -> H) (W : World) (base : Nat) (args : Array Value) (ds gs : List (DataW H)) (before : List MemPlace)
  (hW : DataW.Whole enc Tryz.prog Tryz.f3.params.toList Rows.tapeKnownSpec.vars false W args.toList ds gs before) (hL : laidMetH Tryz.prog Rows.tapeKnownRow.laid W) :
  Calls Tryz.prog 3 args W fun e W' => ∃ v, e = .returned v /\ Rows.tapeKnownSpec.post enc Tryz.prog Tryz.f3 false true false false W args v W' := by
 have hW' := hW
 obtain ⟨p, q, hA0, hV, rfl, hfz, hnd⟩ := hW
 have hA : DataW.TrodAll enc Tryz.prog W 0 (fun _ => true) true Tryz.f3.params.toList args.toList ds p := hA0
 rw [show Tryz.f3.params.toList = [] by kernel_rfl] at hA
 obtain ⟨e1', rfl, rfl⟩ := trodAll_nil hA
 obtain rfl : args = #[] := by cases args; simp_all
 obtain ⟨rfl, rfl⟩ := trodVars_none hV
 clear hA0
 refine (true_calls k1 tabs_ok tabs_apart rfl rfl rfl rfl (tabW_of hL)).mono fun e W' ⟨he, hg, hk⟩ => ?_
 subst he
 refine ⟨_, rfl, post_of_old (pa := []) (pv := []) hW' (fun _ _ _ => ?_) (fun _ _ => ?_) (fun _ _ => rfl) rfl (World.keptBut_mono (fun _ f => f.elim) hg.1) hg.2.1 (ok_one (by kernel_rfl) rfl (okWide_bool_mk Tryz.underlying4 _))⟩
 ·exact trodAll_cons_mk (shut_bool Tryz.underlying4 _) trodAll_mk0
 ·rw [show Tryz.f3.params.toList = [] by kernel_rfl]; exact trodAll_mk0
end Go.Proofs.YtlfkmgpngkbhpaaGreatDoor.C
end
section
namespace Go.Proofs.YtlfkmgpngkbhpaaGreatDoor.C
open Go PvL Go.Proofs Go.ChangeShapes Go.WideShapes Go.ChangeAt Go.RowKit Go.Proofs.YtlfkmgpngkbhpaaGreatDoor
set_option linter.unusedVariables false
noncomputable def laidWorld (os : Os) : World :=
 let N := (World.settled Tryz.prog os).heap.size
 let w0 := World.holding Tryz.prog os ⟨#[.cells #[.string ⟨⟨[105, 110, 118, 97, 108, 105, 100, 32, 115, 121, 110, 116, 97, 120]⟩⟩] 240, .cells #[.string ⟨⟨[118, 97, 108, 117, 101, 32, 111, 117, 116, 32, 111, 102, 32, 114, 97, 110, 103, 101]⟩⟩] 240], #[], []⟩
 let put (h : Array Obj) (g : Nat) (cs : Array Value) : Array Obj := h.modify g fun
  | .cells _ t frozen => .cells cs t frozen
  | o => o
 let h0 := put w0.heap 0 #[.iface 238 (.pointer (some ⟨N, 0, none⟩))]
 let h1 := put h0 1 #[.iface 238 (.pointer (some ⟨N + 1, 0, none⟩))]
 let h2 := put h1 2 (zs2.map fun z => Value.int .u64 z).toArray
 let h4 := put h2 4 (zs4.map fun z => Value.int .u8 z).toArray
 let h5 := put h4 5 (zs5.map fun z => Value.int .u8 z).toArray
 {w0 with heap := h5 }
set_option maxRecDepth 1000000 in
theorem laid_met (os : Os) : laidMet Tryz.prog Rows.tapeKnownRow.laid ((laidWorld os).forCall (fun _ _ => 0) ⟨#[], #[], []⟩).memory :=
 laidMet_of_run' 8 (by kernel_rfl) (by kernel_rfl)
set_option maxRecDepth 100000 in
theorem reads (os : Os) {H : Type} (enc : TypeId × Value -> H) : ∃ places, DataW.whole enc Tryz.prog ((laidWorld os).forCall (fun _ _ => 0) ⟨#[], #[], []⟩).memory Tryz.f3.params.toList Rows.tapeKnownSpec.vars false (#[] : Array Value).toList 8 = some ([], [], places) :=
 ⟨[], by kernel_rfl⟩
set_option maxRecDepth 100000 in
theorem lifted (os : Os) (started : os.Started) (H : Type) (enc : TypeId × Value -> H) (F : Stop.Interp) :
  ReturnsInHanded {} Tryz.checked os 3 .any ((OpenSpec.ofChange Rows.tapeKnownSpec).preRow enc Tryz.prog Tryz.f3 Rows.tapeKnownRow.domain false Rows.tapeKnownRow.laid) (((OpenSpec.ofChange Rows.tapeKnownSpec).at F).post enc Tryz.prog Tryz.f3 false true false false) := by
 obtain ⟨places, hx⟩ := reads os enc
 refine returnsInHanded_of_row (C := Tryz.checked) (s := OpenSpec.ofChange Rows.tapeKnownSpec) own started (by kernel_rfl) Tryz.func3
  (witness_row_atRef (enc := enc) (C := Tryz.checked) false (laidWorld os) #[] rfl (by kernel_rfl) (by kernel_rfl) (by kernel_rfl)
   (OpenSpec.preRow_of_cond 8 hx (by kernel_rfl) (fun k hk => by cases hk) (by kernel_rfl) (laid_met os))) ?_
 intro W base args ds gs before hval hW _ _ _ hL _ _
 exact contract H enc W base args ds gs before hW hL
set_option maxRecDepth 100000 in
theorem over : Rows.tapeKnownRow.holds Tryz.pinned (OpenSpec.ofChange Rows.tapeKnownSpec) :=
 OpenClaim.holds_of_cond 3 Tryz.f3 rfl rfl rfl rfl rfl rfl rfl ⟨rfl, rfl, rfl, rfl, rfl⟩ rfl rfl rfl rfl rfl (by kernel_rfl) Tryz.func3 (by kernel_rfl)
  (of_decide_eq_true (by kernel_rfl)) (by unfold Func.isWrapper; first | (rw [if_pos (by decide +kernel)]; kernel_rfl) | (rw [if_neg (by decide +kernel)]; exact ⟨rfl, rfl⟩))
  (fun os started H enc _ F => by rw [OpenClaim.pre_eq_preRow]; exact lifted os started H enc F)
theorem plain (f : FuncId) (fn : Func) (hf : Tryz.pinned.checked.prog.funcNamed "paravane/paravanelaw08.TapeKnown" = some f) (hfn : Tryz.pinned.checked.prog.funcs[f]? = some fn) :
  true = Tryz.pinned.checked.prog.looks [] /\ ∀ (j : Nat) t, fn.params[j]? = some t -> Tryz.pinned.checked.prog.wantsStandIn t = false := by
 obtain rfl : f = 3 := Option.some.inj ((show Tryz.prog.funcNamed "paravane/paravanelaw08.TapeKnown" = some 3 by kernel_rfl).symm.trans hf) |>.symm
 obtain rfl : fn = Tryz.f3 := (Option.some.inj (Tryz.func3.symm.trans hfn)).symm
 refine ⟨by kernel_rfl, fun j t ht => ?_⟩
 rw [show Tryz.f3.params = #[] by kernel_rfl] at ht
 simp at ht
theorem proved : Rows.TapeKnownCardSaid :=
 Claim7.holds_tied_plain_at .later [] _ _ _ _ over (fun _ h => by cases h) (by kernel_rfl) (fun _ h => by cases h) tapeKnown_row_tie rfl ⟨rfl, rfl⟩ (by kernel_rfl) rfl plain (by kernel_rfl)
end Go.Proofs.YtlfkmgpngkbhpaaGreatDoor.C
end
