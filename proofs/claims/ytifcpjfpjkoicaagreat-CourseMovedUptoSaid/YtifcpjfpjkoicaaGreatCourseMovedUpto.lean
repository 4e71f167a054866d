/-
 Part of the proof of CourseMovedUpto: what functions of the program and of the statement come to, walked by the rules. No condition beyond those in each theorem.
-/
import Derived.Test.YtifcpjfpjkoicaaGreatRows
import Derived.Test.YtifcpjfpjkoicaaGreatPvE
import Derived.Test.YtifcpjfpjkoicaaGreatZW
import Derived.Test.YtifcpjfpjkoicaaGreatTO
import Derived.Test.YtifcpjfpjkoicaaGreatTE
import Derived.WalkKit
import Derived.ProofKit
import Derived.OpenShut
import Derived.JoinedCond
namespace Go.Proofs.YtifcpjfpjkoicaaGreat.C
open Go PvL Go.Proofs Go.ChangeShapes Go.WideShapes Go.ChangeAt Go.RowKit
set_option linter.unusedVariables false
theorem own : ownKnob Tryz.prog.godebug = none := by kernel_rfl
theorem ask_works {f : FuncId} {l : List LV} {v : LV} (h : Orc.ask Tryz.prog f l = some v) : f = 6 /\ l = [] /\ v = .bool true := by
 cases l with
 | cons a l => cases h
 | nil =>
  have h : (bif Nat.beq f 6 then some (LV.bool true) else none) = some v := h
  cases hb : Nat.beq f 6 with
  | false => rw [hb] at h; cases h
  | true => rw [hb] at h; cases h; exact ⟨Nat.eq_of_beq_eq_true hb, rfl, rfl⟩
theorem orcOk : OrcOk Tryz.prog where
 fn f l v h := by obtain ⟨rfl, rfl, rfl⟩ := ask_works h; exact ke6.fn
 sim f l v h m := by obtain ⟨rfl, rfl, rfl⟩ := ask_works h; exact orc_sim ke6 rfl rfl rfl rfl m
theorem law1 {m : Mem} {x : TA [(crSh, true), (ptSh, true)]} {avs : List LV} (hE : EncA m [(crSh, true), (ptSh, true)] x avs) : CallOk Tryz.prog 3 avs m fun v _ => v = .bool true := by
 obtain ⟨cs1, v1, _, rfl, h1, hv1, cs2, v2, _, rfl, h2, hv2, rfl⟩ := hE
 obtain rfl := hv1
 obtain rfl := hv2
 obtain ⟨A, rfl, hM, hb1, hb2, hb3, hb4⟩ := enc_crB h1
 obtain rfl := enc_pt h2
 exact c_CourseMoved hM hb1 hb2 hb3 hb4
def gU : List TypeId := [3, 22, 23, 24, 26, 28, 30, 32, 33, 35, 56, 68]
theorem gU_all : gU.all (okT Tryz.prog gU 4096) = true := by kernel_rfl
theorem gU_ok (t : TypeId) (h : gU.contains t = true) : okT Tryz.prog gU 4096 t = true := List.all_eq_true.1 gU_all t (by simpa using h)
set_option maxRecDepth 100000 in
theorem reads (os : Os) {H : Type} (enc : TypeId × Value -> H) : ((DataW.whole enc Tryz.prog (World.plainHolding Tryz.prog os ⟨#[], #[.agg #[.slice none 0 0, .slice none 0 0, .slice none 0 0, .int .i64 0, .int .i64 0, .int .i64 0, .int .i64 0, .int .i64 0, .int .i64 0, .int .i64 0, .int .i64 0, .int .i64 0, .int .i64 0, .int .i64 0, .int .i64 0, .int .i64 0, .slice none 0 0], .agg #[.int .i64 0, .int .i64 0]], []⟩).memory Tryz.f3.params.toList Go.Proofs.YtifcpjfpjkoicaaGreat.Rows.courseMovedSpec.vars false (#[.agg #[.slice none 0 0, .slice none 0 0, .slice none 0 0, .int .i64 0, .int .i64 0, .int .i64 0, .int .i64 0, .int .i64 0, .int .i64 0, .int .i64 0, .int .i64 0, .int .i64 0, .int .i64 0, .int .i64 0, .int .i64 0, .int .i64 0, .slice none 0 0], .agg #[.int .i64 0, .int .i64 0]] : Array Value).toList 8).map fun x => (x.2.1.length, Go.Proofs.YtifcpjfpjkoicaaGreat.Rows.uptoSmall H (x.1 ++ x.2.1))) = some (0, true) := by kernel_rfl
set_option maxRecDepth 100000 in
theorem contract (H : Type) (enc : TypeId × Value -> H) (W : World) (base : Nat) (args : Array Value) (ds gs : List (DataW H)) (before : List MemPlace)
  (hval : ∀ (j : Nat) t v, Tryz.f3.params[j]? = some t -> args[j]? = some v -> Value.okWide Tryz.prog W .any base t v)
  (hW : DataW.Whole enc Tryz.prog Tryz.f3.params.toList Go.Proofs.YtifcpjfpjkoicaaGreat.Rows.courseMovedSpec.vars false W args.toList ds gs before) (hk : Go.Proofs.YtifcpjfpjkoicaaGreat.Rows.uptoSmall H (ds ++ gs) = true) :
  Calls Tryz.prog 3 args W fun e W' => ∃ v, e = .returned v /\ Go.Proofs.YtifcpjfpjkoicaaGreat.Rows.courseMovedSpec.post enc Tryz.prog Tryz.f3 false true false false W args v W' := by
 have hW' := hW
 obtain ⟨p, q, hA0, hV, rfl, hfz, hnd⟩ := hW
 obtain ⟨hgs, _⟩ := trodVars_none hV
 have hA : DataW.TrodAll enc Tryz.prog W 0 (fun _ => true) true Tryz.f3.params.toList args.toList ds p := hA0
 have hp : Tryz.f3.params.toList = [35, 30] := by kernel_rfl
 have hA2 := hA
 rw [hp] at hA2
 have hsz : ∀ n ∈ DataW.weightsEach Tryz.prog [35, 30] ds, n <= rB := fun n hn => by
  rw [hgs, List.append_nil] at hk
  have h1 : Go.Proofs.YtifcpjfpjkoicaaGreat.Rows.uptoBulkAll ds <= 1048576 := of_decide_eq_true hk
  have h2 := weights_bulkEach (P := Tryz.prog) (G := gU) (R := 4096) (K := 8193) gU_ok (by decide) ds [35, 30] (by decide) n hn
  exact Nat.le_trans h2 (Nat.le_trans (Nat.mul_le_mul_right _ h1) (by decide))
 refine (law_calls (f := 3) mix orcOk (l := [(crSh, true), (ptSh, true)]) (by kernel_rfl) (fun m x av hB hE => law1 hE) hA2 hsz (fun j t v h h' => ⟨_, _, hval j t v (by rw [<- hp] at h; simpa using h) h'⟩)).mono fun e W' ⟨he, hg, hk⟩ => ?_
 subst he
 obtain ⟨_, _, d0, ds0, _, _, _, e0, _, _, r0⟩ := trodAll_cons hA2
 obtain ⟨_, _, d1, ds1, _, _, _, e1, _, _, r1⟩ := trodAll_cons r0
 obtain ⟨_, eN, _⟩ := trodAll_nil r1
 have hds : ds = [d0, d1] := by rw [e0, e1, eN]
 refine ⟨_, rfl, law_post hW' rfl (by rw [hds]; rfl) (tb := 4) (by kernel_rfl) (by kernel_rfl) (fun t ht => ?_) (by kernel_rfl) hg hk⟩
 rw [hp] at ht
 rcases List.mem_cons.1 ht with rfl | ht
 ·exact ⟨by kernel_rfl, of_decide_eq_true (by kernel_rfl)⟩
 ·obtain rfl := List.mem_singleton.1 ht
  exact ⟨by kernel_rfl, of_decide_eq_true (by kernel_rfl)⟩
set_option maxRecDepth 100000 in
theorem lifted (os : Os) (started : os.Started) (H : Type) (enc : TypeId × Value -> H) (F : Stop.Interp) :
  ReturnsInHanded {} Tryz.checked os 3 .any ((Go.Proofs.YtifcpjfpjkoicaaGreat.Rows.OpenSpec.upto Go.Proofs.YtifcpjfpjkoicaaGreat.Rows.courseMovedSpec).pre6 enc Tryz.prog Tryz.f3 Go.Proofs.YtifcpjfpjkoicaaGreat.Rows.courseMovedUptoRow.domain false) (((Go.Proofs.YtifcpjfpjkoicaaGreat.Rows.OpenSpec.upto Go.Proofs.YtifcpjfpjkoicaaGreat.Rows.courseMovedSpec).at F).post enc Tryz.prog Tryz.f3 false true false false) := by
 have hr := reads os enc
 cases hx : DataW.whole enc Tryz.prog (World.plainHolding Tryz.prog os ⟨#[], #[.agg #[.slice none 0 0, .slice none 0 0, .slice none 0 0, .int .i64 0, .int .i64 0, .int .i64 0, .int .i64 0, .int .i64 0, .int .i64 0, .int .i64 0, .int .i64 0, .int .i64 0, .int .i64 0, .int .i64 0, .int .i64 0, .int .i64 0, .slice none 0 0], .agg #[.int .i64 0, .int .i64 0]], []⟩).memory Tryz.f3.params.toList Go.Proofs.YtifcpjfpjkoicaaGreat.Rows.courseMovedSpec.vars false (#[.agg #[.slice none 0 0, .slice none 0 0, .slice none 0 0, .int .i64 0, .int .i64 0, .int .i64 0, .int .i64 0, .int .i64 0, .int .i64 0, .int .i64 0, .int .i64 0, .int .i64 0, .int .i64 0, .int .i64 0, .int .i64 0, .int .i64 0, .slice none 0 0], .agg #[.int .i64 0, .int .i64 0]] : Array Value).toList 8 with
 | none => rw [hx] at hr; cases hr
 | some x =>
  rw [hx] at hr
  have hr2 := Option.some.inj hr
  have hk2 : Go.Proofs.YtifcpjfpjkoicaaGreat.Rows.uptoSmall H (x.1 ++ x.2.1) = true := congrArg Prod.snd hr2
  refine returnsInHanded_of_cond (C := Tryz.checked) (s := Go.Proofs.YtifcpjfpjkoicaaGreat.Rows.OpenSpec.upto Go.Proofs.YtifcpjfpjkoicaaGreat.Rows.courseMovedSpec) (k := Go.Proofs.YtifcpjfpjkoicaaGreat.Rows.uptoSmall) rfl own started (by kernel_rfl) Tryz.func3
   (OpenSpec.witness (enc := enc) (C := Tryz.checked) (s := Go.Proofs.YtifcpjfpjkoicaaGreat.Rows.OpenSpec.upto Go.Proofs.YtifcpjfpjkoicaaGreat.Rows.courseMovedSpec) (k := Go.Proofs.YtifcpjfpjkoicaaGreat.Rows.uptoSmall) rfl false ⟨#[], #[.agg #[.slice none 0 0, .slice none 0 0, .slice none 0 0, .int .i64 0, .int .i64 0, .int .i64 0, .int .i64 0, .int .i64 0, .int .i64 0, .int .i64 0, .int .i64 0, .int .i64 0, .int .i64 0, .int .i64 0, .int .i64 0, .int .i64 0, .slice none 0 0], .agg #[.int .i64 0, .int .i64 0]], []⟩ 8 (by kernel_rfl) (by kernel_rfl) (by kernel_rfl)
    (x := x) hx rfl hk2) ?_
  intro W base args ds gs before hval hW _ hk _
  exact contract H enc W base args ds gs before hval hW hk
set_option maxRecDepth 100000 in
theorem over : Go.Proofs.YtifcpjfpjkoicaaGreat.Rows.courseMovedUptoRow.holds Go.Proofs.YtifcpjfpjkoicaaGreat.Tryz.pinned (Go.Proofs.YtifcpjfpjkoicaaGreat.Rows.OpenSpec.upto Go.Proofs.YtifcpjfpjkoicaaGreat.Rows.courseMovedSpec) :=
 OpenClaim.holds_of_cond 3 Tryz.f3 rfl rfl rfl rfl rfl rfl rfl ⟨rfl, rfl, rfl, rfl, rfl⟩ rfl rfl rfl rfl rfl (by kernel_rfl) Tryz.func3 (by kernel_rfl)
  (of_decide_eq_true (by kernel_rfl)) (by unfold Func.isWrapper; first | (rw [if_pos (by decide +kernel)]; kernel_rfl) | (rw [if_neg (by decide +kernel)]; exact ⟨rfl, rfl⟩))
  (fun os started H enc _ F => lifted os started H enc F)
theorem proved : Go.Proofs.YtifcpjfpjkoicaaGreat.Rows.CourseMovedUptoSaid :=
 over
end Go.Proofs.YtifcpjfpjkoicaaGreat.C
