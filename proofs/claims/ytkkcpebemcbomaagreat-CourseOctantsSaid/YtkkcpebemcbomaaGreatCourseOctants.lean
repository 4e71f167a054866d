/-
  'CourseOctants': for every vector and every two numbers the law returns true; each argument reads as it read. No condition.
-/
import Derived.Test.YtkkcpebemcbomaaGreatRows
import Derived.Test.YtkkcpebemcbomaaGreatOct
import Derived.Test.YtkkcpebemcbomaaGreatWorks
import Derived.WalkKit
import Derived.ProofKit
import Derived.OpenShut
import Derived.Lib.SmallJoins
import Derived.Deep.RegionHeld3
namespace Go.Proofs.YtkkcpebemcbomaaGreat.octants
open Go.ChangeShapes Go.WideShapes Go.ChangeAt Go.RowKit Go.Joins
set_option linter.unusedVariables false
theorem own : ownKnob Tryz.prog.godebug = none := by kernel_rfl
theorem cells23' : Tryz.prog.cellsOf 23 = 2 := by kernel_rfl
theorem Grown.trans' {a b c : World} (h : Grown a b) (h' : Grown b c) : Grown a c :=
  ⟨World.keptBut_trans h.1 h'.1, fun x => (h'.2.1 x).trans (h.2.1 x), Nat.le_trans h.2.2 h'.2.2⟩
theorem Grown.cell {a b : World} (h : Grown a b) {x : Addr} {v : Value} (hx : a.cell? x = some v) : b.cell? x = some v := by
  have hl : x.block < a.heap.size := by
    unfold World.cell? at hx
    cases e : a.heap[x.block]? with
    | none => rw [e] at hx; cases hx
    | some o => exact (Array.getElem?_eq_some_iff.1 e).1
  have hk := h.1.2.2 x.block hl
  unfold World.cell? at hx ⊢
  cases e : a.heap[x.block]? with
  | none => rw [e] at hx; cases hx
  | some o =>
    rw [e] at hx hk
    cases o with
    | cells c t fr =>
      cases e2 : b.heap[x.block]? with
      | none => rw [e2] at hk; cases hk
      | some o2 =>
        rw [e2] at hk
        cases o2 with
        | cells c2 t2 fr2 =>
          obtain ⟨_, _, _, h4⟩ := hk
          have hx : (if x.spot.isSome then none else c[x.off]?) = some v := hx
          show (if x.spot.isSome then none else c2[x.off]?) = some v
          rw [h4 x.off (fun f => f.elim)]; exact hx
        | _ => cases hk
    | _ => cases hx
theorem keepS {w W W1 : World} {b : Nat} {x y : Int} (g : Grown W W1) (h : W.cell? ⟨b, 0, none⟩ = some (.int .i64 x) ∧ W.cell? ⟨b, 1, none⟩ = some (.int .i64 y) ∧ Grown w W) :
    W1.cell? ⟨b, 0, none⟩ = some (.int .i64 x) ∧ W1.cell? ⟨b, 1, none⟩ = some (.int .i64 y) ∧ Grown w W1 := ⟨Grown.cell g h.1, Grown.cell g h.2.1, Grown.trans' h.2.2 g⟩
set_option maxRecDepth 100000 in
set_option maxHeartbeats 1500000 in
theorem walk_core (x y a b k n f : Int) (w : World)
    (h5 : ∀ w, Calls Tryz.prog 5 #[.int .i64 a, .int .i64 b] w fun e w' => e = .returned (.tuple #[.int .i64 n, .int .i64 f]) ∧ w' = w)
    (h6 : ∀ w, Calls Tryz.prog 6 #[.int .i64 a, .int .i64 b] w fun e w' => e = .returned (.tuple #[.int .i64 n, .int .i64 f]) ∧ w' = w)
    (h7 : ∀ w, Calls Tryz.prog 7 #[.agg #[.int .i64 x, .int .i64 y]] w fun e w' => e = .returned (.int .i64 k) ∧ Grown w w')
    (h8 : ∀ w, Calls Tryz.prog 8 #[.agg #[.int .i64 x, .int .i64 y]] w fun e w' => e = .returned (.int .i64 k) ∧ Grown w w')
    (h9 : ∀ w, Calls Tryz.prog 9 #[] w fun e w' => e = .returned (.bool true) ∧ Grown w w') :
    Calls Tryz.prog 3 #[.agg #[.int .i64 x, .int .i64 y], .int .i64 a, .int .i64 b] w fun e w' => e = .returned (.bool true) ∧ Grown w w' := by
  go_enter Tryz.func3, Tryz.ntmps3
  go_wp2_with (first | (go_at_call 5; refine (h5 _).mono ?_; rintro e w' ⟨rfl, rfl⟩) | (go_at_call 6; refine (h6 _).mono ?_; rintro e w' ⟨rfl, rfl⟩))
  go_region_held3 (fun w' => w'.cell? ⟨w.heap.size, 0, none⟩ = some (.int .i64 x) ∧ w'.cell? ⟨w.heap.size, 1, none⟩ = some (.int .i64 y) ∧ Grown w w')
    (first | exact keepS (by assumption) (by assumption) | (refine ⟨by simp, by simp, ?_⟩; repeat (first | exact Grown.refl _ | apply Grown.drew | apply Grown.alloc)))
    (first | (go_at_call 7; refine (h7 _).mono ?_; rintro e w1 ⟨rfl, g1⟩) | (go_at_call 8; refine (h8 _).mono ?_; rintro e w2 ⟨rfl, g2⟩) | (go_at_call 9; refine (h9 _).mono ?_; rintro e w3 ⟨rfl, g3⟩))
  all_goals go_wp2
  all_goals go_ret
  all_goals exact ⟨rfl, (by assumption : _ ∧ _ ∧ Grown _ _).2.2⟩
theorem walk (x y a b : Int) (w : World) : Calls Tryz.prog 3 #[.agg #[.int .i64 x, .int .i64 y], .int .i64 a, .int .i64 b] w fun e w' => e = .returned (.bool true) ∧ Grown w w' :=
  walk_core x y a b (octv x y) (tn a b) (te a b) w (c5 a b) (c6 a b) (c7 x y) (c8 x y) pv.works
set_option maxRecDepth 100000 in
theorem lifted (os : Os) (started : os.Started) (H : Type) (enc : TypeId × Value → H) :
    ReturnsInHanded {} Tryz.checked os 3 .any (Rows.courseOctantsSpec.pre6 enc Tryz.prog Tryz.f3 Rows.courseOctantsRow.domain false) (Rows.courseOctantsSpec.post enc Tryz.prog Tryz.f3 false true false false) := by
  refine returnsInHanded_of_change (C := Tryz.checked) own started (by kernel_rfl) Tryz.func3
    (ChangeSpec.witness6 (enc := enc) (C := Tryz.checked) false ⟨#[], #[.agg #[.int .i64 0, .int .i64 0], .int .i64 0, .int .i64 0], []⟩ 8 (by kernel_rfl) (by kernel_rfl) (by kernel_rfl) (by kernel_rfl)) ?_
  intro W base args ds gs before hval0 hW hcnd _
  have hval : ∀ (j : Nat) t v, Tryz.f3.params[j]? = some t → args[j]? = some v → Value.okWide Tryz.prog W .any base t v := hval0
  have hW' := hW
  obtain ⟨p, q, hA0, hV, rfl, hfz, hnd⟩ := hW
  have hA : DataW.TrodAll enc Tryz.prog W 0 (fun _ => true) true Tryz.f3.params.toList args.toList ds p := hA0
  rw [Tryz.params3] at hA hval
  obtain ⟨v0, vs0, d0, ds0, p0, q0, hargs, rfl, rfl, h0, r0⟩ := trodAll_cons hA
  obtain ⟨v1, vs1, d1, ds1, p1, q1, rfl, rfl, rfl, h1, r1⟩ := trodAll_cons r0
  obtain ⟨v2, vs2, d2, ds2, p2, q2, rfl, rfl, rfl, h2, r2⟩ := trodAll_cons r1
  obtain ⟨rfl, rfl, rfl⟩ := trodAll_nil r2
  obtain rfl : args = #[v0, v1, v2] := by cases args; simp_all
  obtain ⟨rfl, rfl⟩ := trodVars_none hV
  obtain ⟨c0, c1, y0, y1, m, rfl, rfl, rfl, hy0, hy1⟩ := open_agg2 Tryz.underlying23 (by kernel_rfl) cells23' (hval 0 23 v0 rfl rfl) h0
  obtain ⟨x, e0, rfl, wx⟩ := DataW.trod_int Tryz.underlying3 hy0
  obtain ⟨y, e1, rfl, wy⟩ := DataW.trod_int Tryz.underlying3 hy1
  simp at e0 e1
  subst e0 e1
  obtain ⟨a, rfl, rfl, rfl, wa⟩ := open_int Tryz.underlying3 (hval 1 3 v1 rfl rfl) h1
  obtain ⟨b, rfl, rfl, rfl, wb⟩ := open_int Tryz.underlying3 (hval 2 3 v2 rfl rfl) h2
  clear hA0 hval0
  simp only [List.append_nil] at hW'
  refine (walk x y a b W).mono fun e W' ⟨he, hg⟩ => ?_
  subst he
  exact ⟨_, rfl, post_of_same (pa := []) (pv := []) hW' (fun _ _ _ => (trodAll_cons_mk (shut_bool Tryz.underlying4 _) trodAll_mk0)) (fun sp _ => (trodAll_cons_mk (shut_agg2 (y0 := (.lit (.int .i64 x), [])) (y1 := (.lit (.int .i64 y), [])) Tryz.underlying23 (by kernel_rfl) cells23' ⟨1, by simp [DataW.trod, Tryz.underlying3, wx]⟩ ⟨1, by simp [DataW.trod, Tryz.underlying3, wy]⟩) (trodAll_cons_mk (shut_int Tryz.underlying3 wa) (trodAll_cons_mk (shut_int Tryz.underlying3 wb) trodAll_mk0)))) (fun _ _ => rfl) rfl
    (hg.frame _) hg.2.1 (ok_one (by kernel_rfl) rfl (okWide_bool_mk Tryz.underlying4 _))⟩

theorem over : Rows.courseOctantsRow.holds Tryz.pinned (OpenSpec.ofChange Rows.courseOctantsSpec) :=
  OpenClaim.holds_of_wide 3 Tryz.f3 rfl rfl rfl rfl rfl rfl rfl ⟨rfl, rfl, rfl, rfl, rfl⟩ rfl rfl rfl rfl rfl (by kernel_rfl) Tryz.func3 (by kernel_rfl)
    (of_decide_eq_true (by kernel_rfl)) (by unfold Func.isWrapper; first | (rw [if_pos (by decide +kernel)]; kernel_rfl) | (rw [if_neg (by decide +kernel)]; exact ⟨rfl, rfl⟩))
    (fun os started H enc _ => lifted os started H enc)

theorem proved : Rows.CourseOctantsSaid :=
  over
end Go.Proofs.YtkkcpebemcbomaaGreat.octants
