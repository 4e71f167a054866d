/-
  Part of the proof of CourseRounds: what functions of the program and of the statement come to, walked by the rules. No condition beyond those in each theorem.
-/
import Derived.Test.YtgipddabhcmgjaaWC
import Derived.Test.YtgipddabhcmgjaaWB
import Derived.Test.YtgipddabhcmgjaaSA
import Derived.Test.YtgipddabhcmgjaaPvE
section
open Go PvL Go.Proofs
set_option linter.unusedVariables false
set_option linter.unusedSimpArgs false
namespace Go.Proofs.Ytgipddabhcmgjaa.C
noncomputable def eCrB (s : Cr) : Int := if crB s = true then 0 else 40
theorem c_CheckCruise {A : CrA} {s : Cr} {M : Mem} (hM : CrM M A s) : CallOk Try.prog 46 [crv A s] M (fun w M' => w = I (eCrB s) ∧ Grow M M') := by
  refine call_in k46 rfl ?_
  dsimp only [x46, zipE, Nat.reduceAdd]
  have hc := fun M' (hg : Grow M M') => c_cruise (hM.grow hg)
  (repeat' (first | (with_reducible intro _) | refine sv ?_ | (refine sc ?_ ?_ <;> (intro h; try first | exact h.elim | exact absurd rfl h | (exfalso; omega))) | ((with_reducible first | apply x_pure | apply d_pure); exact gd; exact rfl; exact rfl; (first | exact hc _ (xg))) | (refine sg ?_ ?_ <;> (intro h; (fail_if_success (have : True := h)); try first | exact h.elim | exact absurd rfl h | (exfalso; omega))) | assumption | exact xm | exact rfl))
  all_goals ((with_reducible first | apply k_fun | apply k_fun_norm); exact rx)
  all_goals refine ⟨?_, xg⟩
  · unfold eCrB; rw [if_neg (by rw [h]; decide)]; rfl
  · unfold eCrB; rw [if_pos h]; rfl
abbrev chc (A : CrA) (s : Cr) (pm : Nat) : List LV := [.slice A.aL s.lines.length A.fL 4, .slice A.aF s.fields.length A.fF 1, .slice A.aB s.buoys.length A.fB 2, I s.spread.1.1, I s.spread.1.2, I s.spread.2.1.1, I s.spread.2.1.2, I s.spread.2.2.1.1, I s.spread.2.2.1.2, I s.spread.2.2.2.1, I s.spread.2.2.2.2,
  I s.start.1.1, I s.start.1.2, I s.start.2, I s.speed, I s.turn, .slice A.aO s.opn.length A.fO 1, .map (some pm)]
abbrev wayw (a b : Pt) : LV := .agg [I a.1, I a.2, I b.1, I b.2]
abbrev wayv (q : Pt × Pt) : LV := wayw q.1 q.2
/-- the map of a chart knows only what is so -/
def KnM (M : Mem) (s : Cr) (pm : Nat) : Prop := ∃ L : List ((Pt × Pt) × Bool), At M pm (.map (encM wayv .bool L)) ∧ ∀ p ∈ L, p.2 = clearF s p.1.1 p.1.2
/-- the chart of a survey, in memory -/
structure ChM (M : Mem) (A : CrA) (s : Cr) (pc pm : Nat) : Prop where
  cr : CrM M A s
  cells : At M pc (.cells true (chc A s pm) 83)
  ne : pc ≠ pm
  known : KnM M s pm
theorem c_chartOf {A : CrA} {s : Cr} {M : Mem} (hM : CrM M A s) : CallOk Try.prog 21 [crv A s] M (fun w M' => Grow M M' ∧ ((¬ CrOk s ∧ w = .tup [.ptr none, I 40]) ∨ (CrOk s ∧ ∃ pc pm, w = .tup [.ptr (some (pc, 0)), I 0] ∧ ChM M' A s pc pm ∧ M.next ≤ pc ∧ M.next ≤ pm))) := by
  refine call_in k21 rfl ?_
  dsimp only [x21, zipE, Nat.reduceAdd]
  have hc := fun M' (hg : Grow M M') => c_CheckCruise (hM.grow hg)
  by_cases hok : CrOk s
  · have he : eCrB s = 0 := if_pos (crB_t hok)
    rw [he] at hc
    (repeat' (first | (with_reducible intro _) | refine sv ?_ | (refine sc ?_ ?_ <;> (intro h; try first | exact h.elim | exact absurd rfl h | (exfalso; omega))) | ((with_reducible first | apply x_pure | apply d_pure); exact gd; exact rfl; exact rfl; (first | exact hc _ (xg))) | (refine sg ?_ ?_ <;> (intro h; (fail_if_success (have : True := h)); try first | exact h.elim | exact absurd rfl h | (exfalso; omega))) | assumption | exact xm | exact rfl))
    ((with_reducible first | apply k_fun | apply k_fun_norm); exact rx)
    exact ⟨xg, .inr ⟨hok, _, _, rfl, ⟨hM.grow (xg), xm, by omega, [], xm, fun p hp => by cases hp⟩, by omega, by omega⟩⟩
  · have he : eCrB s = 40 := if_neg (by rw [crB_f hok]; decide)
    rw [he] at hc
    (repeat' (first | (with_reducible intro _) | refine sv ?_ | (refine sc ?_ ?_ <;> (intro h; try first | exact h.elim | exact absurd rfl h | (exfalso; omega))) | ((with_reducible first | apply x_pure | apply d_pure); exact gd; exact rfl; exact rfl; (first | exact hc _ (xg))) | (refine sg ?_ ?_ <;> (intro h; (fail_if_success (have : True := h)); try first | exact h.elim | exact absurd rfl h | (exfalso; omega))) | assumption | exact xm | exact rfl))
    ((with_reducible first | apply k_fun | apply k_fun_norm); exact rx)
    exact ⟨xg, .inl ⟨hok, rfl⟩⟩
theorem ko_straight (q : Pt × Pt) : keyOk Try.prog 10000 48 (wayv q) = true := by kernel_rfl
theorem eq_straight (a b : Pt × Pt) : eqL Try.prog Op.maxDepth 48 (wayv a) (wayv b) = some (decide (a = b)) := by
  refine shape_ok 6 Op.maxDepth 48 [0, 1, 2, 3] (by decide) (by kernel_rfl) _ _ _ (fun N hN => ?_) ?_
  · have h4 : szOf Try.prog 48 = some 4 := by kernel_rfl
    rw [h4] at hN
    cases hN
    exact ⟨Nat.le_refl _, Nat.le_refl _⟩
  · show some (decide (a.1.1 = b.1.1) && (decide (a.1.2 = b.1.2) && (decide (a.2.1 = b.2.1) && (decide (a.2.2 = b.2.2) && true)))) = _
    congr 1
    rw [Bool.eq_iff_iff]
    simp only [Bool.and_eq_true, decide_eq_true_eq, and_true]
    exact ⟨fun ⟨h1, h2, h3, h4⟩ => Prod.ext (Prod.ext h1 h2) (Prod.ext h3 h4), fun h => by rw [h]; exact ⟨rfl, rfl, rfl, rfl⟩⟩
set_option maxHeartbeats 1000000 in
theorem c_steps {A : CrA} {s : Cr} {pc pm : Nat} {a b : Pt} {M : Mem} (hC : At M pc (.cells true (chc A s pm) 83)) (hs : 1 ≤ s.speed ∧ s.speed ≤ 1000) (ha : PlP a) (hb : PlP b) :
    CallOk Try.prog 9 [.ptr (some (pc, 0)), wayw a b] M (fun w M' => w = I (stepsF s.speed a b) ∧ Grow M M') := by
  have hd := dist_bd ha hb
  have hpc := hC.2
  have hn : 0 ≤ distF a b ∧ distF a b ≤ 8589934592 := by unfold distF; omega
  have hsq := sqF_spec hn.1
  have hsb := sqF_le (B := 100000) hn.1 (by omega) (by omega)
  have hm := mul_bd (a := sqF (distF a b)) (b := sqF (distF a b)) (A := 100000) (B := 100000) (by omega) (by omega)
  unfold stepsF sqU
  unfold distF at *
  dsimp only [PlP, Pl] at ha hb
  refine call_in k9 rfl ?_
  dsimp only [x9, zipE, Nat.reduceAdd]
  (repeat' (first | (with_reducible intro _) | refine sv ?_ | (refine sc ?_ ?_ <;> (intro h; try first | exact h.elim | exact absurd rfl h | (exfalso; omega))) | ((with_reducible first | apply x_same | apply d_same); exact gd; exact rfl; exact rfl; (first | exact c_Root _ (by omega) _)) | (refine sg ?_ ?_ <;> (intro h; (fail_if_success (have : True := h)); try first | exact h.elim | exact absurd rfl h | (exfalso; omega))) | assumption | exact xm | exact rfl))
  all_goals ((with_reducible first | apply k_fun | apply k_fun_norm); exact rx)
  all_goals refine ⟨?_, xg⟩
  · rw [if_pos (by omega)]; rfl
  · rw [if_neg (by omega)]; rfl
theorem c_clear1 {a : Option (Nat × Nat)} {f : Bool} {l : List Pt} {r : Rg} {p : Nat} {own : Bool} {ty : TypeId} {M : Mem} (hl : SlA 2 ptc M a l) (hlen : l.length ≤ 1000000000000000) (hp : At M p (.cells own (rgc r) ty)) :
    CallOk Try.prog 61 [.slice a l.length f 2, .ptr (some (p, 0))] M (fun w M' => w = .bool (decide ((hitsF l r).2 = 0)) ∧ Grow M M') := by
  refine call_in k61 rfl ?_
  dsimp only [x61, zipE, Nat.reduceAdd]
  have hh := fun M' (hg : Grow M M') => c_Hits (f := f) (r := r) (hl.grow hg) hlen
  (repeat' (first | (with_reducible intro _) | refine sv ?_ | (refine sc ?_ ?_ <;> (intro h; try first | exact h.elim | exact absurd rfl h | (exfalso; omega))) | ((with_reducible first | apply x_pure | apply d_pure); exact gd; exact rfl; exact rfl; (first | exact hh _ (xg))) | (refine sg ?_ ?_ <;> (intro h; (fail_if_success (have : True := h)); try first | exact h.elim | exact absurd rfl h | (exfalso; omega))) | assumption | exact xm | exact rfl))
  ((with_reducible first | apply k_fun | apply k_fun_norm); exact rx)
  exact ⟨rfl, xg⟩
set_option maxHeartbeats 1000000 in
theorem c_clear {A : CrA} {s : Cr} {pc pm : Nat} {a b : Pt} {M : Mem} (hC : ChM M A s pc pm) :
    CallOk Try.prog 45 [.ptr (some (pc, 0)), wayw a b] M (fun w M' => w = .bool (clearF s a b) ∧ Keep (fun i => i = pm) M M' ∧ KnM M' s pm) := by
  obtain ⟨hM, hcell, hne, L, hL, hkn⟩ := hC
  have hpc := hcell.2
  have hpm := hL.2
  refine call_in k45 rfl ?_
  dsimp only [x45, zipE, Nat.reduceAdd]
  (repeat' (first | (with_reducible intro _) | refine sv ?_ | (refine sc ?_ ?_ <;> (intro h; try first | exact h.elim | exact absurd rfl h | (exfalso; omega))) | (refine sg ?_ ?_ <;> (intro h; (fail_if_success (have : True := h)); try first | exact h.elim | exact absurd rfl h | (exfalso; omega))) | assumption | exact xm | exact rfl))
  rename_i n3 M1 hn3 e1 e2
  have hL1 : At M1 pm (.map (encM wayv .bool L)) := xm
  rcases findL_enc (P := Try.prog) (ek := wayv) (ev := LV.bool) eq_straight (a, b) L 0 with ⟨hf, hnew⟩ | ⟨j, v, hf, hin⟩
  · refine d_lkp_none (by exact gd) rfl rfl (ko_straight (a, b)) hL1 hf ?_
    have hfin : ∀ (M2 M3 : Mem) (v : Bool), v = clearF s a b → At M2 pm (.map (encM wayv .bool L)) → Keep (fun i => i = pm) M M2 → Upd M2 pm (.map (encM wayv .bool L ++ [(wayw a b, .bool v)])) M3 → Keep (fun i => i = pm) M M3 ∧ KnM M3 s pm := fun M2 M3 v hv h2 hk hu => by
      refine ⟨xk, L ++ [((a, b), v)], ?_, fun p hp => ?_⟩
      · rw [← encM_append]; exact At.upd_same hu h2
      · rcases List.mem_append.1 hp with hp | hp
        · exact hkn p hp
        · obtain rfl := List.mem_singleton.1 hp; exact hv
    by_cases hsw : (sweptF s.spread a b).2 = 0
    · obtain ⟨aL, fL, aF, fF, aB, fB, aO, fO⟩ := A
      obtain ⟨ea, ef, hel⟩ := (show SlL 2 ptc M aF s.fields from hM.fields).elems
      have hnf := hM.nf
      have hany : ((List.range s.fields.length).any fun k => decide ((hitsF (s.fields.getD k []) (sweptF s.spread a b).1).2 = 0)) = s.fields.any fun f => decide ((hitsF f (sweptF s.spread a b).1).2 = 0) := by
        rw [Bool.eq_iff_iff, anyR_iff, List.any_eq_true]
        constructor
        · rintro ⟨k, hk, h2⟩; rw [getD_eq hk] at h2; exact ⟨_, List.getElem_mem hk, h2⟩
        · rintro ⟨l, hl, h2⟩
          obtain ⟨k, hk, rfl⟩ := List.getElem_of_mem hl
          exact ⟨k, hk, by rw [getD_eq hk]; exact h2⟩
      (repeat' (first | (with_reducible intro _) | refine sv ?_ | (refine sc ?_ ?_ <;> (intro h; try first | exact h.elim | exact absurd rfl h | (exfalso; omega))) | ((with_reducible first | apply x_pure | apply d_pure); exact gd; exact rfl; exact rfl; (first | exact c_Swept s.spread a b _)) | (refine sg ?_ ?_ <;> (intro h; (fail_if_success (have : True := h)); try first | exact h.elim | exact absurd rfl h | (exfalso; omega))) | assumption | exact xm | exact rfl))
      rename_i M4 hg4 e4 n7 M5 hn7 e5 e6 M6 hu6 e7 a7
      have hg6 : Grow M M6 := xg
      have hcc := c_ContainsFunc_sPt (a := aF) (n := s.fields.length) (f := fF) (e := 1) (g := 61) (fi := []) (ca := [.ptr (some (n7, 0))]) (M := M6) (fun k => .slice (ea k) (s.fields.getD k []).length (ef k) 2) (fun k => decide ((hitsF (s.fields.getD k []) (sweptF s.spread a b).1).2 = 0)) hnf
        (fun k hk => by obtain ⟨⟨i, o, h1, h2⟩, _⟩ := hel k hk; exact ⟨i, o, h1, by rw [getD_eq hk]; exact h2.grow hg6⟩)
        (fun k hk M'' hg2 => by obtain ⟨_, h2, h3⟩ := hel k hk; rw [getD_eq hk]; exact c_clear1 (h2.grow (hg6.trans hg2)) h3 (a7.grow hg2))
      rw [hany] at hcc
      (repeat' (first | (with_reducible intro _) | refine sv ?_ | (refine sc ?_ ?_ <;> (intro h; try first | exact h.elim | exact absurd rfl h | (exfalso; omega))) | ((with_reducible first | apply x_pure | apply d_pure); exact gd; exact rfl; exact rfl; (first | exact hcc)) | (refine sg ?_ ?_ <;> (intro h; (fail_if_success (have : True := h)); try first | exact h.elim | exact absurd rfl h | (exfalso; omega))) | assumption | exact xm | exact rfl))
      refine d_mset_none (by exact gd) rfl rfl rfl (ko_straight (a, b)) (xm) hf ?_
      intro M8 hu8 e8 a8
      have hv : (!(s.fields.any fun f => decide ((hitsF f (sweptF s.spread a b).1).2 = 0))) = clearF s a b := by unfold clearF; rw [decide_eq_true hsw, Bool.true_and]
      obtain ⟨hk8, hkn8⟩ := hfin _ M8 _ hv (xm) (xk) hu8
      (repeat' (first | (with_reducible intro _) | refine sv ?_ | (refine sc ?_ ?_ <;> (intro h; try first | exact h.elim | exact absurd rfl h | (exfalso; omega))) | (refine sg ?_ ?_ <;> (intro h; (fail_if_success (have : True := h)); try first | exact h.elim | exact absurd rfl h | (exfalso; omega))) | assumption | exact xm | exact rfl))
      ((with_reducible first | apply k_fun | apply k_fun_norm); exact rx)
      exact ⟨congrArg LV.bool hv, hk8, hkn8⟩
    · (repeat' (first | (with_reducible intro _) | refine sv ?_ | (refine sc ?_ ?_ <;> (intro h; try first | exact h.elim | exact absurd rfl h | (exfalso; omega))) | ((with_reducible first | apply x_pure | apply d_pure); exact gd; exact rfl; exact rfl; (first | exact c_Swept s.spread a b _)) | (refine sg ?_ ?_ <;> (intro h; (fail_if_success (have : True := h)); try first | exact h.elim | exact absurd rfl h | (exfalso; omega))) | assumption | exact xm | exact rfl))
      refine d_mset_none (by exact gd) rfl rfl rfl (ko_straight (a, b)) (xm) hf ?_
      intro M8 hu8 e8 a8
      have hv : false = clearF s a b := by unfold clearF; rw [decide_eq_false hsw, Bool.false_and]
      obtain ⟨hk8, hkn8⟩ := hfin _ M8 _ hv (xm) (xk) hu8
      (repeat' (first | (with_reducible intro _) | refine sv ?_ | (refine sc ?_ ?_ <;> (intro h; try first | exact h.elim | exact absurd rfl h | (exfalso; omega))) | (refine sg ?_ ?_ <;> (intro h; (fail_if_success (have : True := h)); try first | exact h.elim | exact absurd rfl h | (exfalso; omega))) | assumption | exact xm | exact rfl))
      ((with_reducible first | apply k_fun | apply k_fun_norm); exact rx)
      exact ⟨congrArg LV.bool hv, hk8, hkn8⟩
  · obtain rfl : v = clearF s a b := hkn _ hin
    refine d_lkp_some (by exact gd) rfl rfl (ko_straight (a, b)) hL1 hf ?_
    (repeat' (first | (with_reducible intro _) | refine sv ?_ | (refine sc ?_ ?_ <;> (intro h; try first | exact h.elim | exact absurd rfl h | (exfalso; omega))) | (refine sg ?_ ?_ <;> (intro h; (fail_if_success (have : True := h)); try first | exact h.elim | exact absurd rfl h | (exfalso; omega))) | assumption | exact xm | exact rfl))
    ((with_reducible first | apply k_fun | apply k_fun_norm); exact rx)
    exact ⟨rfl, xk, L, hL1, hkn⟩
end Go.Proofs.Ytgipddabhcmgjaa.C
end
section
open Go PvL Go.Proofs
set_option linter.unusedVariables false
set_option linter.unusedSimpArgs false
namespace Go.Proofs.Ytgipddabhcmgjaa.C
theorem ChM.grow {M M' : Mem} {A : CrA} {s : Cr} {pc pm : Nat} (h : ChM M A s pc pm) (hg : Grow M M') : ChM M' A s pc pm :=
  ⟨h.cr.grow hg, h.cells.grow hg, h.ne, let ⟨L, h1, h2⟩ := h.known; ⟨L, h1.grow hg, h2⟩⟩
/-- a survey is not right, or a point is no place, or all is well -/
theorem c_asked {A : CrA} {s : Cr} {a b : Pt} {M : Mem} (hM : CrM M A s) : CallOk Try.prog 8 [crv A s, ptv a, ptv b] M (fun w M' => Grow M M' ∧
    ((¬ CrOk s ∧ w = .tup [.ptr none, .agg [I 0, I 0, I 0, I 0], I 40]) ∨ (CrOk s ∧ ¬ (PlP a ∧ PlP b) ∧ w = .tup [.ptr none, .agg [I 0, I 0, I 0, I 0], I 10]) ∨
      (CrOk s ∧ PlP a ∧ PlP b ∧ ∃ pc pm, w = .tup [.ptr (some (pc, 0)), wayw a b, I 0] ∧ ChM M' A s pc pm ∧ M.next ≤ pc ∧ M.next ≤ pm))) := by
  refine call_in k8 rfl ?_
  dsimp only [x8, zipE, Nat.reduceAdd]
  have hc := fun M' (hg : Grow M M') => c_chartOf (hM.grow hg)
  (repeat' (first | (with_reducible intro _) | refine sv ?_ | (refine sc ?_ ?_ <;> (intro h; try first | exact h.elim | exact absurd rfl h | (exfalso; omega))) | ((with_reducible first | apply x_call | apply d_call | apply x_call0); exact gd; exact rfl; exact rfl; (first | exact hc _ (xg))) | (refine sg ?_ ?_ <;> (intro h; (fail_if_success (have : True := h)); try first | exact h.elim | exact absurd rfl h | (exfalso; omega))) | assumption | exact xm | exact rfl))
  rename_i n3 M1 hn3 f1 f2 n4 M2 hn4 f3 f4 n5 M3 hn5 f5 f6 n7 M4 hn7 f7 f8 w M5 hq
  obtain ⟨hg5, ⟨hno, rfl⟩ | ⟨hok, pc, pm, rfl, hch, h1, h2⟩⟩ := hq
  · have hle5 := hg5.le
    (repeat' (first | (with_reducible intro _) | refine sv ?_ | (refine sc ?_ ?_ <;> (intro h; try first | exact h.elim | exact absurd rfl h | (exfalso; omega))) | (refine sg ?_ ?_ <;> (intro h; (fail_if_success (have : True := h)); try first | exact h.elim | exact absurd rfl h | (exfalso; omega))) | assumption | exact xm | exact rfl))
    ((with_reducible first | apply k_fun | apply k_fun_norm); exact rx)
    exact ⟨xg, .inl ⟨hno, rfl⟩⟩
  · have hle5 := hg5.le
    have hcp := hch.cells.2
    by_cases q1 : PlP a
    · have e1 : ePt a.1 a.2 = 0 := if_pos q1
      by_cases q2 : PlP b
      · have e2 : ePt b.1 b.2 = 0 := if_pos q2
        (repeat' (first | (with_reducible intro _) | refine sv ?_ | (refine sc ?_ ?_ <;> (intro h; try first | exact h.elim | exact absurd rfl h | (exfalso; omega))) | ((with_reducible first | apply x_pure | apply d_pure); exact gd; exact rfl; exact rfl; (first | exact c_CheckPoint _ _ _)) | (refine sg ?_ ?_ <;> (intro h; (fail_if_success (have : True := h)); try first | exact h.elim | exact absurd rfl h | (exfalso; omega))) | assumption | exact xm | exact rfl))
        ((with_reducible first | apply k_fun | apply k_fun_norm); exact rx)
        refine ⟨xg, .inr (.inr ⟨hok, q1, q2, pc, pm, rfl, ?_, by omega, by omega⟩)⟩
        obtain ⟨L, hL, hkn⟩ := hch.known
        have hlp := hL.2
        have hcc := hch.cells
        exact ⟨hM.grow (xg), xm, hch.ne, L, xm, hkn⟩
      · have e2 : ePt b.1 b.2 = 10 := if_neg q2
        (repeat' (first | (with_reducible intro _) | refine sv ?_ | (refine sc ?_ ?_ <;> (intro h; try first | exact h.elim | exact absurd rfl h | (exfalso; omega))) | ((with_reducible first | apply x_pure | apply d_pure); exact gd; exact rfl; exact rfl; (first | exact c_CheckPoint _ _ _)) | (refine sg ?_ ?_ <;> (intro h; (fail_if_success (have : True := h)); try first | exact h.elim | exact absurd rfl h | (exfalso; omega))) | assumption | exact xm | exact rfl))
        ((with_reducible first | apply k_fun | apply k_fun_norm); exact rx)
        exact ⟨xg, .inr (.inl ⟨hok, fun h => q2 h.2, rfl⟩)⟩
    · have e1 : ePt a.1 a.2 = 10 := if_neg q1
      (repeat' (first | (with_reducible intro _) | refine sv ?_ | (refine sc ?_ ?_ <;> (intro h; try first | exact h.elim | exact absurd rfl h | (exfalso; omega))) | ((with_reducible first | apply x_pure | apply d_pure); exact gd; exact rfl; exact rfl; (first | exact c_CheckPoint _ _ _)) | (refine sg ?_ ?_ <;> (intro h; (fail_if_success (have : True := h)); try first | exact h.elim | exact absurd rfl h | (exfalso; omega))) | assumption | exact xm | exact rfl))
      ((with_reducible first | apply k_fun | apply k_fun_norm); exact rx)
      exact ⟨xg, .inr (.inl ⟨hok, fun h => q1 h.1, rfl⟩)⟩
/-- what Steps and Clear return -/
noncomputable def askE (s : Cr) (a b : Pt) : Int := if crB s = true then (if Pl a.1 a.2 ∧ Pl b.1 b.2 then 0 else 10) else 40
noncomputable def StepsF (s : Cr) (a b : Pt) : Int × Int := (if askE s a b = 0 then stepsF s.speed a b else 0, askE s a b)
noncomputable def ClearF (s : Cr) (a b : Pt) : Bool × Int := (if askE s a b = 0 then clearF s a b else false, askE s a b)
theorem askE_no {s : Cr} {a b : Pt} (h : ¬ CrOk s) : askE s a b = 40 := by unfold askE; rw [if_neg (by rw [crB_f h]; decide)]
theorem askE_pt {s : Cr} {a b : Pt} (h : CrOk s) (hp : ¬ (PlP a ∧ PlP b)) : askE s a b = 10 := by unfold askE; rw [if_pos (crB_t h), if_neg hp]
theorem askE_ok {s : Cr} {a b : Pt} (h : CrOk s) (ha : PlP a) (hb : PlP b) : askE s a b = 0 := by unfold askE; rw [if_pos (crB_t h), if_pos ⟨ha, hb⟩]
theorem c_Steps {A : CrA} {s : Cr} {a b : Pt} {M : Mem} (hM : CrM M A s) : CallOk Try.prog 5 [crv A s, ptv a, ptv b] M (fun w M' => w = .tup [I (StepsF s a b).1, I (StepsF s a b).2] ∧ Grow M M') := by
  refine call_in k5 rfl ?_
  dsimp only [x5, zipE, Nat.reduceAdd]
  have hc := fun M' (hg : Grow M M') => c_asked (a := a) (b := b) (hM.grow hg)
  (repeat' (first | (with_reducible intro _) | refine sv ?_ | (refine sc ?_ ?_ <;> (intro h; try first | exact h.elim | exact absurd rfl h | (exfalso; omega))) | ((with_reducible first | apply x_call | apply d_call | apply x_call0); exact gd; exact rfl; exact rfl; (first | exact hc _ (xg))) | (refine sg ?_ ?_ <;> (intro h; (fail_if_success (have : True := h)); try first | exact h.elim | exact absurd rfl h | (exfalso; omega))) | assumption | exact xm | exact rfl))
  rename_i w M5 hq
  obtain ⟨hg5, ⟨hno, rfl⟩ | ⟨hok, hp, rfl⟩ | ⟨hok, ha, hb, pc, pm, rfl, hch, h1, h2⟩⟩ := hq
  · have hle5 := hg5.le
    (repeat' (first | (with_reducible intro _) | refine sv ?_ | (refine sc ?_ ?_ <;> (intro h; try first | exact h.elim | exact absurd rfl h | (exfalso; omega))) | (refine sg ?_ ?_ <;> (intro h; (fail_if_success (have : True := h)); try first | exact h.elim | exact absurd rfl h | (exfalso; omega))) | assumption | exact xm | exact rfl))
    ((with_reducible first | apply k_fun | apply k_fun_norm); exact rx)
    refine ⟨?_, xg⟩
    unfold StepsF; rw [askE_no hno]; rfl
  · have hle5 := hg5.le
    (repeat' (first | (with_reducible intro _) | refine sv ?_ | (refine sc ?_ ?_ <;> (intro h; try first | exact h.elim | exact absurd rfl h | (exfalso; omega))) | (refine sg ?_ ?_ <;> (intro h; (fail_if_success (have : True := h)); try first | exact h.elim | exact absurd rfl h | (exfalso; omega))) | assumption | exact xm | exact rfl))
    ((with_reducible first | apply k_fun | apply k_fun_norm); exact rx)
    refine ⟨?_, xg⟩
    unfold StepsF; rw [askE_pt hok hp]; rfl
  · have hle5 := hg5.le
    have hcp := hch.cells.2
    have hst := fun M' (hg : At M' pc (.cells true (chc A s pm) 83)) => c_steps (A := A) (s := s) (pc := pc) (pm := pm) hg hok.speed ha hb
    have hcell := hch.cells
    (repeat' (first | (with_reducible intro _) | refine sv ?_ | (refine sc ?_ ?_ <;> (intro h; try first | exact h.elim | exact absurd rfl h | (exfalso; omega))) | ((with_reducible first | apply x_pure | apply d_pure); exact gd; exact rfl; exact rfl; (first | exact hst _ (xm))) | (refine sg ?_ ?_ <;> (intro h; (fail_if_success (have : True := h)); try first | exact h.elim | exact absurd rfl h | (exfalso; omega))) | assumption | exact xm | exact rfl))
    ((with_reducible first | apply k_fun | apply k_fun_norm); exact rx)
    refine ⟨?_, xg⟩
    unfold StepsF; rw [askE_ok hok ha hb]; rfl
theorem c_Clear {A : CrA} {s : Cr} {a b : Pt} {M : Mem} (hM : CrM M A s) : CallOk Try.prog 19 [crv A s, ptv a, ptv b] M (fun w M' => w = .tup [.bool (ClearF s a b).1, I (ClearF s a b).2] ∧ Grow M M') := by
  refine call_in k19 rfl ?_
  dsimp only [x19, zipE, Nat.reduceAdd]
  have hc := fun M' (hg : Grow M M') => c_asked (a := a) (b := b) (hM.grow hg)
  (repeat' (first | (with_reducible intro _) | refine sv ?_ | (refine sc ?_ ?_ <;> (intro h; try first | exact h.elim | exact absurd rfl h | (exfalso; omega))) | ((with_reducible first | apply x_call | apply d_call | apply x_call0); exact gd; exact rfl; exact rfl; (first | exact hc _ (xg))) | (refine sg ?_ ?_ <;> (intro h; (fail_if_success (have : True := h)); try first | exact h.elim | exact absurd rfl h | (exfalso; omega))) | assumption | exact xm | exact rfl))
  rename_i n3 M1 hn3 e1 e2 n4 M2 hn4 e3 e4 n5 M3 hn5 e5 e6 w M5 hq
  obtain ⟨hg5, ⟨hno, rfl⟩ | ⟨hok, hp, rfl⟩ | ⟨hok, ha, hb, pc, pm, rfl, hch, h1, h2⟩⟩ := hq
  · have hle5 := hg5.le
    (repeat' (first | (with_reducible intro _) | refine sv ?_ | (refine sc ?_ ?_ <;> (intro h; try first | exact h.elim | exact absurd rfl h | (exfalso; omega))) | (refine sg ?_ ?_ <;> (intro h; (fail_if_success (have : True := h)); try first | exact h.elim | exact absurd rfl h | (exfalso; omega))) | assumption | exact xm | exact rfl))
    ((with_reducible first | apply k_fun | apply k_fun_norm); exact rx)
    refine ⟨?_, xg⟩
    unfold ClearF; rw [askE_no hno]; rfl
  · have hle5 := hg5.le
    (repeat' (first | (with_reducible intro _) | refine sv ?_ | (refine sc ?_ ?_ <;> (intro h; try first | exact h.elim | exact absurd rfl h | (exfalso; omega))) | (refine sg ?_ ?_ <;> (intro h; (fail_if_success (have : True := h)); try first | exact h.elim | exact absurd rfl h | (exfalso; omega))) | assumption | exact xm | exact rfl))
    ((with_reducible first | apply k_fun | apply k_fun_norm); exact rx)
    refine ⟨?_, xg⟩
    unfold ClearF; rw [askE_pt hok hp]; rfl
  · have hle5 := hg5.le
    have hcp := hch.cells.2
    have hcl := fun M' (hg : Grow M5 M') => c_clear (a := a) (b := b) (hch.grow hg)
    (repeat' (first | (with_reducible intro _) | refine sv ?_ | (refine sc ?_ ?_ <;> (intro h; try first | exact h.elim | exact absurd rfl h | (exfalso; omega))) | ((with_reducible first | apply x_call | apply d_call | apply x_call0); exact gd; exact rfl; exact rfl; (first | exact hcl _ (xg))) | (refine sg ?_ ?_ <;> (intro h; (fail_if_success (have : True := h)); try first | exact h.elim | exact absurd rfl h | (exfalso; omega))) | assumption | exact xm | exact rfl))
    rename_i hq
    obtain ⟨rfl, hk, hkn⟩ := hq
    have := hk.le
    (repeat' (first | (with_reducible intro _) | refine sv ?_ | (refine sc ?_ ?_ <;> (intro h; try first | exact h.elim | exact absurd rfl h | (exfalso; omega))) | (refine sg ?_ ?_ <;> (intro h; (fail_if_success (have : True := h)); try first | exact h.elim | exact absurd rfl h | (exfalso; omega))) | assumption | exact xm | exact rfl))
    ((with_reducible first | apply k_fun | apply k_fun_norm); exact rx)
    refine ⟨?_, xg⟩
    unfold ClearF; rw [askE_ok hok ha hb]; rfl
end Go.Proofs.Ytgipddabhcmgjaa.C
end
section
open Go PvL
set_option linter.unusedVariables false
namespace Go.Proofs.Ytgipddabhcmgjaa.C
abbrev ptSh : Sh := .pair (.int .i64) (.int .i64)
abbrev legSh : Sh := .pair ptSh ptSh
abbrev rgSh : Sh := .pair ptSh (.pair ptSh (.pair ptSh ptSh))
abbrev poseSh : Sh := .pair ptSh (.int .i64)
abbrev crSh : Sh := .pair (.sl legSh) (.pair (.sl (.sl ptSh)) (.pair (.sl ptSh) (.pair rgSh (.pair poseSh (.pair (.int .i64) (.pair (.int .i64) (.sl (.sl ptSh))))))))
def toCr (x : crSh.T) : Cr := ⟨x.1, x.2.1, x.2.2.1, x.2.2.2.1, x.2.2.2.2.1, x.2.2.2.2.2.1, x.2.2.2.2.2.2.1, x.2.2.2.2.2.2.2⟩
theorem enc_int {m : Mem} {x : Int} {c : List LV} (h : Enc m (.int .i64) x c) : c = [I x] := h.1
theorem enc_pt {m : Mem} {x : ptSh.T} {c : List LV} (h : Enc m ptSh x c) : c = [I x.1, I x.2] := by
  obtain ⟨c1, d1, rfl, h1, h2⟩ := h
  rw [enc_int h1, enc_int h2]; rfl
theorem enc_leg {m : Mem} {x : legSh.T} {c : List LV} (h : Enc m legSh x c) : c = legc x := by
  obtain ⟨c1, d1, rfl, h1, h2⟩ := h
  rw [enc_pt h1, enc_pt h2]; rfl
theorem enc_rg {m : Mem} {x : rgSh.T} {c : List LV} (h : Enc m rgSh x c) : c = rgc x := by
  obtain ⟨c1, d1, rfl, h1, c2, d2, rfl, h2, c3, d3, rfl, h3, h4⟩ := h
  rw [enc_pt h1, enc_pt h2, enc_pt h3, enc_pt h4]; rfl
theorem enc_pose {m : Mem} {x : poseSh.T} {c : List LV} (h : Enc m poseSh x c) : c = [I x.1.1, I x.1.2, I x.2] := by
  obtain ⟨c1, d1, rfl, h1, h2⟩ := h
  rw [enc_pt h1, enc_int h2]; rfl
theorem enc_slA {m : Mem} {e : Sh} {enc : e.T → List LV} (he : ∀ x c, Enc m e x c → c = enc x) {l : List e.T} {cs : List LV} (h : Enc m (.sl e) l cs) : ∃ a f, cs = [.slice a l.length f e.size] ∧ SlA e.size enc m a l ∧ l.length ≤ reachBytes := by
  obtain ⟨a, f, h1, h2, h3⟩ := h
  refine ⟨a, f, h1, ?_, h2⟩
  by_cases hl : l = []
  · exact .inl hl
  · obtain ⟨i, o, g1, g2, _, g3⟩ := h3 hl
    refine .inr ⟨i, o, g1, fun k hk => ?_⟩
    obtain ⟨c, g4, g5⟩ := g3 k hk
    rw [he _ _ g5] at g4
    exact ⟨g4, g2⟩
theorem max_le : reachBytes ≤ 1000000000000000 := by decide
theorem enc_slL {m : Mem} {e : Sh} {enc : e.T → List LV} (he : ∀ x c, Enc m e x c → c = enc x) {l : List (List e.T)} {cs : List LV} (h : Enc m (.sl (.sl e)) l cs) : ∃ a f, cs = [.slice a l.length f 1] ∧ SlL e.size enc m a l ∧ l.length ≤ reachBytes := by
  obtain ⟨a, f, h1, h2, h3⟩ := h
  refine ⟨a, f, h1, ?_, h2⟩
  by_cases hl : l = []
  · exact .inl hl
  · obtain ⟨i, o, g1, g2, _, g3⟩ := h3 hl
    refine .inr ⟨i, o, g1, fun k hk => ?_⟩
    obtain ⟨c, g4, g5⟩ := g3 k hk
    obtain ⟨a', f', rfl, k2, k3⟩ := enc_slA he g5
    refine ⟨a', f', ⟨?_, g2⟩, k2, Nat.le_trans k3 max_le⟩
    have g4 : loadN m i (o + k * 1) 1 = some [.slice a' l[k].length f' e.size] := g4
    unfold loadN atCells at g4
    unfold load1 atCells
    obtain ⟨lb, q1, q2⟩ := ob_eq.1 g4
    rw [q1, ob_some]
    cases lb with
    | cells own cs ty =>
      obtain ⟨q3, q4⟩ := take'_eq.1 (show take' 1 (drop' (o + k * 1) cs) = _ from q2)
      show nth cs (o + k * 1) = _
      rw [drop'_eq] at q4
      rw [nth_eq]
      have : (cs.drop (o + k * 1)).take 1 = [.slice a' l[k].length f' e.size] := q4.symm
      have h0 : ((cs.drop (o + k * 1)).take 1)[0]? = some (.slice a' l[k].length f' e.size) := by rw [this]; rfl
      rw [List.getElem?_take_of_lt (by omega), List.getElem?_drop] at h0
      exact h0
    | _ => cases q2
theorem enc_cr {m : Mem} {x : crSh.T} {cs : List LV} (h : Enc m crSh x cs) : ∃ A, cs = crc A (toCr x) ∧ CrM m A (toCr x) := by
  obtain ⟨c1, d1, rfl, h1, c2, d2, rfl, h2, c3, d3, rfl, h3, c4, d4, rfl, h4, c5, d5, rfl, h5, c6, d6, rfl, h6, c7, d7, rfl, h7, h8⟩ := h
  obtain ⟨aL, fL, rfl, k1, k1'⟩ := enc_slA (enc := legc) (fun _ _ => enc_leg) h1
  obtain ⟨aF, fF, rfl, k2, k2'⟩ := enc_slL (enc := ptc) (fun _ _ => enc_pt) h2
  obtain ⟨aB, fB, rfl, k3, k3'⟩ := enc_slA (enc := ptc) (fun _ _ => enc_pt) h3
  obtain ⟨aO, fO, rfl, k8, k8'⟩ := enc_slL (enc := bdc) (fun _ _ => enc_pt) h8
  rw [enc_rg h4, enc_pose h5, enc_int h6, enc_int h7]
  exact ⟨⟨aL, fL, aF, fF, aB, fB, aO, fO⟩, rfl, ⟨k1, k2, k3, k8, Nat.le_trans k1' max_le, Nat.le_trans k2' max_le, Nat.le_trans k3' max_le, Nat.le_trans k8' max_le⟩⟩
end Go.Proofs.Ytgipddabhcmgjaa.C
end
section
open Go PvL
set_option linter.unusedVariables false
namespace Go.Proofs.Ytgipddabhcmgjaa.C
theorem enc_3pt {m : Mem} {x : (Sh.pair ptSh (.pair ptSh ptSh)).T} {c : List LV} (h : Enc m (.pair ptSh (.pair ptSh ptSh)) x c) : c = [I x.1.1, I x.1.2, I x.2.1.1, I x.2.1.2, I x.2.2.1, I x.2.2.2] := by
  obtain ⟨c1, d1, rfl, h1, c2, d2, rfl, h2, h3⟩ := h
  rw [enc_pt h1, enc_pt h2, enc_pt h3]; rfl
theorem enc_2pose {m : Mem} {x : (Sh.pair poseSh poseSh).T} {c : List LV} (h : Enc m (.pair poseSh poseSh) x c) : c = [I x.1.1.1, I x.1.1.2, I x.1.2, I x.2.1.1, I x.2.1.2, I x.2.2] := by
  obtain ⟨c1, d1, rfl, h1, h2⟩ := h
  rw [enc_pose h1, enc_pose h2]; rfl
end Go.Proofs.Ytgipddabhcmgjaa.C
end
