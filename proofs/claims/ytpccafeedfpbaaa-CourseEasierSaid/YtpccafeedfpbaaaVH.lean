/-
  Part of the proof of CourseEasier: what functions of the program and of the statement come to, walked by the rules. No condition beyond those in each theorem.
-/
import Derived.Test.YtpccafeedfpbaaaVG
import Derived.Test.YtpccafeedfpbaaaVE
open Go PvL Go.Proofs
set_option linter.unusedVariables false
set_option linter.unusedSimpArgs false
namespace Go.Proofs.Ytpccafeedfpbaaa.C
theorem c_works (M : Mem) : CallOk Try.prog 8 [] M (fun w M' => w = .bool true ∧ M' = M) := ⟨_, _, om_ask rfl M, rfl, rfl⟩
theorem xs_slc1 {i o len n : Nat} {f : Bool} (h0 : 0 < len) : ∃ o' f' e', (2 ≤ len → o' = o + n ∧ e' = n) ∧ ∀ {E : Env} {M : Mem} {x : XO}, xval E x = some (.slice (some (i, o)) len f n) → xstep Try.prog (.slc n x (some (.c (.int .i64 1))) none none) E M = some (.val (.slice (some (i, o')) (len - 1) f' e') M) := by
  have hstep : ∀ v, sliceSl n (some (i, o)) len f n (some (.int .i64 1)) none none = some v → ∀ {E : Env} {M : Mem} {x : XO}, xval E x = some (.slice (some (i, o)) len f n) → xstep Try.prog (.slc n x (some (.c (.int .i64 1))) none none) E M = some (.val v M) := fun v hv {E M x} hx => by
    show ob (xval E x) _ = _
    rw [hx, ob_some]
    show ob (sliceSl n (some (i, o)) len f n (some (.int .i64 1)) none none) (rv M) = _
    rw [hv]; rfl
  have hs : sliceSl n (some (i, o)) len f n (some (.int .i64 1)) none none = guard' (Nat.ble 1 len) (guard' (Nat.beq n n) (ifb (false || (f || (Nat.ble 2 len || Nat.beq 1 0)))
        (some (LV.slice (some (i, ifb (Nat.beq len 1 && (f || false)) o (o + 1 * n))) (len - 1) (ifb false (Nat.beq len len) (f && Nat.beq len len)) n)) (some (LV.slice (some (i, o)) 0 false 0)))) := by
    show guard' true (guard' (Nat.ble 1 len) (guard' (Nat.beq n n) (ifb (false || (f || (Nat.ble 2 len || Nat.beq 1 0))) (fN (ifb (Nat.beq len 1 && (f || false)) o (o + 1 * n)) fun off' => fN (len - 1) fun len' => some (LV.slice (some (i, off')) len' (ifb false (Nat.beq len len) (f && Nat.beq len len)) n)) (some (LV.slice (some (i, o)) 0 false 0))))) = _
    rw [guard'_true, fN_eq, fN_eq]
  have hnn : Nat.beq n n = true := by simp
  rw [Nat.ble_eq_true_of_le h0, guard'_true, hnn, guard'_true] at hs
  by_cases h2 : 2 ≤ len
  · rw [Nat.ble_eq_true_of_le h2] at hs
    have h1 : Nat.beq len 1 = false := by cases hb : Nat.beq len 1 with | false => rfl | true => have := Nat.eq_of_beq_eq_true hb; omega
    rw [h1] at hs
    cases f with
    | true => exact ⟨_, _, _, fun _ => ⟨by show o + 1 * n = _; rw [Nat.one_mul], rfl⟩, hstep _ hs⟩
    | false => exact ⟨_, _, _, fun _ => ⟨by show o + 1 * n = _; rw [Nat.one_mul], rfl⟩, hstep _ hs⟩
  · obtain rfl : len = 1 := by omega
    cases f with
    | true => exact ⟨_, _, _, fun h => absurd h (by omega), hstep _ hs⟩
    | false => exact ⟨_, _, _, fun h => absurd h (by omega), hstep _ hs⟩
def openS (s : Cr) : Cr := { s with fields := s.fields.drop 1 }
def moreS (s : Cr) (p : Pt) : Cr := { s with buoys := s.buoys ++ [p] }
theorem openS_ok {s : Cr} (h : CrOk s) : CrOk (openS s) :=
  { h with nf := by have := h.nf; show (s.fields.drop 1).length ≤ 4; rw [List.length_drop]; omega, fields := fun l hl => h.fields l (List.mem_of_mem_drop hl) }
theorem open_passage {s : Cr} {a b : Pose} (hs : CrOk s) (hp : PoseOk a ∧ PoseOk b) {y : Psg} (h : bestF s a b = some y) : ∃ z, PassageF (openS s) a b = (z, 0) ∧ z.2 ≤ y.2 := by
  obtain ⟨z, h1, h2⟩ := best_easier (s := s) (t := openS s) rfl rfl (fun p q => clear_fewer (s := s) (t := openS s) rfl (fun f hf => List.mem_of_mem_drop hf) p q) ⟨[], (List.append_nil _).symm⟩ h
  refine ⟨z, ?_, h2⟩
  unfold PassageF
  rw [if_pos (openS_ok hs), if_pos hp, h1]
theorem more_passage {s : Cr} {a b : Pose} (hp : PoseOk a ∧ PoseOk b) {y : Psg} (h : bestF s a b = some y) (p : Pt) : (∃ z, PassageF (moreS s p) a b = (z, 0) ∧ z.2 ≤ y.2) ∨ PassageF (moreS s p) a b = (([], 0), 40) := by
  by_cases hm : CrOk (moreS s p)
  · left
    obtain ⟨z, h1, h2⟩ := best_easier (s := s) (t := moreS s p) rfl rfl (fun p' q' => clear_fewer (s := s) (t := moreS s p) rfl (fun f hf => hf) p' q') ⟨[p], rfl⟩ h
    refine ⟨z, ?_, h2⟩
    unfold PassageF
    rw [if_pos hm, if_pos hp, h1]
  · right
    unfold PassageF
    rw [if_neg hm]
set_option maxHeartbeats 16000000 in
theorem c_CourseEasier {A : CrA} {s : Cr} {a b : Pose} {p : Pt} {M : Mem} (hM : CrM M A s) (hE1 : A.eF = 1) :
    CallOk Try.prog 3 [crv A s, .agg [I a.1.1, I a.1.2, I a.2, I b.1.1, I b.1.2, I b.2], ptv p] M (fun v M' => v = .bool true) := by
  have hp := fun M' (hg : Grow M M') => c_Passage (a := a) (b := b) (hM.grow hg)
  refine call_in k3 rfl ?_
  dsimp only [x3, zipE, Nat.reduceAdd]
  (repeat' (first | (with_reducible intro _) | refine sv ?_ | (refine sc ?_ ?_ <;> (intro h; try first | exact h.elim | exact absurd rfl h | (exfalso; omega))) | ((with_reducible first | apply x_call | apply d_call | apply x_call0); exact gd; exact rfl; exact rfl; (first | exact hp _ (xg))) | (refine sg ?_ ?_ <;> (intro h; (fail_if_success (have : True := h)); try first | exact h.elim | exact absurd rfl h | (exfalso; omega))) | assumption | exact xm | exact rfl))
  rename_i n3 M1 hn3 e1 e2 n4 M2 hn4 e3 e4 n5 M3 hn5 e5 e6 w M4 hq
  obtain ⟨hg4, sl, rfl, hsl⟩ := hq
  have hle4 := hg4.le
  clear hsl
  by_cases hok : CrOk s
  rotate_left
  · rw [show PassageF s a b = (([], 0), 40) from if_neg hok]
    (repeat' (first | (with_reducible intro _) | refine sv ?_ | (refine sc ?_ ?_ <;> (intro h; try first | exact h.elim | exact absurd rfl h | (exfalso; omega))) | ((with_reducible first | apply x_same | apply d_same); exact gd; exact rfl; exact rfl; (first | exact c_works _)) | (refine sg ?_ ?_ <;> (intro h; (fail_if_success (have : True := h)); try first | exact h.elim | exact absurd rfl h | (exfalso; omega))) | assumption | exact xm | exact rfl))
    all_goals ((with_reducible first | apply k_fun | apply k_fun_norm); exact rx)
    all_goals rfl
  by_cases hpo : PoseOk a ∧ PoseOk b
  rotate_left
  · rw [show PassageF s a b = (([], 0), 41) by unfold PassageF; rw [if_pos hok, if_neg hpo]]
    (repeat' (first | (with_reducible intro _) | refine sv ?_ | (refine sc ?_ ?_ <;> (intro h; try first | exact h.elim | exact absurd rfl h | (exfalso; omega))) | ((with_reducible first | apply x_same | apply d_same); exact gd; exact rfl; exact rfl; (first | exact c_works _)) | (refine sg ?_ ?_ <;> (intro h; (fail_if_success (have : True := h)); try first | exact h.elim | exact absurd rfl h | (exfalso; omega))) | assumption | exact xm | exact rfl))
    all_goals ((with_reducible first | apply k_fun | apply k_fun_norm); exact rx)
    all_goals rfl
  cases hbf : bestF s a b with
  | none =>
    rw [show PassageF s a b = (([], 0), 4) by unfold PassageF; rw [if_pos hok, if_pos hpo, hbf]]
    (repeat' (first | (with_reducible intro _) | refine sv ?_ | (refine sc ?_ ?_ <;> (intro h; try first | exact h.elim | exact absurd rfl h | (exfalso; omega))) | ((with_reducible first | apply x_same | apply d_same); exact gd; exact rfl; exact rfl; (first | exact c_works _)) | (refine sg ?_ ?_ <;> (intro h; (fail_if_success (have : True := h)); try first | exact h.elim | exact absurd rfl h | (exfalso; omega))) | assumption | exact xm | exact rfl))
    all_goals ((with_reducible first | apply k_fun | apply k_fun_norm); exact rx)
    all_goals rfl
  | some y =>
  rw [show PassageF s a b = (y, 0) by unfold PassageF; rw [if_pos hok, if_pos hpo, hbf]]
  dsimp only
  obtain ⟨z1, hz1, hz1le⟩ := open_passage hok hpo hbf
  have hmore := more_passage hpo hbf p
  have hnf := hM.nf
  have hnb := hM.nb
  have hnbs := hok.nb
  obtain ⟨aL, fL, aF, fF, aB, fB, aO, fO, eF⟩ := A
  obtain rfl : eF = 1 := hE1
  have hf0 : s.fields.length = 0 ∨ 0 < s.fields.length := by omega
  rcases hf0 with hf0 | hf0
  · have hs1 : openS s = s := by
      have : s.fields = [] := List.length_eq_zero_iff.1 hf0
      cases s; cases this; rfl
    rw [hs1] at hz1
    have hMo := hM
    (repeat' (first | (with_reducible intro _) | refine sv ?_ | (refine sc ?_ ?_ <;> (intro h; try first | exact h.elim | exact absurd rfl h | (exfalso; omega))) | (refine sg ?_ ?_ <;> (intro h; (fail_if_success (have : True := h)); try first | exact h.elim | exact absurd rfl h | (exfalso; omega))) | assumption | exact xm | exact rfl))
    all_goals try (exfalso; omega)
    rename_i n10 M5 hn10 e7 e8 n11 M6 hn11 e9 e10 M7 hu7 e11 a10 M8 hu8 e12 a11 n44 M9 hn44 e13 e14
    have hMs : CrM M ⟨aL, fL, aF, fF, aB, fB, aO, fO, 1⟩ s := hM
    have hpO := fun M' (hg : Grow M M') => c_Passage (a := a) (b := b) (hMo.grow hg)
    rw [hz1] at hpO
    dsimp only at hpO
    have hp2 := fun m M' (hg : Grow M M') (hm : At M' m (.cells true ((s.buoys ++ [p]).flatMap ptc) 30)) => c_Passage (a := a) (b := b) (A := ⟨aL, fL, aF, fF, some (m, 0), false, aO, fO, 1⟩) (s := moreS s p) (M := M') ⟨hMs.lines.grow hg, hMs.fields.grow hg, .inr ⟨m, 0, rfl, rd_pts hm⟩, hMs.opn.grow hg, hMs.nl, hMs.nf, by show (s.buoys ++ [p]).length ≤ _; rw [List.length_append, List.length_singleton]; omega, hMs.no⟩
    have hbl : (s.buoys ++ [p]).length = s.buoys.length + 1 := by rw [List.length_append]; rfl
    by_cases hb0 : s.buoys = []
    · have hb00 : s.buoys.length = 0 := by rw [hb0]; rfl
      refine d_anch (by exact gd) (xs_app_nop rfl rfl (by show some s.buoys.length = some 0; rw [hb00])) ?_
      (repeat' (first | (with_reducible intro _) | refine sv ?_ | (refine sc ?_ ?_ <;> (intro h; try first | exact h.elim | exact absurd rfl h | (exfalso; omega))) | (refine sg ?_ ?_ <;> (intro h; (fail_if_success (have : True := h)); try first | exact h.elim | exact absurd rfl h | (exfalso; omega))) | assumption | exact xm | exact rfl))
      rename_i n49 MA hn49 eA1 eA2
      refine d_app_new (by exact gd) (old := []) (new := ptc p) rfl rfl rfl (by omega) (by omega) rfl rfl (firstL_pts (l := [p]) (rd_pts (At.new_same hn49)) rfl (by simp)) rfl (.inr rfl) ?_
      intro m MB hnm eB1 eB2
      have am : At MB m (.cells true ((s.buoys ++ [p]).flatMap ptc) 30) := by rw [hb0]; exact At.new_same hnm
      refine xd_know (t := 50) (v' := .slice (some (m, 0)) (s.buoys ++ [p]).length false 2) rfl (by rw [hbl, hb00]) ?_
      (repeat' (first | (with_reducible intro _) | refine sv ?_ | (refine sc ?_ ?_ <;> (intro h; try first | exact h.elim | exact absurd rfl h | (exfalso; omega))) | ((with_reducible first | apply x_call | apply d_call | apply x_call0); exact gd; exact rfl; exact rfl; (first | exact hpO _ (xg))) | (refine sg ?_ ?_ <;> (intro h; (fail_if_success (have : True := h)); try first | exact h.elim | exact absurd rfl h | (exfalso; omega))) | assumption | exact xm | exact rfl))
      rename_i w MC hq
      obtain ⟨hgC, sl1, rfl, _⟩ := hq
      have hleC := hgC.le
      rcases hmore with ⟨z2, hz2, hz2le⟩ | hz2
      all_goals
        rw [hz2] at hp2
        dsimp only at hp2
        (repeat' (first | (with_reducible intro _) | refine sv ?_ | (refine sc ?_ ?_ <;> (intro h; try first | exact h.elim | exact absurd rfl h | (exfalso; omega))) | ((with_reducible first | apply x_call | apply d_call | apply x_call0); exact gd; exact rfl; exact rfl; (first | exact hp2 m _ (xg) (xm))) | (refine sg ?_ ?_ <;> (intro h; (fail_if_success (have : True := h)); try first | exact h.elim | exact absurd rfl h | (exfalso; omega))) | assumption | exact xm | exact rfl))
        rename_i w2 MD hq2
        obtain ⟨hgD, sl2, rfl, _⟩ := hq2
        have hleD := hgD.le
        (repeat' (first | (with_reducible intro _) | refine sv ?_ | (refine sc ?_ ?_ <;> (intro h; try first | exact h.elim | exact absurd rfl h | (exfalso; omega))) | ((with_reducible first | apply x_same | apply d_same); exact gd; exact rfl; exact rfl; (first | exact c_works _)) | (refine sg ?_ ?_ <;> (intro h; (fail_if_success (have : True := h)); try first | exact h.elim | exact absurd rfl h | (exfalso; omega))) | assumption | exact xm | exact rfl))
        all_goals try (exfalso; omega)
        all_goals ((with_reducible first | apply k_fun | apply k_fun_norm); exact rx)
        all_goals rfl
    · have hb00 : 0 < s.buoys.length := by cases h : s.buoys with | nil => exact absurd h hb0 | cons q l => simp
      obtain ⟨iB, oB, rfl, hrB⟩ := (show SlA 2 ptc M aB s.buoys from hMs.buoys).resolve_left hb0
      have hg9 : Grow M M9 := xg
      have hwB : firstL 2 s.buoys.length (.slice (some (iB, oB)) s.buoys.length fB 2) M9 = some (s.buoys.flatMap ptc) := firstL_pts (fun k hk => (hrB k hk).grow hg9) rfl hb00
      clear hg9
      refine d_app_new (by exact gd) (old := []) (new := s.buoys.flatMap ptc) rfl rfl rfl hb00 (by omega) rfl rfl hwB (flat_pts _) (.inr rfl) ?_
      intro m1 MB1 hnm1 eB11 eB12
      (repeat' (first | (with_reducible intro _) | refine sv ?_ | (refine sc ?_ ?_ <;> (intro h; try first | exact h.elim | exact absurd rfl h | (exfalso; omega))) | (refine sg ?_ ?_ <;> (intro h; (fail_if_success (have : True := h)); try first | exact h.elim | exact absurd rfl h | (exfalso; omega))) | assumption | exact xm | exact rfl))
      rename_i n49 MA hn49 eA1 eA2
      have am1 : At MB1 m1 (.cells true (s.buoys.flatMap ptc) 30) := At.new_same hnm1
      have hw2 : firstL 2 (0 + s.buoys.length) (.slice (some (m1, 0)) (0 + s.buoys.length) false 2) MA = some (s.buoys.flatMap ptc) := by rw [Nat.zero_add]; exact firstL_pts (rd_pts (At.new_old hn49 am1)) rfl hb00
      refine d_app_kill (by exact gd) (new := ptc p) rfl rfl rfl (by omega) (by omega) rfl hw2 (firstL_pts (l := [p]) (rd_pts (At.new_same hn49)) rfl (by simp)) rfl (At.new_old hn49 am1) ?_
      intro m MB hkm eB1 eB2 am0
      have am : At MB m (.cells true ((s.buoys ++ [p]).flatMap ptc) 30) := by rw [List.flatMap_append, List.flatMap_singleton]; exact am0
      refine xd_know (t := 50) (v' := .slice (some (m, 0)) (s.buoys ++ [p]).length false 2) rfl (by rw [hbl, Nat.zero_add]) ?_
      (repeat' (first | (with_reducible intro _) | refine sv ?_ | (refine sc ?_ ?_ <;> (intro h; try first | exact h.elim | exact absurd rfl h | (exfalso; omega))) | ((with_reducible first | apply x_call | apply d_call | apply x_call0); exact gd; exact rfl; exact rfl; (first | exact hpO _ (xg))) | (refine sg ?_ ?_ <;> (intro h; (fail_if_success (have : True := h)); try first | exact h.elim | exact absurd rfl h | (exfalso; omega))) | assumption | exact xm | exact rfl))
      rename_i w MC hq
      obtain ⟨hgC, sl1, rfl, _⟩ := hq
      have hleC := hgC.le
      rcases hmore with ⟨z2, hz2, hz2le⟩ | hz2
      all_goals
        rw [hz2] at hp2
        dsimp only at hp2
        (repeat' (first | (with_reducible intro _) | refine sv ?_ | (refine sc ?_ ?_ <;> (intro h; try first | exact h.elim | exact absurd rfl h | (exfalso; omega))) | ((with_reducible first | apply x_call | apply d_call | apply x_call0); exact gd; exact rfl; exact rfl; (first | exact hp2 m _ (xg) (xm))) | (refine sg ?_ ?_ <;> (intro h; (fail_if_success (have : True := h)); try first | exact h.elim | exact absurd rfl h | (exfalso; omega))) | assumption | exact xm | exact rfl))
        rename_i w2 MD hq2
        obtain ⟨hgD, sl2, rfl, _⟩ := hq2
        have hleD := hgD.le
        (repeat' (first | (with_reducible intro _) | refine sv ?_ | (refine sc ?_ ?_ <;> (intro h; try first | exact h.elim | exact absurd rfl h | (exfalso; omega))) | ((with_reducible first | apply x_same | apply d_same); exact gd; exact rfl; exact rfl; (first | exact c_works _)) | (refine sg ?_ ?_ <;> (intro h; (fail_if_success (have : True := h)); try first | exact h.elim | exact absurd rfl h | (exfalso; omega))) | assumption | exact xm | exact rfl))
        all_goals try (exfalso; omega)
        all_goals ((with_reducible first | apply k_fun | apply k_fun_norm); exact rx)
        all_goals rfl
  · obtain ⟨i, o, rfl, hr⟩ := (show SlL 2 ptc M aF s.fields from hM.fields).resolve_left (fun h => by rw [h] at hf0; simp at hf0)
    obtain ⟨o', f', e', hst2, hst⟩ := xs_slc1 (i := i) (o := o) (n := 1) (f := fF) hf0
    have hMo : CrM M ⟨aL, fL, some (i, o'), f', aB, fB, aO, fO, e'⟩ (openS s) := ⟨hM.lines, by
      by_cases h2 : 2 ≤ s.fields.length
      · obtain ⟨rfl, rfl⟩ := hst2 h2
        refine .inr ⟨i, o + 1, rfl, fun k hk => ?_⟩
        have hk2 : k < s.fields.length - 1 := by have : k < (s.fields.drop 1).length := hk; rw [List.length_drop] at this; exact this
        have hr1 := hr (1 + k) (by omega)
        rw [show o + (1 + k) * 1 = o + 1 + k * 1 by omega] at hr1
        have e : (openS s).fields[k] = s.fields[1 + k]'(by omega) := List.getElem_drop ..
        rw [e]
        exact hr1
      · exact .inl (List.drop_eq_nil_of_le (by omega)), hM.buoys, hM.opn, hM.nl, by show (s.fields.drop 1).length ≤ _; rw [List.length_drop]; have := hM.nf; omega, hM.nb, hM.no⟩
    have hfl : s.fields.length - 1 = (openS s).fields.length := by show _ = (s.fields.drop 1).length; rw [List.length_drop]
    (repeat' (first | (with_reducible intro _) | refine sv ?_ | (refine sc ?_ ?_ <;> (intro h; try first | exact h.elim | exact absurd rfl h | (exfalso; omega))) | (refine sg ?_ ?_ <;> (intro h; (fail_if_success (have : True := h)); try first | exact h.elim | exact absurd rfl h | (exfalso; omega))) | assumption | exact xm | exact rfl))
    all_goals try (exfalso; omega)
    refine x_gen (by exact gd) (hst rfl) ?_
    rw [hfl]
    (repeat' (first | (with_reducible intro _) | refine sv ?_ | (refine sc ?_ ?_ <;> (intro h; try first | exact h.elim | exact absurd rfl h | (exfalso; omega))) | (refine sg ?_ ?_ <;> (intro h; (fail_if_success (have : True := h)); try first | exact h.elim | exact absurd rfl h | (exfalso; omega))) | assumption | exact xm | exact rfl))
    rename_i n10 M5 hn10 e7 e8 n11 M6 hn11 e9 e10 M7 hu7 e11 a10 M8 hu8 e12 a11 M8b hu8b e12b a10b n44 M9 hn44 e13 e14
    have hMs : CrM M ⟨aL, fL, (some (i, o)), fF, aB, fB, aO, fO, 1⟩ s := hM
    have hpO := fun M' (hg : Grow M M') => c_Passage (a := a) (b := b) (hMo.grow hg)
    rw [hz1] at hpO
    dsimp only at hpO
    have hp2 := fun m M' (hg : Grow M M') (hm : At M' m (.cells true ((s.buoys ++ [p]).flatMap ptc) 30)) => c_Passage (a := a) (b := b) (A := ⟨aL, fL, (some (i, o)), fF, some (m, 0), false, aO, fO, 1⟩) (s := moreS s p) (M := M') ⟨hMs.lines.grow hg, hMs.fields.grow hg, .inr ⟨m, 0, rfl, rd_pts hm⟩, hMs.opn.grow hg, hMs.nl, hMs.nf, by show (s.buoys ++ [p]).length ≤ _; rw [List.length_append, List.length_singleton]; omega, hMs.no⟩
    have hbl : (s.buoys ++ [p]).length = s.buoys.length + 1 := by rw [List.length_append]; rfl
    by_cases hb0 : s.buoys = []
    · have hb00 : s.buoys.length = 0 := by rw [hb0]; rfl
      refine d_anch (by exact gd) (xs_app_nop rfl rfl (by show some s.buoys.length = some 0; rw [hb00])) ?_
      (repeat' (first | (with_reducible intro _) | refine sv ?_ | (refine sc ?_ ?_ <;> (intro h; try first | exact h.elim | exact absurd rfl h | (exfalso; omega))) | (refine sg ?_ ?_ <;> (intro h; (fail_if_success (have : True := h)); try first | exact h.elim | exact absurd rfl h | (exfalso; omega))) | assumption | exact xm | exact rfl))
      rename_i n49 MA hn49 eA1 eA2
      refine d_app_new (by exact gd) (old := []) (new := ptc p) rfl rfl rfl (by omega) (by omega) rfl rfl (firstL_pts (l := [p]) (rd_pts (At.new_same hn49)) rfl (by simp)) rfl (.inr rfl) ?_
      intro m MB hnm eB1 eB2
      have am : At MB m (.cells true ((s.buoys ++ [p]).flatMap ptc) 30) := by rw [hb0]; exact At.new_same hnm
      refine xd_know (t := 50) (v' := .slice (some (m, 0)) (s.buoys ++ [p]).length false 2) rfl (by rw [hbl, hb00]) ?_
      (repeat' (first | (with_reducible intro _) | refine sv ?_ | (refine sc ?_ ?_ <;> (intro h; try first | exact h.elim | exact absurd rfl h | (exfalso; omega))) | ((with_reducible first | apply x_call | apply d_call | apply x_call0); exact gd; exact rfl; exact rfl; (first | exact hpO _ (xg))) | (refine sg ?_ ?_ <;> (intro h; (fail_if_success (have : True := h)); try first | exact h.elim | exact absurd rfl h | (exfalso; omega))) | assumption | exact xm | exact rfl))
      rename_i w MC hq
      obtain ⟨hgC, sl1, rfl, _⟩ := hq
      have hleC := hgC.le
      rcases hmore with ⟨z2, hz2, hz2le⟩ | hz2
      all_goals
        rw [hz2] at hp2
        dsimp only at hp2
        (repeat' (first | (with_reducible intro _) | refine sv ?_ | (refine sc ?_ ?_ <;> (intro h; try first | exact h.elim | exact absurd rfl h | (exfalso; omega))) | ((with_reducible first | apply x_call | apply d_call | apply x_call0); exact gd; exact rfl; exact rfl; (first | exact hp2 m _ (xg) (xm))) | (refine sg ?_ ?_ <;> (intro h; (fail_if_success (have : True := h)); try first | exact h.elim | exact absurd rfl h | (exfalso; omega))) | assumption | exact xm | exact rfl))
        rename_i w2 MD hq2
        obtain ⟨hgD, sl2, rfl, _⟩ := hq2
        have hleD := hgD.le
        (repeat' (first | (with_reducible intro _) | refine sv ?_ | (refine sc ?_ ?_ <;> (intro h; try first | exact h.elim | exact absurd rfl h | (exfalso; omega))) | ((with_reducible first | apply x_same | apply d_same); exact gd; exact rfl; exact rfl; (first | exact c_works _)) | (refine sg ?_ ?_ <;> (intro h; (fail_if_success (have : True := h)); try first | exact h.elim | exact absurd rfl h | (exfalso; omega))) | assumption | exact xm | exact rfl))
        all_goals try (exfalso; omega)
        all_goals ((with_reducible first | apply k_fun | apply k_fun_norm); exact rx)
        all_goals rfl
    · have hb00 : 0 < s.buoys.length := by cases h : s.buoys with | nil => exact absurd h hb0 | cons q l => simp
      obtain ⟨iB, oB, rfl, hrB⟩ := (show SlA 2 ptc M aB s.buoys from hMs.buoys).resolve_left hb0
      have hg9 : Grow M M9 := xg
      have hwB : firstL 2 s.buoys.length (.slice (some (iB, oB)) s.buoys.length fB 2) M9 = some (s.buoys.flatMap ptc) := firstL_pts (fun k hk => (hrB k hk).grow hg9) rfl hb00
      clear hg9
      refine d_app_new (by exact gd) (old := []) (new := s.buoys.flatMap ptc) rfl rfl rfl hb00 (by omega) rfl rfl hwB (flat_pts _) (.inr rfl) ?_
      intro m1 MB1 hnm1 eB11 eB12
      (repeat' (first | (with_reducible intro _) | refine sv ?_ | (refine sc ?_ ?_ <;> (intro h; try first | exact h.elim | exact absurd rfl h | (exfalso; omega))) | (refine sg ?_ ?_ <;> (intro h; (fail_if_success (have : True := h)); try first | exact h.elim | exact absurd rfl h | (exfalso; omega))) | assumption | exact xm | exact rfl))
      rename_i n49 MA hn49 eA1 eA2
      have am1 : At MB1 m1 (.cells true (s.buoys.flatMap ptc) 30) := At.new_same hnm1
      have hw2 : firstL 2 (0 + s.buoys.length) (.slice (some (m1, 0)) (0 + s.buoys.length) false 2) MA = some (s.buoys.flatMap ptc) := by rw [Nat.zero_add]; exact firstL_pts (rd_pts (At.new_old hn49 am1)) rfl hb00
      refine d_app_kill (by exact gd) (new := ptc p) rfl rfl rfl (by omega) (by omega) rfl hw2 (firstL_pts (l := [p]) (rd_pts (At.new_same hn49)) rfl (by simp)) rfl (At.new_old hn49 am1) ?_
      intro m MB hkm eB1 eB2 am0
      have am : At MB m (.cells true ((s.buoys ++ [p]).flatMap ptc) 30) := by rw [List.flatMap_append, List.flatMap_singleton]; exact am0
      refine xd_know (t := 50) (v' := .slice (some (m, 0)) (s.buoys ++ [p]).length false 2) rfl (by rw [hbl, Nat.zero_add]) ?_
      (repeat' (first | (with_reducible intro _) | refine sv ?_ | (refine sc ?_ ?_ <;> (intro h; try first | exact h.elim | exact absurd rfl h | (exfalso; omega))) | ((with_reducible first | apply x_call | apply d_call | apply x_call0); exact gd; exact rfl; exact rfl; (first | exact hpO _ (xg))) | (refine sg ?_ ?_ <;> (intro h; (fail_if_success (have : True := h)); try first | exact h.elim | exact absurd rfl h | (exfalso; omega))) | assumption | exact xm | exact rfl))
      rename_i w MC hq
      obtain ⟨hgC, sl1, rfl, _⟩ := hq
      have hleC := hgC.le
      rcases hmore with ⟨z2, hz2, hz2le⟩ | hz2
      all_goals
        rw [hz2] at hp2
        dsimp only at hp2
        (repeat' (first | (with_reducible intro _) | refine sv ?_ | (refine sc ?_ ?_ <;> (intro h; try first | exact h.elim | exact absurd rfl h | (exfalso; omega))) | ((with_reducible first | apply x_call | apply d_call | apply x_call0); exact gd; exact rfl; exact rfl; (first | exact hp2 m _ (xg) (xm))) | (refine sg ?_ ?_ <;> (intro h; (fail_if_success (have : True := h)); try first | exact h.elim | exact absurd rfl h | (exfalso; omega))) | assumption | exact xm | exact rfl))
        rename_i w2 MD hq2
        obtain ⟨hgD, sl2, rfl, _⟩ := hq2
        have hleD := hgD.le
        (repeat' (first | (with_reducible intro _) | refine sv ?_ | (refine sc ?_ ?_ <;> (intro h; try first | exact h.elim | exact absurd rfl h | (exfalso; omega))) | ((with_reducible first | apply x_same | apply d_same); exact gd; exact rfl; exact rfl; (first | exact c_works _)) | (refine sg ?_ ?_ <;> (intro h; (fail_if_success (have : True := h)); try first | exact h.elim | exact absurd rfl h | (exfalso; omega))) | assumption | exact xm | exact rfl))
        all_goals try (exfalso; omega)
        all_goals ((with_reducible first | apply k_fun | apply k_fun_norm); exact rx)
        all_goals rfl
end Go.Proofs.Ytpccafeedfpbaaa.C
