/-
  Part of the proof of CourseCheapest: what functions of the program and of the statement come to, walked by the rules. No condition beyond those in each theorem.
-/
import Derived.Test.YtpccafeedfpbaaaGreatVG
import Derived.Test.YtpccafeedfpbaaaGreatVE
open Go PvL Go.Proofs
set_option linter.unusedVariables false
set_option linter.unusedSimpArgs false
namespace Go.Proofs.YtpccafeedfpbaaaGreat.C
theorem c_works (M : Mem) : CallOk Tryz.prog 16 [] M (fun w M' => w = .bool true ∧ M' = M) := ⟨_, _, om_ask rfl M, rfl, rfl⟩
theorem best_priced {s : Cr} {a b : Pose} {y : Psg} (h : bestF s a b = some y) : pricedF s a b y.1 = some y.2 := by
  obtain ⟨h1, h2, h3, _⟩ := mem_pass (best_some h).1
  unfold pricedF
  rw [if_pos ⟨h2, h3⟩]; exact h1
set_option maxHeartbeats 16000000 in
theorem c_CourseCheapest {A : CrA} {s : Cr} {a b : Pose} {aI : Option (Nat × Nat)} {fI : Bool} {l : List Int} {M : Mem} (hM : CrM M A s) (hl : SlA 1 (fun n => [I n]) M aI l) (hlen : l.length ≤ 1000000000000000) :
    CallOk Tryz.prog 8 [crv A s, .agg [I a.1.1, I a.1.2, I a.2, I b.1.1, I b.1.2, I b.2], .slice aI l.length fI 1] M (fun v M' => v = .bool true) := by
  have hp := fun M' (hg : Grow M M') => c_Passage (a := a) (b := b) (hM.grow hg)
  refine call_in k8 rfl ?_
  dsimp only [x8, zipE, Nat.reduceAdd]
  (repeat' (first | (with_reducible intro _) | refine sv ?_ | (refine sc ?_ ?_ <;> (intro h; try first | exact h.elim | exact absurd rfl h | (exfalso; omega))) | ((with_reducible first | apply x_call | apply d_call | apply x_call0); exact gd; exact rfl; exact rfl; (first | exact hp _ (xg))) | (refine sg ?_ ?_ <;> (intro h; (fail_if_success (have : True := h)); try first | exact h.elim | exact absurd rfl h | (exfalso; omega))) | assumption | exact xm | exact rfl))
  rename_i n3 M1 hn3 e1 e2 n4 M2 hn4 e3 e4 w M3 hq
  obtain ⟨hg3, sl, rfl, hsl⟩ := hq
  have hle3 := hg3.le
  unfold PassageF at hsl ⊢
  by_cases hok : CrOk s
  rotate_left
  · rw [if_neg hok] at hsl ⊢
    obtain ⟨ax, fx, ex, rfl⟩ := hsl.shape
    (repeat' (first | (with_reducible intro _) | refine sv ?_ | (refine sc ?_ ?_ <;> (intro h; try first | exact h.elim | exact absurd rfl h | (exfalso; omega))) | ((with_reducible first | apply x_same | apply d_same); exact gd; exact rfl; exact rfl; (first | exact c_works _)) | (refine sg ?_ ?_ <;> (intro h; (fail_if_success (have : True := h)); try first | exact h.elim | exact absurd rfl h | (exfalso; omega))) | assumption | exact xm | exact rfl))
    all_goals ((with_reducible first | apply k_fun | apply k_fun_norm); exact rx)
    all_goals rfl
  rw [if_pos hok] at hsl ⊢
  by_cases hpo : PoseOk a ∧ PoseOk b
  rotate_left
  · rw [if_neg hpo] at hsl ⊢
    obtain ⟨ax, fx, ex, rfl⟩ := hsl.shape
    (repeat' (first | (with_reducible intro _) | refine sv ?_ | (refine sc ?_ ?_ <;> (intro h; try first | exact h.elim | exact absurd rfl h | (exfalso; omega))) | ((with_reducible first | apply x_same | apply d_same); exact gd; exact rfl; exact rfl; (first | exact c_works _)) | (refine sg ?_ ?_ <;> (intro h; (fail_if_success (have : True := h)); try first | exact h.elim | exact absurd rfl h | (exfalso; omega))) | assumption | exact xm | exact rfl))
    all_goals ((with_reducible first | apply k_fun | apply k_fun_norm); exact rx)
    all_goals rfl
  rw [if_pos hpo] at hsl ⊢
  have hother : ∀ (u : List Nat) (oth : List Pt) (c : Int), UsOk s u → oth = (if u = [] ∧ a.1 = b.1 then [a.1] else [a.1] ++ byB s u ++ [b.1]) → pricedF s a b oth = some c → ∃ y, bestF s a b = some y ∧ y.2 ≤ c := by
    intro u oth c hu ho hc
    have hc' : costP s oth a.2 b.2 = some c := by
      unfold pricedF at hc
      split at hc
      · exact hc
      · cases hc
    refine best_le (x := (oth, c)) hc' ?_
    by_cases hx : u = [] ∧ a.1 = b.1
    · rw [if_pos hx] at ho
      exact .inl ⟨hx.2, ho⟩
    · rw [if_neg hx] at ho
      exact .inr ⟨u, hu.nd, hu.lt, ho⟩
  have hus : ∀ j, UsOk s ((l.take j).foldl (byStep s) []) := by
    intro j
    have : ∀ (m : List Int) (u : List Nat), UsOk s u → UsOk s (m.foldl (byStep s) u) := by
      intro m
      induction m with
      | nil => intro u h; exact h
      | cons x m ih => intro u h; exact ih _ (h.step x)
    exact this _ _ ⟨List.nodup_nil, fun k hk => (by cases hk)⟩
  have hnb := hok.nb
  cases hbf : bestF s a b with
  | none =>
    rw [hbf] at hsl hother
    dsimp only at hsl ⊢
    obtain ⟨ax, fx, ex, rfl⟩ := hsl.shape
    (repeat' (first | (with_reducible intro _) | refine sv ?_ | (refine sc ?_ ?_ <;> (intro h; try first | exact h.elim | exact absurd rfl h | (exfalso; omega))) | (refine sg ?_ ?_ <;> (intro h; (fail_if_success (have : True := h)); try first | exact h.elim | exact absurd rfl h | (exfalso; omega))) | assumption | exact xm | exact rfl))
    rename_i n66 M4 hn66 e5 e6
    have a3 : At M4 n3 (.cells true (crc A s) 35) := xm
    have a4 : At M4 n4 (.cells true [I a.1.1, I a.1.2, I a.2, I b.1.1, I b.1.2, I b.2] 62) := xm
    have hgM : Grow M M4 := xg
    have hn3l : n3 < n66 := by omega
    have hn4l : n4 < n66 := by omega
    have hn66M : M.next ≤ n66 := by omega
    refine w_loop_ind (fun n E ms M' => ∃ (j : Nat) (vu vo : LV), n = l.length - j ∧ j ≤ l.length ∧ ms = [] ∧ Has E [(2, .slice aI l.length fI 1), (3, .ptr (some (n3, 0))), (4, .ptr (some (n4, 0))), (8, I 0), (9, I 4), (12, vo), (13, vu), (14, I j)] ∧ Grow M M' ∧ M4.next ≤ M'.next ∧ At M' n3 (.cells true (crc A s) 35) ∧
        At M' n4 (.cells true [I a.1.1, I a.1.2, I a.2, I b.1.1, I b.1.2, I b.2] 62) ∧ Vec n66 1 3 intc M' vu ((l.take j).foldl (byStep s) []) ∧ Own n66 2 30 ptc M' vo ([a.1] ++ byB s ((l.take j).foldl (byStep s) []))) ?_ l.length _ _ _
      ⟨0, _, _, by omega, by omega, rfl, .cons rfl (.cons rfl (.cons rfl (.cons rfl (.cons rfl (.cons rfl (.cons rfl (.cons rfl .nil))))))), hgM, by omega, a3, a4, .nil, n66, true, rfl, At.new_same hn66, Nat.le_refl _⟩
    rintro n E ms M5 ⟨j, vu, vo, rfl, hj, rfl, hE, hG, hle5, b3, b4, hvu, hvo⟩
    have hleG := hG.le
    have hu := hus j
    have hul := hu.le hok
    refine w_has hE ?_
    by_cases hlast : j = l.length
    · subst hlast
      have hbl : ([a.1] ++ byB s ((l.take l.length).foldl (byStep s) [])).length = ((l.take l.length).foldl (byStep s) []).length + 1 := by simp [byB]
      have hpl : ∀ p ∈ [a.1] ++ byB s ((l.take l.length).foldl (byStep s) []) ++ [b.1], PlP p := fun p hp => by
        rcases List.mem_append.1 hp with hp | hp
        · rcases List.mem_append.1 hp with hp | hp
          · obtain rfl := List.mem_singleton.1 hp; exact hpo.1.1
          · obtain ⟨k, hk, rfl⟩ := List.mem_map.1 hp
            rw [getD_eq (hu.lt k hk)]; exact hok.buoys _ (List.getElem_mem _)
        · obtain rfl := List.mem_singleton.1 hp; exact hpo.2.1
      generalize (l.take l.length).foldl (byStep s) [] = u at *
      by_cases hx : u = [] ∧ a.1 = b.1
      · obtain ⟨iv, fv, rfl, av, hiv⟩ := hvo
        have hq1 : a.1.1 = b.1.1 ∧ a.1.2 = b.1.2 := by rw [hx.2]; exact ⟨rfl, rfl⟩
        have hul0 : u.length = 0 := by rw [hx.1]; rfl
        have hpr2 := fun M' (hg : Grow M M') (q : At M' iv (.cells true (([a.1] ++ byB s u).flatMap ptc) 30)) => c_priced (f := fv) (hM.grow hg) hok hpo.1 hpo.2 (rd_pts q) (by rw [hbl]; omega) (by rw [hbl]; omega) (fun p hp => hpl p (List.mem_append_left _ hp))
        rw [hbl] at hpr2
        rw [hbl] at *
        cases hpf : pricedF s a b ([a.1] ++ byB s u) with
        | none =>
          rw [hpf] at hpr2
          simp only [Option.getD_none, Option.isSome_none] at hpr2
          (repeat' (first | (with_reducible intro _) | refine sv ?_ | (refine sc ?_ ?_ <;> (intro h; try first | exact h.elim | exact absurd rfl h | (exfalso; omega))) | ((with_reducible first | apply x_same | apply d_same); exact gd; exact rfl; exact rfl; (first | exact c_works _)) | ((with_reducible first | apply x_pure | apply d_pure); exact gd; exact rfl; exact rfl; (first | exact hpr2 _ (xg) (xm))) | (refine sg ?_ ?_ <;> (intro h; (fail_if_success (have : True := h)); try first | exact h.elim | exact absurd rfl h | (exfalso; omega))) | assumption | exact xm | exact rfl))
          all_goals try (exfalso; omega)
          all_goals ((with_reducible first | apply k_fun | apply k_fun_norm); exact rx)
          all_goals rfl
        | some c =>
          obtain ⟨y', h1, h2⟩ := hother u _ c hu (by rw [if_pos hx, hx.1]; rfl) hpf
          rw [hpf] at hpr2
          simp only [Option.getD_some, Option.isSome_some] at hpr2
          cases h1 <;> ((repeat' (first | (with_reducible intro _) | refine sv ?_ | (refine sc ?_ ?_ <;> (intro h; try first | exact h.elim | exact absurd rfl h | (exfalso; omega))) | ((with_reducible first | apply x_same | apply d_same); exact gd; exact rfl; exact rfl; (first | exact c_works _)) | ((with_reducible first | apply x_pure | apply d_pure); exact gd; exact rfl; exact rfl; (first | exact hpr2 _ (xg) (xm))) | (refine sg ?_ ?_ <;> (intro h; (fail_if_success (have : True := h)); try first | exact h.elim | exact absurd rfl h | (exfalso; omega))) | assumption | exact xm | exact rfl)))
          all_goals try (exfalso; omega)
          all_goals ((with_reducible first | apply k_fun | apply k_fun_norm); exact rx)
          all_goals rfl
      · have hlen2 : ([a.1] ++ byB s u ++ [b.1]).length = u.length + 1 + 1 := by rw [List.length_append, hbl]; rfl
        have hq1 : ¬ (u.length = 0 ∧ a.1.1 = b.1.1 ∧ a.1.2 = b.1.2) := fun h => hx ⟨List.length_eq_zero_iff.1 h.1, Prod.ext h.2.1 h.2.2⟩
        obtain ⟨iv, fv, rfl, av, hiv⟩ := hvo
        rw [hbl]
        (repeat' (first | (with_reducible intro _) | refine sv ?_ | (refine sc ?_ ?_ <;> (intro h; try first | exact h.elim | exact absurd rfl h | (exfalso; omega))) | (refine sg ?_ ?_ <;> (intro h; (fail_if_success (have : True := h)); try first | exact h.elim | exact absurd rfl h | (exfalso; omega))) | assumption | exact xm | exact rfl))
        all_goals try (exfalso; omega)
        all_goals (rename_i n117 M6 hn117 e7 e8; refine x_own_app (by exact gd) (l := [a.1] ++ byB s u) (b := n66) (enc := ptc) (l' := [b.1]) ⟨iv, fv, rfl, xm, hiv⟩ (by rw [hbl]; rfl) rfl rfl (by simp) (by rw [hbl]; simp; omega) rfl (firstL_pts (l := [b.1]) (rd_pts (At.new_same hn117)) rfl (by simp)) (fun _ => rfl) (fun _ => rfl) (by omega) ?_)
        all_goals (rintro vo7 M7 ⟨i7, f7, rfl, a7, hi7⟩ e9 hk7; rw [hlen2])
        all_goals
          have hpr2 := fun M' (hg : Grow M M') (q : At M' i7 (.cells true (([a.1] ++ byB s u ++ [b.1]).flatMap ptc) 30)) => c_priced (f := f7) (hM.grow hg) hok hpo.1 hpo.2 (rd_pts q) (by rw [hlen2]; omega) (by rw [hlen2]; omega) hpl
          rw [hlen2] at hpr2
          cases hpf : pricedF s a b ([a.1] ++ byB s u ++ [b.1]) with
          | none =>
            rw [hpf] at hpr2
            simp only [Option.getD_none, Option.isSome_none] at hpr2
            (repeat' (first | (with_reducible intro _) | refine sv ?_ | (refine sc ?_ ?_ <;> (intro h; try first | exact h.elim | exact absurd rfl h | (exfalso; omega))) | ((with_reducible first | apply x_same | apply d_same); exact gd; exact rfl; exact rfl; (first | exact c_works _)) | ((with_reducible first | apply x_pure | apply d_pure); exact gd; exact rfl; exact rfl; (first | exact hpr2 _ (xg) (xm))) | (refine sg ?_ ?_ <;> (intro h; (fail_if_success (have : True := h)); try first | exact h.elim | exact absurd rfl h | (exfalso; omega))) | assumption | exact xm | exact rfl))
            all_goals try (exfalso; omega)
            all_goals ((with_reducible first | apply k_fun | apply k_fun_norm); exact rx)
            all_goals rfl
          | some c =>
            obtain ⟨y', h1, h2⟩ := hother u _ c hu (by rw [if_neg hx]) hpf
            rw [hpf] at hpr2
            simp only [Option.getD_some, Option.isSome_some] at hpr2
            cases h1 <;> ((repeat' (first | (with_reducible intro _) | refine sv ?_ | (refine sc ?_ ?_ <;> (intro h; try first | exact h.elim | exact absurd rfl h | (exfalso; omega))) | ((with_reducible first | apply x_same | apply d_same); exact gd; exact rfl; exact rfl; (first | exact c_works _)) | ((with_reducible first | apply x_pure | apply d_pure); exact gd; exact rfl; exact rfl; (first | exact hpr2 _ (xg) (xm))) | (refine sg ?_ ?_ <;> (intro h; (fail_if_success (have : True := h)); try first | exact h.elim | exact absurd rfl h | (exfalso; omega))) | assumption | exact xm | exact rfl)))
            all_goals try (exfalso; omega)
            all_goals ((with_reducible first | apply k_fun | apply k_fun_norm); exact rx)
            all_goals rfl
    have hlt : j < l.length := by omega
    have htk : (l.take (j + 1)).foldl (byStep s) [] = byStep s ((l.take j).foldl (byStep s) []) l[j] := take_foldl hlt
    have hus1 := hus (j + 1)
    generalize hu1 : (l.take (j + 1)).foldl (byStep s) [] = u1 at *
    generalize (l.take j).foldl (byStep s) [] = u at *
    unfold byStep at htk
    obtain ⟨iI, oI, rfl, hrI⟩ := hl.resolve_left (fun h => by rw [h] at hlt; simp at hlt)
    have rI : Rd1 M5 iI (oI + j * 1) (I l[j]) := ((hrI j hlt).nth (j := 0) rfl).grow hG
    have hrb := restF_bd (x := l[j]) (m := 4) (by omega)
    have hcR := c_RestM l[j] 4 (by omega)
    obtain ⟨kn, hkn⟩ := Int.eq_ofNat_of_zero_le hrb.1
    rw [hkn] at hcR hrb htk
    rw [Int.toNat_natCast] at htk
    by_cases hk : kn < s.buoys.length
    rotate_left
    · rw [if_neg (fun h => hk h.1)] at htk
      (have hrd0 := rI; repeat' (first | (with_reducible intro _) | refine sv ?_ | (refine sc ?_ ?_ <;> (intro h; try first | exact h.elim | exact absurd rfl h | (exfalso; omega))) | ((with_reducible first | apply x_same | apply d_same); exact gd; exact rfl; exact rfl; (first | exact hcR _)) | (refine sg ?_ ?_ <;> (intro h; (fail_if_success (have : True := h)); try first | exact h.elim | exact absurd rfl h | (exfalso; omega))) | assumption | exact xm | exact rfl))
      all_goals try (exfalso; omega)
      refine k_step (l.length - (j + 1)) (by omega) ⟨j + 1, vu, vo, rfl, by omega, rfl, .cons rfl (.cons rfl (.cons rfl (.cons rfl (.cons rfl (.cons rfl (.cons rfl (.cons rfl .nil))))))), xg, by omega, xm, xm, by rw [hu1, htk]; exact hvu, by rw [hu1, htk]; exact hvo⟩
    by_cases hm : kn ∈ u
    · rw [if_neg (fun h => h.2 hm)] at htk
      (have hrd0 := rI; repeat' (first | (with_reducible intro _) | refine sv ?_ | (refine sc ?_ ?_ <;> (intro h; try first | exact h.elim | exact absurd rfl h | (exfalso; omega))) | ((with_reducible first | apply x_same | apply d_same); exact gd; exact rfl; exact rfl; (first | exact hcR _)) | (refine sg ?_ ?_ <;> (intro h; (fail_if_success (have : True := h)); try first | exact h.elim | exact absurd rfl h | (exfalso; omega))) | assumption | exact xm | exact rfl))
      all_goals try (exfalso; omega)
      refine x_call (by exact gd) rfl rfl (show AppOk Tryz.prog _ _ M5 _ from c_Index hvu (by omega)) ?_
      rintro w M6 ⟨rfl, r, rfl, hr, hr1⟩
      have hr2 := hr.2 hm
      (repeat' (first | (with_reducible intro _) | refine sv ?_ | (refine sc ?_ ?_ <;> (intro h; try first | exact h.elim | exact absurd rfl h | (exfalso; omega))) | (refine sg ?_ ?_ <;> (intro h; (fail_if_success (have : True := h)); try first | exact h.elim | exact absurd rfl h | (exfalso; omega))) | assumption | exact xm | exact rfl))
      all_goals try (exfalso; omega)
      refine k_step (l.length - (j + 1)) (by omega) ⟨j + 1, vu, vo, rfl, by omega, rfl, .cons rfl (.cons rfl (.cons rfl (.cons rfl (.cons rfl (.cons rfl (.cons rfl (.cons rfl .nil))))))), xg, by omega, xm, xm, by rw [hu1, htk]; exact hvu, by rw [hu1, htk]; exact hvo⟩
    rw [if_pos ⟨hk, hm⟩] at htk
    (have hrd0 := rI; repeat' (first | (with_reducible intro _) | refine sv ?_ | (refine sc ?_ ?_ <;> (intro h; try first | exact h.elim | exact absurd rfl h | (exfalso; omega))) | ((with_reducible first | apply x_same | apply d_same); exact gd; exact rfl; exact rfl; (first | exact hcR _)) | (refine sg ?_ ?_ <;> (intro h; (fail_if_success (have : True := h)); try first | exact h.elim | exact absurd rfl h | (exfalso; omega))) | assumption | exact xm | exact rfl))
    all_goals try (exfalso; omega)
    refine x_call (by exact gd) rfl rfl (show AppOk Tryz.prog _ _ M5 _ from c_Index hvu (by omega)) ?_
    rintro w M6 ⟨rfl, r, rfl, hr, hr1⟩
    have hr2 : ¬ 0 ≤ r := fun h => hm (hr.1 h)
    (repeat' (first | (with_reducible intro _) | refine sv ?_ | (refine sc ?_ ?_ <;> (intro h; try first | exact h.elim | exact absurd rfl h | (exfalso; omega))) | (refine sg ?_ ?_ <;> (intro h; (fail_if_success (have : True := h)); try first | exact h.elim | exact absurd rfl h | (exfalso; omega))) | assumption | exact xm | exact rfl))
    all_goals try (exfalso; omega)
    rename_i n91 M7 hn91 e7 e8
    have hw1 : firstL 1 1 (.slice (some (n91, 0)) 1 true 1) M7 = some ([kn].flatMap intc) := firstL_rd (enc := intc) (l := [kn]) (fun _ _ => rfl) (fun k hk => rd_flat (enc := intc) (l := [kn]) (At.new_same hn91) (fun _ _ => rfl) hk)
    refine d_vec_app (by exact gd) (hvu.grow hn91.grow) rfl rfl rfl (l' := [kn]) (by simp) (by simp; omega) rfl hw1 (fun _ => rfl) (fun _ => rfl) (by omega) ?_
    intro vu7 M8 hvu8 e9 hk8
    have hle8 := hk8.le
    have b38 : At M8 n3 (.cells true (crc A s) 35) := xm
    obtain ⟨iv, fv, rfl, av, hiv⟩ := hvo
    have av8 : At M8 iv (.cells true (([a.1] ++ byB s u).flatMap ptc) 30) := (At.new_old hn91 av).keep hk8 (by
      rintro ⟨_, o, n, f, e, h⟩
      rcases hvu with ⟨_, h1⟩ | ⟨i', h1, h2, _⟩
      · rw [h1] at h; cases h
      · rw [h1] at h; cases h
        exact absurd (at_ty av h2) (by decide))
    obtain ⟨aL, fL, aF, fF, aB, fB, aO, fO⟩ := A
    obtain ⟨iB, oB, rfl, hrB⟩ := (show SlA 2 ptc M aB s.buoys from hM.buoys).resolve_left (fun h => by rw [h] at hk; simp at hk)
    have hg8 : Grow M M8 := xg
    have rB6 := (hrB kn hk).grow hG
    have rB8 := (hrB kn hk).grow hg8
    clear hg8
    have hiB := rB8.2
    (repeat' (first | (with_reducible intro _) | refine sv ?_ | (refine sc ?_ ?_ <;> (intro h; try first | exact h.elim | exact absurd rfl h | (exfalso; omega))) | (refine sg ?_ ?_ <;> (intro h; (fail_if_success (have : True := h)); try first | exact h.elim | exact absurd rfl h | (exfalso; omega))) | assumption | exact xm | exact rfl))
    rename_i n99 M9 hn99 e10 e11
    have hbl : ([a.1] ++ byB s u).length = u.length + 1 := by simp [byB]
    have av9 := At.new_old hn99 av8
    refine d_own_app (by exact gd) (l := [a.1] ++ byB s u) (b := n66) (enc := ptc) (l' := [s.buoys[kn]]) ⟨iv, fv, rfl, av9, hiv⟩ rfl rfl rfl (by simp) (by rw [hbl]; simp; omega) rfl (firstL_pts (l := [s.buoys[kn]]) (rd_pts (At.new_same hn99)) rfl (by simp)) (fun _ => rfl) (fun _ => rfl) (by omega) ?_
    intro vo10 M10 hvo10 e12 hk10
    have hle10 := hk10.le
    have hvu10 := Vec.keep_ne (hvu8.grow hn99.grow) hk10 (fun i hi hf => by
      obtain ⟨_, o, n, f, e, h⟩ := hf
      cases h
      exact absurd (at_ty hi av9) (by decide))
    (repeat' (first | (with_reducible intro _) | refine sv ?_ | (refine sc ?_ ?_ <;> (intro h; try first | exact h.elim | exact absurd rfl h | (exfalso; omega))) | (refine sg ?_ ?_ <;> (intro h; (fail_if_success (have : True := h)); try first | exact h.elim | exact absurd rfl h | (exfalso; omega))) | assumption | exact xm | exact rfl))
    refine k_step (l.length - (j + 1)) (by omega) ⟨j + 1, vu7, vo10, rfl, by omega, rfl, .cons rfl (.cons rfl (.cons rfl (.cons rfl (.cons rfl (.cons rfl (.cons rfl (.cons rfl .nil))))))), xg, by omega, xm, xm, by rw [hu1, htk]; exact hvu10, by rw [hu1, htk, byB_app hk]; exact hvo10⟩
  | some y =>
    rw [hbf] at hsl hother
    dsimp only at hsl ⊢
    have hy := pass_pl hok hpo.1.1 hpo.2.1 (best_some hbf).1
    have hy0 : 0 < y.1.length := by
      have := (mem_pass (best_some hbf).1).2.1
      cases h : y.1 with
      | nil => rw [h] at this; cases this
      | cons q l => simp
    obtain ⟨e, _⟩ | ⟨iy, rfl, ay, hby⟩ := hsl
    · rw [show y.1 = [] from e] at hy0; simp at hy0
    have hpr := fun M' (hg : Grow M M') (q : At M' iy (.cells true (y.1.flatMap ptc) 30)) => c_priced (f := false) (hM.grow hg) hok hpo.1 hpo.2 (rd_pts q) hy0 (by omega) hy.1
    rw [best_priced hbf] at hpr
    (repeat' (first | (with_reducible intro _) | refine sv ?_ | (refine sc ?_ ?_ <;> (intro h; try first | exact h.elim | exact absurd rfl h | (exfalso; omega))) | ((with_reducible first | apply x_pure | apply d_pure); exact gd; exact rfl; exact rfl; (first | exact hpr _ (xg) (xm))) | (refine sg ?_ ?_ <;> (intro h; (fail_if_success (have : True := h)); try first | exact h.elim | exact absurd rfl h | (exfalso; omega))) | assumption | exact xm | exact rfl))
    rename_i n66 M4 hn66 e5 e6
    have a3 : At M4 n3 (.cells true (crc A s) 35) := xm
    have a4 : At M4 n4 (.cells true [I a.1.1, I a.1.2, I a.2, I b.1.1, I b.1.2, I b.2] 62) := xm
    have hgM : Grow M M4 := xg
    have hn3l : n3 < n66 := by omega
    have hn4l : n4 < n66 := by omega
    have hn66M : M.next ≤ n66 := by omega
    refine w_loop_ind (fun n E ms M' => ∃ (j : Nat) (vu vo : LV), n = l.length - j ∧ j ≤ l.length ∧ ms = [] ∧ Has E [(2, .slice aI l.length fI 1), (3, .ptr (some (n3, 0))), (4, .ptr (some (n4, 0))), (8, I y.2), (9, I 0), (12, vo), (13, vu), (14, I j)] ∧ Grow M M' ∧ M4.next ≤ M'.next ∧ At M' n3 (.cells true (crc A s) 35) ∧
        At M' n4 (.cells true [I a.1.1, I a.1.2, I a.2, I b.1.1, I b.1.2, I b.2] 62) ∧ Vec n66 1 3 intc M' vu ((l.take j).foldl (byStep s) []) ∧ Own n66 2 30 ptc M' vo ([a.1] ++ byB s ((l.take j).foldl (byStep s) []))) ?_ l.length _ _ _
      ⟨0, _, _, by omega, by omega, rfl, .cons rfl (.cons rfl (.cons rfl (.cons rfl (.cons rfl (.cons rfl (.cons rfl (.cons rfl .nil))))))), hgM, by omega, a3, a4, .nil, n66, true, rfl, At.new_same hn66, Nat.le_refl _⟩
    rintro n E ms M5 ⟨j, vu, vo, rfl, hj, rfl, hE, hG, hle5, b3, b4, hvu, hvo⟩
    have hleG := hG.le
    have hu := hus j
    have hul := hu.le hok
    refine w_has hE ?_
    by_cases hlast : j = l.length
    · subst hlast
      have hbl : ([a.1] ++ byB s ((l.take l.length).foldl (byStep s) [])).length = ((l.take l.length).foldl (byStep s) []).length + 1 := by simp [byB]
      have hpl : ∀ p ∈ [a.1] ++ byB s ((l.take l.length).foldl (byStep s) []) ++ [b.1], PlP p := fun p hp => by
        rcases List.mem_append.1 hp with hp | hp
        · rcases List.mem_append.1 hp with hp | hp
          · obtain rfl := List.mem_singleton.1 hp; exact hpo.1.1
          · obtain ⟨k, hk, rfl⟩ := List.mem_map.1 hp
            rw [getD_eq (hu.lt k hk)]; exact hok.buoys _ (List.getElem_mem _)
        · obtain rfl := List.mem_singleton.1 hp; exact hpo.2.1
      generalize (l.take l.length).foldl (byStep s) [] = u at *
      by_cases hx : u = [] ∧ a.1 = b.1
      · obtain ⟨iv, fv, rfl, av, hiv⟩ := hvo
        have hq1 : a.1.1 = b.1.1 ∧ a.1.2 = b.1.2 := by rw [hx.2]; exact ⟨rfl, rfl⟩
        have hul0 : u.length = 0 := by rw [hx.1]; rfl
        have hpr2 := fun M' (hg : Grow M M') (q : At M' iv (.cells true (([a.1] ++ byB s u).flatMap ptc) 30)) => c_priced (f := fv) (hM.grow hg) hok hpo.1 hpo.2 (rd_pts q) (by rw [hbl]; omega) (by rw [hbl]; omega) (fun p hp => hpl p (List.mem_append_left _ hp))
        rw [hbl] at hpr2
        rw [hbl] at *
        cases hpf : pricedF s a b ([a.1] ++ byB s u) with
        | none =>
          rw [hpf] at hpr2
          simp only [Option.getD_none, Option.isSome_none] at hpr2
          (repeat' (first | (with_reducible intro _) | refine sv ?_ | (refine sc ?_ ?_ <;> (intro h; try first | exact h.elim | exact absurd rfl h | (exfalso; omega))) | ((with_reducible first | apply x_same | apply d_same); exact gd; exact rfl; exact rfl; (first | exact c_works _)) | ((with_reducible first | apply x_pure | apply d_pure); exact gd; exact rfl; exact rfl; (first | exact hpr2 _ (xg) (xm))) | (refine sg ?_ ?_ <;> (intro h; (fail_if_success (have : True := h)); try first | exact h.elim | exact absurd rfl h | (exfalso; omega))) | assumption | exact xm | exact rfl))
          all_goals try (exfalso; omega)
          all_goals ((with_reducible first | apply k_fun | apply k_fun_norm); exact rx)
          all_goals rfl
        | some c =>
          obtain ⟨y', h1, h2⟩ := hother u _ c hu (by rw [if_pos hx, hx.1]; rfl) hpf
          rw [hpf] at hpr2
          simp only [Option.getD_some, Option.isSome_some] at hpr2
          cases h1 <;> ((repeat' (first | (with_reducible intro _) | refine sv ?_ | (refine sc ?_ ?_ <;> (intro h; try first | exact h.elim | exact absurd rfl h | (exfalso; omega))) | ((with_reducible first | apply x_same | apply d_same); exact gd; exact rfl; exact rfl; (first | exact c_works _)) | ((with_reducible first | apply x_pure | apply d_pure); exact gd; exact rfl; exact rfl; (first | exact hpr2 _ (xg) (xm))) | (refine sg ?_ ?_ <;> (intro h; (fail_if_success (have : True := h)); try first | exact h.elim | exact absurd rfl h | (exfalso; omega))) | assumption | exact xm | exact rfl)))
          all_goals try (exfalso; omega)
          all_goals ((with_reducible first | apply k_fun | apply k_fun_norm); exact rx)
          all_goals rfl
      · have hlen2 : ([a.1] ++ byB s u ++ [b.1]).length = u.length + 1 + 1 := by rw [List.length_append, hbl]; rfl
        have hq1 : ¬ (u.length = 0 ∧ a.1.1 = b.1.1 ∧ a.1.2 = b.1.2) := fun h => hx ⟨List.length_eq_zero_iff.1 h.1, Prod.ext h.2.1 h.2.2⟩
        obtain ⟨iv, fv, rfl, av, hiv⟩ := hvo
        rw [hbl]
        (repeat' (first | (with_reducible intro _) | refine sv ?_ | (refine sc ?_ ?_ <;> (intro h; try first | exact h.elim | exact absurd rfl h | (exfalso; omega))) | (refine sg ?_ ?_ <;> (intro h; (fail_if_success (have : True := h)); try first | exact h.elim | exact absurd rfl h | (exfalso; omega))) | assumption | exact xm | exact rfl))
        all_goals try (exfalso; omega)
        all_goals (rename_i n117 M6 hn117 e7 e8; refine x_own_app (by exact gd) (l := [a.1] ++ byB s u) (b := n66) (enc := ptc) (l' := [b.1]) ⟨iv, fv, rfl, xm, hiv⟩ (by rw [hbl]; rfl) rfl rfl (by simp) (by rw [hbl]; simp; omega) rfl (firstL_pts (l := [b.1]) (rd_pts (At.new_same hn117)) rfl (by simp)) (fun _ => rfl) (fun _ => rfl) (by omega) ?_)
        all_goals (rintro vo7 M7 ⟨i7, f7, rfl, a7, hi7⟩ e9 hk7; rw [hlen2])
        all_goals
          have hpr2 := fun M' (hg : Grow M M') (q : At M' i7 (.cells true (([a.1] ++ byB s u ++ [b.1]).flatMap ptc) 30)) => c_priced (f := f7) (hM.grow hg) hok hpo.1 hpo.2 (rd_pts q) (by rw [hlen2]; omega) (by rw [hlen2]; omega) hpl
          rw [hlen2] at hpr2
          cases hpf : pricedF s a b ([a.1] ++ byB s u ++ [b.1]) with
          | none =>
            rw [hpf] at hpr2
            simp only [Option.getD_none, Option.isSome_none] at hpr2
            (repeat' (first | (with_reducible intro _) | refine sv ?_ | (refine sc ?_ ?_ <;> (intro h; try first | exact h.elim | exact absurd rfl h | (exfalso; omega))) | ((with_reducible first | apply x_same | apply d_same); exact gd; exact rfl; exact rfl; (first | exact c_works _)) | ((with_reducible first | apply x_pure | apply d_pure); exact gd; exact rfl; exact rfl; (first | exact hpr2 _ (xg) (xm))) | (refine sg ?_ ?_ <;> (intro h; (fail_if_success (have : True := h)); try first | exact h.elim | exact absurd rfl h | (exfalso; omega))) | assumption | exact xm | exact rfl))
            all_goals try (exfalso; omega)
            all_goals ((with_reducible first | apply k_fun | apply k_fun_norm); exact rx)
            all_goals rfl
          | some c =>
            obtain ⟨y', h1, h2⟩ := hother u _ c hu (by rw [if_neg hx]) hpf
            rw [hpf] at hpr2
            simp only [Option.getD_some, Option.isSome_some] at hpr2
            cases h1 <;> ((repeat' (first | (with_reducible intro _) | refine sv ?_ | (refine sc ?_ ?_ <;> (intro h; try first | exact h.elim | exact absurd rfl h | (exfalso; omega))) | ((with_reducible first | apply x_same | apply d_same); exact gd; exact rfl; exact rfl; (first | exact c_works _)) | ((with_reducible first | apply x_pure | apply d_pure); exact gd; exact rfl; exact rfl; (first | exact hpr2 _ (xg) (xm))) | (refine sg ?_ ?_ <;> (intro h; (fail_if_success (have : True := h)); try first | exact h.elim | exact absurd rfl h | (exfalso; omega))) | assumption | exact xm | exact rfl)))
            all_goals try (exfalso; omega)
            all_goals ((with_reducible first | apply k_fun | apply k_fun_norm); exact rx)
            all_goals rfl
    have hlt : j < l.length := by omega
    have htk : (l.take (j + 1)).foldl (byStep s) [] = byStep s ((l.take j).foldl (byStep s) []) l[j] := take_foldl hlt
    have hus1 := hus (j + 1)
    generalize hu1 : (l.take (j + 1)).foldl (byStep s) [] = u1 at *
    generalize (l.take j).foldl (byStep s) [] = u at *
    unfold byStep at htk
    obtain ⟨iI, oI, rfl, hrI⟩ := hl.resolve_left (fun h => by rw [h] at hlt; simp at hlt)
    have rI : Rd1 M5 iI (oI + j * 1) (I l[j]) := ((hrI j hlt).nth (j := 0) rfl).grow hG
    have hrb := restF_bd (x := l[j]) (m := 4) (by omega)
    have hcR := c_RestM l[j] 4 (by omega)
    obtain ⟨kn, hkn⟩ := Int.eq_ofNat_of_zero_le hrb.1
    rw [hkn] at hcR hrb htk
    rw [Int.toNat_natCast] at htk
    by_cases hk : kn < s.buoys.length
    rotate_left
    · rw [if_neg (fun h => hk h.1)] at htk
      (have hrd0 := rI; repeat' (first | (with_reducible intro _) | refine sv ?_ | (refine sc ?_ ?_ <;> (intro h; try first | exact h.elim | exact absurd rfl h | (exfalso; omega))) | ((with_reducible first | apply x_same | apply d_same); exact gd; exact rfl; exact rfl; (first | exact hcR _)) | (refine sg ?_ ?_ <;> (intro h; (fail_if_success (have : True := h)); try first | exact h.elim | exact absurd rfl h | (exfalso; omega))) | assumption | exact xm | exact rfl))
      all_goals try (exfalso; omega)
      refine k_step (l.length - (j + 1)) (by omega) ⟨j + 1, vu, vo, rfl, by omega, rfl, .cons rfl (.cons rfl (.cons rfl (.cons rfl (.cons rfl (.cons rfl (.cons rfl (.cons rfl .nil))))))), xg, by omega, xm, xm, by rw [hu1, htk]; exact hvu, by rw [hu1, htk]; exact hvo⟩
    by_cases hm : kn ∈ u
    · rw [if_neg (fun h => h.2 hm)] at htk
      (have hrd0 := rI; repeat' (first | (with_reducible intro _) | refine sv ?_ | (refine sc ?_ ?_ <;> (intro h; try first | exact h.elim | exact absurd rfl h | (exfalso; omega))) | ((with_reducible first | apply x_same | apply d_same); exact gd; exact rfl; exact rfl; (first | exact hcR _)) | (refine sg ?_ ?_ <;> (intro h; (fail_if_success (have : True := h)); try first | exact h.elim | exact absurd rfl h | (exfalso; omega))) | assumption | exact xm | exact rfl))
      all_goals try (exfalso; omega)
      refine x_call (by exact gd) rfl rfl (show AppOk Tryz.prog _ _ M5 _ from c_Index hvu (by omega)) ?_
      rintro w M6 ⟨rfl, r, rfl, hr, hr1⟩
      have hr2 := hr.2 hm
      (repeat' (first | (with_reducible intro _) | refine sv ?_ | (refine sc ?_ ?_ <;> (intro h; try first | exact h.elim | exact absurd rfl h | (exfalso; omega))) | (refine sg ?_ ?_ <;> (intro h; (fail_if_success (have : True := h)); try first | exact h.elim | exact absurd rfl h | (exfalso; omega))) | assumption | exact xm | exact rfl))
      all_goals try (exfalso; omega)
      refine k_step (l.length - (j + 1)) (by omega) ⟨j + 1, vu, vo, rfl, by omega, rfl, .cons rfl (.cons rfl (.cons rfl (.cons rfl (.cons rfl (.cons rfl (.cons rfl (.cons rfl .nil))))))), xg, by omega, xm, xm, by rw [hu1, htk]; exact hvu, by rw [hu1, htk]; exact hvo⟩
    rw [if_pos ⟨hk, hm⟩] at htk
    (have hrd0 := rI; repeat' (first | (with_reducible intro _) | refine sv ?_ | (refine sc ?_ ?_ <;> (intro h; try first | exact h.elim | exact absurd rfl h | (exfalso; omega))) | ((with_reducible first | apply x_same | apply d_same); exact gd; exact rfl; exact rfl; (first | exact hcR _)) | (refine sg ?_ ?_ <;> (intro h; (fail_if_success (have : True := h)); try first | exact h.elim | exact absurd rfl h | (exfalso; omega))) | assumption | exact xm | exact rfl))
    all_goals try (exfalso; omega)
    refine x_call (by exact gd) rfl rfl (show AppOk Tryz.prog _ _ M5 _ from c_Index hvu (by omega)) ?_
    rintro w M6 ⟨rfl, r, rfl, hr, hr1⟩
    have hr2 : ¬ 0 ≤ r := fun h => hm (hr.1 h)
    (repeat' (first | (with_reducible intro _) | refine sv ?_ | (refine sc ?_ ?_ <;> (intro h; try first | exact h.elim | exact absurd rfl h | (exfalso; omega))) | (refine sg ?_ ?_ <;> (intro h; (fail_if_success (have : True := h)); try first | exact h.elim | exact absurd rfl h | (exfalso; omega))) | assumption | exact xm | exact rfl))
    all_goals try (exfalso; omega)
    rename_i n91 M7 hn91 e7 e8
    have hw1 : firstL 1 1 (.slice (some (n91, 0)) 1 true 1) M7 = some ([kn].flatMap intc) := firstL_rd (enc := intc) (l := [kn]) (fun _ _ => rfl) (fun k hk => rd_flat (enc := intc) (l := [kn]) (At.new_same hn91) (fun _ _ => rfl) hk)
    refine d_vec_app (by exact gd) (hvu.grow hn91.grow) rfl rfl rfl (l' := [kn]) (by simp) (by simp; omega) rfl hw1 (fun _ => rfl) (fun _ => rfl) (by omega) ?_
    intro vu7 M8 hvu8 e9 hk8
    have hle8 := hk8.le
    have b38 : At M8 n3 (.cells true (crc A s) 35) := xm
    obtain ⟨iv, fv, rfl, av, hiv⟩ := hvo
    have av8 : At M8 iv (.cells true (([a.1] ++ byB s u).flatMap ptc) 30) := (At.new_old hn91 av).keep hk8 (by
      rintro ⟨_, o, n, f, e, h⟩
      rcases hvu with ⟨_, h1⟩ | ⟨i', h1, h2, _⟩
      · rw [h1] at h; cases h
      · rw [h1] at h; cases h
        exact absurd (at_ty av h2) (by decide))
    obtain ⟨aL, fL, aF, fF, aB, fB, aO, fO⟩ := A
    obtain ⟨iB, oB, rfl, hrB⟩ := (show SlA 2 ptc M aB s.buoys from hM.buoys).resolve_left (fun h => by rw [h] at hk; simp at hk)
    have hg8 : Grow M M8 := xg
    have rB6 := (hrB kn hk).grow hG
    have rB8 := (hrB kn hk).grow hg8
    clear hg8
    have hiB := rB8.2
    (repeat' (first | (with_reducible intro _) | refine sv ?_ | (refine sc ?_ ?_ <;> (intro h; try first | exact h.elim | exact absurd rfl h | (exfalso; omega))) | (refine sg ?_ ?_ <;> (intro h; (fail_if_success (have : True := h)); try first | exact h.elim | exact absurd rfl h | (exfalso; omega))) | assumption | exact xm | exact rfl))
    rename_i n99 M9 hn99 e10 e11
    have hbl : ([a.1] ++ byB s u).length = u.length + 1 := by simp [byB]
    have av9 := At.new_old hn99 av8
    refine d_own_app (by exact gd) (l := [a.1] ++ byB s u) (b := n66) (enc := ptc) (l' := [s.buoys[kn]]) ⟨iv, fv, rfl, av9, hiv⟩ rfl rfl rfl (by simp) (by rw [hbl]; simp; omega) rfl (firstL_pts (l := [s.buoys[kn]]) (rd_pts (At.new_same hn99)) rfl (by simp)) (fun _ => rfl) (fun _ => rfl) (by omega) ?_
    intro vo10 M10 hvo10 e12 hk10
    have hle10 := hk10.le
    have hvu10 := Vec.keep_ne (hvu8.grow hn99.grow) hk10 (fun i hi hf => by
      obtain ⟨_, o, n, f, e, h⟩ := hf
      cases h
      exact absurd (at_ty hi av9) (by decide))
    (repeat' (first | (with_reducible intro _) | refine sv ?_ | (refine sc ?_ ?_ <;> (intro h; try first | exact h.elim | exact absurd rfl h | (exfalso; omega))) | (refine sg ?_ ?_ <;> (intro h; (fail_if_success (have : True := h)); try first | exact h.elim | exact absurd rfl h | (exfalso; omega))) | assumption | exact xm | exact rfl))
    refine k_step (l.length - (j + 1)) (by omega) ⟨j + 1, vu7, vo10, rfl, by omega, rfl, .cons rfl (.cons rfl (.cons rfl (.cons rfl (.cons rfl (.cons rfl (.cons rfl (.cons rfl .nil))))))), xg, by omega, xm, xm, by rw [hu1, htk]; exact hvu10, by rw [hu1, htk, byB_app hk]; exact hvo10⟩
end Go.Proofs.YtpccafeedfpbaaaGreat.C
