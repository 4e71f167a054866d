/-
 Part of the proof of TapeLacks: what functions of the program and of the statement come to, walked by the rules. No condition beyond those in each theorem.
-/
import Derived.Test.YtbfnnllgdioccaaGreatDoorTS
import Derived.Test.YtbfnnllgdioccaaGreatDoorTW
section
open Go PvL Go.Proofs
set_option linter.unusedSimpArgs false
set_option linter.unusedVariables false
namespace Go.Proofs.YtbfnnllgdioccaaGreatDoor.C
set_option maxHeartbeats 16000000 in
theorem c_PoorR {M : Mem} {v : LV} {r : Rl} {F La Ch Sm Mo : Int} (hv : RlV1 M v r) (hin : RlIn r) : CallOk Tryz.prog 18 [v, .agg [I F, I La, I Ch, I Sm, I Mo]] M (fun w M' => ∃ a f e, w = .tup [.slice a (poorF r (F, La, Ch, Sm, Mo)).1.length f e, I (poorF r (F, La, Ch, Sm, Mo)).2] /\ SlI M' a (poorF r (F, La, Ch, Sm, Mo)).1 /\ Grow M M') := by
 have hv0 := hv
 obtain ⟨a, f, e, rfl, hs⟩ := hv
 refine call_in k18 rfl ?_
 dsimp only [x18, zipE, Nat.reduceAdd]
 have cc := fun M' (hg : Grow M M') => c_CheckReelR (hv0.to.grow hg) hin
 by_cases her : errRl r = 0
 case neg =>
  have he : poorF r (F, La, Ch, Sm, Mo) = ([], errRl r) := by unfold poorF; rw [if_neg her]
  rw [he]
  generalize errRl r = ER at *
  (repeat' (first | (with_reducible intro _) | refine sv ?_ | (refine sc ?_ ?_ <;> (intro h; try first | exact h.elim | exact absurd rfl h | (exfalso; omega))) | ((with_reducible first | apply x_pure | apply d_pure | apply d_pure0); exact gd; exact rfl; exact rfl; (first | exact cc _ (xg))) | (refine sg ?_ ?_ <;> (intro h; (fail_if_success (have : True := h)); try first | exact h.elim | exact absurd rfl h | (exfalso; omega))) | assumption | exact xm | exact rfl))
  all_goals try (exfalso; omega)
  ((with_reducible first | apply k_fun | apply k_fun_norm); exact rx)
  exact ⟨_, _, _, rfl, .inl rfl, xg⟩
 case pos =>
 rw [her] at cc
 have hE0 : wnB (F, La, Ch, Sm, Mo) = false -> poorF r (F, La, Ch, Sm, Mo) = ([], 84) := fun h => by unfold poorF; rw [if_pos her, h]; rfl
 have hE1 : wnB (F, La, Ch, Sm, Mo) = true -> poorF r (F, La, Ch, Sm, Mo) = (poorL r.2 (F, La, Ch, Sm, Mo) (La - F + 1).toNat, 0) := fun h => by unfold poorF; rw [if_pos her, h]; rfl
 have hwn : wnB (F, La, Ch, Sm, Mo) = (decide (0 <= F /\ F <= La) && (decide (0 <= La /\ La <= 60000) && (decide (La - F < 1000) && (btB Ch 1 24 && (btB Sm 1 64 && btB Mo 0 24))))) := rfl
 have hrk : rlK r.2 r.2.length = true := by
  unfold errRl rlB at her
  cases hk : rlK r.2 r.2.length with
  | true => rfl
  | false => rw [hk, Bool.and_false] at her; simp at her
 have hpq9 := fun s (hw : wnB (F, La, Ch, Sm, Mo) = true) => pq_eq (s := s) hrk hw
 generalize poorF r (F, La, Ch, Sm, Mo) = PF at *
 by_cases b0 : 0 <= F
 case neg =>
  rw [decide_eq_false (show ¬ (0 <= F /\ F <= La) by omega)] at hwn
  rw [hE0 (by rw [hwn]; try simp)]
  (repeat' (first | (with_reducible intro _) | refine sv ?_ | (refine sc ?_ ?_ <;> (intro h; try first | exact h.elim | exact absurd rfl h | (exfalso; omega))) | ((with_reducible first | apply x_pure | apply d_pure | apply d_pure0); exact gd; exact rfl; exact rfl; (first | exact cc _ (xg))) | (refine sg ?_ ?_ <;> (intro h; (fail_if_success (have : True := h)); try first | exact h.elim | exact absurd rfl h | (exfalso; omega))) | assumption | exact xm | exact rfl))
  all_goals try (exfalso; omega)
  all_goals (((with_reducible first | apply k_fun | apply k_fun_norm); exact rx); exact ⟨_, _, _, rfl, .inl rfl, xg⟩)
 case pos =>
 by_cases b1 : F <= La
 case neg =>
  rw [decide_eq_false (show ¬ (0 <= F /\ F <= La) by omega)] at hwn
  rw [hE0 (by rw [hwn]; try simp)]
  (repeat' (first | (with_reducible intro _) | refine sv ?_ | (refine sc ?_ ?_ <;> (intro h; try first | exact h.elim | exact absurd rfl h | (exfalso; omega))) | ((with_reducible first | apply x_pure | apply d_pure | apply d_pure0); exact gd; exact rfl; exact rfl; (first | exact cc _ (xg))) | (refine sg ?_ ?_ <;> (intro h; (fail_if_success (have : True := h)); try first | exact h.elim | exact absurd rfl h | (exfalso; omega))) | assumption | exact xm | exact rfl))
  all_goals try (exfalso; omega)
  all_goals (((with_reducible first | apply k_fun | apply k_fun_norm); exact rx); exact ⟨_, _, _, rfl, .inl rfl, xg⟩)
 case pos =>
 rw [decide_eq_true (show 0 <= F /\ F <= La from ⟨b0, b1⟩), Bool.true_and] at hwn
 by_cases b2 : La <= 60000
 case neg =>
  rw [decide_eq_false (show ¬ (0 <= La /\ La <= 60000) by omega)] at hwn
  rw [hE0 (by rw [hwn]; try simp)]
  (repeat' (first | (with_reducible intro _) | refine sv ?_ | (refine sc ?_ ?_ <;> (intro h; try first | exact h.elim | exact absurd rfl h | (exfalso; omega))) | ((with_reducible first | apply x_pure | apply d_pure | apply d_pure0); exact gd; exact rfl; exact rfl; (first | exact cc _ (xg))) | (refine sg ?_ ?_ <;> (intro h; (fail_if_success (have : True := h)); try first | exact h.elim | exact absurd rfl h | (exfalso; omega))) | assumption | exact xm | exact rfl))
  all_goals try (exfalso; omega)
  all_goals (((with_reducible first | apply k_fun | apply k_fun_norm); exact rx); exact ⟨_, _, _, rfl, .inl rfl, xg⟩)
 case pos =>
 rw [decide_eq_true (show 0 <= La /\ La <= 60000 by omega), Bool.true_and] at hwn
 by_cases b3 : La - F < 1000
 case neg =>
  rw [decide_eq_false b3] at hwn
  rw [hE0 (by rw [hwn]; try simp)]
  (repeat' (first | (with_reducible intro _) | refine sv ?_ | (refine sc ?_ ?_ <;> (intro h; try first | exact h.elim | exact absurd rfl h | (exfalso; omega))) | ((with_reducible first | apply x_pure | apply d_pure | apply d_pure0); exact gd; exact rfl; exact rfl; (first | exact cc _ (xg))) | (refine sg ?_ ?_ <;> (intro h; (fail_if_success (have : True := h)); try first | exact h.elim | exact absurd rfl h | (exfalso; omega))) | assumption | exact xm | exact rfl))
  all_goals try (exfalso; omega)
  all_goals (((with_reducible first | apply k_fun | apply k_fun_norm); exact rx); exact ⟨_, _, _, rfl, .inl rfl, xg⟩)
 case pos =>
 rw [decide_eq_true b3, Bool.true_and] at hwn
 have cb4 := fun M' => c_btw Ch 1 24 M'
 cases b4 : btB Ch 1 24 with
 | false =>
  rw [b4] at hwn cb4
  rw [hE0 (by rw [hwn]; try simp)]
  (repeat' (first | (with_reducible intro _) | refine sv ?_ | (refine sc ?_ ?_ <;> (intro h; try first | exact h.elim | exact absurd rfl h | (exfalso; omega))) | ((with_reducible first | apply x_same | apply d_same | apply d_same0); exact gd; exact rfl; exact rfl; (first | exact cb4 _)) | ((with_reducible first | apply x_pure | apply d_pure | apply d_pure0); exact gd; exact rfl; exact rfl; (first | exact cc _ (xg))) | (refine sg ?_ ?_ <;> (intro h; (fail_if_success (have : True := h)); try first | exact h.elim | exact absurd rfl h | (exfalso; omega))) | assumption | exact xm | exact rfl))
  all_goals try (exfalso; omega)
  all_goals (((with_reducible first | apply k_fun | apply k_fun_norm); exact rx); exact ⟨_, _, _, rfl, .inl rfl, xg⟩)
 | true =>
 rw [b4] at cb4 hwn
 rw [Bool.true_and] at hwn
 have cb5 := fun M' => c_btw Sm 1 64 M'
 cases b5 : btB Sm 1 64 with
 | false =>
  rw [b5] at hwn cb5
  rw [hE0 (by rw [hwn]; try simp)]
  (repeat' (first | (with_reducible intro _) | refine sv ?_ | (refine sc ?_ ?_ <;> (intro h; try first | exact h.elim | exact absurd rfl h | (exfalso; omega))) | ((with_reducible first | apply x_same | apply d_same | apply d_same0); exact gd; exact rfl; exact rfl; (first | exact cb4 _ | exact cb5 _)) | ((with_reducible first | apply x_pure | apply d_pure | apply d_pure0); exact gd; exact rfl; exact rfl; (first | exact cc _ (xg))) | (refine sg ?_ ?_ <;> (intro h; (fail_if_success (have : True := h)); try first | exact h.elim | exact absurd rfl h | (exfalso; omega))) | assumption | exact xm | exact rfl))
  all_goals try (exfalso; omega)
  all_goals (((with_reducible first | apply k_fun | apply k_fun_norm); exact rx); exact ⟨_, _, _, rfl, .inl rfl, xg⟩)
 | true =>
 rw [b5] at cb5 hwn
 rw [Bool.true_and] at hwn
 have cb6 := fun M' => c_btw Mo 0 24 M'
 cases b6 : btB Mo 0 24 with
 | false =>
  rw [b6] at hwn cb6
  rw [hE0 (by rw [hwn]; try simp)]
  (repeat' (first | (with_reducible intro _) | refine sv ?_ | (refine sc ?_ ?_ <;> (intro h; try first | exact h.elim | exact absurd rfl h | (exfalso; omega))) | ((with_reducible first | apply x_same | apply d_same | apply d_same0); exact gd; exact rfl; exact rfl; (first | exact cb4 _ | exact cb5 _ | exact cb6 _)) | ((with_reducible first | apply x_pure | apply d_pure | apply d_pure0); exact gd; exact rfl; exact rfl; (first | exact cc _ (xg))) | (refine sg ?_ ?_ <;> (intro h; (fail_if_success (have : True := h)); try first | exact h.elim | exact absurd rfl h | (exfalso; omega))) | assumption | exact xm | exact rfl))
  all_goals try (exfalso; omega)
  all_goals (((with_reducible first | apply k_fun | apply k_fun_norm); exact rx); exact ⟨_, _, _, rfl, .inl rfl, xg⟩)
 | true =>
 rw [b6] at cb6 hwn
 have bd4 : 1 <= Ch /\ Ch <= 24 := by unfold btB at b4; exact of_decide_eq_true b4
 have bd5 : 1 <= Sm /\ Sm <= 64 := by unfold btB at b5; exact of_decide_eq_true b5
 have bd6 : 0 <= Mo /\ Mo <= 24 := by unfold btB at b6; exact of_decide_eq_true b6
 rw [hE1 hwn]
 obtain ⟨sm, rfl⟩ : ∃ sm : Nat, Sm = sm := ⟨Sm.toNat, by omega⟩
 obtain ⟨ch, rfl⟩ : ∃ ch : Nat, Ch = ch := ⟨Ch.toNat, by omega⟩
 have hpq8 : ∀ s, pq r.2 (F, La, ch, sm, Mo) s = decide (badN r.2 sm s r.2.length ch > Mo) := fun s => hpq9 s hwn
 have hcg := fun M' (hg : Grow M M') (s c : Int) => c_goodR (s := s) (c := c) (sm := sm) (hv0.to.grow hg) hin hrk (by omega)
 clear hE0 hE1 PF hpq9
 obtain ⟨N, hN⟩ : ∃ N : Nat, (N : Int) = La - F + 1 := ⟨(La - F + 1).toNat, by omega⟩
 have hNN : (La - F + 1).toNat = N := by omega
 rw [hNN]
 generalize r.2 = L at *
 generalize r.1 = nm at *
 (repeat' (first | (with_reducible intro _) | refine sv ?_ | (refine sc ?_ ?_ <;> (intro h; try first | exact h.elim | exact absurd rfl h | (exfalso; omega))) | ((with_reducible first | apply x_same | apply d_same | apply d_same0); exact gd; exact rfl; exact rfl; (first | exact cb4 _ | exact cb5 _ | exact cb6 _)) | ((with_reducible first | apply x_pure | apply d_pure | apply d_pure0); exact gd; exact rfl; exact rfl; (first | exact cc _ (xg))) | (refine sg ?_ ?_ <;> (intro h; (fail_if_success (have : True := h)); try first | exact h.elim | exact absurd rfl h | (exfalso; omega))) | assumption | exact xm | exact rfl))
 all_goals try (exfalso; omega)
 rename_i n1 M1 hN1 e1 e2 n2 M2 hN2 e3 e4 M4 hg3 e5 h0 h1 h2 h3 h4
 have hA1 : At M4 n1 (.cells true [.str nm, .slice a L.length f e] 24) := xm
 have hA2 : At M4 n2 (.cells true [I F, I La, I ch, I sm, I Mo] 26) := xm
 have hg4 : Grow M M4 := xg
 clear hN1 hN2 hg3 cb4 cb5 cb6 b4 b5 b6 cc e1 e2 e3 e4 e5 h0 h1
 refine w_loop_ind (fun z E ms M' => ∃ (c : Nat) (v : LV), z = N - c /\ c <= N /\ ms = [] /\ Has E [(2, .ptr (some (n1, 0))), (3, .ptr (some (n2, 0))), (7, v), (8, I (F + c))] /\ Vec M4.next 1 3 intc M' v (poorL L (F, La, ch, sm, Mo) c) /\ Grow M4 M' /\ M4.next <= M'.next)
  ?_ N _ _ _ ⟨0, _, by omega, by omega, rfl, .cons rfl (.cons rfl (.cons rfl (.cons (by show some (I _) = some (I _); simp) .nil))), Vec.nil, Grow.refl _, Nat.le_refl _⟩
 rintro z E ms M6 ⟨c, v, rfl, hc, rfl, hE, hv6, hg6, hle6⟩
 refine w_has hE ?_
 have hB1 := At.grow hg6 hA1
 have hB2 := At.grow hg6 hA2
 by_cases hlast : c = N
 ·subst hlast
  (repeat' (first | (with_reducible intro _) | refine sv ?_ | (refine sc ?_ ?_ <;> (intro h; try first | exact h.elim | exact absurd rfl h | (exfalso; omega))) | (refine sg ?_ ?_ <;> (intro h; (fail_if_success (have : True := h)); try first | exact h.elim | exact absurd rfl h | (exfalso; omega))) | assumption | exact xm | exact rfl))
  all_goals try (exfalso; omega)
  ((with_reducible first | apply k_fun | apply k_fun_norm); exact rx)
  obtain ⟨a3, f3, e3, rfl, hs3⟩ := SlI.vec hv6
  exact ⟨_, _, _, rfl, hs3, hg4.trans hg6⟩
 have hlt : c < N := by omega
 have hst := poorL_s L (F, La, ch, sm, Mo) c
 have hlen6 := poorL_len L (F, La, ch, sm, Mo) c
 rw [hpq8] at hst
 have hbb := badN_bd L sm (F + c) L.length
 have hg46 : Grow M M6 /\ True := ⟨hg4.trans hg6, trivial⟩
 (repeat' (first | (with_reducible intro _) | refine sv ?_ | (refine sc ?_ ?_ <;> (intro h; try first | exact h.elim | exact absurd rfl h | (exfalso; omega))) | (refine sg ?_ ?_ <;> (intro h; (fail_if_success (have : True := h)); try first | exact h.elim | exact absurd rfl h | (exfalso; omega))) | assumption | exact xm | exact rfl))
 all_goals try (exfalso; omega)
 refine w_loop_ind (fun z E ms M' => ∃ (d : Nat), z = ch - d /\ d <= ch /\ ms = [] /\ Grow M6 M' /\ Has E [(2, .ptr (some (n1, 0))), (3, .ptr (some (n2, 0))), (7, v), (8, I (F + c)), (9, I (badN L sm (F + c) L.length d)), (10, I d)])
  ?_ ch _ _ _ ⟨0, by omega, by omega, rfl, Grow.refl _, .cons rfl (.cons rfl (.cons rfl (.cons rfl (.cons rfl (.cons rfl .nil)))))⟩
 rintro z E ms M7 ⟨d, rfl, hd, rfl, hg7, hE⟩
 refine w_has hE ?_
 have hC1 := At.grow hg7 hB1
 have hC2 := At.grow hg7 hB2
 have hg47 : Grow M4 M7 /\ True := ⟨hg6.trans hg7, trivial⟩
 by_cases hlast : d = ch
 ·subst hlast
  have hbd := hbb d
  generalize badN L sm (F + c) L.length d = Q at *
  by_cases hq : Q > Mo
  ·rw [decide_eq_true hq] at hst
   (repeat' (first | (with_reducible intro _) | refine sv ?_ | (refine sc ?_ ?_ <;> (intro h; try first | exact h.elim | exact absurd rfl h | (exfalso; omega))) | (refine sg ?_ ?_ <;> (intro h; (fail_if_success (have : True := h)); try first | exact h.elim | exact absurd rfl h | (exfalso; omega))) | assumption | exact xm | exact rfl))
   all_goals try (exfalso; omega)
   rename_i m9 M9 hN9 e8 e9
   have hv9 := (hv6.grow hg7).grow hN9.grow
   refine x_vec_app (by exact gd) (l' := [F + (c : Int)]) hv9 rfl rfl rfl (by simp) (by rw [List.length_singleton]; omega) rfl (one_first hN9) (fun _ => rfl) (fun _ => rfl) (by have := hg7.le; omega) ?_
   intro v' M10 hv10 e10 hk10
   have hg10 : Grow M4 M10 := Keep.to_grow' (hg47.1.trans hN9.grow) hk10 (fun i hi => hi.1)
   (repeat' (first | (with_reducible intro _) | refine sv ?_ | (refine sc ?_ ?_ <;> (intro h; try first | exact h.elim | exact absurd rfl h | (exfalso; omega))) | (refine sg ?_ ?_ <;> (intro h; (fail_if_success (have : True := h)); try first | exact h.elim | exact absurd rfl h | (exfalso; omega))) | assumption | exact xm | exact rfl))
   refine k_step (N - (c + 1)) (by omega) ⟨c + 1, v', rfl, by omega, rfl, .cons rfl (.cons rfl (.cons rfl (.cons ?_ .nil))), by rw [hst]; exact hv10, hg10, hg10.le⟩
   show some (I _) = some (I _)
   rw [show F + ((c + 1 : Nat) : Int) = F + c + 1 by omega]
  ·rw [decide_eq_false hq] at hst
   (repeat' (first | (with_reducible intro _) | refine sv ?_ | (refine sc ?_ ?_ <;> (intro h; try first | exact h.elim | exact absurd rfl h | (exfalso; omega))) | (refine sg ?_ ?_ <;> (intro h; (fail_if_success (have : True := h)); try first | exact h.elim | exact absurd rfl h | (exfalso; omega))) | assumption | exact xm | exact rfl))
   all_goals try (exfalso; omega)
   refine k_step (N - (c + 1)) (by omega) ⟨c + 1, v, rfl, by omega, rfl, .cons rfl (.cons rfl (.cons rfl (.cons ?_ .nil))), by rw [hst]; simpa using hv6.grow hg7, hg47.1, hg47.1.le⟩
   show some (I _) = some (I _)
   rw [show F + ((c + 1 : Nat) : Int) = F + c + 1 by omega]
 have hlt2 : d < ch := by omega
 have hcg7 := hcg M7 (hg46.1.trans hg7) (F + c) d
 have hbs := badN_s L sm (F + c) L.length d
 have hbd := hbb d
 clear hg6 hg4
 cases hgb : goodB L sm (F + c) L.length d with
 | false =>
  rw [hgb] at hbs hcg7
  generalize badN L sm (F + c) L.length d = Q at *
  have hbs : badN L sm (F + c) L.length (d + 1) = Q + 1 := hbs
  (repeat' (first | (with_reducible intro _) | refine sv ?_ | (refine sc ?_ ?_ <;> (intro h; try first | exact h.elim | exact absurd rfl h | (exfalso; omega))) | ((with_reducible first | apply x_pure | apply d_pure | apply d_pure0); exact gd; exact rfl; exact rfl; (first | exact hcg7)) | (refine sg ?_ ?_ <;> (intro h; (fail_if_success (have : True := h)); try first | exact h.elim | exact absurd rfl h | (exfalso; omega))) | assumption | exact xm | exact rfl))
  all_goals try (exfalso; omega)
  exact k_step (ch - (d + 1)) (by omega) ⟨d + 1, rfl, by omega, rfl, hg7.trans (xg), .cons rfl (.cons rfl (.cons rfl (.cons rfl (.cons (by rw [hbs]; rfl) (.cons rfl .nil)))))⟩
 | true =>
  rw [hgb] at hbs hcg7
  generalize badN L sm (F + c) L.length d = Q at *
  have hbs : badN L sm (F + c) L.length (d + 1) = Q := by rw [hbs]; simp
  (repeat' (first | (with_reducible intro _) | refine sv ?_ | (refine sc ?_ ?_ <;> (intro h; try first | exact h.elim | exact absurd rfl h | (exfalso; omega))) | ((with_reducible first | apply x_pure | apply d_pure | apply d_pure0); exact gd; exact rfl; exact rfl; (first | exact hcg7)) | (refine sg ?_ ?_ <;> (intro h; (fail_if_success (have : True := h)); try first | exact h.elim | exact absurd rfl h | (exfalso; omega))) | assumption | exact xm | exact rfl))
  all_goals try (exfalso; omega)
  exact k_step (ch - (d + 1)) (by omega) ⟨d + 1, rfl, by omega, rfl, hg7.trans (xg), .cons rfl (.cons rfl (.cons rfl (.cons rfl (.cons (by rw [hbs]; rfl) (.cons rfl .nil)))))⟩
theorem ne_at {l l' : List Int} {k : Nat} (hk : k < l.length) (hk' : k < l'.length) (h : l[k] ≠ l'[k]) : decide (l = l') = false := by
 rw [decide_eq_false_iff_not]
 rintro rfl
 exact h rfl
set_option maxHeartbeats 2000000 in
theorem c_Alike {M : Mem} {a b : Option (Nat × Nat)} {l l' : List Int} {f f' : Bool} {e e' : Nat} (ha : SlI M a l) (hb : SlI M b l') (hl : l.length <= 1000000000000000) (hl' : l'.length <= 1000000000000000) :
  CallOk Tryz.prog 16 [.slice a l.length f e, .slice b l'.length f' e'] M (fun w M' => w = .bool (decide (l = l')) /\ M' = M) := by
 refine call_in k16 rfl ?_
 dsimp only [x16, zipE, Nat.reduceAdd]
 by_cases hne : l.length = l'.length
 ·(repeat' (first | (with_reducible intro _) | refine sv ?_ | (refine sc ?_ ?_ <;> (intro h; try first | exact h.elim | exact absurd rfl h | (exfalso; omega))) | (refine sg ?_ ?_ <;> (intro h; (fail_if_success (have : True := h)); try first | exact h.elim | exact absurd rfl h | (exfalso; omega))) | assumption | exact xm | exact rfl))
  all_goals try (exfalso; omega)
  refine w_loop_ind (fun m E ms M' => ∃ k : Nat, m = l.length - k /\ k <= l.length /\ ms = [] /\ Has E [(0, .slice a l.length f e), (1, .slice b l'.length f' e'), (5, I k)] /\ M' = M /\ l.take k = l'.take k)
   ?_ l.length _ _ _ ⟨0, by omega, by omega, rfl, .cons rfl (.cons rfl (.cons rfl .nil)), rfl, rfl⟩
  rintro m E ms M1 ⟨k, rfl, hk, rfl, hE, rfl, hall⟩
  refine w_has hE ?_
  by_cases hlast : k = l.length
  ·subst hlast
   (repeat' (first | (with_reducible intro _) | refine sv ?_ | (refine sc ?_ ?_ <;> (intro h; try first | exact h.elim | exact absurd rfl h | (exfalso; omega))) | (refine sg ?_ ?_ <;> (intro h; (fail_if_success (have : True := h)); try first | exact h.elim | exact absurd rfl h | (exfalso; omega))) | assumption | exact xm | exact rfl))
   ((with_reducible first | apply k_fun | apply k_fun_norm); exact rx)
   refine ⟨?_, rfl⟩
   rw [List.take_of_length_le (Nat.le_refl _), List.take_of_length_le (by omega)] at hall
   rw [decide_eq_true hall]; rfl
  ·have hlt : k < l.length := by omega
   have hlt' : k < l'.length := by omega
   obtain ⟨i, o, rfl, hr⟩ := ha.rd hlt
   obtain ⟨i2, o2, rfl, hr2⟩ := hb.rd hlt'
   by_cases heq : l[k] = l'[k]
   ·rw [<- heq] at hr2
    have htk : l.take (k + 1) = l'.take (k + 1) := by
     rw [List.take_succ_eq_append_getElem hlt, List.take_succ_eq_append_getElem hlt', hall, heq]
    generalize l[k] = p at *
    (have hrd0 := hr; have hrd1 := hr2; repeat' (first | (with_reducible intro _) | refine sv ?_ | (refine sc ?_ ?_ <;> (intro h; try first | exact h.elim | exact absurd rfl h | (exfalso; omega))) | (refine sg ?_ ?_ <;> (intro h; (fail_if_success (have : True := h)); try first | exact h.elim | exact absurd rfl h | (exfalso; omega))) | assumption | exact xm | exact rfl))
    all_goals try (exfalso; omega)
    refine k_step (l.length - (k + 1)) (by omega) ⟨k + 1, rfl, by omega, rfl, .cons rfl (.cons rfl (.cons rfl .nil)), rfl, htk⟩
   ·have hd := ne_at hlt hlt' heq
    rw [hd]
    generalize l[k] = p at *
    generalize l'[k] = q at *
    (have hrd0 := hr; have hrd1 := hr2; repeat' (first | (with_reducible intro _) | refine sv ?_ | (refine sc ?_ ?_ <;> (intro h; try first | exact h.elim | exact absurd rfl h | (exfalso; omega))) | (refine sg ?_ ?_ <;> (intro h; (fail_if_success (have : True := h)); try first | exact h.elim | exact absurd rfl h | (exfalso; omega))) | assumption | exact xm | exact rfl))
    all_goals try (exfalso; omega)
    ((with_reducible first | apply k_fun | apply k_fun_norm); exact rx)
    exact ⟨rfl, rfl⟩
 ·have hd : decide (l = l') = false := by
   rw [decide_eq_false_iff_not]; rintro rfl; exact hne rfl
  rw [hd]
  (repeat' (first | (with_reducible intro _) | refine sv ?_ | (refine sc ?_ ?_ <;> (intro h; try first | exact h.elim | exact absurd rfl h | (exfalso; omega))) | (refine sg ?_ ?_ <;> (intro h; (fail_if_success (have : True := h)); try first | exact h.elim | exact absurd rfl h | (exfalso; omega))) | assumption | exact xm | exact rfl))
  all_goals try (exfalso; omega)
  ((with_reducible first | apply k_fun | apply k_fun_norm); exact rx)
  exact ⟨rfl, rfl⟩
set_option maxHeartbeats 4000000 in
theorem c_TapeLacks {M : Mem} {v : LV} {r : Rl} {lv F La Ch Sm Mo : Int} (hv : RlV1 M v r) (hin : RlIn r) (hB : Base M) (hp : preOk M tabs = true) :
  CallOk Tryz.prog 3 [v, I lv, .agg [I F, I La, I Ch, I Sm, I Mo]] M (fun r _ => r = .bool true) := by
 have hv0 := hv
 obtain ⟨a, f, e, rfl, hs⟩ := hv
 refine call_in k3 rfl ?_
 dsimp only [x3, zipE, Nat.reduceAdd]
 have hc1 : ∀ M', Grow M M' -> _ := fun M' hg => c_Dead (lv := lv) (hv0.to.grow hg) hin
 have hc2 : ∀ M', Grow M M' -> _ := fun M' hg => c_DeadR (lv := lv) (hv0.to.grow hg) hin
 have hc3 : ∀ M', Grow M M' -> _ := fun M' hg => c_Poor (F := F) (La := La) (Ch := Ch) (Sm := Sm) (Mo := Mo) (hv0.grow hg) hin
 have hc4 : ∀ M', Grow M M' -> _ := fun M' hg => c_PoorR (F := F) (La := La) (Ch := Ch) (Sm := Sm) (Mo := Mo) (hv0.grow hg) hin
 have hl1 := deadF_len r lv
 have hl2 := poorF_len r (F, La, Ch, Sm, Mo)
 generalize deadF r lv = DF at *
 generalize poorF r (F, La, Ch, Sm, Mo) = PF at *
 (repeat' (first | (with_reducible intro _) | refine sv ?_ | (refine sc ?_ ?_ <;> (intro h; try first | exact h.elim | exact absurd rfl h | (exfalso; omega))) | ((with_reducible first | apply x_call | apply d_call | apply x_call0); exact gd; exact rfl; exact rfl; (first | exact hc1 _ (xg))) | (refine sg ?_ ?_ <;> (intro h; (fail_if_success (have : True := h)); try first | exact h.elim | exact absurd rfl h | (exfalso; omega))) | assumption | exact xm | exact rfl))
 rename_i n1 m1 a1 e1 e2 n2 m2 a2 e3 e4 q1 m3 hq
 obtain ⟨b1, f1, g1, rfl, hs1, hg1⟩ := hq
 have hle1 := hg1.le
 (repeat' (first | (with_reducible intro _) | refine sv ?_ | (refine sc ?_ ?_ <;> (intro h; try first | exact h.elim | exact absurd rfl h | (exfalso; omega))) | ((with_reducible first | apply x_call | apply d_call | apply x_call0); exact gd; exact rfl; exact rfl; (first | exact hc2 _ (xg))) | (refine sg ?_ ?_ <;> (intro h; (fail_if_success (have : True := h)); try first | exact h.elim | exact absurd rfl h | (exfalso; omega))) | assumption | exact xm | exact rfl))
 rename_i w2 m4 hq
 obtain ⟨b2, f2, g2, rfl, hs2, hg2⟩ := hq
 have hle2 := hg2.le
 have hal : ∀ M', Grow m4 M' -> CallOk Tryz.prog 16 [.slice b1 DF.1.length f1 g1, .slice b2 DF.1.length f2 g2] M' (fun w M'' => w = .bool true /\ M'' = M') := fun M' hg => by
  have := c_Alike (f := f1) (e := g1) (f' := f2) (e' := g2) ((hs1.grow hg2).grow hg) (hs2.grow hg) (by omega) (by omega)
  rw [decide_eq_true rfl] at this; exact this
 (repeat' (first | (with_reducible intro _) | refine sv ?_ | (refine sc ?_ ?_ <;> (intro h; try first | exact h.elim | exact absurd rfl h | (exfalso; omega))) | ((with_reducible first | apply x_same | apply d_same | apply d_same0); exact gd; exact rfl; exact rfl; (first | exact hal _ (xg))) | ((with_reducible first | apply x_call | apply d_call | apply x_call0); exact gd; exact rfl; exact rfl; (first | exact hc3 _ (xg))) | (refine sg ?_ ?_ <;> (intro h; (fail_if_success (have : True := h)); try first | exact h.elim | exact absurd rfl h | (exfalso; omega))) | assumption | exact xm | exact rfl))
 all_goals try (exfalso; simp_all; done)
 rename_i w3 m5 hq
 obtain ⟨b3, f3, g3, rfl, hs3, hg3⟩ := hq
 have hle3 := hg3.le
 (repeat' (first | (with_reducible intro _) | refine sv ?_ | (refine sc ?_ ?_ <;> (intro h; try first | exact h.elim | exact absurd rfl h | (exfalso; omega))) | ((with_reducible first | apply x_call | apply d_call | apply x_call0); exact gd; exact rfl; exact rfl; (first | exact hc4 _ (xg))) | (refine sg ?_ ?_ <;> (intro h; (fail_if_success (have : True := h)); try first | exact h.elim | exact absurd rfl h | (exfalso; omega))) | assumption | exact xm | exact rfl))
 rename_i w4 m6 hq
 obtain ⟨b4, f4, g4, rfl, hs4, hg4⟩ := hq
 have hle4 := hg4.le
 have hal2 : ∀ M', Grow m6 M' -> CallOk Tryz.prog 16 [.slice b3 PF.1.length f3 g3, .slice b4 PF.1.length f4 g4] M' (fun w M'' => w = .bool true /\ M'' = M') := fun M' hg => by
  have := c_Alike (f := f3) (e := g3) (f' := f4) (e' := g4) ((hs3.grow hg4).grow hg) (hs4.grow hg) (by omega) (by omega)
  rw [decide_eq_true rfl] at this; exact this
 have hp2 : preOk m6 tabs = true := preOk_ext (Ext.of_grow (xg) hB) hp
 (repeat' (first | (with_reducible intro _) | refine sv ?_ | (refine sc ?_ ?_ <;> (intro h; try first | exact h.elim | exact absurd rfl h | (exfalso; omega))) | ((with_reducible first | apply x_same | apply d_same | apply d_same0); exact gd; exact rfl; exact rfl; (first | exact hal2 _ (xg) | exact c_works hp2)) | (refine sg ?_ ?_ <;> (intro h; (fail_if_success (have : True := h)); try first | exact h.elim | exact absurd rfl h | (exfalso; omega))) | assumption | exact xm | exact rfl))
 all_goals try (exfalso; simp_all; done)
 ((with_reducible first | apply k_fun | apply k_fun_norm); exact rx)
 rfl
end Go.Proofs.YtbfnnllgdioccaaGreatDoor.C
end
