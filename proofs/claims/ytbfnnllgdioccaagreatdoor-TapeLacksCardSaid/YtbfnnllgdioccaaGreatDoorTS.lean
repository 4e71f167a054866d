/-
 Part of the proof of TapeLacks: what functions of the program and of the statement come to, walked by the rules. No condition beyond those in each theorem.
-/
import Derived.Test.YtbfnnllgdioccaaGreatDoorTR
import Derived.Test.YtbfnnllgdioccaaGreatDoorTP
section
open Go PvL Go.Proofs
set_option linter.unusedSimpArgs false
set_option linter.unusedVariables false
namespace Go.Proofs.YtbfnnllgdioccaaGreatDoor.C
theorem slc_hi {i o len n h : Nat} {f : Bool} (hh : h <= len) : ∃ o' f', (0 < len -> o' = o) /\ sliceSl n (some (i, o)) len f n none (some (.int .i64 (h : Int))) none = some (.slice (some (i, o')) h f' n) := by
 have e1 : sliceSl n (some (i, o)) len f n none (some (.int .i64 (h : Int))) none = guard' (Nat.ble h len) (guard' (Nat.beq n n) (ifb (false || (f || (Nat.ble (0 + 1) len || true))) (fN (ifb (Nat.beq len 0 && (f || false)) o (o + 0 * n)) fun off' => fN (h - 0) fun len' => some (LV.slice (some (i, off')) len' (ifb false (Nat.beq h len) (f && Nat.beq h len)) n)) (some (LV.slice (some (i, o)) 0 false 0)))) := by
  show guard' true (guard' (Nat.ble h len) (guard' (Nat.ble 0 h) _)) = _
  rw [guard'_true, Nat.ble_eq_true_of_le (Nat.zero_le h), guard'_true]
  rfl
 rw [e1, fN_eq, fN_eq, Nat.ble_eq_true_of_le hh, guard'_true, show Nat.beq n n = true by simp, guard'_true]
 rw [show (false || (f || (Nat.ble (0 + 1) len || true))) = true by simp, ifb_true]
 refine ⟨_, _, fun h0 => ?_, rfl⟩
 have h1 : Nat.beq len 0 = false := by cases hb : Nat.beq len 0 with | false => rfl | true => have := Nat.eq_of_beq_eq_true hb; omega
 rw [h1, Bool.false_and, ifb_false, Nat.zero_mul, Nat.add_zero]
theorem xs_slcHi {n : Nat} {a : Option (Nat × Nat)} {len h : Nat} {f : Bool} {v : LV} {E : Env} {M : Mem} {x hi : XO} (hs : sliceSl n a len f n none (some (.int .i64 (h : Int))) none = some v) (hx : xval E x = some (.slice a len f n)) (hh : xval E hi = some (I (h : Int))) : xstep Tryz.prog (.slc n x none (some hi) none) E M = some (.val v M) := by
 show ob (xval E x) _ = _
 rw [hx, ob_some]
 show ob (ob (xval E hi) _) _ = _
 rw [hh, ob_some]
 show ob (sliceSl n a len f n none (some (.int .i64 (h : Int))) none) (rv M) = _
 rw [hs]; rfl
theorem sli_take {M : Mem} {a : Option (Nat × Nat)} {L : List Int} {f : Bool} {h : Nat} (hp : SlI M a L) (hh : h <= L.length) : ∃ a' f' e', sliceSl 1 a L.length f 1 none (some (.int .i64 (h : Int))) none = some (.slice a' h f' e') /\ SlI M a' (L.take h) := by
 have hl : (L.take h).length = h := by rw [List.length_take]; omega
 rcases a with _ | ⟨i, o⟩
 ·rcases hp with rfl | ⟨i, o, h1, _⟩
  ·obtain rfl : h = 0 := by simpa using hh
   exact ⟨_, _, _, rfl, .inl rfl⟩
  ·cases h1
 ·obtain ⟨o', f', h1, h2⟩ := slc_hi (i := i) (o := o) (n := 1) (f := f) hh
  refine ⟨_, _, _, h2, ?_⟩
  rcases hp with rfl | ⟨i', o2, h3, h4⟩
  ·exact .inl (by simp)
  ·obtain ⟨rfl, rfl⟩ : i = i' /\ o = o2 := by injection h3 with q; injection q with q1 q2; exact ⟨q1, q2⟩
   refine .inr ⟨i, o', rfl, fun k hk => ?_⟩
   rw [hl] at hk
   rw [h1 (by omega), List.getElem_take]
   exact h4 k (by omega)
theorem c_Poor1 (n : Int) (M : Mem) : CallOk Tryz.prog 52 [I n] M (fun w M' => w = .bool (!knB n) /\ M' = M) := by
 refine call_in k52 rfl ?_
 dsimp only [x52, zipE, Nat.reduceAdd]
 (repeat' (first | (with_reducible intro _) | refine sv ?_ | (refine sc ?_ ?_ <;> (intro h; try first | exact h.elim | exact absurd rfl h | (exfalso; omega))) | ((with_reducible first | apply x_same | apply d_same | apply d_same0); exact gd; exact rfl; exact rfl; (first | exact c_known _ _)) | (refine sg ?_ ?_ <;> (intro h; (fail_if_success (have : True := h)); try first | exact h.elim | exact absurd rfl h | (exfalso; omega))) | assumption | exact xm | exact rfl))
 ((with_reducible first | apply k_fun | apply k_fun_norm); exact rx)
 exact ⟨rfl, rfl⟩
theorem lkV_I (o : Option Int) : lkV (β := Int) I (I 0) o = I (o.getD 0) := by cases o <;> rfl
set_option maxHeartbeats 16000000 in
theorem c_Poor {M : Mem} {v : LV} {r : Rl} {F La Ch Sm Mo : Int} (hv : RlV1 M v r) (hin : RlIn r) : CallOk Tryz.prog 17 [v, .agg [I F, I La, I Ch, I Sm, I Mo]] M (fun w M' => ∃ a f e, w = .tup [.slice a (poorF r (F, La, Ch, Sm, Mo)).1.length f e, I (poorF r (F, La, Ch, Sm, Mo)).2] /\ SlI M' a (poorF r (F, La, Ch, Sm, Mo)).1 /\ Grow M M') := by
 have hv0 := hv
 obtain ⟨a, f, e, rfl, hs⟩ := hv
 refine call_in k17 rfl ?_
 dsimp only [x17, zipE, Nat.reduceAdd]
 have cc := fun M' (hg : Grow M M') => c_CheckReel (hv0.to.grow hg) hin
 by_cases her : errRl r = 0
 case neg =>
  have he : poorF r (F, La, Ch, Sm, Mo) = ([], errRl r) := by unfold poorF; rw [if_neg her]
  rw [he]
  generalize errRl r = ER at *
  (repeat' (first | (with_reducible intro _) | refine sv ?_ | (refine sc ?_ ?_ <;> (intro h; try first | exact h.elim | exact absurd rfl h | (exfalso; omega))) | ((with_reducible first | apply x_pure | apply d_pure | apply d_pure0); exact gd; exact rfl; exact rfl; (first | exact cc _ (xg))) | (refine sg ?_ ?_ <;> (intro h; (fail_if_success (have : True := h)); try first | exact h.elim | exact absurd rfl h | (exfalso; omega))) | assumption | exact xm | exact rfl))
  all_goals try (exfalso; omega)
  ((with_reducible first | apply k_fun | apply k_fun_norm); exact rx)
  exact ⟨_, _, _, rfl, .inl rfl, xg⟩
 case pos =>
 rw [her] at cc
 have hE0 : wnB (F, La, Ch, Sm, Mo) = false -> poorF r (F, La, Ch, Sm, Mo) = ([], 84) := fun h => by unfold poorF; rw [if_pos her, h]; rfl
 have hE1 : wnB (F, La, Ch, Sm, Mo) = true -> poorF r (F, La, Ch, Sm, Mo) = (poorL r.2 (F, La, Ch, Sm, Mo) (La - F + 1).toNat, 0) := fun h => by unfold poorF; rw [if_pos her, h]; rfl
 have hwn : wnB (F, La, Ch, Sm, Mo) = (btB F 0 La && (btB La 0 60000 && (decide (La - F < 1000) && (btB Ch 1 24 && (btB Sm 1 64 && btB Mo 0 24))))) := rfl
 generalize poorF r (F, La, Ch, Sm, Mo) = PF at *
 have cb1 := fun M' => c_within F 0 La M'
 cases b1 : btB F 0 La with
 | false =>
  rw [b1] at hwn cb1
  rw [hE0 (by rw [hwn]; try simp)]
  (repeat' (first | (with_reducible intro _) | refine sv ?_ | (refine sc ?_ ?_ <;> (intro h; try first | exact h.elim | exact absurd rfl h | (exfalso; omega))) | ((with_reducible first | apply x_same | apply d_same | apply d_same0); exact gd; exact rfl; exact rfl; (first | exact cb1 _)) | ((with_reducible first | apply x_pure | apply d_pure | apply d_pure0); exact gd; exact rfl; exact rfl; (first | exact cc _ (xg))) | (refine sg ?_ ?_ <;> (intro h; (fail_if_success (have : True := h)); try first | exact h.elim | exact absurd rfl h | (exfalso; omega))) | assumption | exact xm | exact rfl))
  all_goals try (exfalso; omega)
  all_goals (((with_reducible first | apply k_fun | apply k_fun_norm); exact rx); exact ⟨_, _, _, rfl, .inl rfl, xg⟩)
 | true =>
 rw [b1] at cb1 hwn
 rw [Bool.true_and] at hwn
 have cb2 := fun M' => c_within La 0 60000 M'
 cases b2 : btB La 0 60000 with
 | false =>
  rw [b2] at hwn cb2
  rw [hE0 (by rw [hwn]; try simp)]
  (repeat' (first | (with_reducible intro _) | refine sv ?_ | (refine sc ?_ ?_ <;> (intro h; try first | exact h.elim | exact absurd rfl h | (exfalso; omega))) | ((with_reducible first | apply x_same | apply d_same | apply d_same0); exact gd; exact rfl; exact rfl; (first | exact cb1 _ | exact cb2 _)) | ((with_reducible first | apply x_pure | apply d_pure | apply d_pure0); exact gd; exact rfl; exact rfl; (first | exact cc _ (xg))) | (refine sg ?_ ?_ <;> (intro h; (fail_if_success (have : True := h)); try first | exact h.elim | exact absurd rfl h | (exfalso; omega))) | assumption | exact xm | exact rfl))
  all_goals try (exfalso; omega)
  all_goals (((with_reducible first | apply k_fun | apply k_fun_norm); exact rx); exact ⟨_, _, _, rfl, .inl rfl, xg⟩)
 | true =>
 rw [b2] at cb2 hwn
 rw [Bool.true_and] at hwn
 have bd1 : 0 <= F /\ F <= La := by unfold btB at b1; exact of_decide_eq_true b1
 have bd2 : 0 <= La /\ La <= 60000 := by unfold btB at b2; exact of_decide_eq_true b2
 by_cases b3 : La - F < 1000
 case neg =>
  rw [decide_eq_false b3] at hwn
  rw [hE0 (by rw [hwn]; try simp)]
  (repeat' (first | (with_reducible intro _) | refine sv ?_ | (refine sc ?_ ?_ <;> (intro h; try first | exact h.elim | exact absurd rfl h | (exfalso; omega))) | ((with_reducible first | apply x_same | apply d_same | apply d_same0); exact gd; exact rfl; exact rfl; (first | exact cb1 _ | exact cb2 _)) | ((with_reducible first | apply x_pure | apply d_pure | apply d_pure0); exact gd; exact rfl; exact rfl; (first | exact cc _ (xg))) | (refine sg ?_ ?_ <;> (intro h; (fail_if_success (have : True := h)); try first | exact h.elim | exact absurd rfl h | (exfalso; omega))) | assumption | exact xm | exact rfl))
  all_goals try (exfalso; omega)
  all_goals (((with_reducible first | apply k_fun | apply k_fun_norm); exact rx); exact ⟨_, _, _, rfl, .inl rfl, xg⟩)
 case pos =>
 rw [decide_eq_true b3, Bool.true_and] at hwn
 have cb4 := fun M' => c_within Ch 1 24 M'
 cases b4 : btB Ch 1 24 with
 | false =>
  rw [b4] at hwn cb4
  rw [hE0 (by rw [hwn]; try simp)]
  (repeat' (first | (with_reducible intro _) | refine sv ?_ | (refine sc ?_ ?_ <;> (intro h; try first | exact h.elim | exact absurd rfl h | (exfalso; omega))) | ((with_reducible first | apply x_same | apply d_same | apply d_same0); exact gd; exact rfl; exact rfl; (first | exact cb1 _ | exact cb2 _ | exact cb4 _)) | ((with_reducible first | apply x_pure | apply d_pure | apply d_pure0); exact gd; exact rfl; exact rfl; (first | exact cc _ (xg))) | (refine sg ?_ ?_ <;> (intro h; (fail_if_success (have : True := h)); try first | exact h.elim | exact absurd rfl h | (exfalso; omega))) | assumption | exact xm | exact rfl))
  all_goals try (exfalso; omega)
  all_goals (((with_reducible first | apply k_fun | apply k_fun_norm); exact rx); exact ⟨_, _, _, rfl, .inl rfl, xg⟩)
 | true =>
 rw [b4] at cb4 hwn
 rw [Bool.true_and] at hwn
 have cb5 := fun M' => c_within Sm 1 64 M'
 cases b5 : btB Sm 1 64 with
 | false =>
  rw [b5] at hwn cb5
  rw [hE0 (by rw [hwn]; try simp)]
  (repeat' (first | (with_reducible intro _) | refine sv ?_ | (refine sc ?_ ?_ <;> (intro h; try first | exact h.elim | exact absurd rfl h | (exfalso; omega))) | ((with_reducible first | apply x_same | apply d_same | apply d_same0); exact gd; exact rfl; exact rfl; (first | exact cb1 _ | exact cb2 _ | exact cb4 _ | exact cb5 _)) | ((with_reducible first | apply x_pure | apply d_pure | apply d_pure0); exact gd; exact rfl; exact rfl; (first | exact cc _ (xg))) | (refine sg ?_ ?_ <;> (intro h; (fail_if_success (have : True := h)); try first | exact h.elim | exact absurd rfl h | (exfalso; omega))) | assumption | exact xm | exact rfl))
  all_goals try (exfalso; omega)
  all_goals (((with_reducible first | apply k_fun | apply k_fun_norm); exact rx); exact ⟨_, _, _, rfl, .inl rfl, xg⟩)
 | true =>
 rw [b5] at cb5 hwn
 rw [Bool.true_and] at hwn
 have cb6 := fun M' => c_within Mo 0 24 M'
 cases b6 : btB Mo 0 24 with
 | false =>
  rw [b6] at hwn cb6
  rw [hE0 (by rw [hwn]; try simp)]
  (repeat' (first | (with_reducible intro _) | refine sv ?_ | (refine sc ?_ ?_ <;> (intro h; try first | exact h.elim | exact absurd rfl h | (exfalso; omega))) | ((with_reducible first | apply x_same | apply d_same | apply d_same0); exact gd; exact rfl; exact rfl; (first | exact cb1 _ | exact cb2 _ | exact cb4 _ | exact cb5 _ | exact cb6 _)) | ((with_reducible first | apply x_pure | apply d_pure | apply d_pure0); exact gd; exact rfl; exact rfl; (first | exact cc _ (xg))) | (refine sg ?_ ?_ <;> (intro h; (fail_if_success (have : True := h)); try first | exact h.elim | exact absurd rfl h | (exfalso; omega))) | assumption | exact xm | exact rfl))
  all_goals try (exfalso; omega)
  all_goals (((with_reducible first | apply k_fun | apply k_fun_norm); exact rx); exact ⟨_, _, _, rfl, .inl rfl, xg⟩)
 | true =>
 rw [b6] at cb6 hwn
 have bd4 : 1 <= Ch /\ Ch <= 24 := by unfold btB at b4; exact of_decide_eq_true b4
 have bd5 : 1 <= Sm /\ Sm <= 64 := by unfold btB at b5; exact of_decide_eq_true b5
 have bd6 : 0 <= Mo /\ Mo <= 24 := by unfold btB at b6; exact of_decide_eq_true b6
 rw [hE1 hwn]
 obtain ⟨sm, rfl⟩ : ∃ sm : Nat, Sm = sm := ⟨Sm.toNat, by omega⟩
 clear hE0 hE1 PF
 have hfr := fun k (hk : k < r.2.length) => hin.fr hk
 have hlen := hin.2.1
 generalize r.2 = L at *
 generalize r.1 = nm at *
 (repeat' (first | (with_reducible intro _) | refine sv ?_ | (refine sc ?_ ?_ <;> (intro h; try first | exact h.elim | exact absurd rfl h | (exfalso; omega))) | ((with_reducible first | apply x_same | apply d_same | apply d_same0); exact gd; exact rfl; exact rfl; (first | exact cb1 _ | exact cb2 _ | exact cb4 _ | exact cb5 _ | exact cb6 _)) | ((with_reducible first | apply x_pure | apply d_pure | apply d_pure0); exact gd; exact rfl; exact rfl; (first | exact cc _ (xg))) | (refine sg ?_ ?_ <;> (intro h; (fail_if_success (have : True := h)); try first | exact h.elim | exact absurd rfl h | (exfalso; omega))) | assumption | exact xm | exact rfl))
 all_goals try (exfalso; omega)
 rename_i n1 M1 hN1 e1 e2 n2 M2 hN2 e3 e4 M3 hg3 e5 h0 h1 n4 M4 hN4 e6 e7
 have hA2 : At M4 n2 (.cells true [I F, I La, I Ch, I sm, I Mo] 26) := xm
 have hg4 : Grow M M4 := xg
 have hm4 := MpI.nil (ev := I) hN4
 have hl1 : M.next <= n1 /\ n1 < n4 /\ n2 < n4 /\ n4 < M4.next := by omega
 clear hN1 hN2 hg3 hN4 cb1 cb2 cb4 cb5 cb6 b1 b2 b4 b5 b6 cc e1 e2 e3 e4 e5 e6 e7 h0 h1
 refine w_loop_ind (fun z E ms M' => ∃ (k : Nat) (D : List (Int × Int)), z = L.length - k /\ k <= L.length /\ ms = [] /\ Has E [(3, .ptr (some (n2, 0))), (7, .map (some n4)), (57, .slice a L.length f e), (58, I L.length), (59, I k)] /\ Keep (fun i => i = n4) M4 M' /\ MpI I M' n4 D /\ ∀ c, lk D c = gq L Ch sm k c)
  ?_ L.length _ _ _ ⟨0, [], by omega, by omega, rfl, .cons rfl (.cons rfl (.cons rfl (.cons rfl (.cons rfl .nil)))), Keep.refl _ _, hm4, fun c => rfl⟩
 rintro z E ms M5 ⟨k, D, rfl, hk, rfl, hE, hk5, hm5, hD⟩
 refine w_has hE ?_
 have hle5 := hk5.le
 have hg5 : Grow M M5 := Keep.to_grow' hg4 hk5 (fun i hi => by omega)
 have hB2 : At M5 n2 (.cells true [I F, I La, I Ch, I sm, I Mo] 26) := hA2.keep hk5 (by omega)
 have hs5 := hs.grow hg5
 clear hA2 hg4
 by_cases hlast : k = L.length
 ·subst hlast
  have hle9 := hm5.lt
  obtain ⟨N, hN⟩ : ∃ N : Nat, (N : Int) = La - F + 1 := ⟨(La - F + 1).toNat, by omega⟩
  have hNN : (La - F + 1).toNat = N := by omega
  rw [hNN]
  (repeat' (first | (with_reducible intro _) | refine sv ?_ | (refine sc ?_ ?_ <;> (intro h; try first | exact h.elim | exact absurd rfl h | (exfalso; omega))) | (refine sg ?_ ?_ <;> (intro h; (fail_if_success (have : True := h)); try first | exact h.elim | exact absurd rfl h | (exfalso; omega))) | assumption | exact xm | exact rfl))
  refine w_loop_ind (fun z E ms M' => ∃ (c : Nat) (v : LV), z = N - c /\ c <= N /\ ms = [] /\ Has E [(3, .ptr (some (n2, 0))), (7, .map (some n4)), (10, v), (11, I (F + c))] /\ Vec M5.next 1 3 intc M' v (poorL L (F, La, Ch, sm, Mo) c) /\ Grow M5 M' /\ M5.next <= M'.next)
   ?_ N _ _ _ ⟨0, _, by omega, by omega, rfl, .cons rfl (.cons rfl (.cons rfl (.cons (by show some (I _) = some (I _); simp) .nil))), Vec.nil, Grow.refl _, Nat.le_refl _⟩
  rintro z E ms M6 ⟨c, v, rfl, hc, rfl, hE, hv6, hg6, hle6⟩
  refine w_has hE ?_
  have hB6 := At.grow hg6 hB2
  by_cases hlast : c = N
  ·subst hlast
   (repeat' (first | (with_reducible intro _) | refine sv ?_ | (refine sc ?_ ?_ <;> (intro h; try first | exact h.elim | exact absurd rfl h | (exfalso; omega))) | (refine sg ?_ ?_ <;> (intro h; (fail_if_success (have : True := h)); try first | exact h.elim | exact absurd rfl h | (exfalso; omega))) | assumption | exact xm | exact rfl))
   all_goals try (exfalso; omega)
   ((with_reducible first | apply k_fun | apply k_fun_norm); exact rx)
   obtain ⟨a3, f3, e3, rfl, hs3⟩ := SlI.vec hv6
   exact ⟨_, _, _, rfl, hs3, hg5.trans hg6⟩
  have hlt : c < N := by omega
  have hm6 := hm5.grow hg6
  have hst := poorL_s L (F, La, Ch, sm, Mo) c
  have hlen6 := poorL_len L (F, La, Ch, sm, Mo) c
  have hpq : pq L (F, La, Ch, (sm : Int), Mo) (F + c) = decide (Ch - gqN L Ch sm L.length (F + c) > Mo) := rfl
  have hqb := gqN_bd L Ch sm (F + c) L.length
  have hlk : lkV (β := Int) I (I 0) (lk D (F + c)) = I (gqN L Ch sm L.length (F + c)) := by rw [lkV_I, hD]; rfl
  rw [hpq] at hst
  generalize gqN L Ch sm L.length (F + c) = Q at *
  (repeat' (first | (with_reducible intro _) | refine sv ?_ | (refine sc ?_ ?_ <;> (intro h; try first | exact h.elim | exact absurd rfl h | (exfalso; omega))) | (refine sg ?_ ?_ <;> (intro h; (fail_if_success (have : True := h)); try first | exact h.elim | exact absurd rfl h | (exfalso; omega))) | assumption | exact xm | exact rfl))
  all_goals try (exfalso; omega)
  refine x_val (by exact gd) (MpI.look1 hm6 rfl rfl) ?_
  rw [hlk]
  by_cases hd9 : Ch - Q > Mo
  ·rw [decide_eq_true hd9] at hst
   (repeat' (first | (with_reducible intro _) | refine sv ?_ | (refine sc ?_ ?_ <;> (intro h; try first | exact h.elim | exact absurd rfl h | (exfalso; omega))) | (refine sg ?_ ?_ <;> (intro h; (fail_if_success (have : True := h)); try first | exact h.elim | exact absurd rfl h | (exfalso; omega))) | assumption | exact xm | exact rfl))
   all_goals try (exfalso; omega)
   rename_i m9 M9 hN9 e8 e9
   have hv9 := hv6.grow hN9.grow
   refine x_vec_app (by exact gd) (l' := [F + (c : Int)]) hv9 rfl rfl rfl (by simp) (by rw [List.length_singleton]; omega) rfl (one_first hN9) (fun _ => rfl) (fun _ => rfl) (by omega) ?_
   intro v' M10 hv10 e10 hk10
   have hg10 : Grow M5 M10 := Keep.to_grow' (hg6.trans hN9.grow) hk10 (fun i hi => hi.1)
   (repeat' (first | (with_reducible intro _) | refine sv ?_ | (refine sc ?_ ?_ <;> (intro h; try first | exact h.elim | exact absurd rfl h | (exfalso; omega))) | (refine sg ?_ ?_ <;> (intro h; (fail_if_success (have : True := h)); try first | exact h.elim | exact absurd rfl h | (exfalso; omega))) | assumption | exact xm | exact rfl))
   refine k_step (N - (c + 1)) (by omega) ⟨c + 1, v', rfl, by omega, rfl, .cons rfl (.cons rfl (.cons rfl (.cons ?_ .nil))), by rw [hst]; exact hv10, hg10, by omega⟩
   show some (I _) = some (I _)
   rw [show F + ((c + 1 : Nat) : Int) = F + c + 1 by omega]
  ·rw [decide_eq_false hd9] at hst
   (repeat' (first | (with_reducible intro _) | refine sv ?_ | (refine sc ?_ ?_ <;> (intro h; try first | exact h.elim | exact absurd rfl h | (exfalso; omega))) | (refine sg ?_ ?_ <;> (intro h; (fail_if_success (have : True := h)); try first | exact h.elim | exact absurd rfl h | (exfalso; omega))) | assumption | exact xm | exact rfl))
   all_goals try (exfalso; omega)
   refine k_step (N - (c + 1)) (by omega) ⟨c + 1, v, rfl, by omega, rfl, .cons rfl (.cons rfl (.cons rfl (.cons ?_ .nil))), by rw [hst]; simpa using hv6, hg6, hle6⟩
   show some (I _) = some (I _)
   rw [show F + ((c + 1 : Nat) : Int) = F + c + 1 by omega]
 have hlt : k < L.length := by omega
 obtain ⟨i, o, b, g, rfl, hr, hsl⟩ := hs5.rd hlt
 have hfi := hfr k hlt
 have hst := gq_s L Ch sm k
 have hgd : gdF Ch sm (fe L k) = (decide ((fe L k).2.1 < Ch) && (decide (sm <= (fe L k).2.2.length) && ((fe L k).2.2.take sm).all knB)) := rfl
 have hqb := gqN_bd L Ch sm (fe L k).1 k
 have hlk : lkV (β := Int) I (I 0) (lk D (fe L k).1) = I (gqN L Ch sm k (fe L k).1) := by rw [lkV_I, hD]; rfl
 have hno9 : gdF Ch sm (fe L k) = false -> ∀ c, lk D c = gq L Ch sm (k + 1) c := fun hh c => by rw [hst, hh, hD]; simp
 have hyes9 : gdF Ch sm (fe L k) = true -> ∀ c, lk (stM D (fe L k).1 (gqN L Ch sm k (fe L k).1 + 1)) c = gq L Ch sm (k + 1) c := fun hh c => by
  rw [hst, hh, lk_st, hD]
  unfold gqN
  by_cases hc : c = (fe L k).1
  ·subst hc; simp
  ·simp [hc]
 clear hst
 generalize gqN L Ch sm k (fe L k).1 = Q at *
 generalize gdF Ch sm (fe L k) = GD at *
 obtain ⟨-, -, hS9, -⟩ := hfi
 generalize (fe L k).1 = s1 at *
 generalize (fe L k).2.1 = s2 at *
 generalize (fe L k).2.2 = S at *
 by_cases hc1 : s2 < Ch
 case neg =>
  rw [decide_eq_false hc1, Bool.false_and] at hgd
  (have hrd0 := hr; repeat' (first | (with_reducible intro _) | refine sv ?_ | (refine sc ?_ ?_ <;> (intro h; try first | exact h.elim | exact absurd rfl h | (exfalso; omega))) | (refine sg ?_ ?_ <;> (intro h; (fail_if_success (have : True := h)); try first | exact h.elim | exact absurd rfl h | (exfalso; omega))) | assumption | exact xm | exact rfl))
  all_goals try (exfalso; omega)
  rename_i m6 M6 hN6 q1 q2 M7 hU7 q3 hA7 hx9
  have hg7 : Grow M5 M7 := xg
  exact k_step (L.length - (k + 1)) (by omega) ⟨k + 1, D, rfl, by omega, rfl, .cons rfl (.cons rfl (.cons rfl (.cons rfl (.cons rfl .nil)))), xk, hm5.grow hg7, hno9 hgd⟩
 rw [decide_eq_true hc1, Bool.true_and] at hgd
 by_cases hc2 : sm <= S.length
 case neg =>
  rw [decide_eq_false hc2, Bool.false_and] at hgd
  (have hrd0 := hr; repeat' (first | (with_reducible intro _) | refine sv ?_ | (refine sc ?_ ?_ <;> (intro h; try first | exact h.elim | exact absurd rfl h | (exfalso; omega))) | (refine sg ?_ ?_ <;> (intro h; (fail_if_success (have : True := h)); try first | exact h.elim | exact absurd rfl h | (exfalso; omega))) | assumption | exact xm | exact rfl))
  all_goals try (exfalso; omega)
  rename_i m6 M6 hN6 q1 q2 M7 hU7 q3 hA7 hx8 hx9
  have hg7 : Grow M5 M7 := xg
  exact k_step (L.length - (k + 1)) (by omega) ⟨k + 1, D, rfl, by omega, rfl, .cons rfl (.cons rfl (.cons rfl (.cons rfl (.cons rfl .nil)))), xk, hm5.grow hg7, hno9 hgd⟩
 rw [decide_eq_true hc2, Bool.true_and] at hgd
 have hct : ∀ M', Grow M5 M' -> ∀ (b' : Option (Nat × Nat)) (g' : Bool) (u' : Nat), SlI M' b' (S.take sm) -> CallOk Tryz.prog 45 [.slice b' sm g' u', .func (.func 52) [] []] M' (fun w M'' => w = .bool (!(S.take sm).all knB) /\ M'' = M') := fun M' hg b' g' u' hsl' => by
  have hl : (S.take sm).length = sm := by rw [List.length_take]; omega
  have := c_Contains (f := g') (e := u') (g := 52) (fi := []) (ca := []) (M := M') (fun n => !knB n) (by omega) hsl' (fun n _ => c_Poor1 n M') (fun n _ M2 _ => c_Poor1 n M2)
  rw [any_not, hl] at this; exact this
 (have hrd0 := hr; repeat' (first | (with_reducible intro _) | refine sv ?_ | (refine sc ?_ ?_ <;> (intro h; try first | exact h.elim | exact absurd rfl h | (exfalso; omega))) | (refine sg ?_ ?_ <;> (intro h; (fail_if_success (have : True := h)); try first | exact h.elim | exact absurd rfl h | (exfalso; omega))) | assumption | exact xm | exact rfl))
 all_goals try (exfalso; omega)
 rename_i m6 M6 hN6 q1 q2 M7 hU7 q3 hA7 hx8
 have hg7 : Grow M5 M7 := xg
 obtain ⟨b8, g8, u8, hsc, hst8⟩ := sli_take (f := g) (hsl.grow hg7) hc2
 refine x_val (by exact gd) (xs_slcHi hsc rfl rfl) ?_
 have hct7 := hct M7 hg7 b8 g8 u8 hst8
 have hm7 := hm5.grow hg7
 have hk7 : Keep (fun i => i = n4) M4 M7 := xk
 generalize (S.take sm).all knB = A9 at *
 cases A9 with
 | false =>
  (repeat' (first | (with_reducible intro _) | refine sv ?_ | (refine sc ?_ ?_ <;> (intro h; try first | exact h.elim | exact absurd rfl h | (exfalso; omega))) | ((with_reducible first | apply x_same | apply d_same | apply d_same0); exact gd; exact rfl; exact rfl; (first | exact hct7)) | (refine sg ?_ ?_ <;> (intro h; (fail_if_success (have : True := h)); try first | exact h.elim | exact absurd rfl h | (exfalso; omega))) | assumption | exact xm | exact rfl))
  exact k_step (L.length - (k + 1)) (by omega) ⟨k + 1, D, rfl, by omega, rfl, .cons rfl (.cons rfl (.cons rfl (.cons rfl (.cons rfl .nil)))), hk7, hm7, hno9 hgd⟩
 | true =>
  (repeat' (first | (with_reducible intro _) | refine sv ?_ | (refine sc ?_ ?_ <;> (intro h; try first | exact h.elim | exact absurd rfl h | (exfalso; omega))) | ((with_reducible first | apply x_same | apply d_same | apply d_same0); exact gd; exact rfl; exact rfl; (first | exact hct7)) | (refine sg ?_ ?_ <;> (intro h; (fail_if_success (have : True := h)); try first | exact h.elim | exact absurd rfl h | (exfalso; omega))) | assumption | exact xm | exact rfl))
  refine x_val (by exact gd) (MpI.look1 hm7 rfl rfl) ?_
  rw [hlk]
  (repeat' (first | (with_reducible intro _) | refine sv ?_ | (refine sc ?_ ?_ <;> (intro h; try first | exact h.elim | exact absurd rfl h | (exfalso; omega))) | (refine sg ?_ ?_ <;> (intro h; (fail_if_success (have : True := h)); try first | exact h.elim | exact absurd rfl h | (exfalso; omega))) | assumption | exact xm | exact rfl))
  refine x_mset_i (v := Q + 1) (by exact gd) hm7 rfl rfl rfl ?_
  intro lb M9 hU9 e9 hm9
  have hk9 : Keep (fun i => i = n4) M4 M9 := xk
  (repeat' (first | (with_reducible intro _) | refine sv ?_ | (refine sc ?_ ?_ <;> (intro h; try first | exact h.elim | exact absurd rfl h | (exfalso; omega))) | (refine sg ?_ ?_ <;> (intro h; (fail_if_success (have : True := h)); try first | exact h.elim | exact absurd rfl h | (exfalso; omega))) | assumption | exact xm | exact rfl))
  exact k_step (L.length - (k + 1)) (by omega) ⟨k + 1, _, rfl, by omega, rfl, .cons rfl (.cons rfl (.cons rfl (.cons rfl (.cons rfl .nil)))), hk9, hm9, hyes9 hgd⟩
set_option maxHeartbeats 8000000 in
theorem c_goodR {M : Mem} {v : LV} {r : Rl} {s c : Int} {sm : Nat} (hv : RlV M v r) (hin : RlIn r) (hR : rlK r.2 r.2.length = true) (hsm : sm <= 64) : CallOk Tryz.prog 53 [v, I s, I c, I sm] M (fun w M' => w = .bool (goodB r.2 sm s r.2.length c) /\ Grow M M') := by
 obtain ⟨a, f, e, rfl, hs⟩ := hv
 refine call_in k53 rfl ?_
 dsimp only [x53, zipE, Nat.reduceAdd]
 have hfr := fun k (hk : k < r.2.length) => hin.fr hk
 have hlen := hin.2.1
 have hno9 : (∀ j, j < r.2.length -> mtB s c (fe r.2 j) = false) -> goodB r.2 sm s r.2.length c = false := fun hh => goodB_no hh
 have hyes9 : ∀ j, j < r.2.length -> mtB s c (fe r.2 j) = true -> goodB r.2 sm s r.2.length c = gdS sm (fe r.2 j) := fun j hj hm => goodB_one hR hj hm
 generalize goodB r.2 sm s r.2.length c = GB at *
 generalize r.2 = L at *
 generalize r.1 = nm at *
 (repeat' (first | (with_reducible intro _) | refine sv ?_ | (refine sc ?_ ?_ <;> (intro h; try first | exact h.elim | exact absurd rfl h | (exfalso; omega))) | (refine sg ?_ ?_ <;> (intro h; (fail_if_success (have : True := h)); try first | exact h.elim | exact absurd rfl h | (exfalso; omega))) | assumption | exact xm | exact rfl))
 rename_i n1 M1 hN1 q1 q2
 have hA1 := At.new_same hN1
 have hg1 := hN1.grow
 have hs1 := hs.grow hg1
 clear hN1
 dsimp only [LV.cells] at hA1
 refine w_loop_ind (fun z E ms M' => ∃ k : Nat, z = L.length - k /\ k <= L.length /\ ms = [] /\ Has E [(1, I s), (2, I c), (3, I sm), (4, .ptr (some (n1, 0))), (9, I k)] /\ Grow M1 M' /\ ∀ j, j < k -> mtB s c (fe L j) = false)
  ?_ L.length _ _ _ ⟨0, by omega, by omega, rfl, .cons rfl (.cons rfl (.cons rfl (.cons rfl (.cons rfl .nil)))), Grow.refl _, fun j hj => absurd hj (Nat.not_lt_zero _)⟩
 rintro z E ms M2 ⟨k, rfl, hk, rfl, hE, hg2, hall⟩
 refine w_has hE ?_
 have hA2 := At.grow hg2 hA1
 by_cases hlast : k = L.length
 ·subst hlast
  rw [hno9 hall]
  (repeat' (first | (with_reducible intro _) | refine sv ?_ | (refine sc ?_ ?_ <;> (intro h; try first | exact h.elim | exact absurd rfl h | (exfalso; omega))) | (refine sg ?_ ?_ <;> (intro h; (fail_if_success (have : True := h)); try first | exact h.elim | exact absurd rfl h | (exfalso; omega))) | assumption | exact xm | exact rfl))
  ((with_reducible first | apply k_fun | apply k_fun_norm); exact rx)
  exact ⟨rfl, hg1.trans hg2⟩
 have hlt : k < L.length := by omega
 obtain ⟨i, o, b, g, u, rfl, hr, hfv⟩ := (hs1.grow hg2).rd hlt
 have hmt : mtB s c (fe L k) = (decide ((fe L k).1 = s) && decide ((fe L k).2.1 = c)) := rfl
 have hgs : gdS sm (fe L k) = allK (fe L k).2.2 sm := rfl
 have hy := hyes9 k hlt
 rw [hgs] at hy
 have hnext : mtB s c (fe L k) = false -> ∀ j, j < k + 1 -> mtB s c (fe L j) = false := fun hh j hj => by
  by_cases hjk : j = k
  ·subst hjk; exact hh
  ·exact hall j (by omega)
 generalize mtB s c (fe L k) = MT at *
 by_cases hc1 : (fe L k).1 = s
 case neg =>
  rw [decide_eq_false hc1, Bool.false_and] at hmt
  (have hrd0 := hr; repeat' (first | (with_reducible intro _) | refine sv ?_ | (refine sc ?_ ?_ <;> (intro h; try first | exact h.elim | exact absurd rfl h | (exfalso; omega))) | (refine sg ?_ ?_ <;> (intro h; (fail_if_success (have : True := h)); try first | exact h.elim | exact absurd rfl h | (exfalso; omega))) | assumption | exact xm | exact rfl))
  all_goals try (exfalso; omega)
  exact k_step (L.length - (k + 1)) (by omega) ⟨k + 1, rfl, by omega, rfl, .cons rfl (.cons rfl (.cons rfl (.cons rfl (.cons rfl .nil)))), hg2.trans (xg), hnext hmt⟩
 rw [decide_eq_true hc1, Bool.true_and] at hmt
 by_cases hc2 : (fe L k).2.1 = c
 case neg =>
  rw [decide_eq_false hc2] at hmt
  (have hrd0 := hr; repeat' (first | (with_reducible intro _) | refine sv ?_ | (refine sc ?_ ?_ <;> (intro h; try first | exact h.elim | exact absurd rfl h | (exfalso; omega))) | (refine sg ?_ ?_ <;> (intro h; (fail_if_success (have : True := h)); try first | exact h.elim | exact absurd rfl h | (exfalso; omega))) | assumption | exact xm | exact rfl))
  all_goals try (exfalso; omega)
  exact k_step (L.length - (k + 1)) (by omega) ⟨k + 1, rfl, by omega, rfl, .cons rfl (.cons rfl (.cons rfl (.cons rfl (.cons rfl .nil)))), hg2.trans (xg), hnext hmt⟩
 rw [decide_eq_true hc2] at hmt
 rw [hy hmt]
 (have hrd0 := hr; repeat' (first | (with_reducible intro _) | refine sv ?_ | (refine sc ?_ ?_ <;> (intro h; try first | exact h.elim | exact absurd rfl h | (exfalso; omega))) | (refine sg ?_ ?_ <;> (intro h; (fail_if_success (have : True := h)); try first | exact h.elim | exact absurd rfl h | (exfalso; omega))) | assumption | exact xm | exact rfl))
 all_goals try (exfalso; omega)
 rename_i m6 M6 hN6 q3 q4 M7 hU7 q5 hA7 hx8
 have hg27 : Grow M2 M7 := xg
 have hg7 : Grow M M7 := hg1.trans (hg2.trans hg27)
 have hfv7 := hfv.grow hg27
 clear hN6 hU7 hA1 hA2 hg1 hg2 hg27
 refine w_loop_ind (fun z E ms M' => ∃ j : Nat, z = sm - j /\ j <= sm /\ ms = [] /\ Has E [(3, I sm), (10, .ptr (some (m6, 0))), (11, .bool (allK (fe L k).2.2 j)), (12, I j)] /\ Grow M7 M')
  ?_ sm _ _ _ ⟨0, by omega, by omega, rfl, .cons rfl (.cons rfl (.cons rfl (.cons rfl .nil))), Grow.refl _⟩
 rintro z E ms M8 ⟨j, rfl, hj, rfl, hE, hg8⟩
 refine w_has hE ?_
 have hA8 := At.grow hg8 hA7
 by_cases hlast : j = sm
 ·subst hlast
  (repeat' (first | (with_reducible intro _) | refine sv ?_ | (refine sc ?_ ?_ <;> (intro h; try first | exact h.elim | exact absurd rfl h | (exfalso; omega))) | (refine sg ?_ ?_ <;> (intro h; (fail_if_success (have : True := h)); try first | exact h.elim | exact absurd rfl h | (exfalso; omega))) | assumption | exact xm | exact rfl))
  ((with_reducible first | apply k_fun | apply k_fun_norm); exact rx)
  exact ⟨rfl, hg7.trans hg8⟩
 have hst := allK_s (fe L k).2.2 j
 have hcs := c_sampleR (k := j) (hfv7.grow hg8)
 generalize allK (fe L k).2.2 j = A at *
 cases A with
 | false =>
  (repeat' (first | (with_reducible intro _) | refine sv ?_ | (refine sc ?_ ?_ <;> (intro h; try first | exact h.elim | exact absurd rfl h | (exfalso; omega))) | (refine sg ?_ ?_ <;> (intro h; (fail_if_success (have : True := h)); try first | exact h.elim | exact absurd rfl h | (exfalso; omega))) | assumption | exact xm | exact rfl))
  exact k_step (sm - (j + 1)) (by omega) ⟨j + 1, rfl, by omega, rfl, .cons rfl (.cons rfl (.cons (by rw [hst]; rfl) (.cons rfl .nil))), hg8⟩
 | true =>
  (repeat' (first | (with_reducible intro _) | refine sv ?_ | (refine sc ?_ ?_ <;> (intro h; try first | exact h.elim | exact absurd rfl h | (exfalso; omega))) | ((with_reducible first | apply x_same | apply d_same | apply d_same0); exact gd; exact rfl; exact rfl; (first | exact c_knownR _ _)) | ((with_reducible first | apply x_pure | apply d_pure | apply d_pure0); exact gd; exact rfl; exact rfl; (first | exact hcs)) | (refine sg ?_ ?_ <;> (intro h; (fail_if_success (have : True := h)); try first | exact h.elim | exact absurd rfl h | (exfalso; omega))) | assumption | exact xm | exact rfl))
  exact k_step (sm - (j + 1)) (by omega) ⟨j + 1, rfl, by omega, rfl, .cons rfl (.cons rfl (.cons (by rw [hst]; rfl) (.cons rfl .nil))), hg8.trans (xg)⟩
end Go.Proofs.YtbfnnllgdioccaaGreatDoor.C
end
