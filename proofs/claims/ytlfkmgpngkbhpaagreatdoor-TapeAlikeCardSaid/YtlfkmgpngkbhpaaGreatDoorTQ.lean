/-
 Part of the proof of TapeAlike: what functions of the program and of the statement come to, walked by the rules. No condition beyond those in each theorem.
-/
import Derived.Test.YtlfkmgpngkbhpaaGreatDoorTP
import Derived.Test.YtlfkmgpngkbhpaaGreatDoorTW
section
open Go PvL Go.Proofs
set_option linter.unusedSimpArgs false
set_option linter.unusedVariables false
namespace Go.Proofs.YtlfkmgpngkbhpaaGreatDoor.C
theorem c_get {M : Mem} {a : Option (Nat × Nat)} {l : List Int} {f : Bool} {e k : Nat} (hs : SlI M a l) : CallOk Tryz.prog 113 [.slice a l.length f e, I k] M (fun w M' => w = I (getG l k) /\ M' = M) := by
 refine call_in k113 rfl ?_
 dsimp only [x113, zipE, Nat.reduceAdd]
 by_cases hk : k < l.length
 ·obtain ⟨i, o, rfl, hr⟩ := hs.rd hk
  rw [getG_lt hk]
  (have hrd0 := hr; repeat' (first | (with_reducible intro _) | refine sv ?_ | (refine sc ?_ ?_ <;> (intro h; try first | exact h.elim | exact absurd rfl h | (exfalso; omega))) | (refine sg ?_ ?_ <;> (intro h; (fail_if_success (have : True := h)); try first | exact h.elim | exact absurd rfl h | (exfalso; omega))) | assumption | exact xm | exact rfl))
  ((with_reducible first | apply k_fun | apply k_fun_norm); exact rx)
  exact ⟨rfl, rfl⟩
 ·rw [getG_ge (by omega)]
  (repeat' (first | (with_reducible intro _) | refine sv ?_ | (refine sc ?_ ?_ <;> (intro h; try first | exact h.elim | exact absurd rfl h | (exfalso; omega))) | (refine sg ?_ ?_ <;> (intro h; (fail_if_success (have : True := h)); try first | exact h.elim | exact absurd rfl h | (exfalso; omega))) | assumption | exact xm | exact rfl))
  ((with_reducible first | apply k_fun | apply k_fun_norm); exact rx)
  exact ⟨rfl, rfl⟩
theorem c_joined {M : Mem} (a b : Int) : CallOk Tryz.prog 114 [I a, I b, I 40000, I 40001] M (fun w M' => w = I (joinI a b) /\ M' = M) := by
 refine call_in k114 rfl ?_
 dsimp only [x114, zipE, Nat.reduceAdd]
 (repeat' (first | (with_reducible intro _) | refine sv ?_ | (refine sc ?_ ?_ <;> (intro h; try first | exact h.elim | exact absurd rfl h | (exfalso; omega))) | (refine sg ?_ ?_ <;> (intro h; (fail_if_success (have : True := h)); try first | exact h.elim | exact absurd rfl h | (exfalso; omega))) | assumption | exact xm | exact rfl))
 all_goals (((with_reducible first | apply k_fun | apply k_fun_norm); exact rx); refine ⟨?_, rfl⟩; simp_all [packed, joinI])
set_option maxHeartbeats 2000000 in
theorem c_both {M : Mem} {a b : Option (Nat × Nat)} {la lb : List Int} {fa fb : Bool} {ea eb : Nat} (ha : SlI M a la) (hb : SlI M b lb) (hla : la.length <= 1000000) (hlb : lb.length <= 1000000) :
  CallOk Tryz.prog 73 [.slice a la.length fa ea, .slice b lb.length fb eb] M (fun w M' => Vec M.next 1 3 intc M' w (bothL la lb) /\ Grow M M') := by
 refine call_in k73 rfl ?_
 dsimp only [x73, zipE, Nat.reduceAdd]
 (repeat' (first | (with_reducible intro _) | refine sv ?_ | (refine sc ?_ ?_ <;> (intro h; try first | exact h.elim | exact absurd rfl h | (exfalso; omega))) | (refine sg ?_ ?_ <;> (intro h; (fail_if_success (have : True := h)); try first | exact h.elim | exact absurd rfl h | (exfalso; omega))) | assumption | exact xm | exact rfl))
 have hN : iMax (la.length : Int) (lb.length : Int) = ((max la.length lb.length : Nat) : Int) := iMax_nat _ _
 generalize hNN : max la.length lb.length = N at hN
 have hlen : (bothL la lb).length = N := by rw [bothL_len, hNN]
 refine w_loop_ind (fun m E ms M' => ∃ (k : Nat) (v : LV), m = N - k /\ k <= N /\ ms = [] /\ Has E [(0, .slice a la.length fa ea), (1, .slice b lb.length fb eb), (5, .func (.func 113) [] []), (6, v), (12, I N), (13, I k)] /\ Vec M.next 1 3 intc M' v ((bothL la lb).take k) /\ Grow M M' /\ M.next <= M'.next)
  ?_ N _ _ _ ⟨0, _, by omega, by omega, rfl, .cons rfl (.cons rfl (.cons rfl (.cons rfl (.cons (by rw [<- hN]; rfl) (.cons rfl .nil))))), by rw [List.take_zero]; exact Vec.nil, xg, Nat.le_refl _⟩
 rintro n E ms M' ⟨k, v, rfl, hk, rfl, hE, hv, hg, hle⟩
 refine w_has hE ?_
 by_cases hlast : k = N
 ·subst hlast
  (repeat' (first | (with_reducible intro _) | refine sv ?_ | (refine sc ?_ ?_ <;> (intro h; try first | exact h.elim | exact absurd rfl h | (exfalso; omega))) | (refine sg ?_ ?_ <;> (intro h; (fail_if_success (have : True := h)); try first | exact h.elim | exact absurd rfl h | (exfalso; omega))) | assumption | exact xm | exact rfl))
  ((with_reducible first | apply k_fun | apply k_fun_norm); exact rx)
  rw [List.take_of_length_le (by omega)] at hv
  exact ⟨hv, hg⟩
 ·have hlt : k < N := by omega
  have ha' := ha.grow hg
  have hb' := hb.grow hg
  (repeat' (first | (with_reducible intro _) | refine sv ?_ | (refine sc ?_ ?_ <;> (intro h; try first | exact h.elim | exact absurd rfl h | (exfalso; omega))) | ((with_reducible first | apply x_same | apply d_same | apply d_same0); exact gd; exact rfl; exact rfl; (first | exact c_get ha' | exact c_get hb' | exact c_joined _ _)) | (refine sg ?_ ?_ <;> (intro h; (fail_if_success (have : True := h)); try first | exact h.elim | exact absurd rfl h | (exfalso; omega))) | assumption | exact xm | exact rfl))
  rename_i m M2 hn e1 e2
  have hv2 := hv.grow hn.grow
  have htl : ((bothL la lb).take k).length = k := by rw [List.length_take]; omega
  refine x_vec_app (by exact gd) (l' := [joinI (getG la k) (getG lb k)]) hv2 rfl rfl rfl (by simp) (by rw [htl, List.length_singleton]; omega) rfl (one_first hn) (fun _ => rfl) (fun _ => rfl) (by omega) ?_
  intro v' M3 hv3 e3 hk3
  have hg3 : Grow M M3 := Keep.to_grow' (hg.trans hn.grow) hk3 (fun i hi => hi.1)
  (repeat' (first | (with_reducible intro _) | refine sv ?_ | (refine sc ?_ ?_ <;> (intro h; try first | exact h.elim | exact absurd rfl h | (exfalso; omega))) | (refine sg ?_ ?_ <;> (intro h; (fail_if_success (have : True := h)); try first | exact h.elim | exact absurd rfl h | (exfalso; omega))) | assumption | exact xm | exact rfl))
  refine k_step (N - (k + 1)) (by omega) ⟨k + 1, v', rfl, by omega, rfl, .cons rfl (.cons rfl (.cons rfl (.cons rfl (.cons rfl (.cons rfl .nil))))), ?_, hg3, by omega⟩
  rw [bothL_take (by omega)]; exact hv3
theorem c_keyOf {M : Mem} {v : LV} {x : Fr} (hv : FrV M v x) : CallOk Tryz.prog 65 [v] M (fun w M' => w = .agg [I x.1, I x.2.1] /\ Grow M M') := by
 obtain ⟨a, f, e, rfl, hs⟩ := hv
 refine call_in k65 rfl ?_
 dsimp only [x65, zipE, Nat.reduceAdd]
 (repeat' (first | (with_reducible intro _) | refine sv ?_ | (refine sc ?_ ?_ <;> (intro h; try first | exact h.elim | exact absurd rfl h | (exfalso; omega))) | (refine sg ?_ ?_ <;> (intro h; (fail_if_success (have : True := h)); try first | exact h.elim | exact absurd rfl h | (exfalso; omega))) | assumption | exact xm | exact rfl))
 ((with_reducible first | apply k_fun | apply k_fun_norm); exact rx)
 exact ⟨rfl, xg⟩
theorem eqV_2int {P : Program} {t e : TypeId} (hu : P.underlying t = some (.array 2 e)) (hi : P.underlying e = some (.int .i64)) (hg : P.eqGuardType P.depth t = false) (hs : szOf P e = some 1) (ha : aggSz P e = some none) (a b c d : Int) :
  eqV P t (.agg [I a, I b]) (.agg [I c, I d]) = some (decide (a = c) && decide (b = d)) := by
 have he : ∀ x y : Int, eqL P (Op.maxDepth - 1) e (I x) (I y) = some (decide (x = y)) := fun x y => by
  show eqL P (Op.maxDepth - 2 + 1) e (I x) (I y) = _
  unfold eqL
  rw [hi]
  show guard' (kEq .i64 .i64) (some (ieq x y)) = _
  rw [kEq_iff.2 rfl, guard'_true, ieq_eq]
  rfl
 have hp : ∀ (i : Nat) (xs ys : List LV) (x y : Int), nth xs i = some (I x) -> nth ys i = some (I y) -> eqPart P (eqL P (Op.maxDepth - 1)) e i xs ys = some (decide (x = y)) := fun i xs ys x y h1 h2 => by
  unfold eqPart
  rw [ha, ob_some, oe_none, h1, ob_some, h2, ob_some]; exact he x y
 unfold eqV
 show ifb (ifb true (P.eqGuardType P.depth t) false) none _ = _
 rw [ifb_true, hg, ifb_false]
 show eqL P (Op.maxDepth - 1 + 1) t _ _ = _
 unfold eqL
 rw [hu]
 show ob (szOf P e) _ = _
 rw [hs, ob_some]
 show andO (eqPart P (eqL P (Op.maxDepth - 1)) e 0 [I a, I b] [I c, I d]) (andO (eqPart P (eqL P (Op.maxDepth - 1)) e 1 [I a, I b] [I c, I d]) (some true)) = _
 rw [hp 0 _ _ a c rfl rfl, hp 1 _ _ b d rfl rfl]
 unfold andO
 rw [ob_some, ob_some]
 by_cases h1 : a = c <;> by_cases h2 : b = d <;> simp [h1, h2, ifb]
theorem eqV_key (a b c d : Int) : eqV Tryz.prog 101 (.agg [I a, I b]) (.agg [I c, I d]) = some (decide (a = c) && decide (b = d)) :=
 eqV_2int (e := 3) (by kernel_rfl) (by kernel_rfl) (by kernel_rfl) (by kernel_rfl) (by kernel_rfl) a b c d
theorem xs_nekey {E : Env} {M : Mem} {x y : XO} {a b c d : Int} (hx : xval E x = some (.agg [I a, I b])) (hy : xval E y = some (.agg [I c, I d])) : xstep Tryz.prog (.eqg true 101 x y) E M = some (.val (.bool (!(decide (a = c) && decide (b = d)))) M) := by
 show ob (xval E x) _ = _
 rw [hx, ob_some, hy, ob_some]
 show guard' true (ob (eqV Tryz.prog 101 _ _) _) = _
 rw [eqV_key, guard'_true, ob_some]
 cases (decide (a = c) && decide (b = d)) <;> rfl
abbrev zFr : Fr := (0, 0, [])
def joinF (x y : Fr) : Fr × Int :=
 if errF x = 0 then (if errF y = 0 then (if x.1 = y.1 /\ x.2.1 = y.2.1 then ((x.1, x.2.1, bothL x.2.2 y.2.2), 0) else (zFr, 2)) else (zFr, errF y)) else (zFr, errF x)
theorem frV_zero (M : Mem) : FrV M (.agg [I 0, I 0, .slice none 0 true 0]) zFr := ⟨none, true, 0, rfl, .inl rfl⟩
theorem errF_ok {x : Fr} (h : errF x = 0) : 0 <= x.1 /\ x.1 <= 60000 /\ 0 <= x.2.1 /\ x.2.1 <= 23 /\ 1 <= x.2.2.length /\ x.2.2.length <= 64 /\ x.2.2.all smB = true := by
 unfold errF at h
 cases hb : frB x with
 | false => rw [hb] at h; simp at h
 | true =>
  unfold frB smsB btB at hb
  simp only [Bool.and_eq_true, decide_eq_true_eq] at hb
  obtain ⟨⟨h1, h2⟩, ⟨h3, h4⟩, ⟨h5, h6⟩, h7⟩ := hb
  exact ⟨h1, h2, h3, h4, by omega, by omega, h7⟩
set_option maxHeartbeats 4000000 in
theorem c_Join {M : Mem} {v w : LV} {x y : Fr} (hv : FrV M v x) (hw : FrV M w y) (hx : FrIn x) (hy : FrIn y) :
  CallOk Tryz.prog 21 [v, w] M (fun r M' => ∃ q, r = .tup [q, I (joinF x y).2] /\ FrV M' q (joinF x y).1 /\ Grow M M') := by
 have hv0 := hv
 have hw0 := hw
 obtain ⟨a, f, e, rfl, hs⟩ := hv
 obtain ⟨b, f', e', rfl, hs'⟩ := hw
 refine call_in k21 rfl ?_
 dsimp only [x21, zipE, Nat.reduceAdd]
 by_cases hex : errF x = 0
 ·have hc1 : ∀ M', Grow M M' -> CallOk Tryz.prog 16 [.agg [I x.1, I x.2.1, .slice a x.2.2.length f e]] M' (fun w M2 => w = I 0 /\ Grow M' M2) := fun M' hg => by
   have := c_CheckFrame (hv0.grow hg) hx
   rw [hex] at this; exact this
  obtain ⟨u1, u2, u3, u4, u5, u6, u7⟩ := errF_ok hex
  by_cases hey : errF y = 0
  ·have hc2 : ∀ M', Grow M M' -> CallOk Tryz.prog 16 [.agg [I y.1, I y.2.1, .slice b y.2.2.length f' e']] M' (fun w M2 => w = I 0 /\ Grow M' M2) := fun M' hg => by
    have := c_CheckFrame (hw0.grow hg) hy
    rw [hey] at this; exact this
   obtain ⟨w1, w2, w3, w4, w5, w6, w7⟩ := errF_ok hey
   (repeat' (first | (with_reducible intro _) | refine sv ?_ | refine su ?_ | (refine sc ?_ ?_ <;> (intro h; try first | exact h.elim | exact absurd rfl h | (exfalso; omega))) | ((with_reducible first | apply x_pure | apply d_pure | apply d_pure0); exact gd; exact rfl; exact rfl; (first | exact hc1 _ (xg) | exact hc2 _ (xg) | exact c_keyOf (hv0.grow (xg)) | exact c_keyOf (hw0.grow (xg)))) | (refine sg ?_ ?_ <;> (intro h; (fail_if_success (have : True := h)); try first | exact h.elim | exact absurd rfl h | (exfalso; omega))) | assumption | exact xm | exact rfl))
   refine d_val gd (xs_nekey rfl rfl) ?_
   by_cases hk : x.1 = y.1 /\ x.2.1 = y.2.1
   ·have hj : joinF x y = ((x.1, x.2.1, bothL x.2.2 y.2.2), 0) := by unfold joinF; rw [if_pos hex, if_pos hey, if_pos hk]
    rw [hj]
    have hcb : ∀ M', Grow M M' -> CallOk Tryz.prog 73 [.slice a x.2.2.length f e, .slice b y.2.2.length f' e'] M' (fun w M2 => Vec M'.next 1 3 intc M2 w (bothL x.2.2 y.2.2) /\ Grow M' M2) := fun M' hg => c_both (hs.grow hg) (hs'.grow hg) (by omega) (by omega)
    (repeat' (first | (with_reducible intro _) | refine sv ?_ | (refine sc ?_ ?_ <;> (intro h; try first | exact h.elim | exact absurd rfl h | (exfalso; omega))) | ((with_reducible first | apply x_call | apply d_call | apply x_call0); exact gd; exact rfl; exact rfl; (first | exact hcb _ (xg))) | (refine sg ?_ ?_ <;> (intro h; (fail_if_success (have : True := h)); try first | exact h.elim | exact absurd rfl h | (exfalso; omega))) | assumption | exact xm | exact rfl))
    rename_i hq
    obtain ⟨hv2, hg2⟩ := hq
    obtain ⟨av, fv, ev, hve⟩ := hv2.shape
    subst hve
    have hkp := fun M2 hk => SlI.vec (hv2.keep (M' := M2) hk (fun i hi => hi))
    (repeat' (first | (with_reducible intro _) | refine sv ?_ | (refine sc ?_ ?_ <;> (intro h; try first | exact h.elim | exact absurd rfl h | (exfalso; omega))) | (refine sg ?_ ?_ <;> (intro h; (fail_if_success (have : True := h)); try first | exact h.elim | exact absurd rfl h | (exfalso; omega))) | assumption | exact xm | exact rfl))
    rename_i M8 hu8 e8 hA8 M9 hu9 e9 hA9
    obtain ⟨a3, f3, e3, hve3, hvs⟩ := hkp M9 (xk)
    cases hve3
    ((with_reducible first | apply k_fun | apply k_fun_norm); exact rx)
    exact ⟨_, rfl, ⟨_, _, _, rfl, hvs⟩, xg⟩
   ·have hj : joinF x y = (zFr, 2) := by unfold joinF; rw [if_pos hex, if_pos hey, if_neg hk]
    rw [hj]
    (repeat' (first | (with_reducible intro _) | refine sv ?_ | (refine sc ?_ ?_ <;> (intro h; try first | exact h.elim | exact absurd rfl h | (exfalso; omega))) | (refine sg ?_ ?_ <;> (intro h; (fail_if_success (have : True := h)); try first | exact h.elim | exact absurd rfl h | (exfalso; omega))) | assumption | exact xm | exact rfl))
    ((with_reducible first | apply k_fun | apply k_fun_norm); exact rx)
    exact ⟨_, rfl, frV_zero _, xg⟩
  ·have hj : joinF x y = (zFr, errF y) := by unfold joinF; rw [if_pos hex, if_neg hey]
   rw [hj]
   (repeat' (first | (with_reducible intro _) | refine sv ?_ | refine su ?_ | (refine sc ?_ ?_ <;> (intro h; try first | exact h.elim | exact absurd rfl h | (exfalso; omega))) | ((with_reducible first | apply x_pure | apply d_pure | apply d_pure0); exact gd; exact rfl; exact rfl; (first | exact hc1 _ (xg) | exact c_CheckFrame (hw0.grow (xg)) hy)) | (refine sg ?_ ?_ <;> (intro h; (fail_if_success (have : True := h)); try first | exact h.elim | exact absurd rfl h | (exfalso; omega))) | assumption | exact xm | exact rfl))
   ((with_reducible first | apply k_fun | apply k_fun_norm); exact rx)
   exact ⟨_, rfl, frV_zero _, xg⟩
 ·have hj : joinF x y = (zFr, errF x) := by unfold joinF; rw [if_neg hex]
  rw [hj]
  (repeat' (first | (with_reducible intro _) | refine sv ?_ | refine su ?_ | (refine sc ?_ ?_ <;> (intro h; try first | exact h.elim | exact absurd rfl h | (exfalso; omega))) | ((with_reducible first | apply x_pure | apply d_pure | apply d_pure0); exact gd; exact rfl; exact rfl; (first | exact c_CheckFrame (hv0.grow (xg)) hx)) | (refine sg ?_ ?_ <;> (intro h; (fail_if_success (have : True := h)); try first | exact h.elim | exact absurd rfl h | (exfalso; omega))) | assumption | exact xm | exact rfl))
  ((with_reducible first | apply k_fun | apply k_fun_norm); exact rx)
  exact ⟨_, rfl, frV_zero _, xg⟩
theorem ne_at {l l' : List Int} {k : Nat} (hk : k < l.length) (hk' : k < l'.length) (h : l[k] ≠ l'[k]) : decide (l = l') = false := by
 rw [decide_eq_false_iff_not]
 rintro rfl
 exact h rfl
set_option maxHeartbeats 2000000 in
theorem c_Alike {M : Mem} {a b : Option (Nat × Nat)} {l l' : List Int} {f f' : Bool} {e e' : Nat} (ha : SlI M a l) (hb : SlI M b l') (hl : l.length <= 1000000000000000) (hl' : l'.length <= 1000000000000000) :
  CallOk Tryz.prog 29 [.slice a l.length f e, .slice b l'.length f' e'] M (fun w M' => w = .bool (decide (l = l')) /\ M' = M) := by
 refine call_in k29 rfl ?_
 dsimp only [x29, zipE, Nat.reduceAdd]
 by_cases hne : l.length = l'.length
 ·(repeat' (first | (with_reducible intro _) | refine sv ?_ | (refine sc ?_ ?_ <;> (intro h; try first | exact h.elim | exact absurd rfl h | (exfalso; omega))) | (refine sg ?_ ?_ <;> (intro h; (fail_if_success (have : True := h)); try first | exact h.elim | exact absurd rfl h | (exfalso; omega))) | assumption | exact xm | exact rfl))
  all_goals try (exfalso; omega)
  refine w_loop_ind (fun m E ms M' => ∃ k : Nat, m = l.length - k /\ k <= l.length /\ ms = [] /\ Has E [(0, .slice a l.length f e), (1, .slice b l'.length f' e'), (5, I k)] /\ M' = M /\ l.take k = l'.take k)
   ?_ l.length _ _ _ ⟨0, by omega, by omega, rfl, .cons rfl (.cons rfl (.cons rfl .nil)), rfl, rfl⟩
  rintro m E ms M1 ⟨k, rfl, hk, rfl, hE, rfl, hall⟩
  refine w_has hE ?_
  by_cases hlast : k = l.length
  ·subst hlast
   (repeat' (first | (with_reducible intro _) | refine sv ?_ | (refine sc ?_ ?_ <;> (intro h; try first | exact h.elim | exact absurd rfl h | (exfalso; omega))) | (refine sg ?_ ?_ <;> (intro h; (fail_if_success (have : True := h)); try first | exact h.elim | exact absurd rfl h | (exfalso; omega))) | assumption | exact xm | exact rfl))
   ((with_reducible first | apply k_fun | apply k_fun_norm); exact rx)
   refine ⟨?_, rfl⟩
   rw [List.take_of_length_le (Nat.le_refl _), List.take_of_length_le (by omega)] at hall
   rw [decide_eq_true hall]; rfl
  ·have hlt : k < l.length := by omega
   have hlt' : k < l'.length := by omega
   obtain ⟨i, o, rfl, hr⟩ := ha.rd hlt
   obtain ⟨i2, o2, rfl, hr2⟩ := hb.rd hlt'
   by_cases heq : l[k] = l'[k]
   ·rw [<- heq] at hr2
    have htk : l.take (k + 1) = l'.take (k + 1) := by
     rw [List.take_succ_eq_append_getElem hlt, List.take_succ_eq_append_getElem hlt', hall, heq]
    generalize l[k] = p at *
    (have hrd0 := hr; have hrd1 := hr2; repeat' (first | (with_reducible intro _) | refine sv ?_ | (refine sc ?_ ?_ <;> (intro h; try first | exact h.elim | exact absurd rfl h | (exfalso; omega))) | (refine sg ?_ ?_ <;> (intro h; (fail_if_success (have : True := h)); try first | exact h.elim | exact absurd rfl h | (exfalso; omega))) | assumption | exact xm | exact rfl))
    all_goals try (exfalso; omega)
    refine k_step (l.length - (k + 1)) (by omega) ⟨k + 1, rfl, by omega, rfl, .cons rfl (.cons rfl (.cons rfl .nil)), rfl, htk⟩
   ·have hd := ne_at hlt hlt' heq
    rw [hd]
    generalize l[k] = p at *
    generalize l'[k] = q at *
    (have hrd0 := hr; have hrd1 := hr2; repeat' (first | (with_reducible intro _) | refine sv ?_ | (refine sc ?_ ?_ <;> (intro h; try first | exact h.elim | exact absurd rfl h | (exfalso; omega))) | (refine sg ?_ ?_ <;> (intro h; (fail_if_success (have : True := h)); try first | exact h.elim | exact absurd rfl h | (exfalso; omega))) | assumption | exact xm | exact rfl))
    all_goals try (exfalso; omega)
    ((with_reducible first | apply k_fun | apply k_fun_norm); exact rx)
    exact ⟨rfl, rfl⟩
 ·have hd : decide (l = l') = false := by
   rw [decide_eq_false_iff_not]; rintro rfl; exact hne rfl
  rw [hd]
  (repeat' (first | (with_reducible intro _) | refine sv ?_ | (refine sc ?_ ?_ <;> (intro h; try first | exact h.elim | exact absurd rfl h | (exfalso; omega))) | (refine sg ?_ ?_ <;> (intro h; (fail_if_success (have : True := h)); try first | exact h.elim | exact absurd rfl h | (exfalso; omega))) | assumption | exact xm | exact rfl))
  all_goals try (exfalso; omega)
  ((with_reducible first | apply k_fun | apply k_fun_norm); exact rx)
  exact ⟨rfl, rfl⟩
set_option maxHeartbeats 2000000 in
theorem c_SameFrame {M : Mem} {v w : LV} {x y : Fr} (hv : FrV M v x) (hw : FrV M w y) (hl : x.2.2.length <= 1000000000000000) (hl' : y.2.2.length <= 1000000000000000) :
  CallOk Tryz.prog 41 [v, w] M (fun r M' => r = .bool (decide (x = y)) /\ Grow M M') := by
 obtain ⟨a, f, e, rfl, hs⟩ := hv
 obtain ⟨b, f', e', rfl, hs'⟩ := hw
 obtain ⟨x1, x2, x3⟩ := x
 obtain ⟨y1, y2, y3⟩ := y
 dsimp only at *
 have hd : decide ((x1, x2, x3) = (y1, y2, y3)) = (decide (x1 = y1) && (decide (x2 = y2) && decide (x3 = y3))) := by
  rw [Bool.eq_iff_iff]; simp
 rw [hd]
 have hc : ∀ M', Grow M M' -> CallOk Tryz.prog 29 [.slice a x3.length f e, .slice b y3.length f' e'] M' (fun w M'' => w = .bool (decide (x3 = y3)) /\ M'' = M') := fun M' hg => c_Alike (hs.grow hg) (hs'.grow hg) hl hl'
 refine call_in k41 rfl ?_
 dsimp only [x41, zipE, Nat.reduceAdd]
 by_cases h1 : x1 = y1
 ·by_cases h2 : x2 = y2
  ·(repeat' (first | (with_reducible intro _) | refine sv ?_ | (refine sc ?_ ?_ <;> (intro h; try first | exact h.elim | exact absurd rfl h | (exfalso; omega))) | ((with_reducible first | apply x_same | apply d_same | apply d_same0); exact gd; exact rfl; exact rfl; (first | exact hc _ (xg))) | (refine sg ?_ ?_ <;> (intro h; (fail_if_success (have : True := h)); try first | exact h.elim | exact absurd rfl h | (exfalso; omega))) | assumption | exact xm | exact rfl))
   ((with_reducible first | apply k_fun | apply k_fun_norm); exact rx)
   refine ⟨?_, xg⟩
   rw [decide_eq_true h1, decide_eq_true h2]; rfl
  ·(repeat' (first | (with_reducible intro _) | refine sv ?_ | (refine sc ?_ ?_ <;> (intro h; try first | exact h.elim | exact absurd rfl h | (exfalso; omega))) | (refine sg ?_ ?_ <;> (intro h; (fail_if_success (have : True := h)); try first | exact h.elim | exact absurd rfl h | (exfalso; omega))) | assumption | exact xm | exact rfl))
   ((with_reducible first | apply k_fun | apply k_fun_norm); exact rx)
   refine ⟨?_, xg⟩
   rw [decide_eq_true h1, decide_eq_false h2]; rfl
 ·(repeat' (first | (with_reducible intro _) | refine sv ?_ | (refine sc ?_ ?_ <;> (intro h; try first | exact h.elim | exact absurd rfl h | (exfalso; omega))) | (refine sg ?_ ?_ <;> (intro h; (fail_if_success (have : True := h)); try first | exact h.elim | exact absurd rfl h | (exfalso; omega))) | assumption | exact xm | exact rfl))
  ((with_reducible first | apply k_fun | apply k_fun_norm); exact rx)
  refine ⟨?_, xg⟩
  rw [decide_eq_false h1]; rfl
end Go.Proofs.YtlfkmgpngkbhpaaGreatDoor.C
end
