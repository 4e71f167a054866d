/-
 Part of the proof of TapeTrue: what functions of the program and of the statement come to, walked by the rules. No condition beyond those in each theorem.
-/
import Derived.Test.YtlfkmgpngkbhpaaGreatDoorTR
import Derived.Test.YtlfkmgpngkbhpaaGreatDoorTQ
import Derived.Test.YtlfkmgpngkbhpaaGreatDoorTX
section
open Go PvL Go.Proofs
set_option linter.unusedSimpArgs false
set_option linter.unusedVariables false
namespace Go.Proofs.YtlfkmgpngkbhpaaGreatDoor.C
abbrev prc (p : Int × Int) : List LV := [I p.1, I p.2]
def SlP (M : Mem) (a : Option (Nat × Nat)) (L : List (Int × Int)) : Prop := L = [] ∨ ∃ i o, a = some (i, o) /\ ∀ k (hk : k < L.length), Rd M i (o + k * 2) 2 (prc L[k])
theorem SlP.grow {M M' : Mem} {a : Option (Nat × Nat)} {L : List (Int × Int)} (h : SlP M a L) (hg : Grow M M') : SlP M' a L :=
 h.imp id fun ⟨i, o, h1, h2⟩ => ⟨i, o, h1, fun k hk => (h2 k hk).grow hg⟩
theorem SlP.rd {M : Mem} {a : Option (Nat × Nat)} {L : List (Int × Int)} (h : SlP M a L) {k : Nat} (hk : k < L.length) : ∃ i o, a = some (i, o) /\ Rd M i (o + k * 2) 2 [I L[k].1, I L[k].2] := by
 rcases h with rfl | ⟨i, o, h1, h2⟩
 ·exact absurd hk (Nat.not_lt_zero _)
 ·exact ⟨i, o, h1, h2 k hk⟩
def PrV (M : Mem) (v : LV) (L : List (Int × Int)) : Prop := ∃ a f e, v = .slice a L.length f e /\ SlP M a L
theorem PrV.grow {M M' : Mem} {v : LV} {L : List (Int × Int)} (h : PrV M v L) (hg : Grow M M') : PrV M' v L := by
 obtain ⟨a, f, e, h1, h2⟩ := h
 exact ⟨a, f, e, h1, h2.grow hg⟩
theorem PrV.nil (M : Mem) : PrV M (.slice none 0 true 0) [] := ⟨none, true, 0, rfl, .inl rfl⟩
theorem PrV.vec {M : Mem} {b : Nat} {ty : TypeId} {v : LV} {L : List (Int × Int)} (h : Vec b 2 ty prc M v L) : PrV M v L := by
 obtain ⟨a, f, e, h1, h2⟩ := h.rd (fun _ _ => rfl)
 exact ⟨a, f, e, h1, h2⟩
theorem two_first {m : Nat} {x : Int × Int} {M M' : Mem} {ty : TypeId} (hn : New M m (.cells true [I x.1, I x.2] ty) M') : firstL 2 1 (.slice (some (m, 0)) 1 true 2) M' = some ([x].flatMap prc) :=
 firstL_rd (enc := prc) (l := [x]) (fun _ _ => rfl) (fun k' hk' => rd_flat (enc := prc) (l := [x]) (At.new_same hn) (fun _ _ => rfl) hk')
theorem c_mag (x : Int) (hx : -1000000 <= x /\ x <= 1000000) (M : Mem) : CallOk Tryz.prog 46 [I x] M (fun w M' => w = I (mag x) /\ M' = M) := by
 refine call_in k46 rfl ?_
 dsimp only [x46, zipE, Nat.reduceAdd]
 (repeat' (first | (with_reducible intro _) | refine sv ?_ | (refine sc ?_ ?_ <;> (intro h; try first | exact h.elim | exact absurd rfl h | (exfalso; omega))) | (refine sg ?_ ?_ <;> (intro h; (fail_if_success (have : True := h)); try first | exact h.elim | exact absurd rfl h | (exfalso; omega))) | assumption | exact xm | exact rfl))
 ((with_reducible first | apply k_fun | apply k_fun_norm); exact rx)
 exact ⟨rfl, rfl⟩
theorem errF_sm (l : List Int) : errF (0, 0, l) = if smsB l then 0 else 80 := by
 unfold errF frB
 rw [show btB (0, 0, l).1 0 60000 = true from rfl, show btB (0, 0, l).2.1 0 23 = true from rfl]
 rfl
set_option maxHeartbeats 8000000 in
theorem c_Fill {M : Mem} {a : Option (Nat × Nat)} {l : List Int} {f : Bool} {e : Nat} {d : Int} (hs : SlI M a l) (hl : l.length <= 1000000000000000) (hli : ∀ n ∈ l, I64 n) :
  CallOk Tryz.prog 26 [.slice a l.length f e, I d] M (fun r M' => ∃ q, r = .tup [q, I (fillF l d).2] /\ PrV M' q (fillF l d).1 /\ Grow M M') := by
 refine call_in k26 rfl ?_
 dsimp only [x26, zipE, Nat.reduceAdd]
 have hcf0 : ∀ M', Grow M M' -> CallOk Tryz.prog 16 [.agg [I 0, I 0, .slice a l.length f e]] M' (fun w M2 => w = I (if smsB l then 0 else 80) /\ Grow M' M2) := fun M' hg => by
  have hv : FrV M' (.agg [I 0, I 0, .slice a l.length f e]) (0, 0, l) := ⟨a, f, e, rfl, hs.grow hg⟩
  have := c_CheckFrame hv ⟨by show I64 0; exact ⟨by decide, by decide⟩, by show I64 0; exact ⟨by decide, by decide⟩, hl, hli⟩
  rw [errF_sm] at this; exact this
 have hck : ∀ M', Grow M M' -> CallOk Tryz.prog 60 [.slice a l.length f e, .func (.func 79) [] []] M' (fun w M'' => w = .bool (l.any knB) /\ M'' = M') := fun M' hg =>
  c_Contains (f := f) (e := e) (g := 79) (fi := []) (ca := []) (M := M') knB hl (hs.grow hg) (fun n _ => c_known n M') (fun n _ M2 _ => c_known n M2)
 cases hsm : smsB l with
 | false =>
  have he : fillF l d = ([], 80) := by unfold fillF errL; rw [hsm]; rfl
  rw [he]
  have hcf : ∀ M', Grow M M' -> CallOk Tryz.prog 16 [.agg [I 0, I 0, .slice a l.length f e]] M' (fun w M2 => w = I 80 /\ Grow M' M2) := fun M' hg => by have := hcf0 M' hg; rw [hsm] at this; exact this
  (repeat' (first | (with_reducible intro _) | refine sv ?_ | (refine sc ?_ ?_ <;> (intro h; try first | exact h.elim | exact absurd rfl h | (exfalso; omega))) | ((with_reducible first | apply x_pure | apply d_pure | apply d_pure0); exact gd; exact rfl; exact rfl; (first | exact hcf _ (xg))) | (refine sg ?_ ?_ <;> (intro h; (fail_if_success (have : True := h)); try first | exact h.elim | exact absurd rfl h | (exfalso; omega))) | assumption | exact xm | exact rfl))
  ((with_reducible first | apply k_fun | apply k_fun_norm); exact rx)
  exact ⟨_, rfl, PrV.nil _, xg⟩
 | true =>
 have hcf : ∀ M', Grow M M' -> CallOk Tryz.prog 16 [.agg [I 0, I 0, .slice a l.length f e]] M' (fun w M2 => w = I 0 /\ Grow M' M2) := fun M' hg => by have := hcf0 M' hg; rw [hsm] at this; exact this
 obtain ⟨hn1, hn2, hall⟩ := sms_len hsm
 cases hbt : btB d 0 65535 with
 | false =>
  have he : fillF l d = ([], 7) := by unfold fillF errL; rw [hsm, hbt]; rfl
  rw [he]
  have hcw : ∀ M, CallOk Tryz.prog 59 [I d, I 0, I 65535] M (fun w M' => w = .bool false /\ M' = M) := fun M => by rw [<- hbt]; exact c_within _ _ _ M
  (repeat' (first | (with_reducible intro _) | refine sv ?_ | (refine sc ?_ ?_ <;> (intro h; try first | exact h.elim | exact absurd rfl h | (exfalso; omega))) | ((with_reducible first | apply x_same | apply d_same | apply d_same0); exact gd; exact rfl; exact rfl; (first | exact hcw _)) | ((with_reducible first | apply x_pure | apply d_pure | apply d_pure0); exact gd; exact rfl; exact rfl; (first | exact hcf _ (xg))) | (refine sg ?_ ?_ <;> (intro h; (fail_if_success (have : True := h)); try first | exact h.elim | exact absurd rfl h | (exfalso; omega))) | assumption | exact xm | exact rfl))
  ((with_reducible first | apply k_fun | apply k_fun_norm); exact rx)
  exact ⟨_, rfl, PrV.nil _, xg⟩
 | true =>
 have hcw : ∀ M, CallOk Tryz.prog 59 [I d, I 0, I 65535] M (fun w M' => w = .bool true /\ M' = M) := fun M => by rw [<- hbt]; exact c_within _ _ _ M
 have hd : 0 <= d /\ d <= 65535 := of_decide_eq_true hbt
 cases hkn : l.any knB with
 | false =>
  have he : fillF l d = ([], 4) := by unfold fillF errL; rw [hsm, hbt, hkn]; rfl
  rw [he]
  rw [hkn] at hck
  (repeat' (first | (with_reducible intro _) | refine sv ?_ | (refine sc ?_ ?_ <;> (intro h; try first | exact h.elim | exact absurd rfl h | (exfalso; omega))) | ((with_reducible first | apply x_same | apply d_same | apply d_same0); exact gd; exact rfl; exact rfl; (first | exact hcw _ | exact hck _ (xg))) | ((with_reducible first | apply x_pure | apply d_pure | apply d_pure0); exact gd; exact rfl; exact rfl; (first | exact hcf _ (xg))) | (refine sg ?_ ?_ <;> (intro h; (fail_if_success (have : True := h)); try first | exact h.elim | exact absurd rfl h | (exfalso; omega))) | assumption | exact xm | exact rfl))
  ((with_reducible first | apply k_fun | apply k_fun_norm); exact rx)
  exact ⟨_, rfl, PrV.nil _, xg⟩
 | true =>
 rw [hkn] at hck
 have he : errL l d = if clI l d l.length then 83 else 0 := by unfold errL; rw [hsm, hbt, hkn]; rfl
 (repeat' (first | (with_reducible intro _) | refine sv ?_ | (refine sc ?_ ?_ <;> (intro h; try first | exact h.elim | exact absurd rfl h | (exfalso; omega))) | ((with_reducible first | apply x_same | apply d_same | apply d_same0); exact gd; exact rfl; exact rfl; (first | exact hcw _ | exact hck _ (xg))) | ((with_reducible first | apply x_pure | apply d_pure | apply d_pure0); exact gd; exact rfl; exact rfl; (first | exact hcf _ (xg))) | (refine sg ?_ ?_ <;> (intro h; (fail_if_success (have : True := h)); try first | exact h.elim | exact absurd rfl h | (exfalso; omega))) | assumption | exact xm | exact rfl))
 rename_i M1 hg1 hl1 q1 q2
 clear h
 have hgl : ∀ {j : Nat} (hj : j < l.length), getG l j = l[j] := fun hj => getG_lt hj
 refine w_loop_ind (fun m E ms M' => ∃ (k : Nat) (v : LV), m = l.length - k /\ k <= l.length /\ ms = [] /\ Has E [(0, .slice a l.length f e), (1, I d), (6, v), (25, I l.length), (26, I k)] /\ Vec M1.next 2 83 prc M' v ((bndsL l d).take k) /\ Grow M M' /\ M1.next <= M'.next)
  ?_ l.length _ _ _ ⟨0, _, by omega, by omega, rfl, .cons rfl (.cons rfl (.cons rfl (.cons rfl (.cons rfl .nil)))), by rw [List.take_zero]; exact Vec.nil, hg1, Nat.le_refl _⟩
 rintro m E ms M2 ⟨k, v, rfl, hk, rfl, hE, hv, hg, hle⟩
 refine w_has hE ?_
 by_cases hlast : k = l.length
 ·subst hlast
  rw [List.take_of_length_le (by rw [bndsL_len]; exact Nat.le_refl _)] at hv
  obtain ⟨a2, f2, e2, rfl, hp2⟩ := PrV.vec hv
  rw [bndsL_len]
  (repeat' (first | (with_reducible intro _) | refine sv ?_ | (refine sc ?_ ?_ <;> (intro h; try first | exact h.elim | exact absurd rfl h | (exfalso; omega))) | (refine sg ?_ ?_ <;> (intro h; (fail_if_success (have : True := h)); try first | exact h.elim | exact absurd rfl h | (exfalso; omega))) | assumption | exact xm | exact rfl))
  refine w_loop_ind (fun m E ms M' => ∃ k : Nat, m = l.length - k /\ k <= l.length /\ ms = [] /\ Has E [(0, .slice a l.length f e), (6, .slice a2 l.length f2 e2), (67, .slice a l.length f e), (68, I l.length), (69, I k)] /\ M' = M2 /\ ∀ i, i < k -> knB (getG l i) = true -> bnd l d i = (getG l i, getG l i))
   ?_ l.length _ _ _ ⟨0, by omega, by omega, rfl, .cons rfl (.cons rfl (.cons rfl (.cons rfl (.cons rfl .nil)))), rfl, fun i hi => absurd hi (Nat.not_lt_zero _)⟩
  rintro m E ms M3 ⟨k, rfl, hk3, rfl, hE, rfl, hpin⟩
  refine w_has hE ?_
  by_cases hlast : k = l.length
  ·subst hlast
   have hcl := (pin_iff l d).1 hpin
   have hf : fillF l d = (bndsL l d, 0) := by unfold fillF; rw [he, hcl]; rfl
   rw [hf]
   (repeat' (first | (with_reducible intro _) | refine sv ?_ | (refine sc ?_ ?_ <;> (intro h; try first | exact h.elim | exact absurd rfl h | (exfalso; omega))) | (refine sg ?_ ?_ <;> (intro h; (fail_if_success (have : True := h)); try first | exact h.elim | exact absurd rfl h | (exfalso; omega))) | assumption | exact xm | exact rfl))
   ((with_reducible first | apply k_fun | apply k_fun_norm); exact rx)
   exact ⟨_, rfl, ⟨a2, f2, e2, by rw [bndsL_len], hp2⟩, hg⟩
  ·have hltk : k < l.length := by omega
   obtain ⟨i, o, rfl, hr⟩ := (hs.grow hg).rd hltk
   have hgk := getG_lt hltk
   cases hkk : knB l[k] with
   | false =>
    have hc : ∀ M, CallOk Tryz.prog 79 [I l[k]] M (fun w M' => w = .bool false /\ M' = M) := fun M => by rw [<- hkk]; exact c_known _ M
    (have hrd0 := hr; repeat' (first | (with_reducible intro _) | refine sv ?_ | (refine sc ?_ ?_ <;> (intro h; try first | exact h.elim | exact absurd rfl h | (exfalso; omega))) | ((with_reducible first | apply x_same | apply d_same | apply d_same0); exact gd; exact rfl; exact rfl; (first | exact hc _)) | (refine sg ?_ ?_ <;> (intro h; (fail_if_success (have : True := h)); try first | exact h.elim | exact absurd rfl h | (exfalso; omega))) | assumption | exact xm | exact rfl))
    refine k_step (l.length - (k + 1)) (by omega) ⟨k + 1, rfl, by omega, rfl, .cons rfl (.cons rfl (.cons rfl (.cons rfl (.cons rfl .nil)))), rfl, fun i hi hik => ?_⟩
    by_cases hik2 : i = k
    ·subst hik2; rw [hgk, hkk] at hik; cases hik
    ·exact hpin i (by omega) hik
   | true =>
    have hc : ∀ M, CallOk Tryz.prog 79 [I l[k]] M (fun w M' => w = .bool true /\ M' = M) := fun M => by rw [<- hkk]; exact c_known _ M
    obtain ⟨i2, o2, rfl, hr2⟩ := hp2.rd (k := k) (by rw [bndsL_len]; exact hltk)
    have hbk : (bndsL l d)[k]'(by rw [bndsL_len]; exact hltk) = bnd l d k := by unfold bndsL; simp
    rw [hbk] at hr2
    by_cases hpk : bnd l d k = (l[k], l[k])
    ·rw [hpk] at hr2
     (have hrd0 := hr; have hrd1 := hr2; repeat' (first | (with_reducible intro _) | refine sv ?_ | (refine sc ?_ ?_ <;> (intro h; try first | exact h.elim | exact absurd rfl h | (exfalso; omega))) | ((with_reducible first | apply x_same | apply d_same | apply d_same0); exact gd; exact rfl; exact rfl; (first | exact hc _)) | (refine sg ?_ ?_ <;> (intro h; (fail_if_success (have : True := h)); try first | exact h.elim | exact absurd rfl h | (exfalso; omega))) | assumption | exact xm | exact rfl))
     all_goals try (exfalso; simp_all; done)
     refine k_step (l.length - (k + 1)) (by omega) ⟨k + 1, rfl, by omega, rfl, .cons rfl (.cons rfl (.cons rfl (.cons rfl (.cons rfl .nil)))), rfl, fun i hi hik => ?_⟩
     by_cases hik2 : i = k
     ·subst hik2; rw [hgk]; exact hpk
     ·exact hpin i (by omega) hik
    ·have hcl : clI l d l.length = true := by
      cases hq : clI l d l.length with
      | true => rfl
      | false => exact absurd ((pin_iff l d).2 hq k hltk (by rw [hgk]; exact hkk)) (by rw [hgk]; exact hpk)
     have hf : fillF l d = ([], 83) := by unfold fillF; rw [he, hcl]; rfl
     rw [hf]
     generalize hBB : bnd l d k = B at *
     obtain ⟨B1, B2⟩ := B
     have hpk2 : ¬ (B1 = l[k] /\ B2 = l[k]) := fun hh => hpk (by rw [hh.1, hh.2])
     (have hrd0 := hr; have hrd1 := hr2; repeat' (first | (with_reducible intro _) | refine sv ?_ | (refine sc ?_ ?_ <;> (intro h; try first | exact h.elim | exact absurd rfl h | (exfalso; omega))) | ((with_reducible first | apply x_same | apply d_same | apply d_same0); exact gd; exact rfl; exact rfl; (first | exact hc _)) | (refine sg ?_ ?_ <;> (intro h; (fail_if_success (have : True := h)); try first | exact h.elim | exact absurd rfl h | (exfalso; omega))) | assumption | exact xm | exact rfl))
     ((with_reducible first | apply k_fun | apply k_fun_norm); exact rx)
     exact ⟨_, rfl, PrV.nil _, hg⟩
 ·have hlt : k < l.length := by omega
  (repeat' (first | (with_reducible intro _) | refine sv ?_ | (refine sc ?_ ?_ <;> (intro h; try first | exact h.elim | exact absurd rfl h | (exfalso; omega))) | (refine sg ?_ ?_ <;> (intro h; (fail_if_success (have : True := h)); try first | exact h.elim | exact absurd rfl h | (exfalso; omega))) | assumption | exact xm | exact rfl))
  rename_i n8 M3 hN e1 e2 M4 hU e3 hA
  refine w_loop_ind (fun m E ms M' => ∃ j : Nat, m = l.length - j /\ j <= l.length /\ ms = [] /\ Has E [(0, .slice a l.length f e), (1, I d), (6, v), (7, I k), (8, .ptr (some (n8, 0))), (25, I l.length), (26, I k), (30, .slice a l.length f e), (31, I l.length), (32, I j)] /\ At M' n8 (.cells true [I (bndR l d k j).1, I (bndR l d k j).2] 83) /\ Grow M2 M' /\ M4.next <= M'.next)
   ?_ l.length _ _ _ ⟨0, by omega, by omega, rfl, .cons rfl (.cons rfl (.cons rfl (.cons rfl (.cons rfl (.cons rfl (.cons rfl (.cons rfl (.cons rfl (.cons rfl .nil))))))))), hA, xg, Nat.le_refl _⟩
  rintro m E ms M5 ⟨j, rfl, hj, rfl, hE, hA5, hg5, hle5⟩
  refine w_has hE ?_
  by_cases hlast2 : j = l.length
  ·subst hlast2
   (repeat' (first | (with_reducible intro _) | refine sv ?_ | (refine sc ?_ ?_ <;> (intro h; try first | exact h.elim | exact absurd rfl h | (exfalso; omega))) | (refine sg ?_ ?_ <;> (intro h; (fail_if_success (have : True := h)); try first | exact h.elim | exact absurd rfl h | (exfalso; omega))) | assumption | exact xm | exact rfl))
   rename_i m9 M9 hn9 e9 e10
   have hv9 := (hv.grow hg5).grow hn9.grow
   have htl : ((bndsL l d).take k).length = k := by rw [List.length_take, bndsL_len]; omega
   refine x_vec_app (by exact gd) (l' := [bnd l d k]) hv9 rfl rfl rfl (by simp) (by rw [htl, List.length_singleton]; omega) rfl (two_first (x := bnd l d k) hn9) (fun _ => rfl) (fun _ => rfl) (by omega) ?_
   intro v' M10 hv10 e11 hk10
   have hg10 : Grow M M10 := Keep.to_grow' ((hg.trans hg5).trans hn9.grow) hk10 (fun i hi => by have := hi.1; omega)
   (repeat' (first | (with_reducible intro _) | refine sv ?_ | (refine sc ?_ ?_ <;> (intro h; try first | exact h.elim | exact absurd rfl h | (exfalso; omega))) | (refine sg ?_ ?_ <;> (intro h; (fail_if_success (have : True := h)); try first | exact h.elim | exact absurd rfl h | (exfalso; omega))) | assumption | exact xm | exact rfl))
   refine k_step (l.length - (k + 1)) (by omega) ⟨k + 1, v', rfl, by omega, rfl, .cons rfl (.cons rfl (.cons rfl (.cons rfl (.cons rfl .nil)))), ?_, hg10, by omega⟩
   rw [bndsL_take (by omega)]; exact hv10
  ·have hltj : j < l.length := by omega
   obtain ⟨i, o, rfl, hr⟩ := ((hs.grow hg).grow hg5).rd hltj
   cases hkj : knB l[j] with
   | false =>
    have hc : ∀ M, CallOk Tryz.prog 79 [I l[j]] M (fun w M' => w = .bool false /\ M' = M) := fun M => by rw [<- hkj]; exact c_known _ M
    (have hrd0 := hr; repeat' (first | (with_reducible intro _) | refine sv ?_ | (refine sc ?_ ?_ <;> (intro h; try first | exact h.elim | exact absurd rfl h | (exfalso; omega))) | ((with_reducible first | apply x_same | apply d_same | apply d_same0); exact gd; exact rfl; exact rfl; (first | exact hc _)) | (refine sg ?_ ?_ <;> (intro h; (fail_if_success (have : True := h)); try first | exact h.elim | exact absurd rfl h | (exfalso; omega))) | assumption | exact xm | exact rfl))
    refine k_step (l.length - (j + 1)) (by omega) ⟨j + 1, rfl, by omega, rfl, .cons rfl (.cons rfl (.cons rfl (.cons rfl (.cons rfl (.cons rfl (.cons rfl (.cons rfl (.cons rfl (.cons rfl .nil))))))))), ?_, hg5, hle5⟩
    rw [show bndR l d k (j + 1) = bndR l d k j by show (if knB (getG l j) then _ else _) = _; rw [getG_lt hltj, hkj]; rfl]
    exact hA5
   | true =>
    have hc : ∀ M, CallOk Tryz.prog 79 [I l[j]] M (fun w M' => w = .bool true /\ M' = M) := fun M => by rw [<- hkj]; exact c_known _ M
    have hxb := kn_bd hkj
    have hdst : iMax ((k : Int) - j) ((j : Int) - k) = dst k j := by unfold dst iMax; split <;> omega
    have hdb : -64 <= iMax ((k : Int) - j) ((j : Int) - k) /\ iMax ((k : Int) - j) ((j : Int) - k) <= 64 := by unfold iMax; omega
    have hT := mul_bd hd.1 hd.2 hdb.1 hdb.2
    have hb1 : bndR l d k (j + 1) = (iMax (bndR l d k j).1 (l[j] - d * iMax ((k : Int) - j) ((j : Int) - k)), iMin (bndR l d k j).2 (l[j] + d * iMax ((k : Int) - j) ((j : Int) - k))) := by
     show (if knB (getG l j) then _ else _) = _; rw [getG_lt hltj, hkj, hdst]; rfl
    generalize l[j] = x at *
    (have hrd0 := hr; repeat' (first | (with_reducible intro _) | refine sv ?_ | (refine sc ?_ ?_ <;> (intro h; try first | exact h.elim | exact absurd rfl h | (exfalso; omega))) | ((with_reducible first | apply x_same | apply d_same | apply d_same0); exact gd; exact rfl; exact rfl; (first | exact hc _)) | (refine sg ?_ ?_ <;> (intro h; (fail_if_success (have : True := h)); try first | exact h.elim | exact absurd rfl h | (exfalso; omega))) | assumption | exact xm | exact rfl))
    rename_i M6 hU6 e6 hA6
    refine k_step (l.length - (j + 1)) (by omega) ⟨j + 1, rfl, by omega, rfl, .cons rfl (.cons rfl (.cons rfl (.cons rfl (.cons rfl (.cons rfl (.cons rfl (.cons rfl (.cons rfl (.cons rfl .nil))))))))), ?_, xg, by omega⟩
    rw [hb1]
    exact hA6
abbrev agV (a : Option (Nat × Nat)) (n : Nat) (f : Bool) (e : Nat) (x y : Int) : LV := .agg [.slice a n f e, I x, I y]
end Go.Proofs.YtlfkmgpngkbhpaaGreatDoor.C
end
