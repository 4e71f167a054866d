/-
 Part of the proof of TapeCheapest: what functions of the program and of the statement come to, walked by the rules. No condition beyond those in each theorem.
-/
import Derived.Test.YtlfkmgpngkbhpaaGreatDoorTR
import Derived.Test.YtlfkmgpngkbhpaaGreatDoorTQ
import Derived.Test.YtlfkmgpngkbhpaaGreatDoorTX
section
open Go PvL Go.Proofs
set_option linter.unusedSimpArgs false
set_option linter.unusedVariables false
namespace Go.Proofs.YtlfkmgpngkbhpaaGreatDoor.C
abbrev prc (p : Int × Int) : List LV := [I p.1, I p.2]
def SlP (M : Mem) (a : Option (Nat × Nat)) (L : List (Int × Int)) : Prop := L = [] ∨ ∃ i o, a = some (i, o) /\ ∀ k (hk : k < L.length), Rd M i (o + k * 2) 2 (prc L[k])
theorem SlP.grow {M M' : Mem} {a : Option (Nat × Nat)} {L : List (Int × Int)} (h : SlP M a L) (hg : Grow M M') : SlP M' a L :=
 h.imp id fun ⟨i, o, h1, h2⟩ => ⟨i, o, h1, fun k hk => (h2 k hk).grow hg⟩
theorem SlP.rd {M : Mem} {a : Option (Nat × Nat)} {L : List (Int × Int)} (h : SlP M a L) {k : Nat} (hk : k < L.length) : ∃ i o, a = some (i, o) /\ Rd M i (o + k * 2) 2 [I L[k].1, I L[k].2] := by
 rcases h with rfl | ⟨i, o, h1, h2⟩
 ·exact absurd hk (Nat.not_lt_zero _)
 ·exact ⟨i, o, h1, h2 k hk⟩
def PrV (M : Mem) (v : LV) (L : List (Int × Int)) : Prop := ∃ a f e, v = .slice a L.length f e /\ SlP M a L
theorem PrV.grow {M M' : Mem} {v : LV} {L : List (Int × Int)} (h : PrV M v L) (hg : Grow M M') : PrV M' v L := by
 obtain ⟨a, f, e, h1, h2⟩ := h
 exact ⟨a, f, e, h1, h2.grow hg⟩
theorem PrV.nil (M : Mem) : PrV M (.slice none 0 true 0) [] := ⟨none, true, 0, rfl, .inl rfl⟩
theorem PrV.vec {M : Mem} {b : Nat} {ty : TypeId} {v : LV} {L : List (Int × Int)} (h : Vec b 2 ty prc M v L) : PrV M v L := by
 obtain ⟨a, f, e, h1, h2⟩ := h.rd (fun _ _ => rfl)
 exact ⟨a, f, e, h1, h2⟩
theorem two_first {m : Nat} {x : Int × Int} {M M' : Mem} {ty : TypeId} (hn : New M m (.cells true [I x.1, I x.2] ty) M') : firstL 2 1 (.slice (some (m, 0)) 1 true 2) M' = some ([x].flatMap prc) :=
 firstL_rd (enc := prc) (l := [x]) (fun _ _ => rfl) (fun k' hk' => rd_flat (enc := prc) (l := [x]) (At.new_same hn) (fun _ _ => rfl) hk')
theorem okT_s (s : List Int) (k : Nat) : okT s (k + 1) = (okT s k && (btB (el s k) 0 60000 && (decide (k = 0) || decide (el s (k - 1) < el s k)))) := rfl
theorem okS_no {s : List Int} {a b : Int} (h : ¬ (s.length <= 128 /\ btB a 0 1000 = true /\ btB b 1 1000 = true)) : okS s a b = false := by
 unfold okS
 by_cases h1 : s.length <= 128
 ·cases h2 : btB a 0 1000 with
  | false => simp
  | true =>
   cases h3 : btB b 1 1000 with
   | false => simp
   | true => exact absurd ⟨h1, h2, h3⟩ h
 ·rw [decide_eq_false h1]; rfl
theorem okS_yes {s : List Int} {a b : Int} (h1 : s.length <= 128) (h2 : btB a 0 1000 = true) (h3 : btB b 1 1000 = true) : okS s a b = okT s s.length := by
 unfold okS
 rw [decide_eq_true h1, h2, h3]; rfl
abbrev agV (a : Option (Nat × Nat)) (n : Nat) (f : Bool) (e : Nat) (x y : Int) : LV := .agg [.slice a n f e, I x, I y]
set_option maxHeartbeats 4000000 in
theorem c_againOf {M : Mem} {a : Option (Nat × Nat)} {s : List Int} {f : Bool} {e : Nat} {x y : Int} (hs : SlI M a s) (hl : s.length <= 1000000000000000) :
  CallOk Tryz.prog 82 [.slice a s.length f e, I x, I y] M (fun w M' => w = .tup [if okS s x y then agV a s.length f e x y else .agg [.slice none 0 true 0, I 0, I 0], I (if okS s x y then 0 else 84)] /\ Grow M M') := by
 refine call_in k82 rfl ?_
 dsimp only [x82, zipE, Nat.reduceAdd]
 by_cases hg : s.length <= 128 /\ btB x 0 1000 = true /\ btB y 1 1000 = true
 ·obtain ⟨h1, h2, h3⟩ := hg
  have hc2 : ∀ M, CallOk Tryz.prog 59 [I x, I 0, I 1000] M (fun w M' => w = .bool true /\ M' = M) := fun M => by rw [<- h2]; exact c_within _ _ _ M
  have hc3 : ∀ M, CallOk Tryz.prog 59 [I y, I 1, I 1000] M (fun w M' => w = .bool true /\ M' = M) := fun M => by rw [<- h3]; exact c_within _ _ _ M
  rw [okS_yes h1 h2 h3]
  (repeat' (first | (with_reducible intro _) | refine sv ?_ | (refine sc ?_ ?_ <;> (intro h; try first | exact h.elim | exact absurd rfl h | (exfalso; omega))) | ((with_reducible first | apply x_same | apply d_same | apply d_same0); exact gd; exact rfl; exact rfl; (first | exact hc2 _ | exact hc3 _)) | (refine sg ?_ ?_ <;> (intro h; (fail_if_success (have : True := h)); try first | exact h.elim | exact absurd rfl h | (exfalso; omega))) | assumption | exact xm | exact rfl))
  rename_i n6 M6 hN6 q1 q2
  clear h
  have hs6 : SlI M6 a s := hs.grow hN6.grow
  refine w_loop_ind (fun m E ms M' => ∃ k : Nat, m = s.length - k /\ k <= s.length /\ ms = [] /\ Has E [(0, .slice a s.length f e), (1, I x), (2, I y), (6, .ptr (some (n6, 0))), (8, .bool (okT s k)), (22, .slice a s.length f e), (23, I s.length), (24, I k)] /\ M' = M6)
   ?_ s.length _ _ _ ⟨0, by omega, by omega, rfl, .cons rfl (.cons rfl (.cons rfl (.cons rfl (.cons rfl (.cons rfl (.cons rfl (.cons rfl .nil))))))), rfl⟩
  rintro m E ms M1 ⟨k, rfl, hk, rfl, hE, rfl⟩
  refine w_has hE ?_
  by_cases hlast : k = s.length
  ·subst hlast
   cases hok : okT s s.length with
   | true =>
    (repeat' (first | (with_reducible intro _) | refine sv ?_ | (refine sc ?_ ?_ <;> (intro h; try first | exact h.elim | exact absurd rfl h | (exfalso; omega))) | (refine sg ?_ ?_ <;> (intro h; (fail_if_success (have : True := h)); try first | exact h.elim | exact absurd rfl h | (exfalso; omega))) | assumption | exact xm | exact rfl))
    ((with_reducible first | apply k_fun | apply k_fun_norm); exact rx)
    exact ⟨rfl, xg⟩
   | false =>
    (repeat' (first | (with_reducible intro _) | refine sv ?_ | (refine sc ?_ ?_ <;> (intro h; try first | exact h.elim | exact absurd rfl h | (exfalso; omega))) | (refine sg ?_ ?_ <;> (intro h; (fail_if_success (have : True := h)); try first | exact h.elim | exact absurd rfl h | (exfalso; omega))) | assumption | exact xm | exact rfl))
    ((with_reducible first | apply k_fun | apply k_fun_norm); exact rx)
    exact ⟨rfl, xg⟩
  ·have hlt : k < s.length := by omega
   obtain ⟨i, o, rfl, hr⟩ := hs6.rd hlt
   rw [<- el_lt hlt] at hr
   have hst := okT_s s k
   cases hok : okT s k with
   | false =>
    rw [hok] at hst
    (have hrd0 := hr; repeat' (first | (with_reducible intro _) | refine sv ?_ | (refine sc ?_ ?_ <;> (intro h; try first | exact h.elim | exact absurd rfl h | (exfalso; omega))) | (refine sg ?_ ?_ <;> (intro h; (fail_if_success (have : True := h)); try first | exact h.elim | exact absurd rfl h | (exfalso; omega))) | assumption | exact xm | exact rfl))
    exact k_step (s.length - (k + 1)) (by omega) ⟨k + 1, rfl, by omega, rfl, .cons rfl (.cons rfl (.cons rfl (.cons rfl (.cons (by show some (LV.bool _) = some (LV.bool _); rw [hst]; rfl) (.cons rfl (.cons rfl (.cons rfl .nil))))))), rfl⟩
   | true =>
   rw [hok] at hst
   cases hbt : btB (el s k) 0 60000 with
   | false =>
    rw [hbt] at hst
    generalize el s k = v at *
    have hc4 : ∀ M, CallOk Tryz.prog 59 [I v, I 0, I 60000] M (fun w M' => w = .bool false /\ M' = M) := fun M => by rw [<- hbt]; exact c_within _ _ _ M
    (have hrd0 := hr; repeat' (first | (with_reducible intro _) | refine sv ?_ | (refine sc ?_ ?_ <;> (intro h; try first | exact h.elim | exact absurd rfl h | (exfalso; omega))) | ((with_reducible first | apply x_same | apply d_same | apply d_same0); exact gd; exact rfl; exact rfl; (first | exact hc4 _)) | (refine sg ?_ ?_ <;> (intro h; (fail_if_success (have : True := h)); try first | exact h.elim | exact absurd rfl h | (exfalso; omega))) | assumption | exact xm | exact rfl))
    exact k_step (s.length - (k + 1)) (by omega) ⟨k + 1, rfl, by omega, rfl, .cons rfl (.cons rfl (.cons rfl (.cons rfl (.cons (by show some (LV.bool _) = some (LV.bool _); rw [hst]; rfl) (.cons rfl (.cons rfl (.cons rfl .nil))))))), rfl⟩
   | true =>
   rw [hbt] at hst
   by_cases h0 : k = 0
   ·subst h0
    generalize el s 0 = v at *
    have hc4 : ∀ M, CallOk Tryz.prog 59 [I v, I 0, I 60000] M (fun w M' => w = .bool true /\ M' = M) := fun M => by rw [<- hbt]; exact c_within _ _ _ M
    (have hrd0 := hr; repeat' (first | (with_reducible intro _) | refine sv ?_ | (refine sc ?_ ?_ <;> (intro h; try first | exact h.elim | exact absurd rfl h | (exfalso; omega))) | ((with_reducible first | apply x_same | apply d_same | apply d_same0); exact gd; exact rfl; exact rfl; (first | exact hc4 _)) | (refine sg ?_ ?_ <;> (intro h; (fail_if_success (have : True := h)); try first | exact h.elim | exact absurd rfl h | (exfalso; omega))) | assumption | exact xm | exact rfl))
    exact k_step (s.length - (0 + 1)) (by omega) ⟨1, rfl, by omega, rfl, .cons rfl (.cons rfl (.cons rfl (.cons rfl (.cons (by show some (LV.bool _) = some (LV.bool _); rw [hst]; rfl) (.cons rfl (.cons rfl (.cons rfl .nil))))))), rfl⟩
   ·rw [decide_eq_false h0] at hst
    obtain ⟨i2, o2, he2, hr2⟩ := hs6.rd (k := k - 1) (by omega)
    obtain ⟨rfl, rfl⟩ : i2 = i /\ o2 = o := by injection he2 with q; injection q with q1 q2; exact ⟨q1.symm, q2.symm⟩
    rw [<- el_lt (by omega)] at hr2
    have hkk : ((k : Int) - 1).toNat = k - 1 := by omega
    generalize el s k = v at *
    generalize el s (k - 1) = u at *
    rw [<- hkk] at hr2
    have hc4 : ∀ M, CallOk Tryz.prog 59 [I v, I 0, I 60000] M (fun w M' => w = .bool true /\ M' = M) := fun M => by rw [<- hbt]; exact c_within _ _ _ M
    (have hrd0 := hr; have hrd1 := hr2; repeat' (first | (with_reducible intro _) | refine sv ?_ | (refine sc ?_ ?_ <;> (intro h; try first | exact h.elim | exact absurd rfl h | (exfalso; omega))) | ((with_reducible first | apply x_same | apply d_same | apply d_same0); exact gd; exact rfl; exact rfl; (first | exact hc4 _)) | (refine sg ?_ ?_ <;> (intro h; (fail_if_success (have : True := h)); try first | exact h.elim | exact absurd rfl h | (exfalso; omega))) | assumption | exact xm | exact rfl))
    all_goals exact k_step (s.length - (k + 1)) (by omega) ⟨k + 1, rfl, by omega, rfl, .cons rfl (.cons rfl (.cons rfl (.cons rfl (.cons (by show some (LV.bool _) = some (LV.bool _); rw [hst]; rfl) (.cons rfl (.cons rfl (.cons rfl .nil))))))), rfl⟩
 ·rw [okS_no hg]
  have go : ∀ {x' y' : Bool}, btB x 0 1000 = x' -> btB y 1 1000 = y' -> (∀ M, CallOk Tryz.prog 59 [I x, I 0, I 1000] M (fun w M' => w = .bool x' /\ M' = M)) /\ (∀ M, CallOk Tryz.prog 59 [I y, I 1, I 1000] M (fun w M' => w = .bool y' /\ M' = M)) := fun h2 h3 => ⟨fun M => by rw [<- h2]; exact c_within _ _ _ M, fun M => by rw [<- h3]; exact c_within _ _ _ M⟩
  cases hx : btB x 0 1000 <;> cases hy : btB y 1 1000 <;> (obtain ⟨hc2, hc3⟩ := go hx hy; rw [hx, hy] at hg; (repeat' (first | (with_reducible intro _) | refine sv ?_ | (refine sc ?_ ?_ <;> (intro h; try first | exact h.elim | exact absurd rfl h | (exfalso; omega))) | ((with_reducible first | apply x_same | apply d_same | apply d_same0); exact gd; exact rfl; exact rfl; (first | exact hc2 _ | exact hc3 _)) | (refine sg ?_ ?_ <;> (intro h; (fail_if_success (have : True := h)); try first | exact h.elim | exact absurd rfl h | (exfalso; omega))) | assumption | exact xm | exact rfl)))
  all_goals try (exact absurd ⟨by omega, rfl, rfl⟩ hg)
  all_goals
   rename_i n6 M6 hN6 q1 q2
   clear h
   have hs6 : SlI M6 a s := hs.grow hN6.grow
   refine w_loop_ind (fun m E ms M' => ∃ k : Nat, m = s.length - k /\ k <= s.length /\ ms = [] /\ Has E [(0, .slice a s.length f e), (6, .ptr (some (n6, 0))), (8, .bool false), (22, .slice a s.length f e), (23, I s.length), (24, I k)] /\ M' = M6)
    ?_ s.length _ _ _ ⟨0, by omega, by omega, rfl, .cons rfl (.cons rfl (.cons rfl (.cons rfl (.cons rfl (.cons rfl .nil))))), rfl⟩
   rintro m E ms M1 ⟨k, rfl, hk, rfl, hE, rfl⟩
   refine w_has hE ?_
   by_cases hlast : k = s.length
   ·subst hlast
    (repeat' (first | (with_reducible intro _) | refine sv ?_ | (refine sc ?_ ?_ <;> (intro h; try first | exact h.elim | exact absurd rfl h | (exfalso; omega))) | (refine sg ?_ ?_ <;> (intro h; (fail_if_success (have : True := h)); try first | exact h.elim | exact absurd rfl h | (exfalso; omega))) | assumption | exact xm | exact rfl))
    ((with_reducible first | apply k_fun | apply k_fun_norm); exact rx)
    exact ⟨rfl, xg⟩
   ·have hlt : k < s.length := by omega
    obtain ⟨i, o, rfl, hr⟩ := hs6.rd hlt
    (have hrd0 := hr; repeat' (first | (with_reducible intro _) | refine sv ?_ | (refine sc ?_ ?_ <;> (intro h; try first | exact h.elim | exact absurd rfl h | (exfalso; omega))) | (refine sg ?_ ?_ <;> (intro h; (fail_if_success (have : True := h)); try first | exact h.elim | exact absurd rfl h | (exfalso; omega))) | assumption | exact xm | exact rfl))
    exact k_step (s.length - (k + 1)) (by omega) ⟨k + 1, rfl, by omega, rfl, .cons rfl (.cons rfl (.cons rfl (.cons rfl (.cons rfl (.cons rfl .nil))))), rfl⟩
theorem c_pass {M : Mem} {a : Option (Nat × Nat)} {s : List Int} {f : Bool} {e : Nat} {x y : Int} (hs : SlI M a s) (ok : OkS s x y) {i k : Nat} (hi : i <= k) (hk : k < s.length) :
  CallOk Tryz.prog 83 [agV a s.length f e x y, I i, I k] M (fun w M' => w = .tup [I (x + spn s i k), .bool (decide (spn s i k <= y))] /\ Grow M M') := by
 refine call_in k83 rfl ?_
 dsimp only [x83, zipE, Nat.reduceAdd]
 have hl := ok.len
 have ha := ok.a0
 have hb := ok.b0
 have h1 := ok.at hk
 have h2 := ok.at (i := i) (by omega)
 obtain ⟨p, o, rfl, hr⟩ := hs.rd hk
 obtain ⟨p2, o2, he2, hr2⟩ := hs.rd (k := i) (by omega)
 obtain ⟨rfl, rfl⟩ : p2 = p /\ o2 = o := by injection he2 with q; injection q with q1 q2; exact ⟨q1.symm, q2.symm⟩
 rw [<- el_lt hk] at hr
 rw [<- el_lt (by omega)] at hr2
 unfold spn
 generalize el s k = v at *
 generalize el s i = u at *
 (have hrd0 := hr; have hrd1 := hr2; repeat' (first | (with_reducible intro _) | refine sv ?_ | (refine sc ?_ ?_ <;> (intro h; try first | exact h.elim | exact absurd rfl h | (exfalso; omega))) | (refine sg ?_ ?_ <;> (intro h; (fail_if_success (have : True := h)); try first | exact h.elim | exact absurd rfl h | (exfalso; omega))) | assumption | exact xm | exact rfl))
 ((with_reducible first | apply k_fun | apply k_fun_norm); exact rx)
 exact ⟨rfl, xg⟩
theorem prF_84 {s y : List Int} {a b : Int} (h : okS s a b = false) : prF s y a b = (0, 84) := by unfold prF; rw [h]; rfl
theorem prF_len {s y : List Int} {a b : Int} (h : okS s a b = true) (hn : y.length ≠ s.length) : prF s y a b = (0, 85) := by unfold prF; rw [h, if_pos rfl, if_neg hn]
theorem prF_out {s y : List Int} {a b : Int} (h : okS s a b = true) (hy : y.all inY = false) : prF s y a b = (0, 85) := by unfold prF; rw [h, if_pos rfl, hy]; split <;> rfl
theorem prF_bad {s y : List Int} {a b : Int} (h : okS s a b = true) (hy : badA s y a b s.length = true) : prF s y a b = (0, 85) := by unfold prF; rw [h, if_pos rfl, hy]; split <;> (try split) <;> rfl
theorem prF_ok {s y : List Int} {a b : Int} (h : okS s a b = true) (hn : y.length = s.length) (hi : y.all inY = true) (hy : badA s y a b s.length = false) : prF s y a b = (seg y 0 y.length, 0) := by unfold prF; rw [h, if_pos rfl, hy, if_pos hn, hi]; rfl
theorem seg_bd0 {y : List Int} {i : Nat} : ∀ {k : Nat}, (∀ t, t < k -> inY (el y (i + t)) = true) -> 0 <= seg y i k /\ seg y i k <= 1048576 * k
 | 0, _ => by unfold seg; omega
 | k + 1, h => by
  have h1 := seg_bd0 (y := y) (i := i) (k := k) (fun t ht => h t (by omega))
  have h2 : 0 <= el y (i + k) /\ el y (i + k) <= 1048576 := of_decide_eq_true (h k (by omega))
  unfold seg
  omega
set_option maxHeartbeats 8000000 in
theorem c_Priced {M : Mem} {a b : Option (Nat × Nat)} {s p : List Int} {f f' : Bool} {e e' : Nat} {x y : Int} (hs : SlI M a s) (hl : s.length <= 1000000000000000) (hp : SlI M b p) (hlp : p.length <= 1000000000000000) (hpi : ∀ n ∈ p, I64 n) :
  CallOk Tryz.prog 31 [.slice a s.length f e, I x, I y, .slice b p.length f' e'] M (fun w M' => w = .tup [I (prF s p x y).1, I (prF s p x y).2] /\ Grow M M') := by
 refine call_in k31 rfl ?_
 dsimp only [x31, zipE, Nat.reduceAdd]
 have ca := fun M' (hg : Grow M M') => c_againOf (f := f) (e := e) (x := x) (y := y) (hs.grow hg) hl
 cases hok : okS s x y with
 | false =>
  rw [prF_84 hok]
  rw [hok] at ca
  have ca : ∀ M', Grow M M' -> CallOk Tryz.prog 82 [.slice a s.length f e, I x, I y] M' (fun w M2 => w = .tup [.agg [.slice none 0 true 0, I 0, I 0], I 84] /\ Grow M' M2) := ca
  (repeat' (first | (with_reducible intro _) | refine sv ?_ | (refine sc ?_ ?_ <;> (intro h; try first | exact h.elim | exact absurd rfl h | (exfalso; omega))) | ((with_reducible first | apply x_pure | apply d_pure | apply d_pure0); exact gd; exact rfl; exact rfl; (first | exact ca _ (xg))) | (refine sg ?_ ?_ <;> (intro h; (fail_if_success (have : True := h)); try first | exact h.elim | exact absurd rfl h | (exfalso; omega))) | assumption | exact xm | exact rfl))
  ((with_reducible first | apply k_fun | apply k_fun_norm); exact rx)
  exact ⟨rfl, xg⟩
 | true =>
 rw [hok] at ca
 have ca : ∀ M', Grow M M' -> CallOk Tryz.prog 82 [.slice a s.length f e, I x, I y] M' (fun w M2 => w = .tup [agV a s.length f e x y, I 0] /\ Grow M' M2) := ca
 by_cases hn : p.length ≠ s.length
 ·rw [prF_len hok hn]
  (repeat' (first | (with_reducible intro _) | refine sv ?_ | (refine sc ?_ ?_ <;> (intro h; try first | exact h.elim | exact absurd rfl h | (exfalso; omega))) | ((with_reducible first | apply x_pure | apply d_pure | apply d_pure0); exact gd; exact rfl; exact rfl; (first | exact ca _ (xg))) | (refine sg ?_ ?_ <;> (intro h; (fail_if_success (have : True := h)); try first | exact h.elim | exact absurd rfl h | (exfalso; omega))) | assumption | exact xm | exact rfl))
  all_goals try (exfalso; omega)
  ((with_reducible first | apply k_fun | apply k_fun_norm); exact rx)
  exact ⟨rfl, xg⟩
 have hn : p.length = s.length := by omega
 have ok := okS_p hok
 have hL := ok.len
 (repeat' (first | (with_reducible intro _) | refine sv ?_ | (refine sc ?_ ?_ <;> (intro h; try first | exact h.elim | exact absurd rfl h | (exfalso; omega))) | ((with_reducible first | apply x_pure | apply d_pure | apply d_pure0); exact gd; exact rfl; exact rfl; (first | exact ca _ (xg))) | (refine sg ?_ ?_ <;> (intro h; (fail_if_success (have : True := h)); try first | exact h.elim | exact absurd rfl h | (exfalso; omega))) | assumption | exact xm | exact rfl))
 rename_i M1 hg1 hl1 n2 M2 hN2 q1 q2 M3 hU3 q3 hA3 _
 clear h ca
 have hg3 : Grow M M3 := xg
 have hs3 := hs.grow hg3
 have hp3 := hp.grow hg3
 clear hN2 hU3 hg1
 refine w_loop_ind (fun m E ms M' => ∃ k : Nat, m = p.length - k /\ k <= p.length /\ ms = [] /\ Has E [(0, .slice a s.length f e), (3, .slice b p.length f' e'), (10, .ptr (some (n2, 0))), (12, I (seg p 0 k)), (34, .slice b p.length f' e'), (35, I p.length), (36, I k)] /\ Grow M3 M' /\ (∀ t, t < k -> inY (el p t) = true) /\ (p.all inY = true -> badA s p x y k = false))
  ?_ p.length _ _ _ ⟨0, by omega, by omega, rfl, .cons rfl (.cons rfl (.cons rfl (.cons rfl (.cons rfl (.cons rfl (.cons rfl .nil)))))), Grow.refl _, fun t ht => absurd ht (Nat.not_lt_zero _), fun _ => rfl⟩
 rintro m E ms M4 ⟨k, rfl, hk, rfl, hE, hg4, hin, hbad⟩
 refine w_has hE ?_
 by_cases hlast : k = p.length
 ·subst hlast
  have hall := all_yes hin
  rw [prF_ok hok hn hall (by rw [<- hn]; exact hbad hall)]
  (repeat' (first | (with_reducible intro _) | refine sv ?_ | (refine sc ?_ ?_ <;> (intro h; try first | exact h.elim | exact absurd rfl h | (exfalso; omega))) | (refine sg ?_ ?_ <;> (intro h; (fail_if_success (have : True := h)); try first | exact h.elim | exact absurd rfl h | (exfalso; omega))) | assumption | exact xm | exact rfl))
  ((with_reducible first | apply k_fun | apply k_fun_norm); exact rx)
  exact ⟨rfl, hg3.trans hg4⟩
 ·have hlt : k < p.length := by omega
  have hs4 := hs3.grow hg4
  have hp4 := hp3.grow hg4
  have hA4 := At.grow hg4 hA3
  obtain ⟨i, o, he1, hr⟩ := hp4.rd hlt
  have hsb := seg_bd0 (y := p) (i := 0) (k := k) (fun t ht => by rw [Nat.zero_add]; exact hin t ht)
  have hst : seg p 0 (k + 1) = seg p 0 k + el p k := by show seg p 0 k + el p (0 + k) = _; rw [Nat.zero_add]
  rw [<- el_lt hlt] at hr
  cases hi : inY (el p k) with
  | false =>
   have hno : p.all inY = false := all_not hlt hi
   rw [prF_out hok hno]
   have hc : ∀ M, CallOk Tryz.prog 59 [I (el p k), I 0, I 1048576] M (fun w M' => w = .bool false /\ M' = M) := fun M => by rw [<- hi]; exact c_within _ _ _ M
   subst he1
   (have hrd0 := hr; repeat' (first | (with_reducible intro _) | refine sv ?_ | (refine sc ?_ ?_ <;> (intro h; try first | exact h.elim | exact absurd rfl h | (exfalso; omega))) | ((with_reducible first | apply x_same | apply d_same | apply d_same0); exact gd; exact rfl; exact rfl; (first | exact hc _)) | (refine sg ?_ ?_ <;> (intro h; (fail_if_success (have : True := h)); try first | exact h.elim | exact absurd rfl h | (exfalso; omega))) | assumption | exact xm | exact rfl))
   ((with_reducible first | apply k_fun | apply k_fun_norm); exact rx)
   exact ⟨rfl, hg3.trans hg4⟩
  | true =>
   have hc : ∀ M, CallOk Tryz.prog 59 [I (el p k), I 0, I 1048576] M (fun w M' => w = .bool true /\ M' = M) := fun M => by rw [<- hi]; exact c_within _ _ _ M
   have hvb : 0 <= el p k /\ el p k <= 1048576 := of_decide_eq_true hi
   have hin2 : ∀ t, t < k + 1 -> inY (el p t) = true := fun t ht => by
    by_cases he : t = k
    ·subst he; exact hi
    ·exact hin t (by omega)
   generalize hS : seg p 0 k = S at *
   generalize hV : el p k = V at *
   subst he1
   (have hrd0 := hr; repeat' (first | (with_reducible intro _) | refine sv ?_ | (refine sc ?_ ?_ <;> (intro h; try first | exact h.elim | exact absurd rfl h | (exfalso; omega))) | ((with_reducible first | apply x_same | apply d_same | apply d_same0); exact gd; exact rfl; exact rfl; (first | exact hc _)) | (refine sg ?_ ?_ <;> (intro h; (fail_if_success (have : True := h)); try first | exact h.elim | exact absurd rfl h | (exfalso; omega))) | assumption | exact xm | exact rfl))
   refine w_loop_ind (fun m E ms M' => ∃ (j : Nat) (w : Int), m = p.length - (k + j) /\ k + j <= p.length /\ ms = [] /\ Has E [(0, .slice a s.length f e), (3, .slice (some (i, o)) p.length f' e'), (10, .ptr (some (n2, 0))), (12, I (S + V)), (13, I k), (15, I w), (16, I ((k + j : Nat) : Int)), (34, .slice (some (i, o)) p.length f' e'), (35, I p.length), (36, I k)] /\ Grow M3 M' /\ (p.all inY = true -> w = seg p k j /\ badR s p x y k j = false))
    ?_ (p.length - k) _ _ _ ⟨0, 0, by omega, by omega, rfl, .cons rfl (.cons rfl (.cons rfl (.cons rfl (.cons rfl (.cons rfl (.cons rfl (.cons rfl (.cons rfl (.cons rfl .nil))))))))), hg4, fun _ => ⟨rfl, rfl⟩⟩
   rintro m E ms M5 ⟨j, w, rfl, hj, rfl, hE, hg5, hw⟩
   refine w_has hE ?_
   by_cases hlast2 : k + j = p.length
   ·(repeat' (first | (with_reducible intro _) | refine sv ?_ | (refine sc ?_ ?_ <;> (intro h; try first | exact h.elim | exact absurd rfl h | (exfalso; omega))) | (refine sg ?_ ?_ <;> (intro h; (fail_if_success (have : True := h)); try first | exact h.elim | exact absurd rfl h | (exfalso; omega))) | assumption | exact xm | exact rfl))
    refine k_step (p.length - (k + 1)) (by omega) ⟨k + 1, rfl, by omega, rfl, .cons rfl (.cons rfl (.cons rfl (.cons (by rw [hst]; rfl) (.cons rfl (.cons rfl (.cons rfl .nil)))))), hg5, hin2, fun hall => ?_⟩
    show (badA s p x y k || badR s p x y k (s.length - k)) = false
    rw [hbad hall, show s.length - k = j from by omega, (hw hall).2]; rfl
   ·have hltj : k + j < p.length := by omega
    have hs5 := hs3.grow hg5
    have hp5 := hp3.grow hg5
    have hA5 := At.grow hg5 hA3
    obtain ⟨i2, o2, he2, hr2⟩ := hp5.rd hltj
    obtain ⟨rfl, rfl⟩ : i2 = i /\ o2 = o := by injection he2 with q; injection q with q1 q2; exact ⟨q1.symm, q2.symm⟩
    rw [<- el_lt hltj] at hr2
    have cp := c_pass (f := f) (e := e) hs5 ok (i := k) (k := k + j) (by omega) (by omega)
    have hsp := ok.spn (i := k) (k := k + j) (by omega) (by omega)
    have hr3 := badR_hit (s := s) (y := p) (a := x) (b := y) (i := k) (k := j) (n := s.length - k) (by omega)
    have hr4 := badR_ok (s := s) (y := p) (a := x) (b := y) (i := k) (k := j)
    have hws : p.all inY = true -> IntKind.wrap .i64 (w + el p (k + j)) = seg p k (j + 1) := fun hall => by
     rw [(hw hall).1]
     have h1 := seg_bd hall k (j + 1) (by omega)
     exact wrap_in (by show (-9223372036854775808 : Int) <= _ /\ _ <= (9223372036854775807 : Int); show _ <= seg p k (j + 1) /\ seg p k (j + 1) <= _; omega)
    generalize hSp : spn s k (k + j) = Sp at *
    generalize el p (k + j) = v at *
    have ha0 := ok.a0
    have hb0 := ok.b0
    (have hrd0 := hr2; repeat' (first | (with_reducible intro _) | refine sv ?_ | (refine sc ?_ ?_ <;> (intro h; try first | exact h.elim | exact absurd rfl h | (exfalso; omega))) | ((with_reducible first | apply x_pure | apply d_pure | apply d_pure0); exact gd; exact rfl; exact rfl; (first | exact cp)) | (refine sg ?_ ?_ <;> (intro h; (fail_if_success (have : True := h)); try first | exact h.elim | exact absurd rfl h | (exfalso; omega))) | assumption | exact xm | exact rfl))
    ·rename_i hb1
     have he : prF s p x y = (0, 85) := by
      cases hall : p.all inY with
      | false => exact prF_out hok hall
      | true => exact prF_bad hok (badA_hit (n := s.length) (i := k) (by omega) (hr3 hb1 (by rw [<- hws hall]; exact h)))
     rw [he]
     ((with_reducible first | apply k_fun | apply k_fun_norm); exact rx)
     exact ⟨rfl, (hg3.trans hg5).trans (by assumption)⟩
    ·exact k_step (p.length - (k + (j + 1))) (by omega) ⟨j + 1, _, rfl, by omega, rfl, .cons rfl (.cons rfl (.cons rfl (.cons rfl (.cons rfl (.cons rfl (.cons rfl (.cons rfl (.cons rfl (.cons rfl .nil))))))))), hg5.trans (by assumption), fun hall => ⟨hws hall, hr4 (hw hall).2 (fun hc => by rw [<- hws hall] at hc; exact absurd hc.2 (Int.not_lt.2 h))⟩⟩
    ·exact k_step (p.length - (k + (j + 1))) (by omega) ⟨j + 1, _, rfl, by omega, rfl, .cons rfl (.cons rfl (.cons rfl (.cons rfl (.cons rfl (.cons rfl (.cons rfl (.cons rfl (.cons rfl (.cons rfl .nil))))))))), hg5.trans (by assumption), fun hall => ⟨hws hall, hr4 (hw hall).2 (fun hc => by have := hc.1; omega)⟩⟩
end Go.Proofs.YtlfkmgpngkbhpaaGreatDoor.C
end
