/-
 Part of the proof of TapeDearer: what functions of the program and of the statement come to, walked by the rules. No condition beyond those in each theorem.
-/
import Derived.Test.YtlfkmgpngkbhpaaGreatDoorTR
import Derived.Test.YtlfkmgpngkbhpaaGreatDoorTQ
import Derived.Test.YtlfkmgpngkbhpaaGreatDoorTX
section
open Go PvL Go.Proofs
set_option linter.unusedSimpArgs false
set_option linter.unusedVariables false
namespace Go.Proofs.YtlfkmgpngkbhpaaGreatDoor.C
abbrev prc (p : Int × Int) : List LV := [I p.1, I p.2]
def SlP (M : Mem) (a : Option (Nat × Nat)) (L : List (Int × Int)) : Prop := L = [] ∨ ∃ i o, a = some (i, o) /\ ∀ k (hk : k < L.length), Rd M i (o + k * 2) 2 (prc L[k])
theorem SlP.grow {M M' : Mem} {a : Option (Nat × Nat)} {L : List (Int × Int)} (h : SlP M a L) (hg : Grow M M') : SlP M' a L :=
 h.imp id fun ⟨i, o, h1, h2⟩ => ⟨i, o, h1, fun k hk => (h2 k hk).grow hg⟩
theorem SlP.rd {M : Mem} {a : Option (Nat × Nat)} {L : List (Int × Int)} (h : SlP M a L) {k : Nat} (hk : k < L.length) : ∃ i o, a = some (i, o) /\ Rd M i (o + k * 2) 2 [I L[k].1, I L[k].2] := by
 rcases h with rfl | ⟨i, o, h1, h2⟩
 ·exact absurd hk (Nat.not_lt_zero _)
 ·exact ⟨i, o, h1, h2 k hk⟩
def PrV (M : Mem) (v : LV) (L : List (Int × Int)) : Prop := ∃ a f e, v = .slice a L.length f e /\ SlP M a L
theorem PrV.grow {M M' : Mem} {v : LV} {L : List (Int × Int)} (h : PrV M v L) (hg : Grow M M') : PrV M' v L := by
 obtain ⟨a, f, e, h1, h2⟩ := h
 exact ⟨a, f, e, h1, h2.grow hg⟩
theorem PrV.nil (M : Mem) : PrV M (.slice none 0 true 0) [] := ⟨none, true, 0, rfl, .inl rfl⟩
theorem PrV.vec {M : Mem} {b : Nat} {ty : TypeId} {v : LV} {L : List (Int × Int)} (h : Vec b 2 ty prc M v L) : PrV M v L := by
 obtain ⟨a, f, e, h1, h2⟩ := h.rd (fun _ _ => rfl)
 exact ⟨a, f, e, h1, h2⟩
theorem two_first {m : Nat} {x : Int × Int} {M M' : Mem} {ty : TypeId} (hn : New M m (.cells true [I x.1, I x.2] ty) M') : firstL 2 1 (.slice (some (m, 0)) 1 true 2) M' = some ([x].flatMap prc) :=
 firstL_rd (enc := prc) (l := [x]) (fun _ _ => rfl) (fun k' hk' => rd_flat (enc := prc) (l := [x]) (At.new_same hn) (fun _ _ => rfl) hk')
theorem okT_s (s : List Int) (k : Nat) : okT s (k + 1) = (okT s k && (btB (el s k) 0 60000 && (decide (k = 0) || decide (el s (k - 1) < el s k)))) := rfl
theorem okS_no {s : List Int} {a b : Int} (h : ¬ (s.length <= 128 /\ btB a 0 1000 = true /\ btB b 1 1000 = true)) : okS s a b = false := by
 unfold okS
 by_cases h1 : s.length <= 128
 ·cases h2 : btB a 0 1000 with
  | false => simp
  | true =>
   cases h3 : btB b 1 1000 with
   | false => simp
   | true => exact absurd ⟨h1, h2, h3⟩ h
 ·rw [decide_eq_false h1]; rfl
theorem okS_yes {s : List Int} {a b : Int} (h1 : s.length <= 128) (h2 : btB a 0 1000 = true) (h3 : btB b 1 1000 = true) : okS s a b = okT s s.length := by
 unfold okS
 rw [decide_eq_true h1, h2, h3]; rfl
abbrev agV (a : Option (Nat × Nat)) (n : Nat) (f : Bool) (e : Nat) (x y : Int) : LV := .agg [.slice a n f e, I x, I y]
set_option maxHeartbeats 4000000 in
theorem c_againOf {M : Mem} {a : Option (Nat × Nat)} {s : List Int} {f : Bool} {e : Nat} {x y : Int} (hs : SlI M a s) (hl : s.length <= 1000000000000000) :
  CallOk Tryz.prog 82 [.slice a s.length f e, I x, I y] M (fun w M' => w = .tup [if okS s x y then agV a s.length f e x y else .agg [.slice none 0 true 0, I 0, I 0], I (if okS s x y then 0 else 84)] /\ Grow M M') := by
 refine call_in k82 rfl ?_
 dsimp only [x82, zipE, Nat.reduceAdd]
 by_cases hg : s.length <= 128 /\ btB x 0 1000 = true /\ btB y 1 1000 = true
 ·obtain ⟨h1, h2, h3⟩ := hg
  have hc2 : ∀ M, CallOk Tryz.prog 59 [I x, I 0, I 1000] M (fun w M' => w = .bool true /\ M' = M) := fun M => by rw [<- h2]; exact c_within _ _ _ M
  have hc3 : ∀ M, CallOk Tryz.prog 59 [I y, I 1, I 1000] M (fun w M' => w = .bool true /\ M' = M) := fun M => by rw [<- h3]; exact c_within _ _ _ M
  rw [okS_yes h1 h2 h3]
  (repeat' (first | (with_reducible intro _) | refine sv ?_ | (refine sc ?_ ?_ <;> (intro h; try first | exact h.elim | exact absurd rfl h | (exfalso; omega))) | ((with_reducible first | apply x_same | apply d_same | apply d_same0); exact gd; exact rfl; exact rfl; (first | exact hc2 _ | exact hc3 _)) | (refine sg ?_ ?_ <;> (intro h; (fail_if_success (have : True := h)); try first | exact h.elim | exact absurd rfl h | (exfalso; omega))) | assumption | exact xm | exact rfl))
  rename_i n6 M6 hN6 q1 q2
  clear h
  have hs6 : SlI M6 a s := hs.grow hN6.grow
  refine w_loop_ind (fun m E ms M' => ∃ k : Nat, m = s.length - k /\ k <= s.length /\ ms = [] /\ Has E [(0, .slice a s.length f e), (1, I x), (2, I y), (6, .ptr (some (n6, 0))), (8, .bool (okT s k)), (22, .slice a s.length f e), (23, I s.length), (24, I k)] /\ M' = M6)
   ?_ s.length _ _ _ ⟨0, by omega, by omega, rfl, .cons rfl (.cons rfl (.cons rfl (.cons rfl (.cons rfl (.cons rfl (.cons rfl (.cons rfl .nil))))))), rfl⟩
  rintro m E ms M1 ⟨k, rfl, hk, rfl, hE, rfl⟩
  refine w_has hE ?_
  by_cases hlast : k = s.length
  ·subst hlast
   cases hok : okT s s.length with
   | true =>
    (repeat' (first | (with_reducible intro _) | refine sv ?_ | (refine sc ?_ ?_ <;> (intro h; try first | exact h.elim | exact absurd rfl h | (exfalso; omega))) | (refine sg ?_ ?_ <;> (intro h; (fail_if_success (have : True := h)); try first | exact h.elim | exact absurd rfl h | (exfalso; omega))) | assumption | exact xm | exact rfl))
    ((with_reducible first | apply k_fun | apply k_fun_norm); exact rx)
    exact ⟨rfl, xg⟩
   | false =>
    (repeat' (first | (with_reducible intro _) | refine sv ?_ | (refine sc ?_ ?_ <;> (intro h; try first | exact h.elim | exact absurd rfl h | (exfalso; omega))) | (refine sg ?_ ?_ <;> (intro h; (fail_if_success (have : True := h)); try first | exact h.elim | exact absurd rfl h | (exfalso; omega))) | assumption | exact xm | exact rfl))
    ((with_reducible first | apply k_fun | apply k_fun_norm); exact rx)
    exact ⟨rfl, xg⟩
  ·have hlt : k < s.length := by omega
   obtain ⟨i, o, rfl, hr⟩ := hs6.rd hlt
   rw [<- el_lt hlt] at hr
   have hst := okT_s s k
   cases hok : okT s k with
   | false =>
    rw [hok] at hst
    (have hrd0 := hr; repeat' (first | (with_reducible intro _) | refine sv ?_ | (refine sc ?_ ?_ <;> (intro h; try first | exact h.elim | exact absurd rfl h | (exfalso; omega))) | (refine sg ?_ ?_ <;> (intro h; (fail_if_success (have : True := h)); try first | exact h.elim | exact absurd rfl h | (exfalso; omega))) | assumption | exact xm | exact rfl))
    exact k_step (s.length - (k + 1)) (by omega) ⟨k + 1, rfl, by omega, rfl, .cons rfl (.cons rfl (.cons rfl (.cons rfl (.cons (by show some (LV.bool _) = some (LV.bool _); rw [hst]; rfl) (.cons rfl (.cons rfl (.cons rfl .nil))))))), rfl⟩
   | true =>
   rw [hok] at hst
   cases hbt : btB (el s k) 0 60000 with
   | false =>
    rw [hbt] at hst
    generalize el s k = v at *
    have hc4 : ∀ M, CallOk Tryz.prog 59 [I v, I 0, I 60000] M (fun w M' => w = .bool false /\ M' = M) := fun M => by rw [<- hbt]; exact c_within _ _ _ M
    (have hrd0 := hr; repeat' (first | (with_reducible intro _) | refine sv ?_ | (refine sc ?_ ?_ <;> (intro h; try first | exact h.elim | exact absurd rfl h | (exfalso; omega))) | ((with_reducible first | apply x_same | apply d_same | apply d_same0); exact gd; exact rfl; exact rfl; (first | exact hc4 _)) | (refine sg ?_ ?_ <;> (intro h; (fail_if_success (have : True := h)); try first | exact h.elim | exact absurd rfl h | (exfalso; omega))) | assumption | exact xm | exact rfl))
    exact k_step (s.length - (k + 1)) (by omega) ⟨k + 1, rfl, by omega, rfl, .cons rfl (.cons rfl (.cons rfl (.cons rfl (.cons (by show some (LV.bool _) = some (LV.bool _); rw [hst]; rfl) (.cons rfl (.cons rfl (.cons rfl .nil))))))), rfl⟩
   | true =>
   rw [hbt] at hst
   by_cases h0 : k = 0
   ·subst h0
    generalize el s 0 = v at *
    have hc4 : ∀ M, CallOk Tryz.prog 59 [I v, I 0, I 60000] M (fun w M' => w = .bool true /\ M' = M) := fun M => by rw [<- hbt]; exact c_within _ _ _ M
    (have hrd0 := hr; repeat' (first | (with_reducible intro _) | refine sv ?_ | (refine sc ?_ ?_ <;> (intro h; try first | exact h.elim | exact absurd rfl h | (exfalso; omega))) | ((with_reducible first | apply x_same | apply d_same | apply d_same0); exact gd; exact rfl; exact rfl; (first | exact hc4 _)) | (refine sg ?_ ?_ <;> (intro h; (fail_if_success (have : True := h)); try first | exact h.elim | exact absurd rfl h | (exfalso; omega))) | assumption | exact xm | exact rfl))
    exact k_step (s.length - (0 + 1)) (by omega) ⟨1, rfl, by omega, rfl, .cons rfl (.cons rfl (.cons rfl (.cons rfl (.cons (by show some (LV.bool _) = some (LV.bool _); rw [hst]; rfl) (.cons rfl (.cons rfl (.cons rfl .nil))))))), rfl⟩
   ·rw [decide_eq_false h0] at hst
    obtain ⟨i2, o2, he2, hr2⟩ := hs6.rd (k := k - 1) (by omega)
    obtain ⟨rfl, rfl⟩ : i2 = i /\ o2 = o := by injection he2 with q; injection q with q1 q2; exact ⟨q1.symm, q2.symm⟩
    rw [<- el_lt (by omega)] at hr2
    have hkk : ((k : Int) - 1).toNat = k - 1 := by omega
    generalize el s k = v at *
    generalize el s (k - 1) = u at *
    rw [<- hkk] at hr2
    have hc4 : ∀ M, CallOk Tryz.prog 59 [I v, I 0, I 60000] M (fun w M' => w = .bool true /\ M' = M) := fun M => by rw [<- hbt]; exact c_within _ _ _ M
    (have hrd0 := hr; have hrd1 := hr2; repeat' (first | (with_reducible intro _) | refine sv ?_ | (refine sc ?_ ?_ <;> (intro h; try first | exact h.elim | exact absurd rfl h | (exfalso; omega))) | ((with_reducible first | apply x_same | apply d_same | apply d_same0); exact gd; exact rfl; exact rfl; (first | exact hc4 _)) | (refine sg ?_ ?_ <;> (intro h; (fail_if_success (have : True := h)); try first | exact h.elim | exact absurd rfl h | (exfalso; omega))) | assumption | exact xm | exact rfl))
    all_goals exact k_step (s.length - (k + 1)) (by omega) ⟨k + 1, rfl, by omega, rfl, .cons rfl (.cons rfl (.cons rfl (.cons rfl (.cons (by show some (LV.bool _) = some (LV.bool _); rw [hst]; rfl) (.cons rfl (.cons rfl (.cons rfl .nil))))))), rfl⟩
 ·rw [okS_no hg]
  have go : ∀ {x' y' : Bool}, btB x 0 1000 = x' -> btB y 1 1000 = y' -> (∀ M, CallOk Tryz.prog 59 [I x, I 0, I 1000] M (fun w M' => w = .bool x' /\ M' = M)) /\ (∀ M, CallOk Tryz.prog 59 [I y, I 1, I 1000] M (fun w M' => w = .bool y' /\ M' = M)) := fun h2 h3 => ⟨fun M => by rw [<- h2]; exact c_within _ _ _ M, fun M => by rw [<- h3]; exact c_within _ _ _ M⟩
  cases hx : btB x 0 1000 <;> cases hy : btB y 1 1000 <;> (obtain ⟨hc2, hc3⟩ := go hx hy; rw [hx, hy] at hg; (repeat' (first | (with_reducible intro _) | refine sv ?_ | (refine sc ?_ ?_ <;> (intro h; try first | exact h.elim | exact absurd rfl h | (exfalso; omega))) | ((with_reducible first | apply x_same | apply d_same | apply d_same0); exact gd; exact rfl; exact rfl; (first | exact hc2 _ | exact hc3 _)) | (refine sg ?_ ?_ <;> (intro h; (fail_if_success (have : True := h)); try first | exact h.elim | exact absurd rfl h | (exfalso; omega))) | assumption | exact xm | exact rfl)))
  all_goals try (exact absurd ⟨by omega, rfl, rfl⟩ hg)
  all_goals
   rename_i n6 M6 hN6 q1 q2
   clear h
   have hs6 : SlI M6 a s := hs.grow hN6.grow
   refine w_loop_ind (fun m E ms M' => ∃ k : Nat, m = s.length - k /\ k <= s.length /\ ms = [] /\ Has E [(0, .slice a s.length f e), (6, .ptr (some (n6, 0))), (8, .bool false), (22, .slice a s.length f e), (23, I s.length), (24, I k)] /\ M' = M6)
    ?_ s.length _ _ _ ⟨0, by omega, by omega, rfl, .cons rfl (.cons rfl (.cons rfl (.cons rfl (.cons rfl (.cons rfl .nil))))), rfl⟩
   rintro m E ms M1 ⟨k, rfl, hk, rfl, hE, rfl⟩
   refine w_has hE ?_
   by_cases hlast : k = s.length
   ·subst hlast
    (repeat' (first | (with_reducible intro _) | refine sv ?_ | (refine sc ?_ ?_ <;> (intro h; try first | exact h.elim | exact absurd rfl h | (exfalso; omega))) | (refine sg ?_ ?_ <;> (intro h; (fail_if_success (have : True := h)); try first | exact h.elim | exact absurd rfl h | (exfalso; omega))) | assumption | exact xm | exact rfl))
    ((with_reducible first | apply k_fun | apply k_fun_norm); exact rx)
    exact ⟨rfl, xg⟩
   ·have hlt : k < s.length := by omega
    obtain ⟨i, o, rfl, hr⟩ := hs6.rd hlt
    (have hrd0 := hr; repeat' (first | (with_reducible intro _) | refine sv ?_ | (refine sc ?_ ?_ <;> (intro h; try first | exact h.elim | exact absurd rfl h | (exfalso; omega))) | (refine sg ?_ ?_ <;> (intro h; (fail_if_success (have : True := h)); try first | exact h.elim | exact absurd rfl h | (exfalso; omega))) | assumption | exact xm | exact rfl))
    exact k_step (s.length - (k + 1)) (by omega) ⟨k + 1, rfl, by omega, rfl, .cons rfl (.cons rfl (.cons rfl (.cons rfl (.cons rfl (.cons rfl .nil))))), rfl⟩
theorem c_pass {M : Mem} {a : Option (Nat × Nat)} {s : List Int} {f : Bool} {e : Nat} {x y : Int} (hs : SlI M a s) (ok : OkS s x y) {i k : Nat} (hi : i <= k) (hk : k < s.length) :
  CallOk Tryz.prog 83 [agV a s.length f e x y, I i, I k] M (fun w M' => w = .tup [I (x + spn s i k), .bool (decide (spn s i k <= y))] /\ Grow M M') := by
 refine call_in k83 rfl ?_
 dsimp only [x83, zipE, Nat.reduceAdd]
 have hl := ok.len
 have ha := ok.a0
 have hb := ok.b0
 have h1 := ok.at hk
 have h2 := ok.at (i := i) (by omega)
 obtain ⟨p, o, rfl, hr⟩ := hs.rd hk
 obtain ⟨p2, o2, he2, hr2⟩ := hs.rd (k := i) (by omega)
 obtain ⟨rfl, rfl⟩ : p2 = p /\ o2 = o := by injection he2 with q; injection q with q1 q2; exact ⟨q1.symm, q2.symm⟩
 rw [<- el_lt hk] at hr
 rw [<- el_lt (by omega)] at hr2
 unfold spn
 generalize el s k = v at *
 generalize el s i = u at *
 (have hrd0 := hr; have hrd1 := hr2; repeat' (first | (with_reducible intro _) | refine sv ?_ | (refine sc ?_ ?_ <;> (intro h; try first | exact h.elim | exact absurd rfl h | (exfalso; omega))) | (refine sg ?_ ?_ <;> (intro h; (fail_if_success (have : True := h)); try first | exact h.elim | exact absurd rfl h | (exfalso; omega))) | assumption | exact xm | exact rfl))
 ((with_reducible first | apply k_fun | apply k_fun_norm); exact rx)
 exact ⟨rfl, xg⟩
end Go.Proofs.YtlfkmgpngkbhpaaGreatDoor.C
end
