/-
 Part of the proof of TapePacks: what functions of the program and of the statement come to, walked by the rules. No condition beyond those in each theorem.
-/
import Derived.Test.YtlfkmgpngkbhpaaGreatDoorTP
import Derived.Test.YtlfkmgpngkbhpaaGreatDoorTQ
import Derived.Test.YtlfkmgpngkbhpaaGreatDoorTX
section
open Go PvL Go.Proofs
set_option linter.unusedSimpArgs false
set_option linter.unusedVariables false
namespace Go.Proofs.YtlfkmgpngkbhpaaGreatDoor.C
theorem wrap8m {a : Int} : IntKind.wrap .u8 a = a % 256 := by
 unfold IntKind.wrap
 simp [IntKind.signed, IntKind.bits]
theorem byte_u8 {n : Nat} (h : n < 256) : byteL (u8 n) = LV.int .u8 (n : Int) := by
 show LV.int .u8 (((u8 n).toNat : Nat) : Int) = _
 rw [u8_n h]
theorem bytes_u8 {n : Nat} (h : n < 256) : [LV.int .u8 (n : Int)] = bytesC [u8 n] := by
 show _ = [byteL (u8 n)]
 rw [byte_u8 h]
theorem c_two (n : Nat) (hn : n <= 65535) (M : Mem) : CallOk Tryz.prog 66 [I n] M (MkAt (fun p => .slice (some (p, 0)) 2 true 1) (.cells true (bytesC (twoL n)) 5) M) := by
 refine call_in k66 rfl ?_
 dsimp only [x66, zipE, Nat.reduceAdd]
 have hs : shrZ (n : Int) 8 = ((n / 256 : Nat) : Int) := by unfold shrZ; show (n : Int) / ((2 ^ 8 : Nat) : Int) = _; omega
 have h2 : (n : Int) % 256 = ((n % 256 : Nat) : Int) := by omega
 have hb : bytesC (twoL n) = [.int .u8 ((n / 256 : Nat) : Int), .int .u8 ((n % 256 : Nat) : Int)] := by
  show [byteL (u8 (n / 256)), byteL (u8 (n % 256))] = _
  rw [byte_u8 (by omega), byte_u8 (by omega)]
 (repeat' (first | (with_reducible intro _) | refine sv ?_ | (refine sc ?_ ?_ <;> (intro h; try first | exact h.elim | exact absurd rfl h | (exfalso; omega))) | (refine sg ?_ ?_ <;> (intro h; (fail_if_success (have : True := h)); try first | exact h.elim | exact absurd rfl h | (exfalso; omega))) | assumption | exact xm | exact rfl))
 rename_i m M1 hN q1 q2
 rw [hs, wrap8m, h2, <- hb] at hN
 ((with_reducible first | apply k_fun | apply k_fun_norm); exact rx)
 exact ⟨m, rfl, At.new_same hN, by omega, by omega, hN.grow⟩
set_option maxHeartbeats 4000000 in
theorem c_octet (n : Nat) (hn : n <= 1000000000000) (M : Mem) : CallOk Tryz.prog 90 [I n] M (fun w M' => w = .str (strL [u8 (n % 256)]) /\ Grow M M') := by
 refine call_in k90 rfl ?_
 dsimp only [x90, zipE, Nat.reduceAdd]
 (repeat' (first | (with_reducible intro _) | refine sv ?_ | (refine sc ?_ ?_ <;> (intro h; try first | exact h.elim | exact absurd rfl h | (exfalso; omega))) | (refine sg ?_ ?_ <;> (intro h; (fail_if_success (have : True := h)); try first | exact h.elim | exact absurd rfl h | (exfalso; omega))) | assumption | exact xm | exact rfl))
 rename_i m M1 hN q1 q2
 have h2 : (n : Int) % 256 = ((n % 256 : Nat) : Int) := by omega
 rw [h2, bytes_u8 (by omega)] at hN
 have hr : Rd M1 m 0 1 (bytesC [u8 (n % 256)]) := Rd.of_at (At.new_same hN) rfl
 refine x_val (by exact gd) (xs_bstr rfl hr) ?_
 (repeat' (first | (with_reducible intro _) | refine sv ?_ | (refine sc ?_ ?_ <;> (intro h; try first | exact h.elim | exact absurd rfl h | (exfalso; omega))) | (refine sg ?_ ?_ <;> (intro h; (fail_if_success (have : True := h)); try first | exact h.elim | exact absurd rfl h | (exfalso; omega))) | assumption | exact xm | exact rfl))
 ((with_reducible first | apply k_fun | apply k_fun_norm); exact rx)
 exact ⟨rfl, hN.grow⟩
theorem c_twoR (n : Nat) (hn : n <= 65535) (M : Mem) : CallOk Tryz.prog 123 [I n] M (fun w M' => w = .str (strL (twoL n)) /\ Grow M M') := by
 refine call_in k123 rfl ?_
 dsimp only [x123, zipE, Nat.reduceAdd]
 have h1 : (n : Int) / 256 = ((n / 256 : Nat) : Int) := by omega
 have c1 := c_octet (n / 256) (by omega)
 have c2 := c_octet n (by omega)
 rw [show n / 256 % 256 = n / 256 from by omega] at c1
 rw [<- h1] at c1
 (repeat' (first | (with_reducible intro _) | refine sv ?_ | (refine sc ?_ ?_ <;> (intro h; try first | exact h.elim | exact absurd rfl h | (exfalso; omega))) | ((with_reducible first | apply x_pure | apply d_pure | apply d_pure0); exact gd; exact rfl; exact rfl; (first | exact c1 _ | exact c2 _)) | (refine sg ?_ ?_ <;> (intro h; (fail_if_success (have : True := h)); try first | exact h.elim | exact absurd rfl h | (exfalso; omega))) | assumption | exact xm | exact rfl))
 rename_i M1 hg1 l1 M2 hg2 l2
 refine x_val (by exact gd) (xs_adds rfl rfl (by rw [strL_size, strL_size]; simp)) ?_
 rw [strL_app]
 (repeat' (first | (with_reducible intro _) | refine sv ?_ | (refine sc ?_ ?_ <;> (intro h; try first | exact h.elim | exact absurd rfl h | (exfalso; omega))) | (refine sg ?_ ?_ <;> (intro h; (fail_if_success (have : True := h)); try first | exact h.elim | exact absurd rfl h | (exfalso; omega))) | assumption | exact xm | exact rfl))
 ((with_reducible first | apply k_fun | apply k_fun_norm); exact rx)
 exact ⟨rfl, xg⟩
set_option maxHeartbeats 4000000 in
theorem c_code (n : Nat) (hn : n <= 1000000000000) (M : Mem) : CallOk Tryz.prog 124 [I n] M (fun w M' => w = .str (strL (cdN n)) /\ Grow M M') := by
 refine call_in k124 rfl ?_
 dsimp only [x124, zipE, Nat.reduceAdd]
 have hlen := cdN_len n
 (repeat' (first | (with_reducible intro _) | refine sv ?_ | (refine sc ?_ ?_ <;> (intro h; try first | exact h.elim | exact absurd rfl h | (exfalso; omega))) | (refine sg ?_ ?_ <;> (intro h; (fail_if_success (have : True := h)); try first | exact h.elim | exact absurd rfl h | (exfalso; omega))) | assumption | exact xm | exact rfl))
 refine w_loop_ind (fun z E ms M' => ∃ (m : Nat) (pre : List UInt8), z = m /\ m <= n /\ ms = [] /\ Has E [(0, I m), (3, .str (strL pre))] /\ Grow M M' /\ pre ++ cdN m = cdN n)
  ?_ n _ _ _ ⟨n, [], rfl, Nat.le_refl _, rfl, .cons rfl (.cons rfl .nil), Grow.refl _, rfl⟩
 rintro z E ms M1 ⟨m, pre, hz, hm, rfl, hE, hg1, hpre⟩
 refine w_has hE ?_
 have hpl : pre.length + (cdN m).length = (cdN n).length := by rw [<- hpre, List.length_append]
 by_cases h128 : 128 <= m
 ·have h1 : (m : Int) / 128 = ((m / 128 : Nat) : Int) := by omega
  have h2 : 128 + (m : Int) % 128 = ((m % 128 + 128 : Nat) : Int) := by omega
  have c1 := c_octet (m % 128 + 128) (by omega)
  rw [show (m % 128 + 128) % 256 = m % 128 + 128 from by omega] at c1
  rw [<- h2] at c1
  have hge := cdN_ge h128
  (repeat' (first | (with_reducible intro _) | refine sv ?_ | (refine sc ?_ ?_ <;> (intro h; try first | exact h.elim | exact absurd rfl h | (exfalso; omega))) | ((with_reducible first | apply x_pure | apply d_pure | apply d_pure0); exact gd; exact rfl; exact rfl; (first | exact c1 _)) | (refine sg ?_ ?_ <;> (intro h; (fail_if_success (have : True := h)); try first | exact h.elim | exact absurd rfl h | (exfalso; omega))) | assumption | exact xm | exact rfl))
  refine x_val (by exact gd) (xs_adds rfl rfl (by rw [strL_size, strL_size]; simp; omega)) ?_
  rw [strL_app]
  (repeat' (first | (with_reducible intro _) | refine sv ?_ | (refine sc ?_ ?_ <;> (intro h; try first | exact h.elim | exact absurd rfl h | (exfalso; omega))) | (refine sg ?_ ?_ <;> (intro h; (fail_if_success (have : True := h)); try first | exact h.elim | exact absurd rfl h | (exfalso; omega))) | assumption | exact xm | exact rfl))
  exact k_step (m / 128) (by omega) ⟨m / 128, pre ++ [u8 (m % 128 + 128)], rfl, by omega, rfl, .cons (by rw [<- h1]; rfl) (.cons rfl .nil), xg, by rw [List.append_assoc, <- hpre, hge]; rfl⟩
 ·have c1 := c_octet m (by omega)
  rw [show m % 256 = m from by omega] at c1
  rw [cdN_lt (by omega)] at hpre
  rw [<- hpre]
  (repeat' (first | (with_reducible intro _) | refine sv ?_ | (refine sc ?_ ?_ <;> (intro h; try first | exact h.elim | exact absurd rfl h | (exfalso; omega))) | ((with_reducible first | apply x_pure | apply d_pure | apply d_pure0); exact gd; exact rfl; exact rfl; (first | exact c1 _)) | (refine sg ?_ ?_ <;> (intro h; (fail_if_success (have : True := h)); try first | exact h.elim | exact absurd rfl h | (exfalso; omega))) | assumption | exact xm | exact rfl))
  refine x_val (by exact gd) (xs_adds rfl rfl (by rw [strL_size, strL_size]; simp; omega)) ?_
  rw [strL_app]
  (repeat' (first | (with_reducible intro _) | refine sv ?_ | (refine sc ?_ ?_ <;> (intro h; try first | exact h.elim | exact absurd rfl h | (exfalso; omega))) | (refine sg ?_ ?_ <;> (intro h; (fail_if_success (have : True := h)); try first | exact h.elim | exact absurd rfl h | (exfalso; omega))) | assumption | exact xm | exact rfl))
  ((with_reducible first | apply k_fun | apply k_fun_norm); exact rx)
  exact ⟨rfl, xg⟩
theorem stepB_2 {c : Int} (h : 0 <= c /\ c <= 65535) : stepB c = if 2 * c < 65536 then 2 * c else xorZ (2 * c - 65536) 4129 := by
 unfold stepB
 rw [shl1]
 by_cases h1 : 2 * c < 65536
 ·rw [if_neg (by omega), if_pos h1]
 ·rw [if_pos (by omega), if_neg h1]
  congr 1
  unfold andZ
  rw [show (65535 : Int).toNat = 2 ^ 16 - 1 from rfl, Nat.and_two_pow_sub_one_eq_mod]
  have h4 : (2 * c).toNat = 2 * c.toNat := by omega
  rw [h4, show (2 : Nat) ^ 16 = 65536 from rfl]
  omega
set_option maxHeartbeats 4000000 in
theorem c_CrcR (s : ByteArray) (hs : s.size <= 140737488355328) (M : Mem) : CallOk Tryz.prog 36 [.str s] M (fun w M' => w = I (crcK s s.size) /\ M' = M) := by
 refine call_in k36 rfl ?_
 dsimp only [x36, zipE, Nat.reduceAdd]
 (repeat' (first | (with_reducible intro _) | refine sv ?_ | (refine sc ?_ ?_ <;> (intro h; try first | exact h.elim | exact absurd rfl h | (exfalso; omega))) | (refine sg ?_ ?_ <;> (intro h; (fail_if_success (have : True := h)); try first | exact h.elim | exact absurd rfl h | (exfalso; omega))) | assumption | exact xm | exact rfl))
 refine w_loop_ind (fun n E ms M' => ∃ k : Nat, n = s.size - k /\ k <= s.size /\ ms = [] /\ M' = M /\ Has E [(0, .str s), (3, I (crcK s k)), (4, I k)])
  ?_ s.size _ _ _ ⟨0, by omega, by omega, rfl, rfl, .cons rfl (.cons rfl (.cons rfl .nil))⟩
 rintro n E ms M' ⟨k, rfl, hk, rfl, rfl, hE⟩
 refine w_has hE ?_
 have hb := crcK_bd s k
 have hb2 := byteAt_lt s k
 have h8 := shl8 ((byteAt s k : Nat) : Int)
 by_cases hlast : k = s.size
 ·subst hlast
  (repeat' (first | (with_reducible intro _) | refine sv ?_ | (refine sc ?_ ?_ <;> (intro h; try first | exact h.elim | exact absurd rfl h | (exfalso; omega))) | (refine sg ?_ ?_ <;> (intro h; (fail_if_success (have : True := h)); try first | exact h.elim | exact absurd rfl h | (exfalso; omega))) | assumption | exact xm | exact rfl))
  ((with_reducible first | apply k_fun | apply k_fun_norm); exact rx)
  exact ⟨rfl, rfl⟩
 ·have hlt : k < s.size := by omega
  have h8' : ((byteAt s k : Nat) : Int) * 256 = shlZ ((byteAt s k : Nat) : Int) 8 := by rw [h8]; omega
  (repeat' (first | (with_reducible intro _) | refine sv ?_ | (refine sc ?_ ?_ <;> (intro h; try first | exact h.elim | exact absurd rfl h | (exfalso; omega))) | (refine sg ?_ ?_ <;> (intro h; (fail_if_success (have : True := h)); try first | exact h.elim | exact absurd rfl h | (exfalso; omega))) | assumption | exact xm | exact rfl))
  have hc0 := xorZ_bd (a := crcK s k) (b := shlZ ((byteAt s k : Nat) : Int) 8) hb (by omega)
  have hst : crcK s (k + 1) = stepN 8 (xorZ (crcK s k) (shlZ ((byteAt s k : Nat) : Int) 8)) := rfl
  rw [h8']
  generalize hg : xorZ (crcK s k) (shlZ ((byteAt s k : Nat) : Int) 8) = c0 at hc0 hst ⊢
  refine w_loop_ind (fun n E ms M2 => ∃ j : Nat, n = 8 - j /\ j <= 8 /\ ms = [] /\ M2 = M' /\ Has E [(0, .str s), (3, I (stepN j c0)), (4, I k), (5, I j)])
   ?_ 8 _ _ _ ⟨0, by omega, by omega, rfl, rfl, .cons rfl (.cons rfl (.cons rfl (.cons rfl .nil)))⟩
  rintro n E ms M2 ⟨j, rfl, hj, rfl, rfl, hE⟩
  refine w_has hE ?_
  have hb3 := stepN_bd hc0 j
  by_cases hj8 : j = 8
  ·subst hj8
   (repeat' (first | (with_reducible intro _) | refine sv ?_ | (refine sc ?_ ?_ <;> (intro h; try first | exact h.elim | exact absurd rfl h | (exfalso; omega))) | (refine sg ?_ ?_ <;> (intro h; (fail_if_success (have : True := h)); try first | exact h.elim | exact absurd rfl h | (exfalso; omega))) | assumption | exact xm | exact rfl))
   refine k_step (s.size - (k + 1)) (by omega) ⟨k + 1, rfl, by omega, rfl, rfl, .cons rfl (.cons (by rw [hst]; rfl) (.cons rfl .nil))⟩
  ·have h2 : stepN (j + 1) c0 = _ := stepB_2 hb3
   generalize hC : stepN j c0 = c at *
   by_cases h9 : 2 * c < 65536
   ·rw [if_pos h9] at h2
    (repeat' (first | (with_reducible intro _) | refine sv ?_ | (refine sc ?_ ?_ <;> (intro h; try first | exact h.elim | exact absurd rfl h | (exfalso; omega))) | (refine sg ?_ ?_ <;> (intro h; (fail_if_success (have : True := h)); try first | exact h.elim | exact absurd rfl h | (exfalso; omega))) | assumption | exact xm | exact rfl))
    all_goals try (exfalso; omega)
    exact k_step (8 - (j + 1)) (by omega) ⟨j + 1, rfl, by omega, rfl, rfl, .cons rfl (.cons (by rw [h2]; rfl) (.cons rfl (.cons rfl .nil)))⟩
   ·rw [if_neg h9] at h2
    (repeat' (first | (with_reducible intro _) | refine sv ?_ | (refine sc ?_ ?_ <;> (intro h; try first | exact h.elim | exact absurd rfl h | (exfalso; omega))) | (refine sg ?_ ?_ <;> (intro h; (fail_if_success (have : True := h)); try first | exact h.elim | exact absurd rfl h | (exfalso; omega))) | assumption | exact xm | exact rfl))
    all_goals try (exfalso; omega)
    exact k_step (8 - (j + 1)) (by omega) ⟨j + 1, rfl, by omega, rfl, rfl, .cons rfl (.cons (by rw [h2]; rfl) (.cons rfl (.cons rfl .nil)))⟩
theorem c_checked (l : List UInt8) (hl : l.length <= 1000000000) (M : Mem) : CallOk Tryz.prog 89 [.str (strL l)] M (fun w M' => w = .str (strL (chkL l)) /\ Grow M M') := by
 refine call_in k89 rfl ?_
 dsimp only [x89, zipE, Nat.reduceAdd]
 have hb := crcK_bd (strL l) l.length
 obtain ⟨n, hn⟩ : ∃ n : Nat, crcK (strL l) l.length = (n : Int) := ⟨(crcK (strL l) l.length).toNat, by omega⟩
 have c1 := c_CrcR (strL l) (by rw [strL_size]; omega)
 rw [strL_size] at c1
 have hc : chkL l = l ++ twoL n := by unfold chkL; rw [hn]; rfl
 rw [hc]
 rw [hn] at c1
 have c2 := c_twoR n (by omega)
 (repeat' (first | (with_reducible intro _) | refine sv ?_ | (refine sc ?_ ?_ <;> (intro h; try first | exact h.elim | exact absurd rfl h | (exfalso; omega))) | ((with_reducible first | apply x_same | apply d_same | apply d_same0); exact gd; exact rfl; exact rfl; (first | exact c1 _)) | ((with_reducible first | apply x_pure | apply d_pure | apply d_pure0); exact gd; exact rfl; exact rfl; (first | exact c2 _)) | (refine sg ?_ ?_ <;> (intro h; (fail_if_success (have : True := h)); try first | exact h.elim | exact absurd rfl h | (exfalso; omega))) | assumption | exact xm | exact rfl))
 refine x_val (by exact gd) (xs_adds rfl rfl (by rw [strL_size, strL_size]; unfold twoL; simp; omega)) ?_
 rw [strL_app]
 (repeat' (first | (with_reducible intro _) | refine sv ?_ | (refine sc ?_ ?_ <;> (intro h; try first | exact h.elim | exact absurd rfl h | (exfalso; omega))) | (refine sg ?_ ?_ <;> (intro h; (fail_if_success (have : True := h)); try first | exact h.elim | exact absurd rfl h | (exfalso; omega))) | assumption | exact xm | exact rfl))
 ((with_reducible first | apply k_fun | apply k_fun_norm); exact rx)
 exact ⟨rfl, xg⟩
def PlainR {α : Type} (f : α -> LV) (x : α) (v : List LV) (U : Nat -> Prop) (_ : Mem) : Prop := v = [f x] /\ ∀ i, ¬ U i
def cdItems (l : List Int) (k : Nat) : List Int := (List.range k).map (cdA l)
theorem cdItems_s (l : List Int) (k : Nat) : cdItems l (k + 1) = cdItems l k ++ [cdA l k] := by unfold cdItems; rw [List.range_succ, List.map_append]; rfl
theorem cdItems_split {l : List Int} {n k : Nat} (hk : k < n) : cdItems l n = cdItems l k ++ cdA l k :: (cdItems l n).drop (k + 1) := by
 have h := List.take_append_drop k (cdItems l n)
 have h1 : (cdItems l n).take k = cdItems l k := by unfold cdItems; rw [<- List.map_take, List.take_range, Nat.min_eq_left (by omega)]
 have h2 : (cdItems l n).drop k = cdA l k :: (cdItems l n).drop (k + 1) := by
  rw [List.drop_eq_getElem_cons (by unfold cdItems; simpa using hk)]
  congr 1
  unfold cdItems
  simp
 rw [h1, h2] at h
 exact h.symm
theorem c_codes {a : Option (Nat × Nat)} {n : Nat} {f : Bool} {e : Nat} (M : Mem) : CallOk Tryz.prog 104 [.slice a n f e] M (MkAt (fun p => .func (.func 133) [] [.ptr (some (p, 0))]) (.cells true [.slice a n f e] 22) M) := by
 refine call_in k104 rfl ?_
 dsimp only [x104, zipE, Nat.reduceAdd]
 (repeat' (first | (with_reducible intro _) | refine sv ?_ | (refine sc ?_ ?_ <;> (intro h; try first | exact h.elim | exact absurd rfl h | (exfalso; omega))) | (refine sg ?_ ?_ <;> (intro h; (fail_if_success (have : True := h)); try first | exact h.elim | exact absurd rfl h | (exfalso; omega))) | assumption | exact xm | exact rfl))
 rename_i m M1 hN q1 q2
 ((with_reducible first | apply k_fun | apply k_fun_norm); exact rx)
 exact ⟨m, rfl, At.new_same hN, by omega, by omega, hN.grow⟩
set_option maxHeartbeats 8000000 in
theorem y_codes {M0 : Mem} {p : Nat} {a : Option (Nat × Nat)} {l : List Int} {f : Bool} {e : Nat} (hp : At M0 p (.cells true [.slice a l.length f e] 22)) (hs : SlI M0 a l) (hl : l.length <= 64) (hsm : l.all smB = true) :
  YieldsS Tryz.prog 133 [] [.ptr (some (p, 0))] (fun i => i = p ∨ ∃ o, a = some (i, o)) (fun _ => False) (fun _ => True) (cdItems l l.length) (PlainR fun n => I n) M0 := by
 intro ly AA II DD tk hS hI0
 have hAp : ¬ AA p := hS _ (.inl rfl)
 refine call_in k133 rfl ?_
 dsimp only [x133, zipE, Nat.reduceAdd, List.nil_append, List.cons_append]
 (repeat' (first | (with_reducible intro _) | refine sv ?_ | (refine sc ?_ ?_ <;> (intro h; try first | exact h.elim | exact absurd rfl h | (exfalso; omega))) | (refine sg ?_ ?_ <;> (intro h; (fail_if_success (have : True := h)); try first | exact h.elim | exact absurd rfl h | (exfalso; omega))) | assumption | exact xm | exact rfl))
 refine w_loop_ind (fun z E ms M' => ∃ (k : Nat) (T : Nat -> Prop), z = l.length - k /\ k <= l.length /\ ms = [] /\ Has E [(0, .func (.yield ly) [] []), (3, I (lsA l k)), (8, .slice a l.length f e), (9, I l.length), (10, I k)] /\ Keep AA M0 M' /\ (∀ j, T j -> M0.next <= j /\ j < M'.next) /\ II (cdItems l k) T M') ?_ l.length _ _ _
  ⟨0, fun _ => False, by omega, by omega, rfl, .cons rfl (.cons rfl (.cons rfl (.cons rfl (.cons rfl .nil)))), Keep.refl _ _, fun j hj => hj.elim, hI0⟩
 rintro z E ms M1 ⟨k, T1, rfl, hk, rfl, hE, hk1, hT1, hI1⟩
 refine w_has hE ?_
 by_cases hlast : k = l.length
 ·subst hlast
  (repeat' (first | (with_reducible intro _) | refine sv ?_ | (refine sc ?_ ?_ <;> (intro h; try first | exact h.elim | exact absurd rfl h | (exfalso; omega))) | (refine sg ?_ ?_ <;> (intro h; (fail_if_success (have : True := h)); try first | exact h.elim | exact absurd rfl h | (exfalso; omega))) | assumption | exact xm | exact rfl))
  ((with_reducible first | apply k_fun | apply k_fun_norm); exact rx)
  exact ⟨hk1.weaken (fun j hj => .inl hj), trivial, T1, hT1, .inl hI1⟩
 have hlt : k < l.length := by omega
 obtain ⟨i, o, rfl, hr⟩ := hs.rd hlt
 rw [<- getG_lt hlt] at hr
 have hAi : ¬ AA i := hS _ (.inr ⟨o, rfl⟩)
 have hr1 := hr.keep hk1 hAi
 have hle := hk1.le
 have hb := lsA_bd l k
 have hcd := cdA_bd l k
 have hstep : RoundOk Tryz.prog ly [I (cdA l k)] M1 fun w M' => Keep (fun i => AA i ∨ T1 i ∨ False) M1 M' /\ ∃ T' : Nat -> Prop, (∀ i, T' i -> (T1 i ∨ False ∨ M1.next <= i) /\ i < M'.next) /\ ((w = .bool true /\ II (cdItems l k ++ [cdA l k]) T' M') ∨ (w = .bool false /\ DD T' M')) :=
  tk.step (cdItems l k) (cdA l k) ((cdItems l l.length).drop (k + 1)) [I (cdA l k)] (fun _ => False) T1 M1 (cdItems_split hlt) ⟨rfl, fun _ => id⟩ hle hT1 (fun _ h => h.elim) hI1
 have hsi : smB (getG l k) = true := by
  rw [List.all_eq_true] at hsm
  rw [getG_lt hlt]
  exact hsm _ (List.getElem_mem hlt)
 have hcA : cdA l k = (cdS (getG l k) (lsA l k)).1 := rfl
 have hlA : lsA l (k + 1) = (cdS (getG l k) (lsA l k)).2 := rfl
 generalize hv : getG l k = v at *
 generalize hla : lsA l k = la at *
 generalize hcc : cdA l k = cc at *
 unfold cdS at hcA hlA
 by_cases h1 : v = 40001
 ·rw [if_pos h1] at hcA hlA
  dsimp only at hcA hlA
  subst hcA
  (have hrd0 := hr1; repeat' (first | (with_reducible intro _) | refine sv ?_ | (refine sc ?_ ?_ <;> (intro h; try first | exact h.elim | exact absurd rfl h | (exfalso; omega))) | (refine sg ?_ ?_ <;> (intro h; (fail_if_success (have : True := h)); try first | exact h.elim | exact absurd rfl h | (exfalso; omega))) | assumption | exact xm | exact rfl))
  refine x_call (by exact gd) rfl rfl (show AppOk Tryz.prog _ _ M1 _ from hstep) ?_
  rintro w M2 ⟨hk2, T2, hT2, hw⟩
  have hk02 : Keep AA M0 M2 := hk1.trans hk2 (fun i hi => hi.elim .inl (fun h => h.elim (fun h => .inr (hT1 i h).1) False.elim))
  have hT02 : ∀ j, T2 j -> M0.next <= j /\ j < M2.next := fun j hj => ⟨(hT2 j hj).1.elim (fun h => (hT1 j h).1) (fun h => h.elim False.elim (fun h => by omega)), (hT2 j hj).2⟩
  rcases hw with ⟨rfl, hI2⟩ | ⟨rfl, hD2⟩
  ·(repeat' (first | (with_reducible intro _) | refine sv ?_ | (refine sc ?_ ?_ <;> (intro h; try first | exact h.elim | exact absurd rfl h | (exfalso; omega))) | (refine sg ?_ ?_ <;> (intro h; (fail_if_success (have : True := h)); try first | exact h.elim | exact absurd rfl h | (exfalso; omega))) | assumption | exact xm | exact rfl))
   exact k_step (l.length - (k + 1)) (by omega) ⟨k + 1, T2, rfl, by omega, rfl, .cons rfl (.cons (by rw [hlA]; rfl) (.cons rfl (.cons rfl (.cons rfl .nil)))), hk02, hT02, by rw [cdItems_s, hcc]; exact hI2⟩
  ·(repeat' (first | (with_reducible intro _) | refine sv ?_ | (refine sc ?_ ?_ <;> (intro h; try first | exact h.elim | exact absurd rfl h | (exfalso; omega))) | (refine sg ?_ ?_ <;> (intro h; (fail_if_success (have : True := h)); try first | exact h.elim | exact absurd rfl h | (exfalso; omega))) | assumption | exact xm | exact rfl))
   ((with_reducible first | apply k_fun | apply k_fun_norm); exact rx)
   exact ⟨hk02.weaken (fun j hj => .inl hj), trivial, T2, hT02, .inr hD2⟩
 ·rw [if_neg h1] at hcA hlA
  cases hkn : knB v with
  | false =>
   rw [hkn, if_neg (by decide)] at hcA hlA
   dsimp only at hcA hlA
   subst hcA
   have hc : ∀ M, CallOk Tryz.prog 79 [I v] M (fun w M' => w = .bool false /\ M' = M) := fun M => by rw [<- hkn]; exact c_known _ M
   (have hrd0 := hr1; repeat' (first | (with_reducible intro _) | refine sv ?_ | (refine sc ?_ ?_ <;> (intro h; try first | exact h.elim | exact absurd rfl h | (exfalso; omega))) | ((with_reducible first | apply x_same | apply d_same | apply d_same0); exact gd; exact rfl; exact rfl; (first | exact hc _)) | (refine sg ?_ ?_ <;> (intro h; (fail_if_success (have : True := h)); try first | exact h.elim | exact absurd rfl h | (exfalso; omega))) | assumption | exact xm | exact rfl))
   refine x_call (by exact gd) rfl rfl (show AppOk Tryz.prog _ _ M1 _ from hstep) ?_
   rintro w M2 ⟨hk2, T2, hT2, hw⟩
   have hk02 : Keep AA M0 M2 := hk1.trans hk2 (fun i hi => hi.elim .inl (fun h => h.elim (fun h => .inr (hT1 i h).1) False.elim))
   have hT02 : ∀ j, T2 j -> M0.next <= j /\ j < M2.next := fun j hj => ⟨(hT2 j hj).1.elim (fun h => (hT1 j h).1) (fun h => h.elim False.elim (fun h => by omega)), (hT2 j hj).2⟩
   rcases hw with ⟨rfl, hI2⟩ | ⟨rfl, hD2⟩
   ·(repeat' (first | (with_reducible intro _) | refine sv ?_ | (refine sc ?_ ?_ <;> (intro h; try first | exact h.elim | exact absurd rfl h | (exfalso; omega))) | (refine sg ?_ ?_ <;> (intro h; (fail_if_success (have : True := h)); try first | exact h.elim | exact absurd rfl h | (exfalso; omega))) | assumption | exact xm | exact rfl))
    exact k_step (l.length - (k + 1)) (by omega) ⟨k + 1, T2, rfl, by omega, rfl, .cons rfl (.cons (by rw [hlA]; rfl) (.cons rfl (.cons rfl (.cons rfl .nil)))), hk02, hT02, by rw [cdItems_s, hcc]; exact hI2⟩
   ·(repeat' (first | (with_reducible intro _) | refine sv ?_ | (refine sc ?_ ?_ <;> (intro h; try first | exact h.elim | exact absurd rfl h | (exfalso; omega))) | (refine sg ?_ ?_ <;> (intro h; (fail_if_success (have : True := h)); try first | exact h.elim | exact absurd rfl h | (exfalso; omega))) | assumption | exact xm | exact rfl))
    ((with_reducible first | apply k_fun | apply k_fun_norm); exact rx)
    exact ⟨hk02.weaken (fun j hj => .inl hj), trivial, T2, hT02, .inr hD2⟩
  | true =>
   rw [hkn, if_pos rfl] at hcA hlA
   dsimp only at hcA hlA
   have hvb : -32767 <= v /\ v <= 32767 := of_decide_eq_true hkn
   have hc : ∀ M, CallOk Tryz.prog 79 [I v] M (fun w M' => w = .bool true /\ M' = M) := fun M => by rw [<- hkn]; exact c_known _ M
   by_cases h2 : v - la < 0
   ·rw [if_pos h2] at hcA
    subst hcA
    (have hrd0 := hr1; repeat' (first | (with_reducible intro _) | refine sv ?_ | (refine sc ?_ ?_ <;> (intro h; try first | exact h.elim | exact absurd rfl h | (exfalso; omega))) | ((with_reducible first | apply x_same | apply d_same | apply d_same0); exact gd; exact rfl; exact rfl; (first | exact hc _)) | (refine sg ?_ ?_ <;> (intro h; (fail_if_success (have : True := h)); try first | exact h.elim | exact absurd rfl h | (exfalso; omega))) | assumption | exact xm | exact rfl))
    all_goals try (exfalso; omega)
    refine x_call (by exact gd) rfl rfl (show AppOk Tryz.prog _ _ M1 _ from hstep) ?_
    rintro w M2 ⟨hk2, T2, hT2, hw⟩
    have hk02 : Keep AA M0 M2 := hk1.trans hk2 (fun i hi => hi.elim .inl (fun h => h.elim (fun h => .inr (hT1 i h).1) False.elim))
    have hT02 : ∀ j, T2 j -> M0.next <= j /\ j < M2.next := fun j hj => ⟨(hT2 j hj).1.elim (fun h => (hT1 j h).1) (fun h => h.elim False.elim (fun h => by omega)), (hT2 j hj).2⟩
    rcases hw with ⟨rfl, hI2⟩ | ⟨rfl, hD2⟩
    ·(repeat' (first | (with_reducible intro _) | refine sv ?_ | (refine sc ?_ ?_ <;> (intro h; try first | exact h.elim | exact absurd rfl h | (exfalso; omega))) | (refine sg ?_ ?_ <;> (intro h; (fail_if_success (have : True := h)); try first | exact h.elim | exact absurd rfl h | (exfalso; omega))) | assumption | exact xm | exact rfl))
     exact k_step (l.length - (k + 1)) (by omega) ⟨k + 1, T2, rfl, by omega, rfl, .cons rfl (.cons (by rw [hlA]; rfl) (.cons rfl (.cons rfl (.cons rfl .nil)))), hk02, hT02, by rw [cdItems_s, hcc]; exact hI2⟩
    ·(repeat' (first | (with_reducible intro _) | refine sv ?_ | (refine sc ?_ ?_ <;> (intro h; try first | exact h.elim | exact absurd rfl h | (exfalso; omega))) | (refine sg ?_ ?_ <;> (intro h; (fail_if_success (have : True := h)); try first | exact h.elim | exact absurd rfl h | (exfalso; omega))) | assumption | exact xm | exact rfl))
     ((with_reducible first | apply k_fun | apply k_fun_norm); exact rx)
     exact ⟨hk02.weaken (fun j hj => .inl hj), trivial, T2, hT02, .inr hD2⟩
   ·rw [if_neg h2] at hcA
    subst hcA
    (have hrd0 := hr1; repeat' (first | (with_reducible intro _) | refine sv ?_ | (refine sc ?_ ?_ <;> (intro h; try first | exact h.elim | exact absurd rfl h | (exfalso; omega))) | ((with_reducible first | apply x_same | apply d_same | apply d_same0); exact gd; exact rfl; exact rfl; (first | exact hc _)) | (refine sg ?_ ?_ <;> (intro h; (fail_if_success (have : True := h)); try first | exact h.elim | exact absurd rfl h | (exfalso; omega))) | assumption | exact xm | exact rfl))
    all_goals try (exfalso; omega)
    refine x_call (by exact gd) rfl rfl (show AppOk Tryz.prog _ _ M1 _ from hstep) ?_
    rintro w M2 ⟨hk2, T2, hT2, hw⟩
    have hk02 : Keep AA M0 M2 := hk1.trans hk2 (fun i hi => hi.elim .inl (fun h => h.elim (fun h => .inr (hT1 i h).1) False.elim))
    have hT02 : ∀ j, T2 j -> M0.next <= j /\ j < M2.next := fun j hj => ⟨(hT2 j hj).1.elim (fun h => (hT1 j h).1) (fun h => h.elim False.elim (fun h => by omega)), (hT2 j hj).2⟩
    rcases hw with ⟨rfl, hI2⟩ | ⟨rfl, hD2⟩
    ·(repeat' (first | (with_reducible intro _) | refine sv ?_ | (refine sc ?_ ?_ <;> (intro h; try first | exact h.elim | exact absurd rfl h | (exfalso; omega))) | (refine sg ?_ ?_ <;> (intro h; (fail_if_success (have : True := h)); try first | exact h.elim | exact absurd rfl h | (exfalso; omega))) | assumption | exact xm | exact rfl))
     exact k_step (l.length - (k + 1)) (by omega) ⟨k + 1, T2, rfl, by omega, rfl, .cons rfl (.cons (by rw [hlA]; rfl) (.cons rfl (.cons rfl (.cons rfl .nil)))), hk02, hT02, by rw [cdItems_s, hcc]; exact hI2⟩
    ·(repeat' (first | (with_reducible intro _) | refine sv ?_ | (refine sc ?_ ?_ <;> (intro h; try first | exact h.elim | exact absurd rfl h | (exfalso; omega))) | (refine sg ?_ ?_ <;> (intro h; (fail_if_success (have : True := h)); try first | exact h.elim | exact absurd rfl h | (exfalso; omega))) | assumption | exact xm | exact rfl))
     ((with_reducible first | apply k_fun | apply k_fun_norm); exact rx)
     exact ⟨hk02.weaken (fun j hj => .inl hj), trivial, T2, hT02, .inr hD2⟩
end Go.Proofs.YtlfkmgpngkbhpaaGreatDoor.C
end
section
open Go PvL Go.Proofs
set_option linter.unusedVariables false
set_option linter.unusedSimpArgs false
namespace Go.Proofs.YtlfkmgpngkbhpaaGreatDoor.C
abbrev u8c (b : UInt8) : List LV := [byteL b]
theorem bytesC_flat : ∀ l : List UInt8, bytesC l = l.flatMap u8c
 | [] => rfl
 | b :: l => by show byteL b :: bytesC l = [byteL b] ++ l.flatMap u8c; rw [bytesC_flat l]; rfl
theorem allFlat_bytes (l : List UInt8) : allFlat (bytesC l) = true := by rw [bytesC_flat]; exact allFlat_flatMap (fun _ _ => rfl)
theorem first_bytes {M : Mem} {p : Nat} {own : Bool} {l : List UInt8} {ty : TypeId} {f : Bool} (h : At M p (.cells own (bytesC l) ty)) : firstL 1 l.length (.slice (some (p, 0)) l.length f 1) M = some (bytesC l) := by
 rw [bytesC_flat] at h ⊢
 exact firstL_rd (enc := u8c) (fun _ _ => rfl) (fun k hk => rd_flat (enc := u8c) h (fun _ _ => rfl) hk)
theorem rd_bytes {M : Mem} {p : Nat} {own : Bool} {l : List UInt8} {ty : TypeId} (h : At M p (.cells own (bytesC l) ty)) : Rd M p 0 l.length (bytesC l) := by
 refine Rd.of_at h ?_
 show take' l.length (bytesC l) = _
 have : ∀ l : List UInt8, take' l.length (bytesC l) = some (bytesC l) := fun l => by
  induction l with
  | nil => rfl
  | cons b l ih =>
   show ob (take' l.length (bytesC l)) _ = _
   rw [ih]; rfl
 exact this l
def ApB (b : Nat) (M : Mem) (v : LV) (l : List UInt8) : Prop := ∃ f ty, v = .slice (some (b, 0)) l.length f 1 /\ At M b (.cells true (bytesC l) ty) /\ (f = true ∨ ty = apE 5)
theorem ApB.lt {b : Nat} {M : Mem} {v : LV} {l : List UInt8} (h : ApB b M v l) : b < M.next := by
 obtain ⟨f, ty, _, h2, _⟩ := h
 exact h2.2
theorem ApB.keep {b : Nat} {M M' : Mem} {v : LV} {l : List UInt8} {F : Nat -> Prop} (h : ApB b M v l) (hk : Keep F M M') (hF : ¬ F b) : ApB b M' v l := by
 obtain ⟨f, ty, h1, h2, h3⟩ := h
 exact ⟨f, ty, h1, h2.keep hk hF, h3⟩
theorem ApB.grow {b : Nat} {M M' : Mem} {v : LV} {l : List UInt8} (h : ApB b M v l) (hg : Grow M M') : ApB b M' v l := by
 obtain ⟨f, ty, h1, h2, h3⟩ := h
 exact ⟨f, ty, h1, h2.grow hg, h3⟩
theorem ApB.same {b : Nat} {M M' : Mem} {v : LV} {l : List UInt8} (h : ApB b M v l) (hle : M.next <= M'.next) (hg : M'.get b = M.get b) : ApB b M' v l := by
 obtain ⟨f, ty, h1, h2, h3⟩ := h
 exact ⟨f, ty, h1, h2.same hle hg, h3⟩
theorem ApB.bstr {b : Nat} {M : Mem} {v : LV} {l : List UInt8} (h : ApB b M v l) {E : Env} {x : XO} (hx : xval E x = some v) : xstep Tryz.prog (.bstr x) E M = some (.val (.str (strL l)) M) := by
 obtain ⟨f, ty, rfl, h2, h3⟩ := h
 exact xs_bstr hx (rd_bytes h2)
section
variable {P : Program} [Orc P] {sz : Nat} {E : Env} {M : Mem} {K : Env -> Mem -> Prop} {ll : List XG} {d : Nat} {g : Option (Nat × Bool)} {sx0 x : XO} {b : Nat} {v : LV} {l l' : List UInt8} {z : List LV} {xv : LV} {st : List Mem} {k : Nat} {xs : List (Nat × Nat × (Mem -> Prop))} {ld : List (XG × XK)}
theorem ApB.app (hv : ApB b M v l) (hs : xval E sx0 = some v) (hx : xval E x = some xv) (hn : lenOfL xv = some l'.length) (h0 : 0 < l'.length) (hl : l.length + l'.length <= 1000000000000) (hz : z.length = 1) (hw : firstL 1 l'.length xv M = some (bytesC l')) :
  ∃ v' M', xstep P (.app 5 1 1 z sx0 x) E M = some (.val v' M') /\ ApB M.next M' v' (l ++ l') /\ M'.next = M.next + 1 /\ Keep (fun j => j = b) M M' := by
 obtain ⟨f, ty, rfl, h2, h3⟩ := hv
 have hz2 : (Nat.ble 1 1 && (Nat.ble 1 1 && Nat.beq z.length 1)) = true := by rw [hz]; rfl
 have hfm : bytesC (l ++ l') = bytesC l ++ bytesC l' := by rw [bytesC_flat, bytesC_flat, bytesC_flat, List.flatMap_append]
 have ho := first_bytes (f := f) h2
 have hroom : (2 * (l.length + l'.length) + 2048) * 1 <= 140737488355328 := by omega
 cases f with
 | true =>
  have hN : New M M.next (.cells true (bytesC l ++ bytesC l') (apE 5)) (M.push (.cells true (bytesC l ++ bytesC l') (apE 5))) := ⟨rfl, rfl⟩
  exact ⟨_, _, xs_app_new hs hx hn h0 hroom hz2 ho hw (allFlat_bytes _) (.inr rfl), ⟨_, _, by rw [List.length_append], by rw [hfm]; exact At.new_same hN, .inr rfl⟩, rfl, hN.grow.to_keep _⟩
 | false =>
  obtain rfl : ty = apE 5 := h3.resolve_left (by decide)
  have hK : Kill M b M.next (.cells true (bytesC l ++ bytesC l') (apE 5)) ((M.upd b none).push (.cells true (bytesC l ++ bytesC l') (apE 5))) := ⟨rfl, rfl⟩
  exact ⟨_, _, xs_app_kill hs hx hn h0 hroom hz2 ho hw (allFlat_bytes _) h2 (by rw [show Nat.beq (apE 5) (apE 5) = true by simp, Bool.or_true]), ⟨_, _, by rw [List.length_append], by rw [hfm]; exact hK.same, .inr rfl⟩, hK.next, hK.keep⟩
theorem x_apb (hg : GOn E g) (hv : ApB b M v l) (hs : xval E sx0 = some v) (hx : xval E x = some xv) (hn : lenOfL xv = some l'.length) (h0 : 0 < l'.length) (hl : l.length + l'.length <= 1000000000000) (hz : z.length = 1) (hw : firstL 1 l'.length xv M = some (bytesC l'))
  (hk : ∀ v' M', ApB M.next M' v' (l ++ l') -> M'.next = M.next + 1 -> Keep (fun j => j = b) M M' -> XW P sz ll ((d, v') :: E) M' K) : XW P sz (⟨some d, .app 5 1 1 z sx0 x, g⟩ :: ll) E M K := by
 obtain ⟨v', M', h1, h2, h3, h4⟩ := hv.app (P := P) hs hx hn h0 hl hz hw
 exact x_gen hg h1 (hk v' M' h2 h3 h4)
theorem d_apb (hg : GOn E g) (hv : ApB b M v l) (hs : xval E sx0 = some v) (hx : xval E x = some xv) (hn : lenOfL xv = some l'.length) (h0 : 0 < l'.length) (hl : l.length + l'.length <= 1000000000000) (hz : z.length = 1) (hw : firstL 1 l'.length xv M = some (bytesC l'))
  (hk : ∀ v' M', ApB M.next M' v' (l ++ l') -> M'.next = M.next + 1 -> Keep (fun j => j = b) M M' -> XD P sz ld ((d, v') :: E) M' (M' :: st) (k + 1) xs K) : XD P sz ((⟨some d, .app 5 1 1 z sx0 x, g⟩, .anchor) :: ld) E M st k xs K := by
 obtain ⟨v', M', h1, h2, h3, h4⟩ := hv.app (P := P) hs hx hn h0 hl hz hw
 exact d_anch hg h1 (hk v' M' h2 h3 h4)
end
theorem cdItems_L (l : List Int) (n : Nat) : (cdItems l n).flatMap (fun c => cdN c.toNat) = cdsL l n := by
 unfold cdItems cdsL
 rw [List.flatMap_map]
end Go.Proofs.YtlfkmgpngkbhpaaGreatDoor.C
end
