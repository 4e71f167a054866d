/-
 Part of the proof of TapeChecked: what functions of the program and of the statement come to, walked by the rules. No condition beyond those in each theorem.
-/
import Derived.Test.YtlfkmgpngkbhpaaGreatDoorPvG
import Derived.Test.YtlfkmgpngkbhpaaGreatDoorTW
import Derived.Test.YtlfkmgpngkbhpaaGreatDoorTX
section
open PvL
set_option linter.unusedVariables false
namespace Go.Proofs.YtlfkmgpngkbhpaaGreatDoor.C
def stepB (c : Int) : Int := if 65535 < shlZ c 1 then xorZ (andZ (shlZ c 1) 65535) 4129 else shlZ c 1
def stepN : Nat -> Int -> Int
 | 0, c => c
 | n + 1, c => stepB (stepN n c)
def byteC (c : Int) (b : Nat) : Int := stepN 8 (xorZ c (shlZ (b : Int) 8))
def crcK (s : ByteArray) : Nat -> Int
 | 0 => 65535
 | k + 1 => byteC (crcK s k) (byteAt s k)
theorem shl1 (c : Int) : shlZ c 1 = 2 * c := by unfold shlZ; show c * ((2 ^ 1 : Nat) : Int) = _; omega
theorem shl8 (c : Int) : shlZ c 8 = 256 * c := by unfold shlZ; show c * ((2 ^ 8 : Nat) : Int) = _; omega
theorem xorZ_bd {a b : Int} (ha : 0 <= a /\ a <= 65535) (hb : 0 <= b /\ b <= 65535) : 0 <= xorZ a b /\ xorZ a b <= 65535 := by
 have : a.toNat ^^^ b.toNat < 65536 := Nat.xor_lt_two_pow (n := 16) (by omega) (by omega)
 unfold xorZ; omega
theorem andZ_bd {a b : Int} (hb : 0 <= b) : 0 <= andZ a b /\ andZ a b <= b := by
 have : a.toNat &&& b.toNat <= b.toNat := Nat.and_le_right
 unfold andZ; omega
theorem stepB_bd {c : Int} (h : 0 <= c /\ c <= 65535) : 0 <= stepB c /\ stepB c <= 65535 := by
 unfold stepB
 have e := shl1 c
 split
 ·exact xorZ_bd (andZ_bd (by omega)) (by omega)
 ·omega
theorem stepN_bd {c : Int} (h : 0 <= c /\ c <= 65535) : ∀ n, 0 <= stepN n c /\ stepN n c <= 65535
 | 0 => h
 | n + 1 => stepB_bd (stepN_bd h n)
theorem byteC_bd {c : Int} (h : 0 <= c /\ c <= 65535) {b : Nat} (hb : b < 256) : 0 <= byteC c b /\ byteC c b <= 65535 := by
 have := shl8 (b : Int)
 exact stepN_bd (xorZ_bd h (by omega)) 8
theorem crcK_bd (s : ByteArray) : ∀ k, 0 <= crcK s k /\ crcK s k <= 65535
 | 0 => by unfold crcK; omega
 | k + 1 => byteC_bd (crcK_bd s k) (byteAt_lt s k)
theorem crcK_ext {s t : ByteArray} : ∀ k, (∀ i, i < k -> byteAt s i = byteAt t i) -> crcK s k = crcK t k
 | 0, _ => rfl
 | k + 1, h => by unfold crcK; rw [crcK_ext k fun i hi => h i (by omega), h k (by omega)]
theorem stepN_low {c : Int} (h : 0 <= c /\ c <= 255) : ∀ n, n <= 8 -> stepN n c = c * ((2 ^ n : Nat) : Int)
 | 0, _ => by show c = _; omega
 | n + 1, hn => by
  have ih := stepN_low h n (by omega)
  have hp : ((2 ^ (n + 1) : Nat) : Int) <= 256 := by
   have : 2 ^ (n + 1) <= 2 ^ 8 := Nat.pow_le_pow_right (by omega) hn
   omega
  have e : 2 * (c * ((2 ^ n : Nat) : Int)) = c * ((2 ^ (n + 1) : Nat) : Int) := by
   rw [Nat.pow_succ, Int.natCast_mul, Int.mul_left_comm]
   congr 1
   exact Int.mul_comm _ _
  show stepB (stepN n c) = _
  unfold stepB
  rw [ih, shl1, e, if_neg]
  have h1 : c * ((2 ^ (n + 1) : Nat) : Int) <= 255 * 256 := Int.mul_le_mul h.2 hp (Int.natCast_nonneg _) (by omega)
  omega
theorem xor_hi (c : Nat) (h : c < 65536) : c ^^^ (256 * (c / 256)) = c % 256 := by
 refine Nat.eq_of_testBit_eq fun i => ?_
 rw [Nat.testBit_xor, show 256 * (c / 256) = 2 ^ 8 * (c / 2 ^ 8) by rfl, show c % 256 = c % 2 ^ 8 by rfl, Nat.testBit_mod_two_pow, Nat.testBit_two_pow_mul, Nat.testBit_div_two_pow]
 by_cases hi : i < 8
 ·simp [hi, show ¬ (8 <= i) by omega]
 ·simp [hi, show 8 <= i by omega, show i - 8 + 8 = i by omega]
theorem byteC_two {c : Int} (h : 0 <= c /\ c <= 65535) : byteC (byteC c (c.toNat / 256)) (c.toNat % 256) = 0 := by
 obtain ⟨n, rfl⟩ := Int.eq_ofNat_of_zero_le h.1
 have hn : n < 65536 := by omega
 have e1 : byteC (n : Int) (n / 256) = ((256 * (n % 256) : Nat) : Int) := by
  unfold byteC
  rw [shl8]
  have : xorZ (n : Int) (256 * ((n / 256 : Nat) : Int)) = ((n % 256 : Nat) : Int) := by
   unfold xorZ
   rw [show (256 * ((n / 256 : Nat) : Int)).toNat = 256 * (n / 256) by omega, show ((n : Int)).toNat = n by omega, xor_hi n hn]
  rw [this, stepN_low (by omega) 8 (by omega)]
  omega
 rw [show ((n : Int)).toNat = n by omega, e1]
 unfold byteC
 rw [shl8]
 have : xorZ ((256 * (n % 256) : Nat) : Int) (256 * ((n % 256 : Nat) : Int)) = 0 := by
  unfold xorZ
  rw [show (256 * ((n % 256 : Nat) : Int)).toNat = 256 * (n % 256) by omega, show (((256 * (n % 256) : Nat) : Int)).toNat = 256 * (n % 256) by omega, Nat.xor_self]
  rfl
 rw [this, stepN_low (by omega) 8 (by omega)]
 omega
end Go.Proofs.YtlfkmgpngkbhpaaGreatDoor.C
end
section
open Go PvL Go.Proofs
set_option linter.unusedSimpArgs false
set_option linter.unusedVariables false
namespace Go.Proofs.YtlfkmgpngkbhpaaGreatDoor.C
theorem c_Between (n a b : Int) (M : Mem) : CallOk Tryz.prog 45 [I n, I a, I b] M (fun w M' => w = .bool (decide (a <= n /\ n <= b)) /\ M' = M) := by
 refine call_in k45 rfl ?_
 dsimp only [x45, zipE, Nat.reduceAdd]
 (repeat' (first | (with_reducible intro _) | refine sv ?_ | (refine sc ?_ ?_ <;> (intro h; try first | exact h.elim | exact absurd rfl h | (exfalso; omega))) | (refine sg ?_ ?_ <;> (intro h; (fail_if_success (have : True := h)); try first | exact h.elim | exact absurd rfl h | (exfalso; omega))) | assumption | exact xm | exact rfl))
 ·((with_reducible first | apply k_fun | apply k_fun_norm); exact rx)
  refine ⟨?_, rfl⟩
  simp [packed]; omega
 ·((with_reducible first | apply k_fun | apply k_fun_norm); exact rx)
  refine ⟨?_, rfl⟩
  simp [packed]; omega
set_option maxHeartbeats 1000000 in
theorem c_Crc (s : ByteArray) (hs : s.size <= 140737488355328) (M : Mem) : CallOk Tryz.prog 35 [.str s] M (fun w M' => w = I (crcK s s.size) /\ M' = M) := by
 refine call_in k35 rfl ?_
 dsimp only [x35, zipE, Nat.reduceAdd]
 (repeat' (first | (with_reducible intro _) | refine sv ?_ | (refine sc ?_ ?_ <;> (intro h; try first | exact h.elim | exact absurd rfl h | (exfalso; omega))) | (refine sg ?_ ?_ <;> (intro h; (fail_if_success (have : True := h)); try first | exact h.elim | exact absurd rfl h | (exfalso; omega))) | assumption | exact xm | exact rfl))
 refine w_loop_ind (fun n E ms M' => ∃ k : Nat, n = s.size - k /\ k <= s.size /\ ms = [] /\ M' = M /\ Has E [(0, .str s), (3, I (crcK s k)), (6, I s.size), (7, I k)])
  ?_ s.size _ _ _ ⟨0, by omega, by omega, rfl, rfl, .cons rfl (.cons rfl (.cons rfl (.cons rfl .nil)))⟩
 rintro n E ms M' ⟨k, rfl, hk, rfl, rfl, hE⟩
 refine w_has hE ?_
 have hb := crcK_bd s k
 have hb2 := byteAt_lt s k
 have h8 := shl8 ((byteAt s k : Nat) : Int)
 by_cases hlast : k = s.size
 ·subst hlast
  (repeat' (first | (with_reducible intro _) | refine sv ?_ | (refine sc ?_ ?_ <;> (intro h; try first | exact h.elim | exact absurd rfl h | (exfalso; omega))) | (refine sg ?_ ?_ <;> (intro h; (fail_if_success (have : True := h)); try first | exact h.elim | exact absurd rfl h | (exfalso; omega))) | assumption | exact xm | exact rfl))
  ((with_reducible first | apply k_fun | apply k_fun_norm); exact rx)
  exact ⟨rfl, rfl⟩
 ·have hlt : k < s.size := by omega
  (repeat' (first | (with_reducible intro _) | refine sv ?_ | (refine sc ?_ ?_ <;> (intro h; try first | exact h.elim | exact absurd rfl h | (exfalso; omega))) | (refine sg ?_ ?_ <;> (intro h; (fail_if_success (have : True := h)); try first | exact h.elim | exact absurd rfl h | (exfalso; omega))) | assumption | exact xm | exact rfl))
  have hc0 := xorZ_bd (a := crcK s k) (b := shlZ ((byteAt s k : Nat) : Int) 8) hb (by omega)
  generalize hg : xorZ (crcK s k) (shlZ ((byteAt s k : Nat) : Int) 8) = c0 at hc0 ⊢
  refine w_loop_ind (fun n E ms M2 => ∃ j : Nat, n = 8 - j /\ j <= 8 /\ ms = [] /\ M2 = M' /\ Has E [(0, .str s), (3, I (stepN j c0)), (6, I s.size), (7, I k), (17, I j)])
   ?_ 8 _ _ _ ⟨0, by omega, by omega, rfl, rfl, .cons rfl (.cons rfl (.cons rfl (.cons rfl (.cons rfl .nil))))⟩
  rintro n E ms M' ⟨j, rfl, hj, rfl, rfl, hE⟩
  refine w_has hE ?_
  have hb3 := stepN_bd hc0 j
  have h1 := shl1 (stepN j c0)
  have ha := andZ_bd (a := shlZ (stepN j c0) 1) (b := 65535) (by omega)
  by_cases hj8 : j = 8
  ·subst hj8
   (repeat' (first | (with_reducible intro _) | refine sv ?_ | (refine sc ?_ ?_ <;> (intro h; try first | exact h.elim | exact absurd rfl h | (exfalso; omega))) | (refine sg ?_ ?_ <;> (intro h; (fail_if_success (have : True := h)); try first | exact h.elim | exact absurd rfl h | (exfalso; omega))) | assumption | exact xm | exact rfl))
   refine k_step (s.size - (k + 1)) (by omega) ⟨k + 1, rfl, by omega, rfl, rfl, .cons rfl (.cons ?_ (.cons rfl (.cons rfl .nil)))⟩
   show some (I (stepN 8 c0)) = some (I (byteC (crcK s k) (byteAt s k)))
   unfold byteC
   rw [hg]
  ·have hlt8 : j < 8 := by omega
   (repeat' (first | (with_reducible intro _) | refine sv ?_ | (refine sc ?_ ?_ <;> (intro h; try first | exact h.elim | exact absurd rfl h | (exfalso; omega))) | (refine sg ?_ ?_ <;> (intro h; (fail_if_success (have : True := h)); try first | exact h.elim | exact absurd rfl h | (exfalso; omega))) | assumption | exact xm | exact rfl))
   ·refine k_step (8 - (j + 1)) (by omega) ⟨j + 1, rfl, by omega, rfl, rfl, .cons rfl (.cons ?_ (.cons rfl (.cons rfl (.cons rfl .nil))))⟩
    show some (I _) = some (I (stepB (stepN j c0)))
    unfold stepB
    rw [if_pos (by assumption)]
   ·refine k_step (8 - (j + 1)) (by omega) ⟨j + 1, rfl, by omega, rfl, rfl, .cons rfl (.cons ?_ (.cons rfl (.cons rfl (.cons rfl .nil))))⟩
    show some (I _) = some (I (stepB (stepN j c0)))
    unfold stepB
    rw [if_neg (by omega)]
def two8 (n : Nat) : ByteArray := ⟨⟨[UInt8.ofNat (n / 256), UInt8.ofNat (n % 256)]⟩⟩
theorem byteAt_app_l {s t : ByteArray} {i : Nat} (h : i < s.size) : byteAt (s ++ t) i = byteAt s i := by
 unfold byteAt
 have hl : i < s.data.toList.length := by simpa using h
 rw [show (s ++ t).data.toList = s.data.toList ++ t.data.toList by simp, List.getD_eq_getElem?_getD, List.getElem?_append_left hl, <- List.getD_eq_getElem?_getD]
theorem byteAt_app_r {s t : ByteArray} {i : Nat} : byteAt (s ++ t) (s.size + i) = byteAt t i := by
 unfold byteAt
 have hl : s.data.toList.length = s.size := by simp
 rw [show (s ++ t).data.toList = s.data.toList ++ t.data.toList by simp, List.getD_eq_getElem?_getD, List.getElem?_append_right (by omega), hl, Nat.add_sub_cancel_left, <- List.getD_eq_getElem?_getD]
theorem u8_nat {n : Nat} (h : n < 256) : (UInt8.ofNat n).toNat = n := by simp; omega
theorem crc_two {s : ByteArray} {n : Nat} (h : crcK s s.size = (n : Int)) : crcK (s ++ two8 n) (s ++ two8 n).size = 0 := by
 have hb := crcK_bd s s.size
 rw [h] at hb
 have hsz : (s ++ two8 n).size = s.size + 2 := by
  rw [show (s ++ two8 n).size = s.size + (two8 n).size by simp]; rfl
 rw [hsz]
 show byteC (byteC (crcK (s ++ two8 n) s.size) (byteAt (s ++ two8 n) (s.size + 0))) (byteAt (s ++ two8 n) (s.size + 1)) = 0
 rw [crcK_ext (t := s) s.size fun i hi => byteAt_app_l hi, byteAt_app_r, byteAt_app_r, h]
 have e0 : byteAt (two8 n) 0 = n / 256 := u8_nat (by omega)
 have e1 : byteAt (two8 n) 1 = n % 256 := u8_nat (by omega)
 rw [e0, e1]
 exact byteC_two hb
theorem bytes_two {n : Nat} (h : n <= 65535) : bytesC [UInt8.ofNat (n / 256), UInt8.ofNat (n % 256)] = [.int .u8 ((n : Int) / 256), .int .u8 ((n : Int) % 256)] := by
 show [LV.int .u8 (((UInt8.ofNat (n / 256)).toNat : Nat) : Int), LV.int .u8 (((UInt8.ofNat (n % 256)).toNat : Nat) : Int)] = _
 rw [u8_nat (by omega), u8_nat (by omega)]; rfl
set_option maxHeartbeats 1000000 in
theorem c_TapeChecked (s : ByteArray) (hs : s.size <= reachBytes) (M : Mem) (hB : Base M) (hp : preOk M tabs = true) : CallOk Tryz.prog 8 [.str s] M (fun w M' => w = .bool true) := by
 have hr : s.size <= 140737488351232 := hs
 refine call_in k8 rfl ?_
 dsimp only [x8, zipE, Nat.reduceAdd]
 have hb := crcK_bd s s.size
 obtain ⟨n, hn⟩ := Int.eq_ofNat_of_zero_le hb.1
 have hc : ∀ M, CallOk Tryz.prog 35 [.str s] M (fun w M' => w = I (n : Int) /\ M' = M) := fun M => by rw [<- hn]; exact c_Crc s (by omega) M
 have hc2 : ∀ M, CallOk Tryz.prog 35 [.str (s ++ two8 n)] M (fun w M' => w = I 0 /\ M' = M) := fun M => by
  have := c_Crc (s ++ two8 n) (by rw [show (s ++ two8 n).size = s.size + (two8 n).size by simp]; show s.size + 2 <= _; omega) M
  rw [crc_two hn] at this; exact this
 rw [hn] at hb
 (repeat' (first | (with_reducible intro _) | refine sv ?_ | (refine sc ?_ ?_ <;> (intro h; try first | exact h.elim | exact absurd rfl h | (exfalso; omega))) | ((with_reducible first | apply x_same | apply d_same | apply d_same0); exact gd; exact rfl; exact rfl; (first | exact hc _ | exact c_Between _ _ _ _)) | (refine sg ?_ ?_ <;> (intro h; (fail_if_success (have : True := h)); try first | exact h.elim | exact absurd rfl h | (exfalso; omega))) | assumption | exact xm | exact rfl))
 rename_i m M2 h1 h2 h3
 refine x_val gd (xs_bstr (l := [UInt8.ofNat (n / 256), UInt8.ofNat (n % 256)]) rfl ?_) ?_
 ·rw [bytes_two (by omega)]; exact xm
 refine x_val gd (xs_adds (t := two8 n) rfl rfl (by show s.size + 2 <= _; omega)) ?_
 have hp2 : preOk M2 tabs = true := preOk_ext (Ext.of_grow (xg) hB) hp
 (repeat' (first | (with_reducible intro _) | refine sv ?_ | (refine sc ?_ ?_ <;> (intro h; try first | exact h.elim | exact absurd rfl h | (exfalso; omega))) | ((with_reducible first | apply x_same | apply d_same | apply d_same0); exact gd; exact rfl; exact rfl; (first | exact hc2 _ | exact c_works hp2)) | (refine sg ?_ ?_ <;> (intro h; (fail_if_success (have : True := h)); try first | exact h.elim | exact absurd rfl h | (exfalso; omega))) | assumption | exact xm | exact rfl))
 ((with_reducible first | apply k_fun | apply k_fun_norm); exact rx)
 rfl
end Go.Proofs.YtlfkmgpngkbhpaaGreatDoor.C
end
