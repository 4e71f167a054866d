/-
 Part of the proof of CourseMovedUpto: what functions of the program and of the statement come to, walked by the rules. No condition beyond those in each theorem.
-/
import Derived.Test.YtifcpjfpjkoicaaGreatTA
import Derived.Test.YtifcpjfpjkoicaaGreatPvD
import Derived.Test.YtifcpjfpjkoicaaGreatTS
section
open Go PvL Go.Proofs
set_option linter.unusedSimpArgs false
set_option linter.unusedVariables false
namespace Go.Proofs.YtifcpjfpjkoicaaGreat.C
abbrev hullc (o : Option Rg) : List LV := [I (o.getD zRg).1.1, I (o.getD zRg).1.2, I (o.getD zRg).2.1.1, I (o.getD zRg).2.1.2, I (o.getD zRg).2.2.1.1, I (o.getD zRg).2.2.1.2, I (o.getD zRg).2.2.2.1, I (o.getD zRg).2.2.2.2, .bool o.isSome]
def leftF (t : Int × Int × Int) (q : Pt × Pt) : Int × Int × Int := (t.1, (clip1 t.1 (t.2.1, t.2.2) q).1, (clip1 t.1 (t.2.1, t.2.2) q).2)
def pw (j : Nat) : Int := ((2 ^ j : Nat) : Int)
theorem pw_succ (j : Nat) : pw (j + 1) = 2 * pw j := by unfold pw; rw [Nat.pow_succ]; omega
theorem pw_pos (j : Nat) : 0 < pw j := by unfold pw; have : 0 < 2 ^ j := Nat.pow_pos (by omega); omega
theorem pw_le {j k : Nat} (h : j <= k) : pw j <= pw k := by unfold pw; have := Nat.pow_le_pow_right (n := 2) (by omega) h; omega
def p2 : Nat -> Int | 0 => 0 | j + 1 => pw j
theorem p2_half (j : Nat) : p2 (j + 1) / 2 = p2 j := by
 cases j with
 | zero => decide
 | succ j => show pw (j + 1) / 2 = pw j; rw [pw_succ]; omega
set_option maxHeartbeats 1000000 in
theorem c_root (n : Int) (hn : 0 <= n /\ n <= 1099511627776) (M : Mem) : CallOk Tryz.prog 68 [I n] M (fun w M' => w = I (sqF n) /\ M' = M) := by
 refine call_in kq68 rfl ?_
 dsimp only [xq68, qm, qi, qB, qC, qq, zipE, Nat.reduceAdd]
 (repeat' first|with_reducible intro _|refine sv ?_|refine sc ?_ ?_<;>(intro h;try exact sz h)|refine sg ?_ ?_<;>(intro h;first|exact sz h|refine sy h ?_)|exact sq|fail)
 refine w_loop_ind (fun m E ms M' => ∃ (j : Nat) (r : Int), m = j /\ j <= 21 /\ ms = [] /\ Has E [(0, I n), (3, I r), (4, I (p2 j))] /\ M' = M /\ 0 <= r /\ r <= 1048576 /\ r * r <= n /\ n < (r + pw j) * (r + pw j)) ?_ 21 _ _ _
  ⟨21, 0, rfl, by omega, rfl, .cons rfl (.cons rfl (.cons rfl .nil)), rfl, by omega, by omega, by omega, ?_⟩
 rotate_left
 ·rw [show pw 21 = 2097152 from rfl]; omega
 rintro j E ms M1 ⟨_, r, rfl, hj, rfl, hE, rfl, h0, hr, h1, h2⟩
 refine w_has hE ?_
 cases j with
 | zero =>
  rw [show pw 0 = 1 from rfl] at h2
  rw [show p2 0 = 0 from rfl]
  (repeat' first|with_reducible intro _|refine sv ?_|refine sc ?_ ?_<;>(intro h;try exact sz h)|refine sg ?_ ?_<;>(intro h;first|exact sz h|refine sy h ?_)|exact sq|fail)
  (refine kf ?_)
  exact ⟨congrArg I (sqF_uniq h0 h1 h2), rfl⟩
 | succ j =>
  have hh := p2_half j
  have hpj := pw_pos j
  have hle : pw j <= 1048576 := pw_le (k := 20) (by omega)
  have hs := pw_succ j
  rw [hs] at h2
  rw [show p2 (j + 1) = pw j from rfl] at hh ⊢
  have hb := mul_bd (a := r + pw j) (b := r + pw j) (A := 2097152) (B := 2097152) (by omega) (by omega)
  have e2 : r + pw j + pw j = r + 2 * pw j := by omega
  (repeat' first|with_reducible intro _|refine sv ?_|refine sc ?_ ?_<;>(intro h;try exact sz h)|refine sg ?_ ?_<;>(intro h;first|exact sz h|refine sy h ?_)|exact sq|fail)
  ·refine k_step j (by omega) ⟨j, r + pw j, rfl, by omega, rfl, .cons rfl (.cons rfl (.cons (by rw [<- hh]; rfl) .nil)), rfl, by omega, ?_, by assumption, by rw [e2]; exact h2⟩
   have := sq_lt (a := r + pw j) (b := 1048577) (by omega) (by omega)
   omega
  ·exact k_step j (by omega) ⟨j, r, rfl, by omega, rfl, .cons rfl (.cons rfl (.cons (by rw [<- hh]; rfl) .nil)), rfl, h0, hr, h1, by assumption⟩
def rootE (n : Int) : Int := if 0 <= n /\ n <= 1099511627776 then 0 else 7
theorem c_Root (n : Int) (hn : 0 <= n /\ n <= 1099511627776) (M : Mem) : CallOk Tryz.prog 53 [I n] M (fun w M' => w = .tup [I (sqF n), I 0] /\ M' = M) := by
 refine call_in kq53 rfl ?_
 dsimp only [xq53, qm, qi, qc, qo, qq, qZ, zipE, Nat.reduceAdd]
 (repeat' first|with_reducible intro _|refine sv ?_|refine sc ?_ ?_<;>(intro h;try exact sz h)|(with_reducible first|apply x_same|apply d_same|apply d_same0);exact gd;exact rfl;exact rfl;(first|exact c_rwithin _ _ _ _|exact c_root _ hn _)|refine sg ?_ ?_<;>(intro h;first|exact sz h|refine sy h ?_)|exact sq|fail)
 (refine kf ?_)
 exact ⟨rfl, rfl⟩
end Go.Proofs.YtifcpjfpjkoicaaGreat.C
end
