/-
 Part of the proof of TapeAlike: what functions of the program and of the statement come to, walked by the rules. No condition beyond those in each theorem.
-/
import Derived.Test.YtlfkmgpngkbhpaaGreatDoorTQ
import Derived.Test.YtlfkmgpngkbhpaaGreatDoorTX
section
open Go PvL Go.Proofs
set_option linter.unusedVariables false
namespace Go.Proofs.YtlfkmgpngkbhpaaGreatDoor.C
theorem joinI_self (a : Int) : joinI a a = a := by unfold joinI; simp
theorem joinI_comm (a b : Int) : joinI a b = joinI b a := by unfold joinI; split <;> split <;> (try split) <;> omega
theorem joinI_assoc (a b c : Int) : joinI (joinI a b) c = joinI a (joinI b c) := by
 unfold joinI
 by_cases h1 : a = b <;> by_cases h2 : b = 40000 <;> by_cases h3 : a = 40000 <;> by_cases h4 : c = 40000 <;> by_cases h5 : b = c <;> by_cases h6 : a = c <;> simp_all <;> (split <;> simp_all)
theorem getG_both (a b : List Int) (k : Nat) : getG (bothL a b) k = joinI (getG a k) (getG b k) := by
 by_cases hk : k < max a.length b.length
 ·rw [getG_lt (by rw [bothL_len]; exact hk)]
  unfold bothL
  simp
 ·rw [getG_ge (by rw [bothL_len]; omega), getG_ge (l := a) (by omega), getG_ge (l := b) (by omega)]; rfl
theorem both_ext {a b : List Int} (hl : a.length = b.length) (h : ∀ k, getG a k = getG b k) : a = b := by
 refine List.ext_getElem hl fun k h1 h2 => ?_
 have := h k
 rw [getG_lt h1, getG_lt h2] at this; exact this
theorem bothL_comm (a b : List Int) : bothL a b = bothL b a :=
 both_ext (by rw [bothL_len, bothL_len]; omega) fun k => by rw [getG_both, getG_both, joinI_comm]
theorem bothL_self (a : List Int) : bothL a a = a :=
 both_ext (by rw [bothL_len]; omega) fun k => by rw [getG_both, joinI_self]
theorem bothL_assoc (a b c : List Int) : bothL (bothL a b) c = bothL a (bothL b c) :=
 both_ext (by simp only [bothL_len]; omega) fun k => by simp only [getG_both]; exact joinI_assoc _ _ _
theorem sm_get {l : List Int} (h : l.all smB = true) (k : Nat) : smB (getG l k) = true := by
 by_cases hk : k < l.length
 ·rw [getG_lt hk]; exact List.all_eq_true.1 h _ (List.getElem_mem hk)
 ·rw [getG_ge (by omega)]; rfl
theorem sm_join {a b : Int} (ha : smB a = true) (hb : smB b = true) : smB (joinI a b) = true := by
 unfold joinI
 split
 ·exact ha
 ·split
  ·exact hb
  ·rfl
theorem sm_both {a b : List Int} (ha : a.all smB = true) (hb : b.all smB = true) : (bothL a b).all smB = true := by
 rw [List.all_eq_true]
 intro x hx
 unfold bothL at hx
 obtain ⟨k, _, rfl⟩ := List.mem_map.1 hx
 exact sm_join (sm_get ha k) (sm_get hb k)
theorem errF_of {x : Fr} (h : 0 <= x.1 /\ x.1 <= 60000 /\ 0 <= x.2.1 /\ x.2.1 <= 23 /\ 1 <= x.2.2.length /\ x.2.2.length <= 64 /\ x.2.2.all smB = true) : errF x = 0 := by
 obtain ⟨h1, h2, h3, h4, h5, h6, h7⟩ := h
 unfold errF frB smsB btB
 rw [h7]
 have e1 : decide (0 <= x.1 /\ x.1 <= 60000) = true := decide_eq_true ⟨h1, h2⟩
 have e2 : decide (0 <= x.2.1 /\ x.2.1 <= 23) = true := decide_eq_true ⟨h3, h4⟩
 have e3 : decide (1 <= (x.2.2.length : Int) /\ (x.2.2.length : Int) <= 64) = true := decide_eq_true ⟨by omega, by omega⟩
 rw [e1, e2, e3]; rfl
theorem smB_in {n : Int} (h : smB n = true) : -32767 <= n /\ n <= 40001 := by
 unfold smB knB at h
 simp only [Bool.or_eq_true, decide_eq_true_eq] at h
 omega
theorem ok_in {x : Fr} (h : errF x = 0) : FrIn x := by
 obtain ⟨h1, h2, h3, h4, h5, h6, h7⟩ := errF_ok h
 refine ⟨⟨by omega, by omega⟩, ⟨by omega, by omega⟩, by omega, fun n hn => ?_⟩
 have := smB_in (List.all_eq_true.1 h7 n hn)
 exact ⟨by omega, by omega⟩
def joinOk (x y : Fr) : Prop := errF x = 0 /\ errF y = 0 /\ x.1 = y.1 /\ x.2.1 = y.2.1
theorem joinF_ok {x y : Fr} (h : joinOk x y) : joinF x y = ((x.1, x.2.1, bothL x.2.2 y.2.2), 0) := by
 obtain ⟨h1, h2, h3, h4⟩ := h
 unfold joinF; rw [if_pos h1, if_pos h2, if_pos ⟨h3, h4⟩]
theorem joinF_no {x y : Fr} (h : ¬ joinOk x y) : (joinF x y).1 = zFr /\ (joinF x y).2 ≠ 0 := by
 unfold joinF
 by_cases h1 : errF x = 0
 ·rw [if_pos h1]
  by_cases h2 : errF y = 0
  ·rw [if_pos h2]
   by_cases h3 : x.1 = y.1 /\ x.2.1 = y.2.1
   ·exact absurd ⟨h1, h2, h3.1, h3.2⟩ h
   ·rw [if_neg h3]; exact ⟨rfl, by decide⟩
  ·rw [if_neg h2]; exact ⟨rfl, h2⟩
 ·rw [if_neg h1]; exact ⟨rfl, h1⟩
theorem joinOk_comm {x y : Fr} : joinOk x y ↔ joinOk y x := by unfold joinOk; constructor <;> (rintro ⟨a, b, c, d⟩; exact ⟨b, a, c.symm, d.symm⟩)
abbrev jo (x y : Fr) : Fr := (x.1, x.2.1, bothL x.2.2 y.2.2)
theorem jo_err {x y : Fr} (h : joinOk x y) : errF (jo x y) = 0 := by
 obtain ⟨h1, h2, h3, h4⟩ := h
 obtain ⟨a1, a2, a3, a4, a5, a6, a7⟩ := errF_ok h1
 obtain ⟨b1, b2, b3, b4, b5, b6, b7⟩ := errF_ok h2
 exact errF_of ⟨a1, a2, a3, a4, by show 1 <= (bothL _ _).length; rw [bothL_len]; omega, by show (bothL _ _).length <= 64; rw [bothL_len]; omega, sm_both a7 b7⟩
theorem jo_comm {x y : Fr} (h : joinOk x y) : jo x y = jo y x := by
 obtain ⟨h1, h2, h3, h4⟩ := h
 show (x.1, x.2.1, bothL x.2.2 y.2.2) = (y.1, y.2.1, bothL y.2.2 x.2.2)
 rw [h3, h4, bothL_comm]
theorem jo_self (x : Fr) : jo x x = x := by show (x.1, x.2.1, bothL x.2.2 x.2.2) = x; rw [bothL_self]
theorem jo_assoc (x y z : Fr) : jo (jo x y) z = jo x (jo y z) := by
 show (x.1, x.2.1, bothL (bothL x.2.2 y.2.2) z.2.2) = (x.1, x.2.1, bothL x.2.2 (bothL y.2.2 z.2.2))
 rw [bothL_assoc]
theorem jo_keeps {x y : Fr} {k : Nat} (h : k < x.2.2.length) (hx : x.2.2[k] ≠ 40000) : ∃ hk : k < (jo x y).2.2.length, (jo x y).2.2[k] = x.2.2[k] ∨ (jo x y).2.2[k] = 40001 := by
 have hk : k < (bothL x.2.2 y.2.2).length := by rw [bothL_len]; omega
 refine ⟨hk, ?_⟩
 have := getG_both x.2.2 y.2.2 k
 rw [getG_lt hk, getG_lt h] at this
 show (bothL x.2.2 y.2.2)[k] = _ ∨ _
 rw [this]
 unfold joinI
 split
 ·exact .inl rfl
 ·exact .inr rfl
theorem jo_ok {x y z : Fr} (h : joinOk x y) : joinOk (jo x y) z ↔ joinOk y z := by
 have he := jo_err h
 obtain ⟨h1, h2, h3, h4⟩ := h
 constructor
 ·rintro ⟨_, b, c, d⟩; exact ⟨h2, b, h3.symm.trans c, h4.symm.trans d⟩
 ·rintro ⟨_, b, c, d⟩; exact ⟨he, b, h3.trans c, h4.trans d⟩
theorem ok_jo {x y z : Fr} (h : joinOk x y) (h' : joinOk y z) : joinOk x (jo y z) := ⟨h.1, jo_err h', h.2.2.1, h.2.2.2⟩
end Go.Proofs.YtlfkmgpngkbhpaaGreatDoor.C
end
section
open Go PvL Go.Proofs
set_option linter.unusedSimpArgs false
set_option linter.unusedVariables false
namespace Go.Proofs.YtlfkmgpngkbhpaaGreatDoor.C
instance : IsB Tryz.prog 4 := ⟨by kernel_rfl⟩
theorem jc {M : Mem} {v w : LV} {x y : Fr} (h : joinOk x y) (hv : FrV M v x) (hw : FrV M w y) :
  CallOk Tryz.prog 21 [v, w] M (fun r M' => ∃ q, r = .tup [q, I 0] /\ FrV M' q (jo x y) /\ Grow M M') := by
 have := c_Join hv hw (ok_in h.1) (ok_in h.2.1)
 rw [joinF_ok h] at this; exact this
theorem jcs {M : Mem} {v w : LV} {x y : Fr} (h : joinOk x y) (hv : FrV M v x) (hw : FrV M w y) :
  CallOk Tryz.prog 21 [w, v] M (fun r M' => ∃ q, r = .tup [q, I 0] /\ FrV M' q (jo x y) /\ Grow M M') := by
 rw [jo_comm h]; exact jc (joinOk_comm.1 h) hw hv
theorem jcx {M : Mem} {v w : LV} {x : Fr} (h : errF x = 0) (hv : FrV M v x) (hw : FrV M w x) :
  CallOk Tryz.prog 21 [v, w] M (fun r M' => ∃ q, r = .tup [q, I 0] /\ FrV M' q x /\ Grow M M') := by
 have := jc (x := x) (y := x) ⟨h, h, rfl, rfl⟩ hv hw
 rw [jo_self] at this; exact this
theorem jn {M : Mem} {v w : LV} {x y : Fr} (h : ¬ joinOk x y) (hx : FrIn x) (hy : FrIn y) (hv : FrV M v x) (hw : FrV M w y) :
  CallOk Tryz.prog 21 [v, w] M (fun r M' => ∃ q n, r = .tup [q, I n] /\ n ≠ 0 /\ FrV M' q zFr /\ Grow M M') := by
 obtain ⟨h1, h2⟩ := joinF_no h
 refine (c_Join hv hw hx hy).mono ?_
 rintro r M' ⟨q, rfl, h3, h4⟩
 rw [h1] at h3
 exact ⟨q, _, rfl, h2, h3, h4⟩
theorem sf {M : Mem} {v w : LV} {x : Fr} (h : errF x = 0) (hv : FrV M v x) (hw : FrV M w x) : CallOk Tryz.prog 41 [v, w] M (fun r M' => r = .bool true /\ Grow M M') := by
 have hl := (ok_in h).2.2.1
 have := c_SameFrame hv hw hl hl
 rw [decide_eq_true rfl] at this; exact this
set_option maxHeartbeats 4000000 in
theorem c_TapeAlike {M : Mem} {v w u : LV} {x y z : Fr} (hv : FrV M v x) (hw : FrV M w y) (hu : FrV M u z) (hx : FrIn x) (hy : FrIn y) (hz : FrIn z) (hB : Base M) (hp : preOk M tabs = true) :
  CallOk Tryz.prog 9 [v, w, u] M (fun r _ => r = .bool true) := by
 have hv0 := hv
 have hw0 := hw
 have hu0 := hu
 obtain ⟨a, f, e, rfl, hs⟩ := hv
 obtain ⟨b, f', e', rfl, hs'⟩ := hw
 obtain ⟨c, f'', e'', rfl, hs''⟩ := hu
 refine call_in k9 rfl ?_
 dsimp only [x9, zipE, Nat.reduceAdd]
 by_cases h12 : joinOk x y
 ·have h21 := joinOk_comm.1 h12
  have h11 : joinOk x x := ⟨h12.1, h12.1, rfl, rfl⟩
  (repeat' (first | (with_reducible intro _) | refine sv ?_ | (refine sc ?_ ?_ <;> (intro h; try first | exact h.elim | exact absurd rfl h | (exfalso; omega))) | ((with_reducible first | apply x_call | apply d_call | apply x_call0); exact gd; exact rfl; exact rfl; (first | exact jc h12 (hv0.grow (xg)) (hw0.grow (xg)))) | (refine sg ?_ ?_ <;> (intro h; (fail_if_success (have : True := h)); try first | exact h.elim | exact absurd rfl h | (exfalso; omega))) | assumption | exact xm | exact rfl))
  rename_i hq
  obtain ⟨q1, rfl, hq1, hg1⟩ := hq
  obtain ⟨a1, f1, g1, rfl, hs1⟩ := id hq1
  have hl1 := hg1.le
  (repeat' (first | (with_reducible intro _) | refine sv ?_ | (refine sc ?_ ?_ <;> (intro h; try first | exact h.elim | exact absurd rfl h | (exfalso; omega))) | ((with_reducible first | apply x_call | apply d_call | apply x_call0); exact gd; exact rfl; exact rfl; (first | exact jcs h12 (hv0.grow (xg)) (hw0.grow (xg)))) | (refine sg ?_ ?_ <;> (intro h; (fail_if_success (have : True := h)); try first | exact h.elim | exact absurd rfl h | (exfalso; omega))) | assumption | exact xm | exact rfl))
  rename_i hq
  obtain ⟨q2, rfl, hq2, hg2⟩ := hq
  obtain ⟨a2, f2, g2, rfl, hs2⟩ := id hq2
  have hl2 := hg2.le
  (repeat' (first | (with_reducible intro _) | refine sv ?_ | (refine sc ?_ ?_ <;> (intro h; try first | exact h.elim | exact absurd rfl h | (exfalso; omega))) | ((with_reducible first | apply x_call | apply d_call | apply x_call0); exact gd; exact rfl; exact rfl; (first | exact jcx h12.1 (hv0.grow (xg)) (hv0.grow (xg)))) | (refine sg ?_ ?_ <;> (intro h; (fail_if_success (have : True := h)); try first | exact h.elim | exact absurd rfl h | (exfalso; omega))) | assumption | exact xm | exact rfl))
  rename_i hq
  obtain ⟨q3, rfl, hq3, hg3⟩ := hq
  obtain ⟨a3, f3, g3, rfl, hs3⟩ := id hq3
  have hl3 := hg3.le
  have hmx : iMax (x.2.2.length : Int) (y.2.2.length : Int) = ((bothL x.2.2 y.2.2).length : Int) := by rw [iMax_nat, bothL_len]
  have hje := jo_err h12
  generalize hJ : jo x y = J at *
  have hJl : (bothL x.2.2 y.2.2).length = J.2.2.length := by rw [<- hJ]
  rw [hJl] at hmx
  (repeat' (first | (with_reducible intro _) | refine sv ?_ | (refine sc ?_ ?_ <;> (intro h; try first | exact h.elim | exact absurd rfl h | (exfalso; omega))) | ((with_reducible first | apply x_pure | apply d_pure | apply d_pure0); exact gd; exact rfl; exact rfl; (first | exact sf h12.1 (hq3.grow (xg)) (hv0.grow (xg)) | exact sf hje (hq1.grow (xg)) (hq2.grow (xg)))) | (refine sg ?_ ?_ <;> (intro h; (fail_if_success (have : True := h)); try first | exact h.elim | exact absurd rfl h | (exfalso; omega))) | assumption | exact xm | exact rfl))
  rename_i n1 m1 b1 b2 b3 n2 m2 b4 b5 b6 n3 m3 b7 b8 b9 m4 n4 m5 b10 b11 b12 m6 b13 m7 n5 m8 b14 b15 b16 m9 b17 b18 m10 b19 b20 b21 b22 n6 m11 b23 b24 b25 m12 b26 b27 b28 m13 b29 b30 m14 b31 b32
  have A1 : At m14 n1 (.cells true [I x.1, I x.2.1, .slice a x.2.2.length f e] 24) := xm
  have A2 : At m14 n2 (.cells true [I y.1, I y.2.1, .slice b y.2.2.length f' e'] 24) := xm
  have A3 : At m14 n3 (.cells true [I z.1, I z.2.1, .slice c z.2.2.length f'' e''] 24) := xm
  have A4 : At m14 n4 (.cells true [I J.1, I J.2.1, .slice a1 J.2.2.length f1 g1] 24) := xm
  have vJ : FrV m14 (.agg [I J.1, I J.2.1, .slice a1 J.2.2.length f1 g1]) J := hq1.grow (xg)
  have slJ : SlI m14 a1 J.2.2 := hs1.grow (xg)
  have hG : Grow M m14 := xg
  have vx := hv0.grow hG
  have vy := hw0.grow hG
  have vz := hu0.grow hG
  have slx := hs.grow hG
  have hlt : n1 < m14.next /\ n2 < m14.next /\ n3 < m14.next /\ n4 < m14.next := ⟨by omega, by omega, by omega, by omega⟩
  obtain ⟨hn1, hn2, hn3, hn4⟩ := hlt
  have hp14 : preOk m14 tabs = true := preOk_ext (Ext.of_grow hG hB) hp
  clear b1 b2 b3 b4 b5 b6 b7 b8 b9 b10 b11 b12 b13 b14 b15 b16 b17 b18 b19 b20 b21 b22 b23 b24 b25 b26 b27 b28 b29 b30 b31 b32 hg1 hg2 hg3 hl1 hl2 hl3 hq1 hq2 hq3 hs1 hs2 hs3 h
  refine w_loop_ind (fun m E ms M' => ∃ k : Nat, m = x.2.2.length - k /\ k <= x.2.2.length /\ ms = [] /\ Has E [(3, .ptr (some (n1, 0))), (4, .ptr (some (n2, 0))), (5, .ptr (some (n3, 0))), (7, .ptr (some (n4, 0))), (13, I k)] /\ M' = m14)
   ?_ x.2.2.length _ _ _ ⟨0, by omega, by omega, rfl, .cons rfl (.cons rfl (.cons rfl (.cons rfl (.cons rfl .nil)))), rfl⟩
  rintro m E ms M1 ⟨k, rfl, hk, rfl, hE, rfl⟩
  refine w_has hE ?_
  have hxl := hx.2.2.1
  by_cases hlast : k = x.2.2.length
  ·subst hlast
   (repeat' (first | (with_reducible intro _) | refine sv ?_ | (refine sc ?_ ?_ <;> (intro h; try first | exact h.elim | exact absurd rfl h | (exfalso; omega))) | (refine sg ?_ ?_ <;> (intro h; (fail_if_success (have : True := h)); try first | exact h.elim | exact absurd rfl h | (exfalso; omega))) | assumption | exact xm | exact rfl))
   have hzl := hz.2.2.1
   by_cases hJz : joinOk J z
   ·have hyz : joinOk y z := by subst hJ; exact (jo_ok h12).1 hJz
    have hxj : joinOk x (jo y z) := ok_jo h12 hyz
    have hjj : jo x (jo y z) = jo J z := by rw [<- hJ, jo_assoc]
    have hje2 := jo_err hJz
    have c3 : ∀ {M' : Mem} {v w : LV}, FrV M' v x -> FrV M' w (jo y z) -> CallOk Tryz.prog 21 [v, w] M' (fun r M2 => ∃ q, r = .tup [q, I 0] /\ FrV M2 q (jo J z) /\ Grow M' M2) := fun h1 h2 => by
     rw [<- hjj]; exact jc hxj h1 h2
    have c1 : ∀ {M' : Mem} {v w : LV}, FrV M' v J -> FrV M' w z -> _ := fun h1 h2 => jc hJz h1 h2
    generalize hJ2 : jo J z = J2 at *
    generalize hJ3 : jo y z = J3 at *
    have c2 : ∀ {M' : Mem} {v w : LV}, FrV M' v y -> FrV M' w z -> CallOk Tryz.prog 21 [v, w] M' (fun r M2 => ∃ q, r = .tup [q, I 0] /\ FrV M2 q J3 /\ Grow M' M2) := fun h1 h2 => by
     rw [<- hJ3]; exact jc hyz h1 h2
    have hGk : Grow M M1 /\ True := ⟨hG, trivial⟩
    clear hG
    (repeat' (first | (with_reducible intro _) | refine sv ?_ | (refine sc ?_ ?_ <;> (intro h; try first | exact h.elim | exact absurd rfl h | (exfalso; omega))) | ((with_reducible first | apply x_call | apply d_call | apply x_call0); exact gd; exact rfl; exact rfl; (first | exact c1 vJ vz)) | (refine sg ?_ ?_ <;> (intro h; (fail_if_success (have : True := h)); try first | exact h.elim | exact absurd rfl h | (exfalso; omega))) | assumption | exact xm | exact rfl))
    rename_i hq
    obtain ⟨q1, rfl, hq1, hg1⟩ := hq
    obtain ⟨d1, f1, g1, rfl, hs1⟩ := id hq1
    have hl1 := hg1.le
    (repeat' (first | (with_reducible intro _) | refine sv ?_ | (refine sc ?_ ?_ <;> (intro h; try first | exact h.elim | exact absurd rfl h | (exfalso; omega))) | ((with_reducible first | apply x_call | apply d_call | apply x_call0); exact gd; exact rfl; exact rfl; (first | exact c2 (vy.grow (xg)) (vz.grow (xg)))) | (refine sg ?_ ?_ <;> (intro h; (fail_if_success (have : True := h)); try first | exact h.elim | exact absurd rfl h | (exfalso; omega))) | assumption | exact xm | exact rfl))
    rename_i hq
    obtain ⟨q2, rfl, hq2, hg2⟩ := hq
    obtain ⟨d2, f2, g2, rfl, hs2⟩ := id hq2
    have hl2 := hg2.le
    (repeat' (first | (with_reducible intro _) | refine sv ?_ | (refine sc ?_ ?_ <;> (intro h; try first | exact h.elim | exact absurd rfl h | (exfalso; omega))) | ((with_reducible first | apply x_call | apply d_call | apply x_call0); exact gd; exact rfl; exact rfl; (first | exact c3 (vx.grow (xg)) (hq2.grow (xg)))) | (refine sg ?_ ?_ <;> (intro h; (fail_if_success (have : True := h)); try first | exact h.elim | exact absurd rfl h | (exfalso; omega))) | assumption | exact xm | exact rfl))
    rename_i hq
    obtain ⟨q3, rfl, hq3, hg3⟩ := hq
    obtain ⟨d3, f3, g3, rfl, hs3⟩ := id hq3
    have hl3 := hg3.le
    (repeat' (first | (with_reducible intro _) | refine sv ?_ | (refine sc ?_ ?_ <;> (intro h; try first | exact h.elim | exact absurd rfl h | (exfalso; omega))) | ((with_reducible first | apply x_pure | apply d_pure | apply d_pure0); exact gd; exact rfl; exact rfl; (first | exact sf hje2 (hq1.grow (xg)) (hq3.grow (xg)))) | (refine sg ?_ ?_ <;> (intro h; (fail_if_success (have : True := h)); try first | exact h.elim | exact absurd rfl h | (exfalso; omega))) | assumption | exact xm | exact rfl))
    (repeat' (first | (with_reducible intro _) | refine sv ?_ | (refine sc ?_ ?_ <;> (intro h; try first | exact h.elim | exact absurd rfl h | (exfalso; omega))) | ((with_reducible first | apply x_same | apply d_same | apply d_same0); exact gd; exact rfl; exact rfl; (first | exact c_works (preOk_ext (Ext.of_grow (hGk.1.trans (xg)) hB) hp))) | (refine sg ?_ ?_ <;> (intro h; (fail_if_success (have : True := h)); try first | exact h.elim | exact absurd rfl h | (exfalso; omega))) | assumption | exact xm | exact rfl))
    ((with_reducible first | apply k_fun | apply k_fun_norm); exact rx)
    rfl
   ·have hyz : ¬ joinOk y z := by subst hJ; exact fun h' => hJz ((jo_ok h12).2 h')
    have hJi := ok_in hje
    have hGk : Grow M M1 /\ True := ⟨hG, trivial⟩
    clear hG
    (repeat' (first | (with_reducible intro _) | refine sv ?_ | (refine sc ?_ ?_ <;> (intro h; try first | exact h.elim | exact absurd rfl h | (exfalso; omega))) | ((with_reducible first | apply x_call | apply d_call | apply x_call0); exact gd; exact rfl; exact rfl; (first | exact jn hJz hJi hz vJ vz)) | (refine sg ?_ ?_ <;> (intro h; (fail_if_success (have : True := h)); try first | exact h.elim | exact absurd rfl h | (exfalso; omega))) | assumption | exact xm | exact rfl))
    rename_i hq
    obtain ⟨q1, k1, rfl, hk1, hq1, hg1⟩ := hq
    obtain ⟨d1, f1, g1, rfl, hs1⟩ := id hq1
    have hl1 := hg1.le
    (repeat' (first | (with_reducible intro _) | refine sv ?_ | (refine sc ?_ ?_ <;> (intro h; try first | exact h.elim | exact absurd rfl h | (exfalso; omega))) | ((with_reducible first | apply x_call | apply d_call | apply x_call0); exact gd; exact rfl; exact rfl; (first | exact jn hyz hy hz (vy.grow (xg)) (vz.grow (xg)))) | (refine sg ?_ ?_ <;> (intro h; (fail_if_success (have : True := h)); try first | exact h.elim | exact absurd rfl h | (exfalso; omega))) | assumption | exact xm | exact rfl))
    rename_i hq
    obtain ⟨q2, k2, rfl, hk2, hq2, hg2⟩ := hq
    obtain ⟨d2, f2, g2, rfl, hs2⟩ := id hq2
    have hl2 := hg2.le
    have hdd : (decide (k1 = 0) = decide (k2 = 0)) = True := by simp [hk1, hk2]
    (repeat' (first | (with_reducible intro _) | refine sv ?_ | (refine sc ?_ ?_ <;> (intro h; try first | exact h.elim | exact absurd rfl h | (exfalso; omega))) | (refine sg ?_ ?_ <;> (intro h; (fail_if_success (have : True := h)); try first | exact h.elim | exact absurd rfl h | (exfalso; omega))) | assumption | exact xm | exact rfl))
    all_goals try (exfalso; simp_all; done)
    (repeat' (first | (with_reducible intro _) | refine sv ?_ | (refine sc ?_ ?_ <;> (intro h; try first | exact h.elim | exact absurd rfl h | (exfalso; omega))) | ((with_reducible first | apply x_same | apply d_same | apply d_same0); exact gd; exact rfl; exact rfl; (first | exact c_works (preOk_ext (Ext.of_grow (hGk.1.trans (xg)) hB) hp))) | (refine sg ?_ ?_ <;> (intro h; (fail_if_success (have : True := h)); try first | exact h.elim | exact absurd rfl h | (exfalso; omega))) | assumption | exact xm | exact rfl))
    ((with_reducible first | apply k_fun | apply k_fun_norm); exact rx)
    rfl
  ·have hlt : k < x.2.2.length := by omega
   have hkJ : k < J.2.2.length := by rw [<- hJl, bothL_len]; omega
   have hpq : x.2.2[k] = 40000 ∨ J.2.2[k] = x.2.2[k] ∨ J.2.2[k] = 40001 := by
    by_cases hx4 : x.2.2[k] = 40000
    ·exact .inl hx4
    ·subst hJ
     exact .inr (jo_keeps (y := y) hlt hx4).2
   obtain ⟨i, o, rfl, hr⟩ := slx.rd hlt
   obtain ⟨i2, o2, rfl, hr2⟩ := slJ.rd hkJ
   generalize x.2.2[k] = p at *
   generalize J.2.2[k] = q at *
   rcases hpq with rfl | rfl | rfl
   all_goals ((have hrd0 := hr; have hrd1 := hr2; repeat' (first | (with_reducible intro _) | refine sv ?_ | (refine sc ?_ ?_ <;> (intro h; try first | exact h.elim | exact absurd rfl h | (exfalso; omega))) | (refine sg ?_ ?_ <;> (intro h; (fail_if_success (have : True := h)); try first | exact h.elim | exact absurd rfl h | (exfalso; omega))) | assumption | exact xm | exact rfl)))
   all_goals try (exfalso; omega)
   all_goals (refine k_step (x.2.2.length - (k + 1)) (by omega) ⟨k + 1, rfl, by omega, rfl, .cons rfl (.cons rfl (.cons rfl (.cons rfl (.cons rfl .nil)))), rfl⟩)
 ·have h21 : ¬ joinOk y x := fun h' => h12 (joinOk_comm.2 h')
  (repeat' (first | (with_reducible intro _) | refine sv ?_ | (refine sc ?_ ?_ <;> (intro h; try first | exact h.elim | exact absurd rfl h | (exfalso; omega))) | ((with_reducible first | apply x_call | apply d_call | apply x_call0); exact gd; exact rfl; exact rfl; (first | exact jn h12 hx hy (hv0.grow (xg)) (hw0.grow (xg)))) | (refine sg ?_ ?_ <;> (intro h; (fail_if_success (have : True := h)); try first | exact h.elim | exact absurd rfl h | (exfalso; omega))) | assumption | exact xm | exact rfl))
  rename_i hq
  obtain ⟨q1, k1, rfl, hk1, hq1, hg1⟩ := hq
  obtain ⟨d1, f1, g1, rfl, hs1⟩ := id hq1
  have hl1 := hg1.le
  (repeat' (first | (with_reducible intro _) | refine sv ?_ | (refine sc ?_ ?_ <;> (intro h; try first | exact h.elim | exact absurd rfl h | (exfalso; omega))) | ((with_reducible first | apply x_call | apply d_call | apply x_call0); exact gd; exact rfl; exact rfl; (first | exact jn h21 hy hx (hw0.grow (xg)) (hv0.grow (xg)))) | (refine sg ?_ ?_ <;> (intro h; (fail_if_success (have : True := h)); try first | exact h.elim | exact absurd rfl h | (exfalso; omega))) | assumption | exact xm | exact rfl))
  rename_i hq
  obtain ⟨q2, k2, rfl, hk2, hq2, hg2⟩ := hq
  obtain ⟨d2, f2, g2, rfl, hs2⟩ := id hq2
  have hl2 := hg2.le
  have hdd : (decide (k1 = 0) = decide (k2 = 0)) = True := by simp [hk1, hk2]
  (repeat' (first | (with_reducible intro _) | refine sv ?_ | (refine sc ?_ ?_ <;> (intro h; try first | exact h.elim | exact absurd rfl h | (exfalso; omega))) | (refine sg ?_ ?_ <;> (intro h; (fail_if_success (have : True := h)); try first | exact h.elim | exact absurd rfl h | (exfalso; omega))) | assumption | exact xm | exact rfl))
  all_goals try (exfalso; simp_all; done)
  (repeat' (first | (with_reducible intro _) | refine sv ?_ | (refine sc ?_ ?_ <;> (intro h; try first | exact h.elim | exact absurd rfl h | (exfalso; omega))) | ((with_reducible first | apply x_same | apply d_same | apply d_same0); exact gd; exact rfl; exact rfl; (first | exact c_works (preOk_ext (Ext.of_grow (xg) hB) hp))) | (refine sg ?_ ?_ <;> (intro h; (fail_if_success (have : True := h)); try first | exact h.elim | exact absurd rfl h | (exfalso; omega))) | assumption | exact xm | exact rfl))
  ((with_reducible first | apply k_fun | apply k_fun_norm); exact rx)
  rfl
end Go.Proofs.YtlfkmgpngkbhpaaGreatDoor.C
end
