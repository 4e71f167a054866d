/-
 Part of the proof of TapeAgains: what functions of the program and of the statement come to, walked by the rules. No condition beyond those in each theorem.
-/
import Derived.Test.YtlfkmgpngkbhpaaGreatDoorTR
import Derived.Test.YtlfkmgpngkbhpaaGreatDoorTS
import Derived.Test.YtlfkmgpngkbhpaaGreatDoorTX
section
open Go PvL Go.Proofs
set_option linter.unusedSimpArgs false
set_option linter.unusedVariables false
namespace Go.Proofs.YtlfkmgpngkbhpaaGreatDoor.C
theorem setList_nil : ∀ l : List LV, setList l 0 [] = some l
 | [] => rfl
 | _ :: _ => rfl
theorem setList_pre : ∀ (vs rest ws : List LV), ws.length = vs.length -> setList (vs ++ rest) 0 ws = some (ws ++ rest)
 | [], rest, [], _ => by rw [List.nil_append]; exact setList_nil _
 | v :: vs, rest, w :: ws, h => by
  show ob (setList (vs ++ rest) 0 ws) (fun l => some (w :: l)) = _
  rw [setList_pre vs rest ws (by simpa using h)]
  rfl
theorem setList_app : ∀ (pre l vs : List LV) (k : Nat) (r : List LV), setList l k vs = some r -> vs ≠ [] -> setList (pre ++ l) (pre.length + k) vs = some (pre ++ r)
 | [], l, vs, k, r, h, _ => by rw [List.length_nil, Nat.zero_add]; exact h
 | p :: pre, l, [], k, r, h, hv => absurd rfl hv
 | p :: pre, l, v :: vs, k, r, h, hv => by
  rw [show (p :: pre).length + k = (pre.length + k) + 1 from by rw [List.length_cons]; omega]
  show ob (setList (pre ++ l) (pre.length + k) (v :: vs)) (fun l => some (p :: l)) = _
  rw [setList_app pre l (v :: vs) k r h hv]
  rfl
theorem setList_flat {α : Type} {enc : α -> List LV} {sz : Nat} (henc : ∀ x, (enc x).length = sz) (h0 : 0 < sz) : ∀ (l : List α) (k : Nat) (v : α), k < l.length -> setList (l.flatMap enc) (k * sz) (enc v) = some ((l.set k v).flatMap enc)
 | [], k, v, h => absurd h (Nat.not_lt_zero _)
 | x :: l, 0, v, h => by
  rw [Nat.zero_mul, List.set_cons_zero, List.flatMap_cons, List.flatMap_cons]
  exact setList_pre _ _ _ (by rw [henc, henc])
 | x :: l, k + 1, v, h => by
  rw [List.set_cons_succ, List.flatMap_cons, List.flatMap_cons, show (k + 1) * sz = (enc x).length + k * sz from by rw [henc, Nat.add_mul, Nat.one_mul, Nat.add_comm]]
  refine setList_app _ _ _ _ _ (setList_flat henc h0 l k v (by simpa using h)) fun he => ?_
  have := henc v
  rw [he] at this
  simp at this
  omega
theorem rep_flat {α : Type} (enc : α -> List LV) (x : α) : ∀ n : Nat, rep n (enc x) = (List.replicate n x).flatMap enc
 | 0 => rfl
 | n + 1 => by
  show enc x ++ rep n (enc x) = _
  rw [rep_flat enc x n]; rfl
def tabL {α : Type} (enc : α -> List LV) (G : Nat -> α) (n : Nat) : List LV := ((List.range n).map G).flatMap enc
theorem tabL_rep {α : Type} (enc : α -> List LV) (G : Nat -> α) (n : Nat) (x : α) (h : ∀ i, i < n -> G i = x) : rep n (enc x) = tabL enc G n := by
 rw [rep_flat]
 unfold tabL
 congr 1
 refine (List.eq_replicate_iff.2 ⟨by simp, fun y hy => ?_⟩).symm
 obtain ⟨i, hi, rfl⟩ := List.mem_map.1 hy
 exact h i (List.mem_range.1 hi)
theorem tabL_set {α : Type} {enc : α -> List LV} {sz : Nat} (henc : ∀ x, (enc x).length = sz) (h0 : 0 < sz) {G G' : Nat -> α} {n k : Nat} (hk : k < n) (h : ∀ i, i < n -> i ≠ k -> G' i = G i) : setList (tabL enc G n) (k * sz) (enc (G' k)) = some (tabL enc G' n) := by
 unfold tabL
 rw [setList_flat henc h0 _ _ _ (by simpa using hk)]
 congr 2
 refine List.ext_getElem (by simp) fun i h1 h2 => ?_
 rw [List.getElem_set]
 by_cases he : k = i
 ·subst he; simp
 ·rw [if_neg he]
  simp only [List.getElem_map, List.getElem_range]
  exact (h i (by simpa using h2) (fun h => he h.symm)).symm
theorem tabL_rd {α : Type} {enc : α -> List LV} {sz : Nat} (henc : ∀ x, (enc x).length = sz) {G : Nat -> α} {n k : Nat} {M : Mem} {i : Nat} {own : Bool} {ty : TypeId} (ha : At M i (.cells own (tabL enc G n) ty)) (hk : k < n) : Rd M i (0 + k * sz) sz (enc (G k)) := by
 have := rd_flat (enc := enc) (l := (List.range n).map G) (sz := sz) ha (fun x _ => henc x) (k := k) (by simpa using hk)
 simpa using this
theorem tabL_congr {α : Type} {enc : α -> List LV} {G G' : Nat -> α} {n : Nat} (h : ∀ i, i < n -> G i = G' i) : tabL enc G n = tabL enc G' n := by
 unfold tabL
 congr 1
 exact List.map_congr_left fun i hi => h i (List.mem_range.1 hi)
abbrev rsc (r : Rst) : List LV := [I r.1, I r.2.1, I r.2.2]
theorem agF_no {s : List Int} {a b : Int} (h : okS s a b = false) : agF s a b = ([], 0, 84) := by unfold agF; rw [h]; rfl
theorem agF_yes {s : List Int} {a b : Int} (h : okS s a b = true) : agF s a b = (plan s a b 0, (bs s a b 0).1, 0) := by unfold agF; rw [h]; rfl
def tt (s : List Int) (a b : Int) (m j t : Nat) : Rst := if t + (m + 1) = s.length then pk s a b (tb s a b m) t j else tb s a b m t
theorem tb_low {s : List Int} {a b : Int} {t : Nat} : ∀ {m : Nat}, t + m < s.length -> tb s a b m t = (0, 0, 0)
 | 0, _ => rfl
 | m + 1, h => by
  show (if t + (m + 1) = s.length then _ else tb s a b m t) = _
  rw [if_neg (by omega)]
  exact tb_low (by omega)
theorem tt_0 {s : List Int} {a b : Int} {m t : Nat} : tt s a b m 0 t = tb s a b m t := by
 unfold tt
 split
 ·rename_i hc
  rw [tb_low (by omega)]; rfl
 ·rfl
theorem pk_s {s : List Int} {a b : Int} {G : Nat -> Rst} {i j : Nat} : pk s a b G i (j + 1) = if spn s i (i + j) <= b /\ (j = 0 ∨ a + spn s i (i + j) + (G (i + j + 1)).1 < (pk s a b G i j).1 ∨ (a + spn s i (i + j) + (G (i + j + 1)).1 = (pk s a b G i j).1 /\ 1 + (G (i + j + 1)).2.1 < (pk s a b G i j).2.1))
  then (a + spn s i (i + j) + (G (i + j + 1)).1, 1 + (G (i + j + 1)).2.1, i + j) else pk s a b G i j := rfl
set_option maxHeartbeats 16000000 in
theorem c_Again {M : Mem} {a : Option (Nat × Nat)} {s : List Int} {f : Bool} {e : Nat} {x y : Int} (hs : SlI M a s) (hl : s.length <= 1000000000000000) :
  CallOk Tryz.prog 30 [.slice a s.length f e, I x, I y] M (fun w M' => ∃ q, w = .tup [q, I (agF s x y).2.1, I (agF s x y).2.2] /\ PrV M' q (agF s x y).1 /\ Grow M M') := by
 refine call_in k30 rfl ?_
 dsimp only [x30, zipE, Nat.reduceAdd]
 have ca := fun M' (hg : Grow M M') => c_againOf (f := f) (e := e) (x := x) (y := y) (hs.grow hg) hl
 cases hok : okS s x y with
 | false =>
  rw [agF_no hok]
  rw [hok] at ca
  have ca : ∀ M', Grow M M' -> CallOk Tryz.prog 82 [.slice a s.length f e, I x, I y] M' (fun w M2 => w = .tup [.agg [.slice none 0 true 0, I 0, I 0], I 84] /\ Grow M' M2) := ca
  (repeat' (first | (with_reducible intro _) | refine sv ?_ | (refine sc ?_ ?_ <;> (intro h; try first | exact h.elim | exact absurd rfl h | (exfalso; omega))) | ((with_reducible first | apply x_pure | apply d_pure | apply d_pure0); exact gd; exact rfl; exact rfl; (first | exact ca _ (xg))) | (refine sg ?_ ?_ <;> (intro h; (fail_if_success (have : True := h)); try first | exact h.elim | exact absurd rfl h | (exfalso; omega))) | assumption | exact xm | exact rfl))
  ((with_reducible first | apply k_fun | apply k_fun_norm); exact rx)
  exact ⟨_, rfl, PrV.nil _, xg⟩
 | true =>
 rw [agF_yes hok]
 rw [hok] at ca
 have ca : ∀ M', Grow M M' -> CallOk Tryz.prog 82 [.slice a s.length f e, I x, I y] M' (fun w M2 => w = .tup [agV a s.length f e x y, I 0] /\ Grow M' M2) := ca
 have ok := okS_p hok
 have hL := ok.len
 (repeat' (first | (with_reducible intro _) | refine sv ?_ | (refine sc ?_ ?_ <;> (intro h; try first | exact h.elim | exact absurd rfl h | (exfalso; omega))) | ((with_reducible first | apply x_pure | apply d_pure | apply d_pure0); exact gd; exact rfl; exact rfl; (first | exact ca _ (xg))) | (refine sg ?_ ?_ <;> (intro h; (fail_if_success (have : True := h)); try first | exact h.elim | exact absurd rfl h | (exfalso; omega))) | assumption | exact xm | exact rfl))
 rename_i M1 hg1 hl1 n2 M2 hN2 q1 q2 M3 hU3 q3 hA3
 clear h ca
 have hg3 : Grow M M3 := xg
 refine xw_know (t := 29) (v' := I ((s.length + 1 : Nat) : Int)) rfl rfl ?_
 refine x_gen (by exact gd) (xs_mksl rfl rfl (Nat.le_refl _) (by omega) (by omega)) ?_
 have hN4 : New M3 M3.next (.cells true (rep (s.length + 1) [I 0, I 0, I 0]) 133) (M3.push (.cells true (rep (s.length + 1) [I 0, I 0, I 0]) 133)) := ⟨rfl, rfl⟩
 generalize hM4 : M3.push (.cells true (rep (s.length + 1) [I 0, I 0, I 0]) 133) = M4 at hN4 ⊢
 generalize hnb : M3.next = nb at hN4
 have e4 := hN4.next
 have hA4 := At.new_same hN4
 have hA2 := At.grow hN4.grow hA3
 have hg4 : Grow M M4 := hg3.trans hN4.grow
 have hnb0 : M.next <= nb := by have := hg3.le; omega
 have hs4 := hs.grow hg4
 clear hN2 hU3 hg1 hN4 hg3
 rw [show rep (s.length + 1) [I 0, I 0, I 0] = tabL rsc (tb s x y 0) (s.length + 1) from tabL_rep rsc _ _ (0, 0, 0) fun _ _ => rfl] at hA4
 refine xw_know (t := 30) (v' := .slice (some (nb, 0)) (s.length + 1) true 3) rfl (by simp) ?_
 (repeat' (first | (with_reducible intro _) | refine sv ?_ | (refine sc ?_ ?_ <;> (intro h; try first | exact h.elim | exact absurd rfl h | (exfalso; omega))) | (refine sg ?_ ?_ <;> (intro h; (fail_if_success (have : True := h)); try first | exact h.elim | exact absurd rfl h | (exfalso; omega))) | assumption | exact xm | exact rfl))
 have hne : n2 < nb := by omega
 have hT0 : M.next <= n2 := by omega
 refine w_loop_ind (fun z E ms M' => ∃ m : Nat, z = s.length - m /\ m <= s.length /\ ms = [] /\ Has E [(0, .slice a s.length f e), (6, .slice none 0 true 0), (9, .ptr (some (n2, 0))), (10, .slice (some (nb, 0)) (s.length + 1) true 3), (11, I ((s.length : Int) - 1 - m))] /\ Grow M M' /\ M4.next <= M'.next /\ At M' n2 (.cells true [.slice a s.length f e, I x, I y] 127) /\ At M' nb (.cells true (tabL rsc (tb s x y m) (s.length + 1)) 133))
  ?_ s.length _ _ _ ⟨0, by omega, by omega, rfl, .cons rfl (.cons rfl (.cons rfl (.cons rfl (.cons (by show some (LV.int .i64 _) = some (LV.int .i64 _); congr 2; omega) .nil)))), hg4, Nat.le_refl _, hA2, hA4⟩
 rintro z E ms M5 ⟨m, rfl, hm, rfl, hE, hg5, hle5, hB2, hB4⟩
 refine w_has hE ?_
 by_cases hlast : m = s.length
 ·subst hlast
  have hpl := plan_len ok s.length 0 (by omega)
  have hb0 := (tb_bd ok s.length 0).2.2
  have hpn : (plan s x y 0).length <= s.length := by
   have : ((plan s x y 0).length : Int) <= s.length := by rw [hpl]; exact hb0.2
   omega
  have hbs : tabL rsc (tb s x y s.length) (s.length + 1) = tabL rsc (bs s x y) (s.length + 1) := rfl
  rw [hbs] at hB4
  have hnM := hB4.2
  (repeat' (first | (with_reducible intro _) | refine sv ?_ | (refine sc ?_ ?_ <;> (intro h; try first | exact h.elim | exact absurd rfl h | (exfalso; omega))) | (refine sg ?_ ?_ <;> (intro h; (fail_if_success (have : True := h)); try first | exact h.elim | exact absurd rfl h | (exfalso; omega))) | assumption | exact xm | exact rfl))
  clear hE
  refine w_loop_ind (fun z E ms M' => ∃ (i : Nat) (v : LV) (pre : List (Int × Int)), z = s.length - i /\ i <= s.length /\ ms = [] /\ Has E [(0, .slice a s.length f e), (6, v), (10, .slice (some (nb, 0)) (s.length + 1) true 3), (16, I i)] /\ Grow M M' /\ M5.next <= M'.next /\ Vec M5.next 2 72 prc M' v pre /\ plan s x y 0 = pre ++ plan s x y i /\ At M' nb (.cells true (tabL rsc (bs s x y) (s.length + 1)) 133))
   ?_ s.length _ _ _ ⟨0, _, [], by omega, by omega, rfl, .cons rfl (.cons rfl (.cons rfl (.cons rfl .nil))), hg5, Nat.le_refl _, Vec.nil, rfl, hB4⟩
  rintro z E ms M6 ⟨i, v, pre, rfl, hi, rfl, hE, hg6, hle6, hv, hpre, hC4⟩
  refine w_has hE ?_
  by_cases hlast2 : i = s.length
  ·subst hlast2
   rw [plan_end (Nat.le_refl _), List.append_nil] at hpre
   have hr0 := tabL_rd (enc := rsc) (sz := 3) (fun _ => rfl) hC4 (k := 0) (by omega)
   have r0 : Rd1 M6 nb (0 + 0 * 3 + 0) (I (bs s x y 0).1) := hr0.nth rfl
   (have hrd0 := r0; repeat' (first | (with_reducible intro _) | refine sv ?_ | (refine sc ?_ ?_ <;> (intro h; try first | exact h.elim | exact absurd rfl h | (exfalso; omega))) | (refine sg ?_ ?_ <;> (intro h; (fail_if_success (have : True := h)); try first | exact h.elim | exact absurd rfl h | (exfalso; omega))) | assumption | exact xm | exact rfl))
   ((with_reducible first | apply k_fun | apply k_fun_norm); exact rx)
   exact ⟨_, rfl, by rw [hpre]; exact PrV.vec hv, hg6⟩
  have hlt : i < s.length := by omega
  have hs6 := hs.grow hg6
  have hto := bs_to ok i hlt
  have hpl2 := plan_at ok hlt
  obtain ⟨p, o, rfl, hr⟩ := hs6.rd hlt
  obtain ⟨p2, o2, he2, hr2⟩ := hs6.rd (k := (bs s x y i).2.2) hto.2
  obtain ⟨rfl, rfl⟩ : p2 = p /\ o2 = o := by injection he2 with q; injection q with q1 q2; exact ⟨q1.symm, q2.symm⟩
  rw [<- el_lt hlt] at hr
  rw [<- el_lt hto.2] at hr2
  have hr3 := tabL_rd (enc := rsc) (sz := 3) (fun _ => rfl) hC4 (k := i) (by omega)
  have r3 : Rd1 M6 nb (0 + i * 3 + 2) (I (bs s x y i).2.2) := hr3.nth rfl
  have hprl : pre.length <= 128 := by
   have := congrArg List.length hpre
   rw [List.length_append] at this
   omega
  rw [hpl2] at hpre
  generalize el s (bs s x y i).2.2 = T at *
  generalize el s i = t at *
  generalize (bs s x y i).2.2 = g at *
  (have hrd0 := hr; have hrd1 := hr2; have hrd2 := r3; repeat' (first | (with_reducible intro _) | refine sv ?_ | (refine sc ?_ ?_ <;> (intro h; try first | exact h.elim | exact absurd rfl h | (exfalso; omega))) | (refine sg ?_ ?_ <;> (intro h; (fail_if_success (have : True := h)); try first | exact h.elim | exact absurd rfl h | (exfalso; omega))) | assumption | exact xm | exact rfl))
  rename_i n9 M9 hn9 e9 e10
  have hp2 : p2 < M5.next := by
   obtain ⟨p3, o3, he3, hr9⟩ := hs.rd hlt
   obtain ⟨rfl, rfl⟩ : p3 = p2 /\ o3 = o2 := by injection he3 with q; injection q with q1 q2; exact ⟨q1.symm, q2.symm⟩
   have := hr9.2
   have := hg5.le
   omega
  have hv9 := hv.grow hn9.grow
  refine d_vec_app (by exact gd) (l' := [(t, T)]) hv9 rfl rfl rfl (by simp) (by rw [List.length_singleton]; omega) rfl (two_first (x := (t, T)) hn9) (fun _ => rfl) (fun _ => rfl) (by omega) ?_
  intro v' M10 hv10 e11 hk10
  have hg10 : Grow M M10 := Keep.to_grow' (hg6.trans hn9.grow) hk10 (fun i hi => by have := hi.1; have := hg5.le; omega)
  have hC10 : At M10 nb (.cells true (tabL rsc (bs s x y) (s.length + 1)) 133) := (At.new_old hn9 hC4).keep hk10 (fun hh => by have := hh.1; omega)
  have r10 : Rd1 M10 p2 (o2 + i * 1) (I t) := (hr.new_old hn9).keep hk10 (fun hh => by have := hh.1; omega)
  have r11 : Rd1 M10 p2 (o2 + g * 1) (I T) := (hr2.new_old hn9).keep hk10 (fun hh => by have := hh.1; omega)
  have r12 : Rd1 M10 nb (0 + i * 3 + 2) (I g) := (r3.new_old hn9).keep hk10 (fun hh => by have := hh.1; omega)
  (have hrd0 := r12; repeat' (first | (with_reducible intro _) | refine sv ?_ | (refine sc ?_ ?_ <;> (intro h; try first | exact h.elim | exact absurd rfl h | (exfalso; omega))) | (refine sg ?_ ?_ <;> (intro h; (fail_if_success (have : True := h)); try first | exact h.elim | exact absurd rfl h | (exfalso; omega))) | assumption | exact xm | exact rfl))
  exact k_step (s.length - (g + 1)) (by omega) ⟨g + 1, v', pre ++ [(t, T)], rfl, by omega, rfl, .cons rfl (.cons rfl (.cons rfl (.cons rfl .nil))), hg10, by omega, hv10, by rw [hpre, List.append_assoc]; rfl, hC10⟩
 obtain ⟨i, hi⟩ : ∃ i : Nat, s.length = i + (m + 1) := ⟨s.length - (m + 1), by omega⟩
 have hii : (s.length : Int) - 1 - m = (i : Int) := by omega
 rw [hii]
 (repeat' (first | (with_reducible intro _) | refine sv ?_ | (refine sc ?_ ?_ <;> (intro h; try first | exact h.elim | exact absurd rfl h | (exfalso; omega))) | (refine sg ?_ ?_ <;> (intro h; (fail_if_success (have : True := h)); try first | exact h.elim | exact absurd rfl h | (exfalso; omega))) | assumption | exact xm | exact rfl))
 clear hE
 refine w_loop_ind (fun z E ms M' => ∃ j : Nat, z = s.length - (i + j) /\ i + j <= s.length /\ ms = [] /\ Has E [(0, .slice a s.length f e), (6, .slice none 0 true 0), (9, .ptr (some (n2, 0))), (10, .slice (some (nb, 0)) (s.length + 1) true 3), (11, I i), (12, I ((i + j : Nat) : Int))] /\ Grow M M' /\ M4.next <= M'.next /\ At M' n2 (.cells true [.slice a s.length f e, I x, I y] 127) /\ At M' nb (.cells true (tabL rsc (tt s x y m j) (s.length + 1)) 133))
  ?_ (s.length - i) _ _ _ ⟨0, by omega, by omega, rfl, .cons rfl (.cons rfl (.cons rfl (.cons rfl (.cons rfl (.cons rfl .nil))))), hg5, hle5, hB2, by rw [show tabL rsc (tt s x y m 0) (s.length + 1) = tabL rsc (tb s x y m) (s.length + 1) from tabL_congr fun t _ => tt_0]; exact hB4⟩
 rintro z E ms M6 ⟨j, rfl, hj, rfl, hE, hg6, hle6, hC2, hC4⟩
 refine w_has hE ?_
 by_cases hlast2 : i + j = s.length
 ·obtain rfl : j = m + 1 := by omega
  (repeat' (first | (with_reducible intro _) | refine sv ?_ | (refine sc ?_ ?_ <;> (intro h; try first | exact h.elim | exact absurd rfl h | (exfalso; omega))) | (refine sg ?_ ?_ <;> (intro h; (fail_if_success (have : True := h)); try first | exact h.elim | exact absurd rfl h | (exfalso; omega))) | assumption | exact xm | exact rfl))
  exact k_step (s.length - (m + 1)) (by omega) ⟨m + 1, rfl, by omega, rfl, .cons rfl (.cons rfl (.cons rfl (.cons rfl (.cons (by show some (LV.int .i64 _) = some (LV.int .i64 _); congr 2; omega) .nil)))), hg6, hle6, hC2, hC4⟩
 have hlt : i + j < s.length := by omega
 have hs6 := hs.grow hg6
 have cp := c_pass (f := f) (e := e) hs6 ok (i := i) (k := i + j) (by omega) hlt
 have hsp := ok.spn (i := i) (k := i + j) (by omega) hlt
 have ha0 := ok.a0
 have hb0 := ok.b0
 have hr1 := tabL_rd (enc := rsc) (sz := 3) (fun _ => rfl) hC4 (k := i + j + 1) (by omega)
 have hr2 := tabL_rd (enc := rsc) (sz := 3) (fun _ => rfl) hC4 (k := i) (by omega)
 have ht1 : tt s x y m j (i + j + 1) = tb s x y m (i + j + 1) := by unfold tt; rw [if_neg (by omega)]
 have ht2 : tt s x y m j i = pk s x y (tb s x y m) i j := by unfold tt; rw [if_pos hi.symm]
 have hpk := pk_s (s := s) (a := x) (b := y) (G := tb s x y m) (i := i) (j := j)
 have hset : ∀ {X : Rst}, pk s x y (tb s x y m) i (j + 1) = X -> setList (tabL rsc (tt s x y m j) (s.length + 1)) (i * 3) (rsc X) = some (tabL rsc (tt s x y m (j + 1)) (s.length + 1)) := fun {X} hX => by
  have := tabL_set (enc := rsc) (sz := 3) (G := tt s x y m j) (G' := tt s x y m (j + 1)) (n := s.length + 1) (k := i) (fun _ => rfl) (by omega) (by omega) (fun t _ ht => by unfold tt; rw [if_neg (by omega), if_neg (by omega)])
  rw [show tt s x y m (j + 1) i = X from by unfold tt; rw [if_pos hi.symm]; exact hX] at this
  exact this
 have hkeep : pk s x y (tb s x y m) i (j + 1) = pk s x y (tb s x y m) i j -> tabL rsc (tt s x y m (j + 1)) (s.length + 1) = tabL rsc (tt s x y m j) (s.length + 1) := fun hX => tabL_congr fun t _ => by
  unfold tt
  split
  ·rename_i hc
   obtain rfl : t = i := by omega
   exact hX
  ·rfl
 have hfar := pk_far (a := x) (G := tb s x y m) (i := i) (k := j) (n := m + 1) ok
 have hb1 := tb_bd ok m (i + j + 1)
 have hb2 := pk_bd (i := i) ok (tb_bd ok m) (n := j) (by omega)
 rw [ht1] at hr1
 rw [ht2] at hr2
 generalize pk s x y (tb s x y m) i (j + 1) = Q at *
 generalize pk s x y (tb s x y m) i j = P at *
 generalize tb s x y m (i + j + 1) = V at *
 generalize spn s i (i + j) = Sp at *
 obtain ⟨V1, V2, V3⟩ := V
 obtain ⟨P1, P2, P3⟩ := P
 have hk1 : (((i + j : Nat) : Int) + 1).toNat = i + j + 1 := by omega
 rw [<- hk1] at hr1
 dsimp only [rsc] at hr1 hr2 hb1 hb2 hpk
 have r10 : Rd1 M6 nb (0 + (((i + j : Nat) : Int) + 1).toNat * 3 + 0) (I V1) := hr1.nth rfl
 have r11 : Rd1 M6 nb (0 + (((i + j : Nat) : Int) + 1).toNat * 3 + 1) (I V2) := hr1.nth rfl
 have r20 : Rd1 M6 nb (0 + i * 3 + 0) (I P1) := hr2.nth rfl
 have r21 : Rd1 M6 nb (0 + i * 3 + 1) (I P2) := hr2.nth rfl
 (have hrd0 := r10; have hrd1 := r11; have hrd2 := r20; have hrd3 := r21; repeat' (first | (with_reducible intro _) | refine sv ?_ | (refine sc ?_ ?_ <;> (intro h; try first | exact h.elim | exact absurd rfl h | (exfalso; omega))) | ((with_reducible first | apply x_pure | apply d_pure | apply d_pure0); exact gd; exact rfl; exact rfl; (first | exact cp)) | (refine sg ?_ ?_ <;> (intro h; (fail_if_success (have : True := h)); try first | exact h.elim | exact absurd rfl h | (exfalso; omega))) | assumption | exact xm | exact rfl))
 ·refine k_step (s.length - (m + 1)) (by omega) ⟨m + 1, rfl, by omega, rfl, .cons rfl (.cons rfl (.cons rfl (.cons rfl (.cons (by show some (LV.int .i64 _) = some (LV.int .i64 _); congr 2; omega) .nil)))), xg, by omega, xm, ?_⟩
  rw [show tabL rsc (tb s x y (m + 1)) (s.length + 1) = tabL rsc (tt s x y m j) (s.length + 1) from tabL_congr fun t _ => by
   by_cases ht : t = i
   ·subst ht
    rw [ht2, <- hfar (by omega) (by omega) (by omega)]
    show (if t + (m + 1) = s.length then _ else _) = _
    rw [if_pos hi.symm]
   ·show (if t + (m + 1) = s.length then _ else _) = (if t + (m + 1) = s.length then _ else _)
    rw [if_neg (by omega), if_neg (by omega)]]
  exact xm
 ·refine x_st (by exact gd) rfl rfl (show At _ nb _ from xm) rfl rfl (cs' := tabL rsc (tt s x y m (j + 1)) (s.length + 1)) (by rw [Nat.zero_add]; exact hset (X := (x + Sp + V1, 1 + V2, i + j)) (by rw [hpk]; exact if_pos ⟨by omega, by omega⟩)) ?_
  intro M9 hu9 e9 a9
  (repeat' (first | (with_reducible intro _) | refine sv ?_ | (refine sc ?_ ?_ <;> (intro h; try first | exact h.elim | exact absurd rfl h | (exfalso; omega))) | (refine sg ?_ ?_ <;> (intro h; (fail_if_success (have : True := h)); try first | exact h.elim | exact absurd rfl h | (exfalso; omega))) | assumption | exact xm | exact rfl))
  exact k_step (s.length - (i + (j + 1))) (by omega) ⟨j + 1, rfl, by omega, rfl, .cons rfl (.cons rfl (.cons rfl (.cons rfl (.cons rfl (.cons rfl .nil))))), xg, by omega, xm, a9⟩
 ·refine x_st (by exact gd) rfl rfl (show At _ nb _ from xm) rfl rfl (cs' := tabL rsc (tt s x y m (j + 1)) (s.length + 1)) (by rw [Nat.zero_add]; exact hset (X := (x + Sp + V1, 1 + V2, i + j)) (by rw [hpk]; exact if_pos ⟨by omega, by omega⟩)) ?_
  intro M9 hu9 e9 a9
  (repeat' (first | (with_reducible intro _) | refine sv ?_ | (refine sc ?_ ?_ <;> (intro h; try first | exact h.elim | exact absurd rfl h | (exfalso; omega))) | (refine sg ?_ ?_ <;> (intro h; (fail_if_success (have : True := h)); try first | exact h.elim | exact absurd rfl h | (exfalso; omega))) | assumption | exact xm | exact rfl))
  exact k_step (s.length - (i + (j + 1))) (by omega) ⟨j + 1, rfl, by omega, rfl, .cons rfl (.cons rfl (.cons rfl (.cons rfl (.cons rfl (.cons rfl .nil))))), xg, by omega, xm, a9⟩
 ·refine x_st (by exact gd) rfl rfl (show At _ nb _ from xm) rfl rfl (cs' := tabL rsc (tt s x y m (j + 1)) (s.length + 1)) (by rw [Nat.zero_add]; exact hset (X := (x + Sp + V1, 1 + V2, i + j)) (by rw [hpk]; exact if_pos ⟨by omega, by omega⟩)) ?_
  intro M9 hu9 e9 a9
  (repeat' (first | (with_reducible intro _) | refine sv ?_ | (refine sc ?_ ?_ <;> (intro h; try first | exact h.elim | exact absurd rfl h | (exfalso; omega))) | (refine sg ?_ ?_ <;> (intro h; (fail_if_success (have : True := h)); try first | exact h.elim | exact absurd rfl h | (exfalso; omega))) | assumption | exact xm | exact rfl))
  exact k_step (s.length - (i + (j + 1))) (by omega) ⟨j + 1, rfl, by omega, rfl, .cons rfl (.cons rfl (.cons rfl (.cons rfl (.cons rfl (.cons rfl .nil))))), xg, by omega, xm, a9⟩
 ·refine k_step (s.length - (i + (j + 1))) (by omega) ⟨j + 1, rfl, by omega, rfl, .cons rfl (.cons rfl (.cons rfl (.cons rfl (.cons rfl (.cons rfl .nil))))), xg, by omega, xm, ?_⟩
  rw [hkeep (by rw [hpk]; exact if_neg (fun hc => by omega))]
  exact xm
 ·refine k_step (s.length - (i + (j + 1))) (by omega) ⟨j + 1, rfl, by omega, rfl, .cons rfl (.cons rfl (.cons rfl (.cons rfl (.cons rfl (.cons rfl .nil))))), xg, by omega, xm, ?_⟩
  rw [hkeep (by rw [hpk]; exact if_neg (fun hc => by omega))]
  exact xm
theorem eqV_pair (a b c d : Int) : eqV Tryz.prog 72 (.agg [I a, I b]) (.agg [I c, I d]) = some (decide (a = c) && decide (b = d)) :=
 eqV_2int (e := 3) (by kernel_rfl) (by kernel_rfl) (by kernel_rfl) (by kernel_rfl) (by kernel_rfl) a b c d
theorem xs_nepair {E : Env} {M : Mem} {x y : XO} {a b c d : Int} (hx : xval E x = some (.agg [I a, I b])) (hy : xval E y = some (.agg [I c, I d])) : xstep Tryz.prog (.eqg true 72 x y) E M = some (.val (.bool (!(decide (a = c) && decide (b = d)))) M) := by
 show ob (xval E x) _ = _
 rw [hx, ob_some, hy, ob_some]
 show guard' true (ob (eqV Tryz.prog 72 _ _) _) = _
 rw [eqV_pair, guard'_true, ob_some]
 cases (decide (a = c) && decide (b = d)) <;> rfl
set_option maxHeartbeats 4000000 in
theorem c_better {M : Mem} {pq bq : LV} {lp lb : List (Int × Int)} {c d : Int} {ib : Bool} (hp : PrV M pq lp) (hb : PrV M bq lb) (hl : lp.length <= 1000000)
  (hf : ib = true -> ∃ u T T' lp' lb', lp = (u, T) :: lp' /\ lb = (u, T') :: lb' /\ T' < T) :
  CallOk Tryz.prog 95 [.agg [pq, I c, .bool true], .agg [bq, I d, .bool ib]] M (fun w M' => w = .bool (!ib || (decide (c < d) || (decide (c = d) && decide (lp.length < lb.length)))) /\ Grow M M') := by
 obtain ⟨a, f, e, rfl, hp⟩ := hp
 obtain ⟨a2, f2, e2, rfl, hb⟩ := hb
 refine call_in k95 rfl ?_
 dsimp only [x95, zipE, Nat.reduceAdd]
 cases ib with
 | false =>
  (repeat' (first | (with_reducible intro _) | refine sv ?_ | (refine sc ?_ ?_ <;> (intro h; try first | exact h.elim | exact absurd rfl h | (exfalso; omega))) | (refine sg ?_ ?_ <;> (intro h; (fail_if_success (have : True := h)); try first | exact h.elim | exact absurd rfl h | (exfalso; omega))) | assumption | exact xm | exact rfl))
  ((with_reducible first | apply k_fun | apply k_fun_norm); exact rx)
  exact ⟨rfl, xg⟩
 | true =>
 obtain ⟨u, T, T', lp', lb', rfl, rfl, hT⟩ := hf rfl
 obtain ⟨i, o, rfl, hr⟩ := hp.rd (k := 0) (by simp)
 obtain ⟨i2, o2, rfl, hr2⟩ := hb.rd (k := 0) (by simp)
 dsimp only [List.getElem_cons_zero] at hr hr2
 have hn1 : 0 < ((u, T) :: lp').length := Nat.succ_pos _
 have hn2 : 0 < ((u, T') :: lb').length := Nat.succ_pos _
 clear hp hb hf
 generalize ((u, T) :: lp').length = n1 at *
 generalize ((u, T') :: lb').length = n2 at *
 (have hrd0 := hr; have hrd1 := hr2; repeat' (first | (with_reducible intro _) | refine sv ?_ | (refine sc ?_ ?_ <;> (intro h; try first | exact h.elim | exact absurd rfl h | (exfalso; omega))) | (refine sg ?_ ?_ <;> (intro h; (fail_if_success (have : True := h)); try first | exact h.elim | exact absurd rfl h | (exfalso; omega))) | assumption | exact xm | exact rfl))
 ·((with_reducible first | apply k_fun | apply k_fun_norm); exact rx)
  refine ⟨?_, xg⟩
  show LV.bool _ = LV.bool _
  rw [decide_eq_false h]
  simp
 ·rename_i hcd
  subst hcd
  ((with_reducible first | apply k_fun | apply k_fun_norm); exact rx)
  refine ⟨?_, xg⟩
  show LV.bool _ = LV.bool _
  simp
 ·rename_i m1 M1 hN1 q1 q2 m2 M2 hN2 q3 q4 hcd
  subst hcd
  have hg2 : Grow M M2 := xg
  have h1 : At M2 m1 (.cells true [.slice (some (i, o)) n1 f e, I c, .bool true] 145) := xm
  have h2 : At M2 m2 (.cells true [.slice (some (i2, o2)) n2 f2 e2, I c, .bool true] 145) := xm
  refine w_loop_ind (fun z E ms M' => ms = [] /\ Has E [(2, .ptr (some (m1, 0))), (3, .ptr (some (m2, 0))), (5, I 0)] /\ M' = M2)
   ?_ 0 _ _ _ ⟨rfl, .cons rfl (.cons rfl (.cons rfl .nil)), rfl⟩
  rintro z E ms M3 ⟨rfl, hE, rfl⟩
  refine w_has hE ?_
  have hr3 := hr.grow hg2
  have hr4 := hr2.grow hg2
  (have hrd0 := hr3; have hrd1 := hr4; repeat' (first | (with_reducible intro _) | refine sv ?_ | (refine sc ?_ ?_ <;> (intro h; try first | exact h.elim | exact absurd rfl h | (exfalso; omega))) | (refine sg ?_ ?_ <;> (intro h; (fail_if_success (have : True := h)); try first | exact h.elim | exact absurd rfl h | (exfalso; omega))) | assumption | exact xm | exact rfl))
  refine d_val (by exact gd) (xs_nepair rfl rfl) ?_
  have hTT : (!(decide (u = u) && decide (T = T'))) = true := by rw [decide_eq_false (show ¬ T = T' by omega)]; simp
  rw [hTT]
  have s1 : Rd1 M3 i (o + 0 * 2 + Int.toNat 0 * 1) (I u) := hr3.nth rfl
  have s2 : Rd1 M3 i (o + 0 * 2 + Int.toNat 1 * 1) (I T) := hr3.nth rfl
  have s3 : Rd1 M3 i2 (o2 + 0 * 2 + Int.toNat 0 * 1) (I u) := hr4.nth rfl
  have s4 : Rd1 M3 i2 (o2 + 0 * 2 + Int.toNat 1 * 1) (I T') := hr4.nth rfl
  (have hrd0 := s1; have hrd1 := s2; have hrd2 := s3; have hrd3 := s4; repeat' (first | (with_reducible intro _) | refine sv ?_ | (refine sc ?_ ?_ <;> (intro h; try first | exact h.elim | exact absurd rfl h | (exfalso; omega))) | (refine sg ?_ ?_ <;> (intro h; (fail_if_success (have : True := h)); try first | exact h.elim | exact absurd rfl h | (exfalso; omega))) | assumption | exact xm | exact rfl))
  all_goals try (exfalso; omega)
  ((with_reducible first | apply k_fun | apply k_fun_norm); exact rx)
  refine ⟨?_, xg⟩
  show LV.bool _ = LV.bool _
  have hnn : n1 = n2 := by omega
  subst hnn
  rw [decide_eq_false (show ¬ T < T' by omega)]
  simp
end Go.Proofs.YtlfkmgpngkbhpaaGreatDoor.C
end
section
open Go PvL Go.Proofs
set_option linter.unusedVariables false
set_option linter.unusedSimpArgs false
namespace Go.Proofs.YtlfkmgpngkbhpaaGreatDoor.C
section
variable {α : Type} {b q : Nat} {ty : TypeId} {enc : α -> List LV} {M : Mem} {v : LV} {l l' : List α} {P : Program} [Orc P] {sz : Nat} {E : Env} {K : Env -> Mem -> Prop} {ll : List XG} {d : Nat} {g : Option (Nat × Bool)} {s x : XO} {st : List Mem} {k : Nat} {xs : List (Nat × Nat × (Mem -> Prop))} {ld : List (XG × XK)} {by' : Nat} {z : List LV} {xv : LV}
theorem d_vec_app0 (hg : GOn E g) (hv : Vec b q ty enc M v l) (hs : xval E s = some v) (hx : xval E x = some xv) (hn : lenOfL xv = some l'.length) (hb : (2 * (l.length + l'.length) + 2048) * by' <= 140737488355328) (hz : (Nat.ble 1 q && (Nat.ble 1 by' && Nat.beq z.length q)) = true) (hw : 0 < l'.length -> firstL q l'.length xv M = some (l'.flatMap enc))
  (henc : ∀ x, (enc x).length = q) (hfl : ∀ x, allFlat (enc x) = true) (hbM : b <= M.next) (hk : ∀ v' M', Vec b q ty enc M' v' (l ++ l') -> M.next <= M'.next -> Keep (fun i => b <= i /\ ∃ o n f e, v = .slice (some (i, o)) n f e) M M' -> XD P sz ld ((d, v') :: E) M' (M' :: st) (k + 1) xs K) : XD P sz ((⟨some d, .app ty q by' z s x, g⟩, .anchor) :: ld) E M st k xs K := by
 rcases Nat.eq_zero_or_pos l'.length with h0 | h0
 ·obtain rfl : l' = [] := List.length_eq_zero_iff.1 h0
  obtain ⟨a, f, e, hsh⟩ := hv.shape
  have h1 := hk v M (by rw [List.append_nil]; exact hv) (Nat.le_refl _) (Keep.refl _ _)
  rw [hsh] at hs h1
  exact d_anch hg (xs_app_nop hs hx hn) h1
 ·exact d_vec_app hg hv hs hx hn h0 hb hz (hw h0) henc hfl hbM fun v' M' h1 h2 h3 => hk v' M' h1 (by omega) h3
end
theorem prv_first {M : Mem} {v : LV} {L : List (Int × Int)} (h : PrV M v L) (h0 : 0 < L.length) : firstL 2 L.length v M = some (L.flatMap prc) := by
 obtain ⟨a, f, e, rfl, hs⟩ := h
 rcases hs with rfl | ⟨i, o, rfl, hr⟩
 ·exact absurd h0 (Nat.lt_irrefl _)
 ·exact firstL_rd (fun _ _ => rfl) hr
abbrev PlE := LV × Int × Bool
abbrev plc (r : PlE) : List LV := [r.1, I r.2.1, .bool r.2.2]
abbrev nil0 : LV := .slice none 0 true 0
def ps (s : List Int) (a b : Int) (Q : Nat -> LV) (m t : Nat) : PlE := (Q t, (tb s a b m t).1, decide (s.length <= t + m))
def blL (s : List Int) (a b : Int) (r : Rst) (i j : Nat) : List (Int × Int) := if j = 0 then [] else (el s i, el s r.2.2) :: plan s a b (r.2.2 + 1)
theorem tb_up {s : List Int} {a b : Int} {m t : Nat} (h : s.length <= t + m) (hm : m <= s.length) : tb s a b m t = bs s a b t := tb_bs h hm
theorem ps_0 {s : List Int} {a b : Int} : tabL plc (ps s a b (fun _ => nil0) 0) (s.length + 1) = tabL plc (fun t => (nil0, 0, decide (s.length = t))) (s.length + 1) := tabL_congr fun t ht => by
 unfold ps
 show (nil0, (0 : Int), decide (s.length <= t + 0)) = _
 rw [show decide (s.length <= t + 0) = decide (s.length = t) from decide_eq_decide.2 (by omega)]
theorem ps_up {s : List Int} {a b : Int} {Q : Nat -> LV} {m i : Nat} (hi : s.length = i + (m + 1)) (bq : LV) (r : Rst) (hr : tb s a b (m + 1) i = r) : setList (tabL plc (ps s a b Q m) (s.length + 1)) (i * 3) (plc (bq, r.1, true)) = some (tabL plc (ps s a b (fun t => if t = i then bq else Q t) (m + 1)) (s.length + 1)) := by
 have := tabL_set (enc := plc) (sz := 3) (G := ps s a b Q m) (G' := ps s a b (fun t => if t = i then bq else Q t) (m + 1)) (n := s.length + 1) (k := i) (fun _ => rfl) (by omega) (by omega) (fun t _ ht => by
  unfold ps
  dsimp only
  rw [if_neg ht, show tb s a b (m + 1) t = tb s a b m t from if_neg (by omega), show decide (s.length <= t + (m + 1)) = decide (s.length <= t + m) from decide_eq_decide.2 (by omega)])
 rw [show ps s a b (fun t => if t = i then bq else Q t) (m + 1) i = (bq, r.1, true) from by
  unfold ps
  dsimp only
  rw [if_pos rfl, hr, decide_eq_true (by omega)]] at this
 exact this
theorem blL_plan {s : List Int} {a b : Int} (ok : OkS s a b) {m i j : Nat} (hi : s.length = i + (m + 1)) (h0 : 0 < j) (hr : tb s a b (m + 1) i = pk s a b (tb s a b m) i j) : blL s a b (pk s a b (tb s a b m) i j) i j = plan s a b i := by
 unfold blL
 rw [if_neg (by omega), plan_at ok (i := i) (by omega), <- tb_up (m := m + 1) (t := i) (by omega) (by omega), hr]
theorem blL_len {s : List Int} {a b : Int} (ok : OkS s a b) {m i j : Nat} (hi : s.length = i + (m + 1)) (hj : i + j <= s.length) : ((blL s a b (pk s a b (tb s a b m) i j) i j).length : Int) = (pk s a b (tb s a b m) i j).2.1 := by
 by_cases h0 : j = 0
 ·subst h0; rfl
 ·obtain ⟨j', h1, h2, h3⟩ := pk_at (s := s) (a := a) (b := b) (G := tb s a b m) (i := i) (by rw [spn_self]; exact ok.b0.1) (n := j) (by omega)
  unfold blL
  rw [if_neg h0, h3, List.length_cons]
  have := plan_len ok s.length (i + j' + 1) (by omega)
  rw [<- tb_up (m := m) (t := i + j' + 1) (by omega) (by omega)] at this
  dsimp only
  omega
theorem blL_first {s : List Int} {a b : Int} (ok : OkS s a b) {m i j : Nat} (hi : s.length = i + (m + 1)) (hj : i + j < s.length) (h0 : 0 < j) : ∃ T' lb', blL s a b (pk s a b (tb s a b m) i j) i j = (el s i, T') :: lb' /\ T' < el s (i + j) := by
 obtain ⟨j', h1, h2, h3⟩ := pk_at (s := s) (a := a) (b := b) (G := tb s a b m) (i := i) (by rw [spn_self]; exact ok.b0.1) (n := j) h0
 unfold blL
 rw [if_neg (by omega), h3]
 exact ⟨_, _, rfl, ok.lt (by dsimp only; omega) hj⟩
end Go.Proofs.YtlfkmgpngkbhpaaGreatDoor.C
end
section
open Go PvL Go.Proofs
set_option linter.unusedSimpArgs false
set_option linter.unusedVariables false
namespace Go.Proofs.YtlfkmgpngkbhpaaGreatDoor.C
def PrB (b : Nat) (M : Mem) (v : LV) (L : List (Int × Int)) : Prop := ∃ a f e, v = .slice a L.length f e /\ (L = [] ∨ ∃ i o, a = some (i, o) /\ b <= i /\ ∀ k (hk : k < L.length), Rd M i (o + k * 2) 2 (prc L[k]))
theorem PrB.pr {b : Nat} {M : Mem} {v : LV} {L : List (Int × Int)} (h : PrB b M v L) : PrV M v L := by
 obtain ⟨a, f, e, h1, h2⟩ := h
 exact ⟨a, f, e, h1, h2.imp id fun ⟨i, o, h3, _, h4⟩ => ⟨i, o, h3, h4⟩⟩
theorem PrB.nil (b : Nat) (M : Mem) : PrB b M nil0 [] := ⟨none, true, 0, rfl, .inl rfl⟩
theorem PrB.grow {b : Nat} {M M' : Mem} {v : LV} {L : List (Int × Int)} (h : PrB b M v L) (hg : Grow M M') : PrB b M' v L := by
 obtain ⟨a, f, e, h1, h2⟩ := h
 exact ⟨a, f, e, h1, h2.imp id fun ⟨i, o, h3, h4, h5⟩ => ⟨i, o, h3, h4, fun k hk => (h5 k hk).grow hg⟩⟩
theorem PrB.upd {b i0 : Nat} {lb : LB} {M M' : Mem} {v : LV} {L : List (Int × Int)} (h : PrB b M v L) (hu : Upd M i0 lb M') (hi : i0 < b) : PrB b M' v L := by
 obtain ⟨a, f, e, h1, h2⟩ := h
 exact ⟨a, f, e, h1, h2.imp id fun ⟨i, o, h3, h4, h5⟩ => ⟨i, o, h3, h4, fun k hk => (h5 k hk).upd_ne hu (by omega)⟩⟩
theorem PrB.weaken {b b' : Nat} {M : Mem} {v : LV} {L : List (Int × Int)} (h : PrB b M v L) (hb : b' <= b) : PrB b' M v L := by
 obtain ⟨a, f, e, h1, h2⟩ := h
 exact ⟨a, f, e, h1, h2.imp id fun ⟨i, o, h3, h4, h5⟩ => ⟨i, o, h3, by omega, h5⟩⟩
theorem PrB.vec {b : Nat} {ty : TypeId} {M : Mem} {v : LV} {L : List (Int × Int)} (h : Vec b 2 ty prc M v L) : PrB b M v L := by
 rcases h with ⟨rfl, rfl⟩ | ⟨i, rfl, h2, h3⟩
 ·exact PrB.nil _ _
 ·exact ⟨_, _, _, rfl, .inr ⟨i, 0, rfl, h3, fun k hk => rd_flat (enc := prc) h2 (fun _ _ => rfl) hk⟩⟩
set_option maxHeartbeats 16000000 in
theorem c_AgainR {M : Mem} {a : Option (Nat × Nat)} {s : List Int} {f : Bool} {e : Nat} {x y : Int} (hs : SlI M a s) (hl : s.length <= 1000000000000000) :
  CallOk Tryz.prog 52 [.slice a s.length f e, I x, I y] M (fun w M' => ∃ q, w = .tup [q, I (agF s x y).2.1, I (agF s x y).2.2] /\ PrV M' q (agF s x y).1 /\ Grow M M') := by
 refine call_in k52 rfl ?_
 dsimp only [x52, zipE, Nat.reduceAdd]
 have ca := fun M' (hg : Grow M M') => c_poorR (f := f) (e := e) (x := x) (y := y) (hs.grow hg) hl
 cases hok : okS s x y with
 | false =>
  rw [agF_no hok]
  rw [hok] at ca
  (repeat' (first | (with_reducible intro _) | refine sv ?_ | (refine sc ?_ ?_ <;> (intro h; try first | exact h.elim | exact absurd rfl h | (exfalso; omega))) | ((with_reducible first | apply x_same | apply d_same | apply d_same0); exact gd; exact rfl; exact rfl; (first | exact ca _ (xg))) | (refine sg ?_ ?_ <;> (intro h; (fail_if_success (have : True := h)); try first | exact h.elim | exact absurd rfl h | (exfalso; omega))) | assumption | exact xm | exact rfl))
  ((with_reducible first | apply k_fun | apply k_fun_norm); exact rx)
  exact ⟨_, rfl, PrV.nil _, xg⟩
 | true =>
 rw [agF_yes hok]
 rw [hok] at ca
 have ok := okS_p hok
 have hL := ok.len
 have ha0 := ok.a0
 have hb0 := ok.b0
 (repeat' (first | (with_reducible intro _) | refine sv ?_ | (refine sc ?_ ?_ <;> (intro h; try first | exact h.elim | exact absurd rfl h | (exfalso; omega))) | ((with_reducible first | apply x_same | apply d_same | apply d_same0); exact gd; exact rfl; exact rfl; (first | exact ca _ (xg))) | (refine sg ?_ ?_ <;> (intro h; (fail_if_success (have : True := h)); try first | exact h.elim | exact absurd rfl h | (exfalso; omega))) | assumption | exact xm | exact rfl))
 clear h ca
 refine xw_know (t := 22) (v' := I ((s.length + 1 : Nat) : Int)) rfl rfl ?_
 refine x_gen (by exact gd) (xs_mksl rfl rfl (Nat.le_refl _) (by omega) (by omega)) ?_
 have hN4 : New M M.next (.cells true (rep (s.length + 1) [nil0, I 0, .bool false]) 145) (M.push (.cells true (rep (s.length + 1) [nil0, I 0, .bool false]) 145)) := ⟨rfl, rfl⟩
 generalize hM4 : M.push (.cells true (rep (s.length + 1) [nil0, I 0, .bool false]) 145) = M4 at hN4 ⊢
 generalize hnb : M.next = nb at hN4
 have e4 := hN4.next
 have hA4 := At.new_same hN4
 have hg4 : Grow M M4 := hN4.grow
 have hnb0 : M.next <= nb := by omega
 clear hN4
 rw [show rep (s.length + 1) [nil0, I 0, .bool false] = tabL plc (fun _ => (nil0, 0, false)) (s.length + 1) from tabL_rep plc _ _ (nil0, 0, false) fun _ _ => rfl] at hA4
 refine xw_know (t := 23) (v' := .slice (some (nb, 0)) (s.length + 1) true 3) rfl (by simp [hnb]) ?_
 (repeat' (first | (with_reducible intro _) | refine sv ?_ | (refine sc ?_ ?_ <;> (intro h; try first | exact h.elim | exact absurd rfl h | (exfalso; omega))) | (refine sg ?_ ?_ <;> (intro h; (fail_if_success (have : True := h)); try first | exact h.elim | exact absurd rfl h | (exfalso; omega))) | assumption | exact xm | exact rfl))
 have hset0 := tabL_set (enc := plc) (sz := 3) (G := fun _ => (nil0, 0, false)) (G' := fun t => (nil0, 0, decide (s.length = t))) (n := s.length + 1) (k := s.length) (fun _ => rfl) (by omega) (by omega) (fun t _ ht => by rw [decide_eq_false (by omega)])
 rw [<- ps_0 (a := x) (b := y), decide_eq_true rfl] at hset0
 refine x_st (by exact gd) rfl rfl hA4 rfl rfl (by rw [Nat.zero_add]; exact hset0) ?_
 intro M5 hu5 e5 hA5
 have hg5 : Grow M M5 := xg
 clear hu5 hg4 hA4
 (repeat' (first | (with_reducible intro _) | refine sv ?_ | (refine sc ?_ ?_ <;> (intro h; try first | exact h.elim | exact absurd rfl h | (exfalso; omega))) | (refine sg ?_ ?_ <;> (intro h; (fail_if_success (have : True := h)); try first | exact h.elim | exact absurd rfl h | (exfalso; omega))) | assumption | exact xm | exact rfl))
 refine w_loop_ind (fun z E ms M' => ∃ (m : Nat) (Q : Nat -> LV), z = s.length - m /\ m <= s.length /\ ms = [] /\ Has E [(0, .slice a s.length f e), (1, I x), (2, I y), (9, .slice (some (nb, 0)) (s.length + 1) true 3), (10, I ((s.length : Int) - 1 - m))] /\ Grow M M' /\ M5.next <= M'.next /\ At M' nb (.cells true (tabL plc (ps s x y Q m) (s.length + 1)) 145) /\ (∀ t, s.length <= t + m -> PrB M5.next M' (Q t) (plan s x y t)))
  ?_ s.length _ _ _ ⟨0, fun _ => nil0, by omega, by omega, rfl, .cons rfl (.cons rfl (.cons rfl (.cons rfl (.cons (by show some (LV.int .i64 _) = some (LV.int .i64 _); congr 2; omega) .nil)))), hg5, Nat.le_refl _, hA5, fun t ht => by rw [plan_end (by omega)]; exact PrB.nil _ _⟩
 rintro z E ms M6 ⟨m, Q, rfl, hm, rfl, hE, hg6, hle6, hB, hQ⟩
 refine w_has hE ?_
 by_cases hlast : m = s.length
 ·subst hlast
  have hr0 := tabL_rd (enc := plc) (sz := 3) (fun _ => rfl) hB (k := 0) (by omega)
  have r0 : Rd1 M6 nb (0 + 0 * 3 + 0) (Q 0) := hr0.nth rfl
  have r1 : Rd1 M6 nb (0 + 0 * 3 + 1) (I (bs s x y 0).1) := hr0.nth rfl
  (have hrd0 := r0; have hrd1 := r1; repeat' (first | (with_reducible intro _) | refine sv ?_ | (refine sc ?_ ?_ <;> (intro h; try first | exact h.elim | exact absurd rfl h | (exfalso; omega))) | (refine sg ?_ ?_ <;> (intro h; (fail_if_success (have : True := h)); try first | exact h.elim | exact absurd rfl h | (exfalso; omega))) | assumption | exact xm | exact rfl))
  ((with_reducible first | apply k_fun | apply k_fun_norm); exact rx)
  exact ⟨_, rfl, (hQ 0 (by omega)).pr, hg6⟩
 obtain ⟨i, hi⟩ : ∃ i : Nat, s.length = i + (m + 1) := ⟨s.length - (m + 1), by omega⟩
 have hii : (s.length : Int) - 1 - m = (i : Int) := by omega
 rw [hii]
 have hnM := hB.2
 (repeat' (first | (with_reducible intro _) | refine sv ?_ | (refine sc ?_ ?_ <;> (intro h; try first | exact h.elim | exact absurd rfl h | (exfalso; omega))) | (refine sg ?_ ?_ <;> (intro h; (fail_if_success (have : True := h)); try first | exact h.elim | exact absurd rfl h | (exfalso; omega))) | assumption | exact xm | exact rfl))
 rename_i n11 M7 hN7 q1 q2 M8 hU8 q3 hA8
 clear hE
 have hg8 : Grow M6 M8 := xg
 have hC8 : At M8 nb (.cells true (tabL plc (ps s x y Q m) (s.length + 1)) 145) := xm
 clear hN7 hU8
 refine w_loop_ind (fun z E ms M' => ∃ (j : Nat) (bq : LV), z = s.length - (i + j) /\ i + j <= s.length /\ ms = [] /\ Has E [(0, .slice a s.length f e), (1, I x), (2, I y), (9, .slice (some (nb, 0)) (s.length + 1) true 3), (10, I i), (11, .ptr (some (n11, 0))), (12, I ((i + j : Nat) : Int))] /\ Grow M6 M' /\ M8.next <= M'.next /\ At M' nb (.cells true (tabL plc (ps s x y Q m) (s.length + 1)) 145) /\ At M' n11 (.cells true (plc (bq, (pk s x y (tb s x y m) i j).1, decide (0 < j))) 145) /\ PrB M8.next M' bq (blL s x y (pk s x y (tb s x y m) i j) i j))
  ?_ (s.length - i) _ _ _ ⟨0, nil0, by omega, by omega, rfl, .cons rfl (.cons rfl (.cons rfl (.cons rfl (.cons rfl (.cons rfl (.cons rfl .nil)))))), hg8, Nat.le_refl _, hC8, hA8, PrB.nil _ _⟩
 rintro z E ms M9 ⟨j, bq, rfl, hj, rfl, hE, hg9, hle9, hC9, hD9, hb9⟩
 refine w_has hE ?_
 have hbl := blL_len (a := x) (b := y) ok hi hj
 by_cases hlast2 : i + j = s.length
 ·obtain rfl : j = m + 1 := by omega
  have h0 : 0 < m + 1 := by omega
  have hr : tb s x y (m + 1) i = pk s x y (tb s x y m) i (m + 1) := if_pos hi.symm
  have hbp := blL_plan (a := x) (b := y) (j := m + 1) ok hi h0 hr
  have hup := ps_up (a := x) (b := y) (Q := Q) hi bq (pk s x y (tb s x y m) i (m + 1)) hr
  rw [hbp] at hb9
  generalize pk s x y (tb s x y m) i (m + 1) = P at *
  have hd : decide (0 < m + 1) = true := decide_eq_true h0
  rw [hd] at hD9
  obtain ⟨ba, bf, be, rfl, hbs⟩ := hb9
  (repeat' (first | (with_reducible intro _) | refine sv ?_ | (refine sc ?_ ?_ <;> (intro h; try first | exact h.elim | exact absurd rfl h | (exfalso; omega))) | (refine sg ?_ ?_ <;> (intro h; (fail_if_success (have : True := h)); try first | exact h.elim | exact absurd rfl h | (exfalso; omega))) | assumption | exact xm | exact rfl))
  refine x_st (by exact gd) rfl rfl hC9 rfl rfl (by rw [Nat.zero_add]; exact hup) ?_
  intro M10 hu10 e10 hA10
  (repeat' (first | (with_reducible intro _) | refine sv ?_ | (refine sc ?_ ?_ <;> (intro h; try first | exact h.elim | exact absurd rfl h | (exfalso; omega))) | (refine sg ?_ ?_ <;> (intro h; (fail_if_success (have : True := h)); try first | exact h.elim | exact absurd rfl h | (exfalso; omega))) | assumption | exact xm | exact rfl))
  refine k_step (s.length - (m + 1)) (by omega) ⟨m + 1, _, rfl, by omega, rfl, .cons rfl (.cons rfl (.cons rfl (.cons rfl (.cons (by show some (LV.int .i64 _) = some (LV.int .i64 _); congr 2; omega) .nil)))), Grow.upd (hg6.trans hg9) hu10 hnb0, by omega, hA10, fun t ht => ?_⟩
  by_cases hti : t = i
  ·subst hti
   rw [if_pos rfl]
   exact PrB.upd (PrB.weaken (b := M8.next) ⟨_, _, _, rfl, hbs⟩ (by omega)) hu10 (by omega)
  ·rw [if_neg hti]
   exact ((hQ t (by omega)).grow hg9).upd hu10 (by omega)
 have hlt : i + j < s.length := by omega
 have hs9 := hs.grow (hg6.trans hg9)
 obtain ⟨p, o, rfl, hra⟩ := hs9.rd (k := i) (by omega)
 obtain ⟨p2, o2, he2, hrb⟩ := hs9.rd hlt
 obtain ⟨rfl, rfl⟩ : p2 = p /\ o2 = o := by injection he2 with q; injection q with q1 q2; exact ⟨q1.symm, q2.symm⟩
 rw [<- el_lt (by omega)] at hra
 rw [<- el_lt hlt] at hrb
 have hsp := ok.spn (i := i) (k := i + j) (by omega) hlt
 have ht0 := ok.at (i := i) (by omega)
 have ht1 := ok.at hlt
 by_cases hsy : spn s i (i + j) > y
 ·have h0 : 0 < j := by
   rcases Nat.eq_zero_or_pos j with h0 | h0
   ·subst h0
    rw [Nat.add_zero, spn_self] at hsy
    omega
   ·exact h0
  have hr : tb s x y (m + 1) i = pk s x y (tb s x y m) i j := by
   show (if i + (m + 1) = s.length then _ else _) = _
   rw [if_pos hi.symm]
   exact pk_far ok hsy (by omega) (by omega)
  unfold spn at hsy hsp
  generalize el s (i + j) = T at *
  generalize el s i = t at *
  have hbp := blL_plan (a := x) (b := y) (j := j) ok hi h0 hr
  have hup := ps_up (a := x) (b := y) (Q := Q) hi bq (pk s x y (tb s x y m) i j) hr
  rw [hbp] at hb9
  generalize pk s x y (tb s x y m) i j = P at *
  have hd : decide (0 < j) = true := decide_eq_true h0
  rw [hd] at hD9
  obtain ⟨ba, bf, be, rfl, hbs⟩ := hb9
  (have hrd0 := hra; have hrd1 := hrb; repeat' (first | (with_reducible intro _) | refine sv ?_ | (refine sc ?_ ?_ <;> (intro h; try first | exact h.elim | exact absurd rfl h | (exfalso; omega))) | (refine sg ?_ ?_ <;> (intro h; (fail_if_success (have : True := h)); try first | exact h.elim | exact absurd rfl h | (exfalso; omega))) | assumption | exact xm | exact rfl))
  all_goals try (exfalso; omega)
  refine x_st (by exact gd) rfl rfl hC9 rfl rfl (by rw [Nat.zero_add]; exact hup) ?_
  intro M10 hu10 e10 hA10
  (repeat' (first | (with_reducible intro _) | refine sv ?_ | (refine sc ?_ ?_ <;> (intro h; try first | exact h.elim | exact absurd rfl h | (exfalso; omega))) | (refine sg ?_ ?_ <;> (intro h; (fail_if_success (have : True := h)); try first | exact h.elim | exact absurd rfl h | (exfalso; omega))) | assumption | exact xm | exact rfl))
  refine k_step (s.length - (m + 1)) (by omega) ⟨m + 1, _, rfl, by omega, rfl, .cons rfl (.cons rfl (.cons rfl (.cons rfl (.cons (by show some (LV.int .i64 _) = some (LV.int .i64 _); congr 2; omega) .nil)))), Grow.upd (hg6.trans hg9) hu10 hnb0, by omega, hA10, fun t ht => ?_⟩
  by_cases hti : t = i
  ·subst hti
   rw [if_pos rfl]
   exact PrB.upd (PrB.weaken (b := M8.next) ⟨_, _, _, rfl, hbs⟩ (by omega)) hu10 (by omega)
  ·rw [if_neg hti]
   exact ((hQ t (by omega)).grow hg9).upd hu10 (by omega)
 have hk1 : (((i + j : Nat) : Int) + 1).toNat = i + j + 1 := by omega
 have hps : ps s x y Q m (i + j + 1) = (Q (i + j + 1), (tb s x y m (i + j + 1)).1, true) := by unfold ps; rw [decide_eq_true (by omega)]
 have hr1 : Rd M9 nb (0 + (((i + j : Nat) : Int) + 1).toNat * 3) 3 (plc (Q (i + j + 1), (tb s x y m (i + j + 1)).1, true)) := by
  rw [hk1, <- hps]
  exact tabL_rd (enc := plc) (sz := 3) (fun _ => rfl) hC9 (k := i + j + 1) (by omega)
 clear hps
 have hqv := ((hQ (i + j + 1) (by omega)).grow hg9)
 have hqV : Rst := tb s x y m (i + j + 1)
 have hpl := plan_len ok s.length (i + j + 1) (by omega)
 rw [<- tb_up (m := m) (t := i + j + 1) (by omega) (by omega)] at hpl
 have hbd := tb_bd ok m (i + j + 1)
 have hbP := pk_bd (i := i) ok (tb_bd ok m) (n := j) (by omega)
 have hpk := pk_s (s := s) (a := x) (b := y) (G := tb s x y m) (i := i) (j := j)
 have hfst := fun h0 => blL_first (a := x) (b := y) (j := j) ok hi hlt h0
 have hnew : ∀ {V : Int × Int}, blL s x y (V.1, V.2, i + j) i (j + 1) = (el s i, el s (i + j)) :: plan s x y (i + j + 1) := fun {V} => rfl
 have hold : 0 < j -> ∀ r, blL s x y r i (j + 1) = blL s x y r i j := fun h0 r => by unfold blL; rw [if_neg (by omega), if_neg (by omega)]
 clear hqV
 unfold spn at hsp hsy hpk
 generalize hPe : pk s x y (tb s x y m) i (j + 1) = P' at *
 generalize pk s x y (tb s x y m) i j = P at *
 generalize tb s x y m (i + j + 1) = V at *
 generalize Q (i + j + 1) = qv at *
 generalize plan s x y (i + j + 1) = L1 at *
 generalize el s (i + j) = T at *
 generalize el s i = t at *
 obtain ⟨V1, V2, V3⟩ := V
 obtain ⟨P1, P2, P3⟩ := P
 generalize hbL : blL s x y (P1, P2, P3) i j = BL at *
 dsimp only [plc] at hr1 hD9 hbd hbP hpk hpl hbl
 obtain ⟨qa, qf, qe, rfl, hqs⟩ := hqv
 obtain ⟨ba, bf, be, rfl, hbs⟩ := hb9
 have h11 := hD9.2
 have hL1 : L1.length <= 1000000 := by omega
 have hp2 := hra.2
 have hle69 := hg9.le
 (have hrd0 := hra; have hrd1 := hrb; have hrd2 := hr1; repeat' (first | (with_reducible intro _) | refine sv ?_ | (refine sc ?_ ?_ <;> (intro h; try first | exact h.elim | exact absurd rfl h | (exfalso; omega))) | (refine sg ?_ ?_ <;> (intro h; (fail_if_success (have : True := h)); try first | exact h.elim | exact absurd rfl h | (exfalso; omega))) | assumption | exact xm | exact rfl))
 rename_i m13 N1 hN1 u1 u2 N2 hU2 u3 hB2 m14 N3 hN3 u4 u5 N4 hU4 u6 hB4 m15 N5 hN5 u7 u8
 have hG5 : Grow M9 N5 := xg
 have r13 : At N5 m13 (.cells true [.slice qa L1.length qf qe, I V1, .bool true] 145) := xm
 have r14 : At N5 m14 (.cells true [nil0, I (x + T - t + 1 + V1), .bool true] 145) := xm
 have hG4 : Grow M9 N4 := xg
 have w1 : Rd1 N4 p2 (o2 + i * 1) (I t) := hra.grow hG4
 have w2 : Rd1 N4 p2 (o2 + (i + j) * 1) (I T) := hrb.grow hG4
 have w3 : Rd1 N4 m14 (0 + 0) nil0 := Rd1.of_at hB4 rfl
 have w4a : At N4 m13 (.cells true [.slice qa L1.length qf qe, I V1, .bool true] 145) := xm
 have w4 : Rd1 N4 m13 (0 + 0) (.slice qa L1.length qf qe) := Rd1.of_at w4a rfl
 have hq9 : PrB M5.next M9 (.slice qa L1.length qf qe) L1 := ⟨_, _, _, rfl, hqs⟩
 have hb9 : PrB M8.next M9 (.slice ba BL.length bf be) BL := ⟨_, _, _, rfl, hbs⟩
 refine d_vec_app (by exact gd) (b := N5.next) (l := []) (l' := [(t, T)]) (enc := prc) Vec.nil rfl rfl rfl (by simp) (by simp) rfl (two_first (x := (t, T)) hN5) (fun _ => rfl) (fun _ => rfl) (Nat.le_refl _) ?_
 intro v1 N6 hv1 u9 hk6
 have hv1 : Vec N5.next 2 72 prc N6 v1 [(t, T)] := hv1
 have hG6 : Grow N5 N6 := hk6.to_grow (fun i hi => hi.1)
 clear hk6 hN1 hU2 hN3 hU4 hN5 hB2 hB4
 have r13b := r13.grow hG6
 have ra6 : Rd1 N6 p2 (o2 + i * 1) (I t) := (hra.grow hG5).grow hG6
 have rb6 : Rd1 N6 p2 (o2 + (i + j) * 1) (I T) := (hrb.grow hG5).grow hG6
 have rc6 : Rd1 N6 m14 (0 + 0) nil0 := Rd1.of_at (r14.grow hG6) rfl
 have rd6 : Rd1 N6 m13 (0 + 0) (.slice qa L1.length qf qe) := Rd1.of_at (r13.grow hG6) rfl
 (have hrd0 := rd6; repeat' (first | (with_reducible intro _) | refine sv ?_ | (refine sc ?_ ?_ <;> (intro h; try first | exact h.elim | exact absurd rfl h | (exfalso; omega))) | (refine sg ?_ ?_ <;> (intro h; (fail_if_success (have : True := h)); try first | exact h.elim | exact absurd rfl h | (exfalso; omega))) | assumption | exact xm | exact rfl))
 refine d_vec_app0 (by exact gd) (l' := L1) hv1 rfl rfl rfl (by rw [List.length_singleton]; omega) rfl (fun h0 => prv_first ((hq9.grow hG5).grow hG6).pr h0) (fun _ => rfl) (fun _ => rfl) (by omega) ?_
 intro v2 N7 hv2 u10 hk7
 have hv2 : Vec N5.next 2 72 prc N7 v2 ((t, T) :: L1) := hv2
 have hG7 : Grow N5 N7 := Keep.to_grow' hG6 hk7 (fun i hi => hi.1)
 clear hk7
 have r14b := r14.grow hG7
 have ra7 : Rd1 N7 p2 (o2 + i * 1) (I t) := (hra.grow hG5).grow hG7
 have rb7 : Rd1 N7 p2 (o2 + (i + j) * 1) (I T) := (hrb.grow hG5).grow hG7
 have rc7 : Rd1 N7 m14 (0 + 0) nil0 := Rd1.of_at (r14.grow hG7) rfl
 have rd7 : Rd1 N7 m13 (0 + 0) (.slice qa L1.length qf qe) := Rd1.of_at (r13.grow hG7) rfl
 have hG7s : Grow M9 N7 := hG5.trans hG7
 obtain ⟨a2, f2, e2, rfl, hv3⟩ := PrB.vec hv2
 have l7 := hG7.le
 (repeat' (first | (with_reducible intro _) | refine sv ?_ | (refine sc ?_ ?_ <;> (intro h; try first | exact h.elim | exact absurd rfl h | (exfalso; omega))) | (refine sg ?_ ?_ <;> (intro h; (fail_if_success (have : True := h)); try first | exact h.elim | exact absurd rfl h | (exfalso; omega))) | assumption | exact xm | exact rfl))
 rename_i N8 hU8 u11 r14c
 have hg8b : Grow M9 N8 := hG7s.upd hU8 (by omega)
 have hp8 : PrB N5.next N8 (.slice a2 ((t, T) :: L1).length f2 e2) ((t, T) :: L1) := PrB.upd ⟨_, _, _, rfl, hv3⟩ hU8 (by omega)
 have hb8 := hb9.grow hg8b
 have hD8 : At N8 n11 (.cells true [.slice ba BL.length bf be, I P1, .bool (decide (0 < j))] 145) := hD9.grow hg8b
 have hC10 : At N8 nb (.cells true (tabL plc (ps s x y Q m) (s.length + 1)) 145) := hC9.grow hg8b
 have hcost : x + T - t + 1 + V1 = x + (T - t + 1) + V1 := by omega
 have hcb := c_better (d := P1) (c := x + T - t + 1 + V1) (ib := decide (0 < j)) hp8.pr hb8.pr (by rw [List.length_cons]; omega) (fun h0 => by
  obtain ⟨T', lb', h1, h2⟩ := hfst (of_decide_eq_true h0)
  exact ⟨t, T, T', L1, lb', rfl, h1, h2⟩)
 have hlen : (((t, T) :: L1).length : Int) = 1 + V2 := by rw [List.length_cons]; omega
 by_cases hC : j = 0 ∨ x + (T - t + 1) + V1 < P1 ∨ x + (T - t + 1) + V1 = P1 /\ 1 + V2 < P2
 ·have hB : (!(decide (0 < j)) || (decide (x + T - t + 1 + V1 < P1) || (decide (x + T - t + 1 + V1 = P1) && decide (((t, T) :: L1).length < BL.length)))) = true := by
   rw [hcost]
   simp only [Bool.or_eq_true, Bool.and_eq_true, Bool.not_eq_true', decide_eq_true_eq, decide_eq_false_iff_not]
   omega
  rw [hB] at hcb
  (repeat' (first | (with_reducible intro _) | refine sv ?_ | (refine sc ?_ ?_ <;> (intro h; try first | exact h.elim | exact absurd rfl h | (exfalso; omega))) | ((with_reducible first | apply x_pure | apply d_pure | apply d_pure0); exact gd; exact rfl; exact rfl; (first | exact hcb)) | (refine sg ?_ ?_ <;> (intro h; (fail_if_success (have : True := h)); try first | exact h.elim | exact absurd rfl h | (exfalso; omega))) | assumption | exact xm | exact rfl))
  rename_i N9 hg9b l9 N10 hU10 u12 rD
  have hP' : P' = (x + (T - t + 1) + V1, 1 + V2, i + j) := by rw [hpk]; exact if_pos ⟨by omega, hC⟩
  refine k_step (s.length - (i + (j + 1))) (by omega) ⟨j + 1, .slice a2 ((t, T) :: L1).length f2 e2, rfl, by omega, rfl, .cons rfl (.cons rfl (.cons rfl (.cons rfl (.cons rfl (.cons rfl (.cons rfl .nil)))))), Grow.upd ((hg9.trans hg8b).trans hg9b) hU10 (by omega), by omega, At.upd_ne hU10 (by omega) (hC10.grow hg9b), ?_, ?_⟩
  ·rw [hPe, hP']
   show At N10 n11 (.cells true [.slice a2 ((t, T) :: L1).length f2 e2, I (x + (T - t + 1) + V1), .bool (decide (0 < j + 1))] _)
   rw [<- hcost, decide_eq_true (show 0 < j + 1 by omega)]
   exact rD
  ·rw [hPe, hP', show blL s x y (x + (T - t + 1) + V1, 1 + V2, i + j) i (j + 1) = (t, T) :: L1 from hnew (V := (x + (T - t + 1) + V1, 1 + V2))]
   exact PrB.upd ((hp8.grow hg9b).weaken (by omega)) hU10 (by omega)
 ·have hB : (!(decide (0 < j)) || (decide (x + T - t + 1 + V1 < P1) || (decide (x + T - t + 1 + V1 = P1) && decide (((t, T) :: L1).length < BL.length)))) = false := by
   rw [hcost]
   simp only [Bool.or_eq_false_iff, Bool.and_eq_false_iff, Bool.not_eq_false', decide_eq_true_eq, decide_eq_false_iff_not]
   omega
  rw [hB] at hcb
  (repeat' (first | (with_reducible intro _) | refine sv ?_ | (refine sc ?_ ?_ <;> (intro h; try first | exact h.elim | exact absurd rfl h | (exfalso; omega))) | ((with_reducible first | apply x_pure | apply d_pure | apply d_pure0); exact gd; exact rfl; exact rfl; (first | exact hcb)) | (refine sg ?_ ?_ <;> (intro h; (fail_if_success (have : True := h)); try first | exact h.elim | exact absurd rfl h | (exfalso; omega))) | assumption | exact xm | exact rfl))
  rename_i N9 hg9b l9
  have h0 : 0 < j := by omega
  have hP' : P' = (P1, P2, P3) := by rw [hpk]; exact if_neg (fun hh => hC hh.2)
  refine k_step (s.length - (i + (j + 1))) (by omega) ⟨j + 1, .slice ba BL.length bf be, rfl, by omega, rfl, .cons rfl (.cons rfl (.cons rfl (.cons rfl (.cons rfl (.cons rfl (.cons rfl .nil)))))), (hg9.trans hg8b).trans hg9b, by omega, hC10.grow hg9b, ?_, ?_⟩
  ·rw [decide_eq_true h0] at hD8
   rw [hPe, hP', decide_eq_true (show 0 < j + 1 by omega)]
   exact hD8.grow hg9b
  ·rw [hPe, hP', hold h0, hbL]
   exact hb8.grow hg9b
end Go.Proofs.YtlfkmgpngkbhpaaGreatDoor.C
end
