/-
 Part of the proof of TapeDearer: what functions of the program and of the statement come to, walked by the rules. No condition beyond those in each theorem.
-/
import Derived.Test.YtlfkmgpngkbhpaaGreatDoorTR
import Derived.Test.YtlfkmgpngkbhpaaGreatDoorTS
import Derived.Test.YtlfkmgpngkbhpaaGreatDoorTX
section
open Go PvL Go.Proofs
set_option linter.unusedSimpArgs false
set_option linter.unusedVariables false
namespace Go.Proofs.YtlfkmgpngkbhpaaGreatDoor.C
theorem setList_nil : ∀ l : List LV, setList l 0 [] = some l
 | [] => rfl
 | _ :: _ => rfl
theorem setList_pre : ∀ (vs rest ws : List LV), ws.length = vs.length -> setList (vs ++ rest) 0 ws = some (ws ++ rest)
 | [], rest, [], _ => by rw [List.nil_append]; exact setList_nil _
 | v :: vs, rest, w :: ws, h => by
  show ob (setList (vs ++ rest) 0 ws) (fun l => some (w :: l)) = _
  rw [setList_pre vs rest ws (by simpa using h)]
  rfl
theorem setList_app : ∀ (pre l vs : List LV) (k : Nat) (r : List LV), setList l k vs = some r -> vs ≠ [] -> setList (pre ++ l) (pre.length + k) vs = some (pre ++ r)
 | [], l, vs, k, r, h, _ => by rw [List.length_nil, Nat.zero_add]; exact h
 | p :: pre, l, [], k, r, h, hv => absurd rfl hv
 | p :: pre, l, v :: vs, k, r, h, hv => by
  rw [show (p :: pre).length + k = (pre.length + k) + 1 from by rw [List.length_cons]; omega]
  show ob (setList (pre ++ l) (pre.length + k) (v :: vs)) (fun l => some (p :: l)) = _
  rw [setList_app pre l (v :: vs) k r h hv]
  rfl
theorem setList_flat {α : Type} {enc : α -> List LV} {sz : Nat} (henc : ∀ x, (enc x).length = sz) (h0 : 0 < sz) : ∀ (l : List α) (k : Nat) (v : α), k < l.length -> setList (l.flatMap enc) (k * sz) (enc v) = some ((l.set k v).flatMap enc)
 | [], k, v, h => absurd h (Nat.not_lt_zero _)
 | x :: l, 0, v, h => by
  rw [Nat.zero_mul, List.set_cons_zero, List.flatMap_cons, List.flatMap_cons]
  exact setList_pre _ _ _ (by rw [henc, henc])
 | x :: l, k + 1, v, h => by
  rw [List.set_cons_succ, List.flatMap_cons, List.flatMap_cons, show (k + 1) * sz = (enc x).length + k * sz from by rw [henc, Nat.add_mul, Nat.one_mul, Nat.add_comm]]
  refine setList_app _ _ _ _ _ (setList_flat henc h0 l k v (by simpa using h)) fun he => ?_
  have := henc v
  rw [he] at this
  simp at this
  omega
theorem rep_flat {α : Type} (enc : α -> List LV) (x : α) : ∀ n : Nat, rep n (enc x) = (List.replicate n x).flatMap enc
 | 0 => rfl
 | n + 1 => by
  show enc x ++ rep n (enc x) = _
  rw [rep_flat enc x n]; rfl
def tabL {α : Type} (enc : α -> List LV) (G : Nat -> α) (n : Nat) : List LV := ((List.range n).map G).flatMap enc
theorem tabL_rep {α : Type} (enc : α -> List LV) (G : Nat -> α) (n : Nat) (x : α) (h : ∀ i, i < n -> G i = x) : rep n (enc x) = tabL enc G n := by
 rw [rep_flat]
 unfold tabL
 congr 1
 refine (List.eq_replicate_iff.2 ⟨by simp, fun y hy => ?_⟩).symm
 obtain ⟨i, hi, rfl⟩ := List.mem_map.1 hy
 exact h i (List.mem_range.1 hi)
theorem tabL_set {α : Type} {enc : α -> List LV} {sz : Nat} (henc : ∀ x, (enc x).length = sz) (h0 : 0 < sz) {G G' : Nat -> α} {n k : Nat} (hk : k < n) (h : ∀ i, i < n -> i ≠ k -> G' i = G i) : setList (tabL enc G n) (k * sz) (enc (G' k)) = some (tabL enc G' n) := by
 unfold tabL
 rw [setList_flat henc h0 _ _ _ (by simpa using hk)]
 congr 2
 refine List.ext_getElem (by simp) fun i h1 h2 => ?_
 rw [List.getElem_set]
 by_cases he : k = i
 ·subst he; simp
 ·rw [if_neg he]
  simp only [List.getElem_map, List.getElem_range]
  exact (h i (by simpa using h2) (fun h => he h.symm)).symm
theorem tabL_rd {α : Type} {enc : α -> List LV} {sz : Nat} (henc : ∀ x, (enc x).length = sz) {G : Nat -> α} {n k : Nat} {M : Mem} {i : Nat} {own : Bool} {ty : TypeId} (ha : At M i (.cells own (tabL enc G n) ty)) (hk : k < n) : Rd M i (0 + k * sz) sz (enc (G k)) := by
 have := rd_flat (enc := enc) (l := (List.range n).map G) (sz := sz) ha (fun x _ => henc x) (k := k) (by simpa using hk)
 simpa using this
theorem tabL_congr {α : Type} {enc : α -> List LV} {G G' : Nat -> α} {n : Nat} (h : ∀ i, i < n -> G i = G' i) : tabL enc G n = tabL enc G' n := by
 unfold tabL
 congr 1
 exact List.map_congr_left fun i hi => h i (List.mem_range.1 hi)
abbrev rsc (r : Rst) : List LV := [I r.1, I r.2.1, I r.2.2]
theorem agF_no {s : List Int} {a b : Int} (h : okS s a b = false) : agF s a b = ([], 0, 84) := by unfold agF; rw [h]; rfl
theorem agF_yes {s : List Int} {a b : Int} (h : okS s a b = true) : agF s a b = (plan s a b 0, (bs s a b 0).1, 0) := by unfold agF; rw [h]; rfl
def tt (s : List Int) (a b : Int) (m j t : Nat) : Rst := if t + (m + 1) = s.length then pk s a b (tb s a b m) t j else tb s a b m t
theorem tb_low {s : List Int} {a b : Int} {t : Nat} : ∀ {m : Nat}, t + m < s.length -> tb s a b m t = (0, 0, 0)
 | 0, _ => rfl
 | m + 1, h => by
  show (if t + (m + 1) = s.length then _ else tb s a b m t) = _
  rw [if_neg (by omega)]
  exact tb_low (by omega)
theorem tt_0 {s : List Int} {a b : Int} {m t : Nat} : tt s a b m 0 t = tb s a b m t := by
 unfold tt
 split
 ·rename_i hc
  rw [tb_low (by omega)]; rfl
 ·rfl
theorem pk_s {s : List Int} {a b : Int} {G : Nat -> Rst} {i j : Nat} : pk s a b G i (j + 1) = if spn s i (i + j) <= b /\ (j = 0 ∨ a + spn s i (i + j) + (G (i + j + 1)).1 < (pk s a b G i j).1 ∨ (a + spn s i (i + j) + (G (i + j + 1)).1 = (pk s a b G i j).1 /\ 1 + (G (i + j + 1)).2.1 < (pk s a b G i j).2.1))
  then (a + spn s i (i + j) + (G (i + j + 1)).1, 1 + (G (i + j + 1)).2.1, i + j) else pk s a b G i j := rfl
set_option maxHeartbeats 16000000 in
theorem c_Again {M : Mem} {a : Option (Nat × Nat)} {s : List Int} {f : Bool} {e : Nat} {x y : Int} (hs : SlI M a s) (hl : s.length <= 1000000000000000) :
  CallOk Tryz.prog 30 [.slice a s.length f e, I x, I y] M (fun w M' => ∃ q, w = .tup [q, I (agF s x y).2.1, I (agF s x y).2.2] /\ PrV M' q (agF s x y).1 /\ Grow M M') := by
 refine call_in k30 rfl ?_
 dsimp only [x30, zipE, Nat.reduceAdd]
 have ca := fun M' (hg : Grow M M') => c_againOf (f := f) (e := e) (x := x) (y := y) (hs.grow hg) hl
 cases hok : okS s x y with
 | false =>
  rw [agF_no hok]
  rw [hok] at ca
  have ca : ∀ M', Grow M M' -> CallOk Tryz.prog 82 [.slice a s.length f e, I x, I y] M' (fun w M2 => w = .tup [.agg [.slice none 0 true 0, I 0, I 0], I 84] /\ Grow M' M2) := ca
  (repeat' (first | (with_reducible intro _) | refine sv ?_ | (refine sc ?_ ?_ <;> (intro h; try first | exact h.elim | exact absurd rfl h | (exfalso; omega))) | ((with_reducible first | apply x_pure | apply d_pure | apply d_pure0); exact gd; exact rfl; exact rfl; (first | exact ca _ (xg))) | (refine sg ?_ ?_ <;> (intro h; (fail_if_success (have : True := h)); try first | exact h.elim | exact absurd rfl h | (exfalso; omega))) | assumption | exact xm | exact rfl))
  ((with_reducible first | apply k_fun | apply k_fun_norm); exact rx)
  exact ⟨_, rfl, PrV.nil _, xg⟩
 | true =>
 rw [agF_yes hok]
 rw [hok] at ca
 have ca : ∀ M', Grow M M' -> CallOk Tryz.prog 82 [.slice a s.length f e, I x, I y] M' (fun w M2 => w = .tup [agV a s.length f e x y, I 0] /\ Grow M' M2) := ca
 have ok := okS_p hok
 have hL := ok.len
 (repeat' (first | (with_reducible intro _) | refine sv ?_ | (refine sc ?_ ?_ <;> (intro h; try first | exact h.elim | exact absurd rfl h | (exfalso; omega))) | ((with_reducible first | apply x_pure | apply d_pure | apply d_pure0); exact gd; exact rfl; exact rfl; (first | exact ca _ (xg))) | (refine sg ?_ ?_ <;> (intro h; (fail_if_success (have : True := h)); try first | exact h.elim | exact absurd rfl h | (exfalso; omega))) | assumption | exact xm | exact rfl))
 rename_i M1 hg1 hl1 n2 M2 hN2 q1 q2 M3 hU3 q3 hA3
 clear h ca
 have hg3 : Grow M M3 := xg
 refine xw_know (t := 29) (v' := I ((s.length + 1 : Nat) : Int)) rfl rfl ?_
 refine x_gen (by exact gd) (xs_mksl rfl rfl (Nat.le_refl _) (by omega) (by omega)) ?_
 have hN4 : New M3 M3.next (.cells true (rep (s.length + 1) [I 0, I 0, I 0]) 133) (M3.push (.cells true (rep (s.length + 1) [I 0, I 0, I 0]) 133)) := ⟨rfl, rfl⟩
 generalize hM4 : M3.push (.cells true (rep (s.length + 1) [I 0, I 0, I 0]) 133) = M4 at hN4 ⊢
 generalize hnb : M3.next = nb at hN4
 have e4 := hN4.next
 have hA4 := At.new_same hN4
 have hA2 := At.grow hN4.grow hA3
 have hg4 : Grow M M4 := hg3.trans hN4.grow
 have hnb0 : M.next <= nb := by have := hg3.le; omega
 have hs4 := hs.grow hg4
 clear hN2 hU3 hg1 hN4 hg3
 rw [show rep (s.length + 1) [I 0, I 0, I 0] = tabL rsc (tb s x y 0) (s.length + 1) from tabL_rep rsc _ _ (0, 0, 0) fun _ _ => rfl] at hA4
 refine xw_know (t := 30) (v' := .slice (some (nb, 0)) (s.length + 1) true 3) rfl (by simp) ?_
 (repeat' (first | (with_reducible intro _) | refine sv ?_ | (refine sc ?_ ?_ <;> (intro h; try first | exact h.elim | exact absurd rfl h | (exfalso; omega))) | (refine sg ?_ ?_ <;> (intro h; (fail_if_success (have : True := h)); try first | exact h.elim | exact absurd rfl h | (exfalso; omega))) | assumption | exact xm | exact rfl))
 have hne : n2 < nb := by omega
 have hT0 : M.next <= n2 := by omega
 refine w_loop_ind (fun z E ms M' => ∃ m : Nat, z = s.length - m /\ m <= s.length /\ ms = [] /\ Has E [(0, .slice a s.length f e), (6, .slice none 0 true 0), (9, .ptr (some (n2, 0))), (10, .slice (some (nb, 0)) (s.length + 1) true 3), (11, I ((s.length : Int) - 1 - m))] /\ Grow M M' /\ M4.next <= M'.next /\ At M' n2 (.cells true [.slice a s.length f e, I x, I y] 127) /\ At M' nb (.cells true (tabL rsc (tb s x y m) (s.length + 1)) 133))
  ?_ s.length _ _ _ ⟨0, by omega, by omega, rfl, .cons rfl (.cons rfl (.cons rfl (.cons rfl (.cons (by show some (LV.int .i64 _) = some (LV.int .i64 _); congr 2; omega) .nil)))), hg4, Nat.le_refl _, hA2, hA4⟩
 rintro z E ms M5 ⟨m, rfl, hm, rfl, hE, hg5, hle5, hB2, hB4⟩
 refine w_has hE ?_
 by_cases hlast : m = s.length
 ·subst hlast
  have hpl := plan_len ok s.length 0 (by omega)
  have hb0 := (tb_bd ok s.length 0).2.2
  have hpn : (plan s x y 0).length <= s.length := by
   have : ((plan s x y 0).length : Int) <= s.length := by rw [hpl]; exact hb0.2
   omega
  have hbs : tabL rsc (tb s x y s.length) (s.length + 1) = tabL rsc (bs s x y) (s.length + 1) := rfl
  rw [hbs] at hB4
  have hnM := hB4.2
  (repeat' (first | (with_reducible intro _) | refine sv ?_ | (refine sc ?_ ?_ <;> (intro h; try first | exact h.elim | exact absurd rfl h | (exfalso; omega))) | (refine sg ?_ ?_ <;> (intro h; (fail_if_success (have : True := h)); try first | exact h.elim | exact absurd rfl h | (exfalso; omega))) | assumption | exact xm | exact rfl))
  clear hE
  refine w_loop_ind (fun z E ms M' => ∃ (i : Nat) (v : LV) (pre : List (Int × Int)), z = s.length - i /\ i <= s.length /\ ms = [] /\ Has E [(0, .slice a s.length f e), (6, v), (10, .slice (some (nb, 0)) (s.length + 1) true 3), (16, I i)] /\ Grow M M' /\ M5.next <= M'.next /\ Vec M5.next 2 72 prc M' v pre /\ plan s x y 0 = pre ++ plan s x y i /\ At M' nb (.cells true (tabL rsc (bs s x y) (s.length + 1)) 133))
   ?_ s.length _ _ _ ⟨0, _, [], by omega, by omega, rfl, .cons rfl (.cons rfl (.cons rfl (.cons rfl .nil))), hg5, Nat.le_refl _, Vec.nil, rfl, hB4⟩
  rintro z E ms M6 ⟨i, v, pre, rfl, hi, rfl, hE, hg6, hle6, hv, hpre, hC4⟩
  refine w_has hE ?_
  by_cases hlast2 : i = s.length
  ·subst hlast2
   rw [plan_end (Nat.le_refl _), List.append_nil] at hpre
   have hr0 := tabL_rd (enc := rsc) (sz := 3) (fun _ => rfl) hC4 (k := 0) (by omega)
   have r0 : Rd1 M6 nb (0 + 0 * 3 + 0) (I (bs s x y 0).1) := hr0.nth rfl
   (have hrd0 := r0; repeat' (first | (with_reducible intro _) | refine sv ?_ | (refine sc ?_ ?_ <;> (intro h; try first | exact h.elim | exact absurd rfl h | (exfalso; omega))) | (refine sg ?_ ?_ <;> (intro h; (fail_if_success (have : True := h)); try first | exact h.elim | exact absurd rfl h | (exfalso; omega))) | assumption | exact xm | exact rfl))
   ((with_reducible first | apply k_fun | apply k_fun_norm); exact rx)
   exact ⟨_, rfl, by rw [hpre]; exact PrV.vec hv, hg6⟩
  have hlt : i < s.length := by omega
  have hs6 := hs.grow hg6
  have hto := bs_to ok i hlt
  have hpl2 := plan_at ok hlt
  obtain ⟨p, o, rfl, hr⟩ := hs6.rd hlt
  obtain ⟨p2, o2, he2, hr2⟩ := hs6.rd (k := (bs s x y i).2.2) hto.2
  obtain ⟨rfl, rfl⟩ : p2 = p /\ o2 = o := by injection he2 with q; injection q with q1 q2; exact ⟨q1.symm, q2.symm⟩
  rw [<- el_lt hlt] at hr
  rw [<- el_lt hto.2] at hr2
  have hr3 := tabL_rd (enc := rsc) (sz := 3) (fun _ => rfl) hC4 (k := i) (by omega)
  have r3 : Rd1 M6 nb (0 + i * 3 + 2) (I (bs s x y i).2.2) := hr3.nth rfl
  have hprl : pre.length <= 128 := by
   have := congrArg List.length hpre
   rw [List.length_append] at this
   omega
  rw [hpl2] at hpre
  generalize el s (bs s x y i).2.2 = T at *
  generalize el s i = t at *
  generalize (bs s x y i).2.2 = g at *
  (have hrd0 := hr; have hrd1 := hr2; have hrd2 := r3; repeat' (first | (with_reducible intro _) | refine sv ?_ | (refine sc ?_ ?_ <;> (intro h; try first | exact h.elim | exact absurd rfl h | (exfalso; omega))) | (refine sg ?_ ?_ <;> (intro h; (fail_if_success (have : True := h)); try first | exact h.elim | exact absurd rfl h | (exfalso; omega))) | assumption | exact xm | exact rfl))
  rename_i n9 M9 hn9 e9 e10
  have hp2 : p2 < M5.next := by
   obtain ⟨p3, o3, he3, hr9⟩ := hs.rd hlt
   obtain ⟨rfl, rfl⟩ : p3 = p2 /\ o3 = o2 := by injection he3 with q; injection q with q1 q2; exact ⟨q1.symm, q2.symm⟩
   have := hr9.2
   have := hg5.le
   omega
  have hv9 := hv.grow hn9.grow
  refine d_vec_app (by exact gd) (l' := [(t, T)]) hv9 rfl rfl rfl (by simp) (by rw [List.length_singleton]; omega) rfl (two_first (x := (t, T)) hn9) (fun _ => rfl) (fun _ => rfl) (by omega) ?_
  intro v' M10 hv10 e11 hk10
  have hg10 : Grow M M10 := Keep.to_grow' (hg6.trans hn9.grow) hk10 (fun i hi => by have := hi.1; have := hg5.le; omega)
  have hC10 : At M10 nb (.cells true (tabL rsc (bs s x y) (s.length + 1)) 133) := (At.new_old hn9 hC4).keep hk10 (fun hh => by have := hh.1; omega)
  have r10 : Rd1 M10 p2 (o2 + i * 1) (I t) := (hr.new_old hn9).keep hk10 (fun hh => by have := hh.1; omega)
  have r11 : Rd1 M10 p2 (o2 + g * 1) (I T) := (hr2.new_old hn9).keep hk10 (fun hh => by have := hh.1; omega)
  have r12 : Rd1 M10 nb (0 + i * 3 + 2) (I g) := (r3.new_old hn9).keep hk10 (fun hh => by have := hh.1; omega)
  (have hrd0 := r12; repeat' (first | (with_reducible intro _) | refine sv ?_ | (refine sc ?_ ?_ <;> (intro h; try first | exact h.elim | exact absurd rfl h | (exfalso; omega))) | (refine sg ?_ ?_ <;> (intro h; (fail_if_success (have : True := h)); try first | exact h.elim | exact absurd rfl h | (exfalso; omega))) | assumption | exact xm | exact rfl))
  exact k_step (s.length - (g + 1)) (by omega) ⟨g + 1, v', pre ++ [(t, T)], rfl, by omega, rfl, .cons rfl (.cons rfl (.cons rfl (.cons rfl .nil))), hg10, by omega, hv10, by rw [hpre, List.append_assoc]; rfl, hC10⟩
 obtain ⟨i, hi⟩ : ∃ i : Nat, s.length = i + (m + 1) := ⟨s.length - (m + 1), by omega⟩
 have hii : (s.length : Int) - 1 - m = (i : Int) := by omega
 rw [hii]
 (repeat' (first | (with_reducible intro _) | refine sv ?_ | (refine sc ?_ ?_ <;> (intro h; try first | exact h.elim | exact absurd rfl h | (exfalso; omega))) | (refine sg ?_ ?_ <;> (intro h; (fail_if_success (have : True := h)); try first | exact h.elim | exact absurd rfl h | (exfalso; omega))) | assumption | exact xm | exact rfl))
 clear hE
 refine w_loop_ind (fun z E ms M' => ∃ j : Nat, z = s.length - (i + j) /\ i + j <= s.length /\ ms = [] /\ Has E [(0, .slice a s.length f e), (6, .slice none 0 true 0), (9, .ptr (some (n2, 0))), (10, .slice (some (nb, 0)) (s.length + 1) true 3), (11, I i), (12, I ((i + j : Nat) : Int))] /\ Grow M M' /\ M4.next <= M'.next /\ At M' n2 (.cells true [.slice a s.length f e, I x, I y] 127) /\ At M' nb (.cells true (tabL rsc (tt s x y m j) (s.length + 1)) 133))
  ?_ (s.length - i) _ _ _ ⟨0, by omega, by omega, rfl, .cons rfl (.cons rfl (.cons rfl (.cons rfl (.cons rfl (.cons rfl .nil))))), hg5, hle5, hB2, by rw [show tabL rsc (tt s x y m 0) (s.length + 1) = tabL rsc (tb s x y m) (s.length + 1) from tabL_congr fun t _ => tt_0]; exact hB4⟩
 rintro z E ms M6 ⟨j, rfl, hj, rfl, hE, hg6, hle6, hC2, hC4⟩
 refine w_has hE ?_
 by_cases hlast2 : i + j = s.length
 ·obtain rfl : j = m + 1 := by omega
  (repeat' (first | (with_reducible intro _) | refine sv ?_ | (refine sc ?_ ?_ <;> (intro h; try first | exact h.elim | exact absurd rfl h | (exfalso; omega))) | (refine sg ?_ ?_ <;> (intro h; (fail_if_success (have : True := h)); try first | exact h.elim | exact absurd rfl h | (exfalso; omega))) | assumption | exact xm | exact rfl))
  exact k_step (s.length - (m + 1)) (by omega) ⟨m + 1, rfl, by omega, rfl, .cons rfl (.cons rfl (.cons rfl (.cons rfl (.cons (by show some (LV.int .i64 _) = some (LV.int .i64 _); congr 2; omega) .nil)))), hg6, hle6, hC2, hC4⟩
 have hlt : i + j < s.length := by omega
 have hs6 := hs.grow hg6
 have cp := c_pass (f := f) (e := e) hs6 ok (i := i) (k := i + j) (by omega) hlt
 have hsp := ok.spn (i := i) (k := i + j) (by omega) hlt
 have ha0 := ok.a0
 have hb0 := ok.b0
 have hr1 := tabL_rd (enc := rsc) (sz := 3) (fun _ => rfl) hC4 (k := i + j + 1) (by omega)
 have hr2 := tabL_rd (enc := rsc) (sz := 3) (fun _ => rfl) hC4 (k := i) (by omega)
 have ht1 : tt s x y m j (i + j + 1) = tb s x y m (i + j + 1) := by unfold tt; rw [if_neg (by omega)]
 have ht2 : tt s x y m j i = pk s x y (tb s x y m) i j := by unfold tt; rw [if_pos hi.symm]
 have hpk := pk_s (s := s) (a := x) (b := y) (G := tb s x y m) (i := i) (j := j)
 have hset : ∀ {X : Rst}, pk s x y (tb s x y m) i (j + 1) = X -> setList (tabL rsc (tt s x y m j) (s.length + 1)) (i * 3) (rsc X) = some (tabL rsc (tt s x y m (j + 1)) (s.length + 1)) := fun {X} hX => by
  have := tabL_set (enc := rsc) (sz := 3) (G := tt s x y m j) (G' := tt s x y m (j + 1)) (n := s.length + 1) (k := i) (fun _ => rfl) (by omega) (by omega) (fun t _ ht => by unfold tt; rw [if_neg (by omega), if_neg (by omega)])
  rw [show tt s x y m (j + 1) i = X from by unfold tt; rw [if_pos hi.symm]; exact hX] at this
  exact this
 have hkeep : pk s x y (tb s x y m) i (j + 1) = pk s x y (tb s x y m) i j -> tabL rsc (tt s x y m (j + 1)) (s.length + 1) = tabL rsc (tt s x y m j) (s.length + 1) := fun hX => tabL_congr fun t _ => by
  unfold tt
  split
  ·rename_i hc
   obtain rfl : t = i := by omega
   exact hX
  ·rfl
 have hfar := pk_far (a := x) (G := tb s x y m) (i := i) (k := j) (n := m + 1) ok
 have hb1 := tb_bd ok m (i + j + 1)
 have hb2 := pk_bd (i := i) ok (tb_bd ok m) (n := j) (by omega)
 rw [ht1] at hr1
 rw [ht2] at hr2
 generalize pk s x y (tb s x y m) i (j + 1) = Q at *
 generalize pk s x y (tb s x y m) i j = P at *
 generalize tb s x y m (i + j + 1) = V at *
 generalize spn s i (i + j) = Sp at *
 obtain ⟨V1, V2, V3⟩ := V
 obtain ⟨P1, P2, P3⟩ := P
 have hk1 : (((i + j : Nat) : Int) + 1).toNat = i + j + 1 := by omega
 rw [<- hk1] at hr1
 dsimp only [rsc] at hr1 hr2 hb1 hb2 hpk
 have r10 : Rd1 M6 nb (0 + (((i + j : Nat) : Int) + 1).toNat * 3 + 0) (I V1) := hr1.nth rfl
 have r11 : Rd1 M6 nb (0 + (((i + j : Nat) : Int) + 1).toNat * 3 + 1) (I V2) := hr1.nth rfl
 have r20 : Rd1 M6 nb (0 + i * 3 + 0) (I P1) := hr2.nth rfl
 have r21 : Rd1 M6 nb (0 + i * 3 + 1) (I P2) := hr2.nth rfl
 (have hrd0 := r10; have hrd1 := r11; have hrd2 := r20; have hrd3 := r21; repeat' (first | (with_reducible intro _) | refine sv ?_ | (refine sc ?_ ?_ <;> (intro h; try first | exact h.elim | exact absurd rfl h | (exfalso; omega))) | ((with_reducible first | apply x_pure | apply d_pure | apply d_pure0); exact gd; exact rfl; exact rfl; (first | exact cp)) | (refine sg ?_ ?_ <;> (intro h; (fail_if_success (have : True := h)); try first | exact h.elim | exact absurd rfl h | (exfalso; omega))) | assumption | exact xm | exact rfl))
 ·refine k_step (s.length - (m + 1)) (by omega) ⟨m + 1, rfl, by omega, rfl, .cons rfl (.cons rfl (.cons rfl (.cons rfl (.cons (by show some (LV.int .i64 _) = some (LV.int .i64 _); congr 2; omega) .nil)))), xg, by omega, xm, ?_⟩
  rw [show tabL rsc (tb s x y (m + 1)) (s.length + 1) = tabL rsc (tt s x y m j) (s.length + 1) from tabL_congr fun t _ => by
   by_cases ht : t = i
   ·subst ht
    rw [ht2, <- hfar (by omega) (by omega) (by omega)]
    show (if t + (m + 1) = s.length then _ else _) = _
    rw [if_pos hi.symm]
   ·show (if t + (m + 1) = s.length then _ else _) = (if t + (m + 1) = s.length then _ else _)
    rw [if_neg (by omega), if_neg (by omega)]]
  exact xm
 ·refine x_st (by exact gd) rfl rfl (show At _ nb _ from xm) rfl rfl (cs' := tabL rsc (tt s x y m (j + 1)) (s.length + 1)) (by rw [Nat.zero_add]; exact hset (X := (x + Sp + V1, 1 + V2, i + j)) (by rw [hpk]; exact if_pos ⟨by omega, by omega⟩)) ?_
  intro M9 hu9 e9 a9
  (repeat' (first | (with_reducible intro _) | refine sv ?_ | (refine sc ?_ ?_ <;> (intro h; try first | exact h.elim | exact absurd rfl h | (exfalso; omega))) | (refine sg ?_ ?_ <;> (intro h; (fail_if_success (have : True := h)); try first | exact h.elim | exact absurd rfl h | (exfalso; omega))) | assumption | exact xm | exact rfl))
  exact k_step (s.length - (i + (j + 1))) (by omega) ⟨j + 1, rfl, by omega, rfl, .cons rfl (.cons rfl (.cons rfl (.cons rfl (.cons rfl (.cons rfl .nil))))), xg, by omega, xm, a9⟩
 ·refine x_st (by exact gd) rfl rfl (show At _ nb _ from xm) rfl rfl (cs' := tabL rsc (tt s x y m (j + 1)) (s.length + 1)) (by rw [Nat.zero_add]; exact hset (X := (x + Sp + V1, 1 + V2, i + j)) (by rw [hpk]; exact if_pos ⟨by omega, by omega⟩)) ?_
  intro M9 hu9 e9 a9
  (repeat' (first | (with_reducible intro _) | refine sv ?_ | (refine sc ?_ ?_ <;> (intro h; try first | exact h.elim | exact absurd rfl h | (exfalso; omega))) | (refine sg ?_ ?_ <;> (intro h; (fail_if_success (have : True := h)); try first | exact h.elim | exact absurd rfl h | (exfalso; omega))) | assumption | exact xm | exact rfl))
  exact k_step (s.length - (i + (j + 1))) (by omega) ⟨j + 1, rfl, by omega, rfl, .cons rfl (.cons rfl (.cons rfl (.cons rfl (.cons rfl (.cons rfl .nil))))), xg, by omega, xm, a9⟩
 ·refine x_st (by exact gd) rfl rfl (show At _ nb _ from xm) rfl rfl (cs' := tabL rsc (tt s x y m (j + 1)) (s.length + 1)) (by rw [Nat.zero_add]; exact hset (X := (x + Sp + V1, 1 + V2, i + j)) (by rw [hpk]; exact if_pos ⟨by omega, by omega⟩)) ?_
  intro M9 hu9 e9 a9
  (repeat' (first | (with_reducible intro _) | refine sv ?_ | (refine sc ?_ ?_ <;> (intro h; try first | exact h.elim | exact absurd rfl h | (exfalso; omega))) | (refine sg ?_ ?_ <;> (intro h; (fail_if_success (have : True := h)); try first | exact h.elim | exact absurd rfl h | (exfalso; omega))) | assumption | exact xm | exact rfl))
  exact k_step (s.length - (i + (j + 1))) (by omega) ⟨j + 1, rfl, by omega, rfl, .cons rfl (.cons rfl (.cons rfl (.cons rfl (.cons rfl (.cons rfl .nil))))), xg, by omega, xm, a9⟩
 ·refine k_step (s.length - (i + (j + 1))) (by omega) ⟨j + 1, rfl, by omega, rfl, .cons rfl (.cons rfl (.cons rfl (.cons rfl (.cons rfl (.cons rfl .nil))))), xg, by omega, xm, ?_⟩
  rw [hkeep (by rw [hpk]; exact if_neg (fun hc => by omega))]
  exact xm
 ·refine k_step (s.length - (i + (j + 1))) (by omega) ⟨j + 1, rfl, by omega, rfl, .cons rfl (.cons rfl (.cons rfl (.cons rfl (.cons rfl (.cons rfl .nil))))), xg, by omega, xm, ?_⟩
  rw [hkeep (by rw [hpk]; exact if_neg (fun hc => by omega))]
  exact xm
end Go.Proofs.YtlfkmgpngkbhpaaGreatDoor.C
end
section
open Go PvL Go.Proofs
set_option linter.unusedVariables false
set_option linter.unusedSimpArgs false
namespace Go.Proofs.YtlfkmgpngkbhpaaGreatDoor.C
section
variable {α : Type} {b q : Nat} {ty : TypeId} {enc : α -> List LV} {M : Mem} {v : LV} {l l' : List α} {P : Program} [Orc P] {sz : Nat} {E : Env} {K : Env -> Mem -> Prop} {ll : List XG} {d : Nat} {g : Option (Nat × Bool)} {s x : XO} {st : List Mem} {k : Nat} {xs : List (Nat × Nat × (Mem -> Prop))} {ld : List (XG × XK)} {by' : Nat} {z : List LV} {xv : LV}
theorem d_vec_app0 (hg : GOn E g) (hv : Vec b q ty enc M v l) (hs : xval E s = some v) (hx : xval E x = some xv) (hn : lenOfL xv = some l'.length) (hb : (2 * (l.length + l'.length) + 2048) * by' <= 140737488355328) (hz : (Nat.ble 1 q && (Nat.ble 1 by' && Nat.beq z.length q)) = true) (hw : 0 < l'.length -> firstL q l'.length xv M = some (l'.flatMap enc))
  (henc : ∀ x, (enc x).length = q) (hfl : ∀ x, allFlat (enc x) = true) (hbM : b <= M.next) (hk : ∀ v' M', Vec b q ty enc M' v' (l ++ l') -> M.next <= M'.next -> Keep (fun i => b <= i /\ ∃ o n f e, v = .slice (some (i, o)) n f e) M M' -> XD P sz ld ((d, v') :: E) M' (M' :: st) (k + 1) xs K) : XD P sz ((⟨some d, .app ty q by' z s x, g⟩, .anchor) :: ld) E M st k xs K := by
 rcases Nat.eq_zero_or_pos l'.length with h0 | h0
 ·obtain rfl : l' = [] := List.length_eq_zero_iff.1 h0
  obtain ⟨a, f, e, hsh⟩ := hv.shape
  have h1 := hk v M (by rw [List.append_nil]; exact hv) (Nat.le_refl _) (Keep.refl _ _)
  rw [hsh] at hs h1
  exact d_anch hg (xs_app_nop hs hx hn) h1
 ·exact d_vec_app hg hv hs hx hn h0 hb hz (hw h0) henc hfl hbM fun v' M' h1 h2 h3 => hk v' M' h1 (by omega) h3
end
abbrev PlE := LV × Int × Bool
abbrev plc (r : PlE) : List LV := [r.1, I r.2.1, .bool r.2.2]
abbrev nil0 : LV := .slice none 0 true 0
def ps (s : List Int) (a b : Int) (Q : Nat -> LV) (m t : Nat) : PlE := (Q t, (tb s a b m t).1, decide (s.length <= t + m))
def blL (s : List Int) (a b : Int) (r : Rst) (i j : Nat) : List (Int × Int) := if j = 0 then [] else (el s i, el s r.2.2) :: plan s a b (r.2.2 + 1)
end Go.Proofs.YtlfkmgpngkbhpaaGreatDoor.C
end
