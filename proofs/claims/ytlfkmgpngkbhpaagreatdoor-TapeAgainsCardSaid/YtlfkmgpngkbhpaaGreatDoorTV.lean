/-
  Part of the proof of TapeAgains: what functions of the program and of the statement come to, walked by the rules. No condition beyond those in each theorem.
-/
import Derived.Test.YtlfkmgpngkbhpaaGreatDoorTU
import Derived.Test.YtlfkmgpngkbhpaaGreatDoorTX
section
open Go PvL Go.Proofs
set_option linter.unusedSimpArgs false
set_option linter.unusedVariables false
namespace Go.Proofs.YtlfkmgpngkbhpaaGreatDoor.C
def ApI (o : Option Nat) (M : Mem) (v : LV) (l : List Int) : Prop :=
  (o = none /\ l = [] /\ v = nil0) ∨ ∃ i f ty, o = some i /\ v = .slice (some (i, 0)) l.length f 1 /\ At M i (.cells true (l.flatMap intc) ty) /\ (f = true ∨ ty = apE 3)
theorem ApI.keep {o : Option Nat} {M M' : Mem} {v : LV} {l : List Int} {F : Nat -> Prop} (h : ApI o M v l) (hk : Keep F M M') (hF : ∀ i, o = some i -> ¬ F i) : ApI o M' v l :=
  h.imp id fun ⟨i, f, ty, h1, h2, h3, h4⟩ => ⟨i, f, ty, h1, h2, h3.keep hk (hF i h1), h4⟩
theorem ApI.grow {o : Option Nat} {M M' : Mem} {v : LV} {l : List Int} (h : ApI o M v l) (hg : Grow M M') : ApI o M' v l :=
  h.imp id fun ⟨i, f, ty, h1, h2, h3, h4⟩ => ⟨i, f, ty, h1, h2, h3.grow hg, h4⟩
theorem ApI.lt {o : Option Nat} {M : Mem} {v : LV} {l : List Int} (h : ApI o M v l) {i : Nat} (hi : o = some i) : i < M.next := by
  rcases h with ⟨h1, _⟩ | ⟨i', f, ty, h1, h2, h3, h4⟩
  · rw [h1] at hi; cases hi
  · rw [h1] at hi
    obtain rfl : i' = i := Option.some.inj hi
    exact h3.2
theorem ApI.sl {o : Option Nat} {M : Mem} {v : LV} {l : List Int} (h : ApI o M v l) : ∃ a f e, v = .slice a l.length f e /\ SlI M a l := by
  rcases h with ⟨rfl, rfl, rfl⟩ | ⟨i, f, ty, rfl, rfl, h3, h4⟩
  · exact ⟨_, _, _, rfl, .inl rfl⟩
  · exact ⟨_, _, _, rfl, .inr ⟨i, 0, rfl, fun k hk => rd_one (rd_flat (enc := intc) h3 (fun _ _ => rfl) hk)⟩⟩
theorem x_api {y : Int} {P : Program} [Orc P] {sz : Nat} {E : Env} {M : Mem} {K : Env -> Mem -> Prop} {ll : List XG} {d : Nat} {g : Option (Nat × Bool)} {sx0 x : XO} {o : Option Nat} {v : LV} {l : List Int} {z : List LV} {xv : LV}
    (hg : GOn E g) (hv : ApI o M v l) (hs : xval E sx0 = some v) (hx : xval E x = some xv) (hn : lenOfL xv = some 1) (hl : l.length <= 1000000) (hz : z.length = 1) (hw : firstL 1 1 xv M = some [I y])
    (hk : ∀ v' M', ApI (some M.next) M' v' (l ++ [y]) -> M'.next = M.next + 1 -> Keep (fun j => o = some j) M M' -> XW P sz ll ((d, v') :: E) M' K) : XW P sz (⟨some d, .app 3 1 8 z sx0 x, g⟩ :: ll) E M K := by
  have hz2 : (Nat.ble 1 1 && (Nat.ble 1 8 && Nat.beq z.length 1)) = true := by rw [hz]; rfl
  have hlen : (l ++ [y]).length = l.length + 1 := by rw [List.length_append]; rfl
  have hfm : (l ++ [y]).flatMap intc = l.flatMap intc ++ [I y] := by rw [List.flatMap_append]; rfl
  rcases hv with ⟨rfl, rfl, rfl⟩ | ⟨i, f, ty, rfl, rfl, h3, h4⟩
  · refine x_app_new hg hs hx hn (by omega) (by simp) hz2 rfl hw rfl (.inl rfl) fun m M' hN e1 e2 => ?_
    subst e1
    exact hk _ M' (.inr ⟨_, _, _, rfl, rfl, At.new_same hN, .inr rfl⟩) e2 (hN.grow.to_keep _)
  · have ho : firstL 1 l.length (.slice (some (i, 0)) l.length f 1) M = some (l.flatMap intc) :=
      firstL_rd (enc := intc) (fun _ _ => rfl) (fun k hk => rd_flat (enc := intc) h3 (fun _ _ => rfl) hk)
    have hroom : (2 * (l.length + 1) + 2048) * 8 <= 140737488355328 := by omega
    cases f with
    | true =>
      refine x_app_new hg hs hx hn (by omega) hroom hz2 ho hw rfl (.inr rfl) fun m M' hN e1 e2 => ?_
      subst e1
      exact hk _ M' (.inr ⟨_, _, _, rfl, by rw [hlen], by rw [hfm]; exact At.new_same hN, .inr rfl⟩) e2 (hN.grow.to_keep _)
    | false =>
      obtain rfl : ty = apE 3 := h4.resolve_left (by decide)
      have hK : Kill M i M.next (.cells true (l.flatMap intc ++ [I y]) (apE 3)) ((M.upd i none).push (.cells true (l.flatMap intc ++ [I y]) (apE 3))) := ⟨rfl, rfl⟩
      refine x_gen hg (xs_app_kill hs hx hn (by omega) hroom hz2 ho hw rfl h3 (by rw [show Nat.beq (apE 3) (apE 3) = true by simp, Bool.or_true])) ?_
      exact hk _ _ (.inr ⟨_, _, _, rfl, by rw [hlen], by rw [hfm]; exact hK.same, .inr rfl⟩) hK.next (hK.keep.weaken fun j hj => by subst hj; rfl)
def lsL (s : List Int) (a b : Int) (k : Nat) : List Int := (List.range (k + 1)).map (lst s a b)
theorem lsL_len (s : List Int) (a b : Int) (k : Nat) : (lsL s a b k).length = k + 1 := by unfold lsL; simp
theorem lsL_at {s : List Int} {a b : Int} {k i : Nat} (h : i < (lsL s a b k).length) : (lsL s a b k)[i] = lst s a b i := by
  have hi : i < k + 1 := by rw [lsL_len] at h; exact h
  apply Option.some.inj
  rw [<- List.getElem?_eq_getElem h]
  unfold lsL
  simp [hi]
theorem lsL_s (s : List Int) (a b : Int) (k : Nat) : lsL s a b (k + 1) = lsL s a b k ++ [lst s a b (k + 1)] := by unfold lsL; rw [List.range_succ, List.map_append]; rfl
theorem prices_take {s : List Int} {a b : Int} {k : Nat} (h : k < s.length) : (prices s a b).take (k + 1) = (prices s a b).take k ++ [lst s a b (k + 1) - lst s a b k] := by
  unfold prices
  rw [List.take_succ_eq_append_getElem (by simpa using h)]
  simp
theorem mn_s {s : List Int} {a b : Int} {G : Nat -> Int} {k j : Nat} : mn s a b G k (j + 1) = if spn s (k - 1 - j) k <= b then iMin (mn s a b G k j) (a + spn s (k - 1 - j) k + G (k - 1 - j)) else mn s a b G k j := rfl
theorem mn_bd {s : List Int} {a b : Int} (ok : OkS s a b) {k j : Nat} (hk : k < s.length) (hj : j <= k) : 0 <= mn s a b (lst s a b) k j /\ mn s a b (lst s a b) k j <= 1001 + 1001 * 128 := by
  obtain ⟨i, h1, h2, h3⟩ := mn_at (s := s) (a := a) (b := b) (G := lst s a b) (k := k) (by rw [spn_self]; exact ok.b0.1) hj
  have h4 := mn_le0 (s := s) (a := a) (b := b) (G := lst s a b) (k := k) (n := j)
  have h5 := lst_0le ok k (by omega)
  have h6 := lst_0le ok i (by omega)
  have h7 := ok.a0
  have h8 := ok.spn h1 hk
  have h9 := ok.len
  rw [spn_self] at h4
  omega
def pricesF (s : List Int) (a b : Int) : List Int := if okS s a b then prices s a b else []
set_option maxHeartbeats 16000000 in
theorem c_Prices {M : Mem} {a : Option (Nat × Nat)} {s : List Int} {f : Bool} {e : Nat} {x y : Int} (hs : SlI M a s) (hl : s.length <= 1000000000000000) :
    CallOk Tryz.prog 53 [.slice a s.length f e, I x, I y] M (fun w M' => ∃ a' f' e', w = .tup [.slice a' (pricesF s x y).length f' e', I (agF s x y).2.2] /\ SlI M' a' (pricesF s x y) /\ Grow M M') := by
  refine call_in k53 rfl ?_
  dsimp only [x53, zipE, Nat.reduceAdd]
  have ca := fun M' (hg : Grow M M') => c_againOf (f := f) (e := e) (x := x) (y := y) (hs.grow hg) hl
  cases hok : okS s x y with
  | false =>
    rw [agF_no hok, show pricesF s x y = [] from by unfold pricesF; rw [hok]; rfl]
    rw [hok] at ca
    have ca : ∀ M', Grow M M' -> CallOk Tryz.prog 82 [.slice a s.length f e, I x, I y] M' (fun w M2 => w = .tup [.agg [.slice none 0 true 0, I 0, I 0], I 84] /\ Grow M' M2) := ca
    (repeat' (first | (with_reducible intro _) | refine sv ?_ | (refine sc ?_ ?_ <;> (intro h; try first | exact h.elim | exact absurd rfl h | (exfalso; omega))) | ((with_reducible first | apply x_pure | apply d_pure | apply d_pure0); exact gd; exact rfl; exact rfl; (first | exact ca _ (xg))) | (refine sg ?_ ?_ <;> (intro h; (fail_if_success (have : True := h)); try first | exact h.elim | exact absurd rfl h | (exfalso; omega))) | assumption | exact xm | exact rfl))
    ((with_reducible first | apply k_fun | apply k_fun_norm); exact rx)
    exact ⟨_, _, _, rfl, .inl rfl, xg⟩
  | true =>
  rw [agF_yes hok, show pricesF s x y = prices s x y from by unfold pricesF; rw [hok]; rfl]
  rw [hok] at ca
  have ca : ∀ M', Grow M M' -> CallOk Tryz.prog 82 [.slice a s.length f e, I x, I y] M' (fun w M2 => w = .tup [agV a s.length f e x y, I 0] /\ Grow M' M2) := ca
  have ok := okS_p hok
  have hL := ok.len
  have ha0 := ok.a0
  have hb0 := ok.b0
  (repeat' (first | (with_reducible intro _) | refine sv ?_ | (refine sc ?_ ?_ <;> (intro h; try first | exact h.elim | exact absurd rfl h | (exfalso; omega))) | ((with_reducible first | apply x_pure | apply d_pure | apply d_pure0); exact gd; exact rfl; exact rfl; (first | exact ca _ (xg))) | (refine sg ?_ ?_ <;> (intro h; (fail_if_success (have : True := h)); try first | exact h.elim | exact absurd rfl h | (exfalso; omega))) | assumption | exact xm | exact rfl))
  rename_i M1 hg1 hl1 n2 M2 hN2 q1 q2 M3 hU3 q3 hA3 n4 M4 hN4 q4 q5
  clear h ca
  have hg4 : Grow M M4 := xg
  have hA4 := At.grow hN4.grow hA3
  have hls : ApI (some n4) M4 (.slice (some (n4, 0)) 1 true 1) (lsL s x y 0) := .inr ⟨n4, true, _, rfl, rfl, At.new_same hN4, .inl rfl⟩
  have h24 : n2 < n4 := by omega
  clear hN2 hU3 hg1 hN4
  have hn4 : n4 < M4.next := by omega
  have hM2 : M.next <= n2 := by omega
  clear q1 q2 q3 q4 q5
  refine w_loop_ind (fun z E ms M' => ∃ (k : Nat) (v w : LV) (o1 : Option Nat) (i2 : Nat), z = s.length - k /\ k <= s.length /\ ms = [] /\ Has E [(8, .ptr (some (n2, 0))), (10, v), (11, w), (30, I s.length), (31, I k)] /\ Grow M M' /\ M4.next <= M'.next /\ At M' n2 (.cells true [.slice a s.length f e, I x, I y] 127) /\ ApI o1 M' v ((prices s x y).take k) /\ ApI (some i2) M' w (lsL s x y k) /\ o1 ≠ some i2 /\ (∀ i, o1 = some i -> n4 < i) /\ n4 <= i2)
    ?_ s.length _ _ _ ⟨0, _, _, none, n4, by omega, by omega, rfl, .cons rfl (.cons rfl (.cons rfl (.cons rfl (.cons rfl .nil)))), hg4, Nat.le_refl _, hA4, .inl ⟨rfl, rfl, rfl⟩, hls, by simp, (fun i hi => by cases hi), Nat.le_refl _⟩
  rintro z E ms M5 ⟨k, v, w, o1, i2, rfl, hk, rfl, hE, hg5, hle5, hB2, hv, hw, hoi, ho1, hi2⟩
  refine w_has hE ?_
  by_cases hlast : k = s.length
  · subst hlast
    rw [List.take_of_length_le (by rw [prices_len]; exact Nat.le_refl _)] at hv
    obtain ⟨a9, f9, e9, rfl, hs9⟩ := hv.sl
    (repeat' (first | (with_reducible intro _) | refine sv ?_ | (refine sc ?_ ?_ <;> (intro h; try first | exact h.elim | exact absurd rfl h | (exfalso; omega))) | (refine sg ?_ ?_ <;> (intro h; (fail_if_success (have : True := h)); try first | exact h.elim | exact absurd rfl h | (exfalso; omega))) | assumption | exact xm | exact rfl))
    ((with_reducible first | apply k_fun | apply k_fun_norm); exact rx)
    exact ⟨_, _, _, rfl, hs9, hg5⟩
  have hlt : k < s.length := by omega
  have hs5 := hs.grow hg5
  have cp := c_pass (f := f) (e := e) hs5 ok (i := k) (k := k) (Nat.le_refl _) hlt
  rw [spn_self] at cp
  have hlk := lst_0le ok k (by omega)
  obtain ⟨wa, wf, we, rfl, hws⟩ := hw.sl
  have hwl := lsL_len s x y k
  obtain ⟨p, o, rfl, hr⟩ := hws.rd (k := k) (by omega)
  rw [lsL_at] at hr
  have hmk := lst_mn (s := s) (a := x) (b := y) k
  have hmn0 : mn s x y (lst s x y) k 0 = x + 1 + lst s x y k := by show x + spn s k k + lst s x y k = _; rw [spn_self]
  generalize hG : lst s x y k = G at *
  (have hrd0 := hr; repeat' (first | (with_reducible intro _) | refine sv ?_ | (refine sc ?_ ?_ <;> (intro h; try first | exact h.elim | exact absurd rfl h | (exfalso; omega))) | ((with_reducible first | apply x_pure | apply d_pure | apply d_pure0); exact gd; exact rfl; exact rfl; (first | exact cp)) | (refine sg ?_ ?_ <;> (intro h; (fail_if_success (have : True := h)); try first | exact h.elim | exact absurd rfl h | (exfalso; omega))) | assumption | exact xm | exact rfl))
  rename_i M6 hg6 l6
  refine w_loop_ind (fun z E ms M' => ∃ (j : Nat), z = k - j /\ j <= k /\ ms = [] /\ Has E [(8, .ptr (some (n2, 0))), (10, v), (11, .slice (some (p, o)) (lsL s x y k).length wf we), (12, I k), (13, I (mn s x y (lst s x y) k j)), (15, I ((k : Int) - 1 - j)), (30, I s.length), (31, I k)] /\ Grow M5 M' /\ M5.next <= M'.next)
    ?_ k _ _ _ ⟨0, by omega, by omega, rfl, .cons rfl (.cons rfl (.cons rfl (.cons rfl (.cons (by rw [hmn0]; rfl) (.cons (by show some (LV.int .i64 _) = some (LV.int .i64 _); congr 2; omega) (.cons rfl (.cons rfl .nil))))))), hg6, l6⟩
  rintro z E ms M7 ⟨j, rfl, hj, rfl, hE, hg7, hle7⟩
  refine w_has hE ?_
  have hmb := mn_bd (a := x) (b := y) ok hlt hj
  by_cases hlast2 : j = k
  · subst hlast2
    rw [<- hmk] at hmb ⊢
    have hv7 := hv.grow hg7
    have hw7 := hw.grow hg7
    have hB7 := At.grow hg7 hB2
    generalize hMk : lst s x y (j + 1) = Mk at *
    (repeat' (first | (with_reducible intro _) | refine sv ?_ | (refine sc ?_ ?_ <;> (intro h; try first | exact h.elim | exact absurd rfl h | (exfalso; omega))) | (refine sg ?_ ?_ <;> (intro h; (fail_if_success (have : True := h)); try first | exact h.elim | exact absurd rfl h | (exfalso; omega))) | assumption | exact xm | exact rfl))
    rename_i n8 M8 hN8 q1 q2
    have hv8 := hv7.grow hN8.grow
    have hw8 := hw7.grow hN8.grow
    have hB8 := At.grow hN8.grow hB7
    have li2 := hw8.lt rfl
    have lo1 := fun i hi => hv7.lt (i := i) hi
    refine x_api (y := Mk) (by exact gd) hw8 rfl rfl rfl (by omega) rfl (one_first hN8) ?_
    intro w' M9 hw9 q3 hk9
    rw [<- hMk, <- lsL_s] at hw9
    have hv9 := hv8.keep hk9 (fun i hi hh => hoi (hi.trans hh.symm))
    have hB9 := At.keep hk9 (fun hh => by have := Option.some.inj hh; omega) hB8
    obtain ⟨wa2, wf2, we2, rfl, hws2⟩ := hw9.sl
    have hwl2 := lsL_len s x y (j + 1)
    obtain ⟨p2, o2, rfl, hr2⟩ := hws2.rd (k := j) (by omega)
    rw [lsL_at, hG] at hr2
    have hg9 : Grow M M9 := Keep.to_grow' (hg5.trans (hg7.trans hN8.grow)) hk9 (fun i hi => by have := Option.some.inj hi; omega)
    (have hrd0 := hr2; repeat' (first | (with_reducible intro _) | refine sv ?_ | (refine sc ?_ ?_ <;> (intro h; try first | exact h.elim | exact absurd rfl h | (exfalso; omega))) | (refine sg ?_ ?_ <;> (intro h; (fail_if_success (have : True := h)); try first | exact h.elim | exact absurd rfl h | (exfalso; omega))) | assumption | exact xm | exact rfl))
    rename_i n10 M10 hN10 q4 q5
    have hv10 := hv9.grow hN10.grow
    have hw10 := hw9.grow hN10.grow
    have hB10 := At.grow hN10.grow hB9
    have hplt : ((prices s x y).take j).length <= 1000000 := by rw [List.length_take]; omega
    refine x_api (y := Mk - G) (by exact gd) hv10 rfl rfl rfl hplt rfl (one_first hN10) ?_
    intro v' M11 hv11 q6 hk11
    rw [<- hMk, <- hG, <- prices_take hlt] at hv11
    have hw11 := hw10.keep hk11 (fun i hi hh => by have h1 := lo1 i hh; have := Option.some.inj hi; omega)
    have hB11 := At.keep hk11 (fun hh => by have := ho1 _ hh; omega) hB10
    have hg11 : Grow M M11 := Keep.to_grow' (hg9.trans hN10.grow) hk11 (fun i hi => by have := ho1 _ hi; omega)
    (repeat' (first | (with_reducible intro _) | refine sv ?_ | (refine sc ?_ ?_ <;> (intro h; try first | exact h.elim | exact absurd rfl h | (exfalso; omega))) | (refine sg ?_ ?_ <;> (intro h; (fail_if_success (have : True := h)); try first | exact h.elim | exact absurd rfl h | (exfalso; omega))) | assumption | exact xm | exact rfl))
    exact k_step (s.length - (j + 1)) (by omega) ⟨j + 1, v', _, some M10.next, M8.next, rfl, by omega, rfl, .cons rfl (.cons rfl (.cons rfl (.cons rfl (.cons rfl .nil)))), hg11, by omega, hB11, hv11, hw11, (fun hh => by have := Option.some.inj hh; omega), (fun i hi => by have := Option.some.inj hi; omega), by omega⟩
  obtain ⟨i, hi⟩ : ∃ i : Nat, k = i + (j + 1) := ⟨k - (j + 1), by omega⟩
  have hii : (k : Int) - 1 - j = (i : Int) := by omega
  rw [hii]
  have hs7 := hs5.grow hg7
  have cp7 := c_pass (f := f) (e := e) hs7 ok (i := i) (k := k) (by omega) hlt
  have hB7 := At.grow hg7 hB2
  obtain ⟨p2, o2, he2, hr2⟩ := (hws.grow hg7).rd (k := i) (by omega)
  obtain ⟨rfl, rfl⟩ : p2 = p /\ o2 = o := by injection he2 with q; injection q with q1 q2; exact ⟨q1.symm, q2.symm⟩
  rw [lsL_at] at hr2
  have hli := lst_0le ok i (by omega)
  have hsp := ok.spn (i := i) (k := k) (by omega) hlt
  have hms := mn_s (s := s) (a := x) (b := y) (G := lst s x y) (k := k) (j := j)
  rw [show k - 1 - j = i from by omega] at hms
  generalize hA : mn s x y (lst s x y) k j = A at *
  generalize spn s i k = Sp at *
  generalize lst s x y i = Gi at *
  (have hrd0 := hr2; repeat' (first | (with_reducible intro _) | refine sv ?_ | (refine sc ?_ ?_ <;> (intro h; try first | exact h.elim | exact absurd rfl h | (exfalso; omega))) | ((with_reducible first | apply x_pure | apply d_pure | apply d_pure0); exact gd; exact rfl; exact rfl; (first | exact cp7)) | (refine sg ?_ ?_ <;> (intro h; (fail_if_success (have : True := h)); try first | exact h.elim | exact absurd rfl h | (exfalso; omega))) | assumption | exact xm | exact rfl))
  · rw [if_pos (by omega)] at hms
    exact k_step (k - (j + 1)) (by omega) ⟨j + 1, rfl, by omega, rfl, .cons rfl (.cons rfl (.cons rfl (.cons rfl (.cons (by rw [hms]; rfl) (.cons (by show some (LV.int .i64 _) = some (LV.int .i64 _); congr 2; omega) (.cons rfl (.cons rfl .nil))))))), xg, by omega⟩
  · rw [if_neg (by omega)] at hms
    exact k_step (k - (j + 1)) (by omega) ⟨j + 1, rfl, by omega, rfl, .cons rfl (.cons rfl (.cons rfl (.cons rfl (.cons (by rw [hms]; rfl) (.cons (by show some (LV.int .i64 _) = some (LV.int .i64 _); congr 2; omega) (.cons rfl (.cons rfl .nil))))))), xg, by omega⟩
theorem plan_small {s : List Int} {a b : Int} : (agF s a b).1.length <= 1000000 := by
  unfold agF
  split
  · rename_i h
    have ok := okS_p h
    have h1 := plan_len ok s.length 0 (by omega)
    have h2 := (tb_bd ok s.length 0).2.2
    have h3 := ok.len
    have : ((plan s a b 0).length : Int) <= s.length := by rw [h1]; exact h2.2
    dsimp only
    omega
  · exact Nat.zero_le _
theorem prices_priced {s : List Int} {a b : Int} (h : okS s a b = true) : prF s (pricesF s a b) a b = ((agF s a b).2.1, 0) := by
  rw [agF_yes h]
  unfold pricesF
  rw [if_pos h]
  exact prices_ok (okS_p h)
set_option maxHeartbeats 8000000 in
theorem c_TapeAgains {M : Mem} {a : Option (Nat × Nat)} {s : List Int} {f : Bool} {e : Nat} {x y : Int} (hs : SlI M a s) (hl : s.length <= 1000000000000000) (hB : Base M) (hq : preOk M tabs = true) :
    CallOk Tryz.prog 13 [.slice a s.length f e, I x, I y] M (fun r _ => r = .bool true) := by
  refine call_in k13 rfl ?_
  dsimp only [x13, zipE, Nat.reduceAdd]
  have c1 := fun M' (hg : Grow M M') => c_Again (f := f) (e := e) (x := x) (y := y) (hs.grow hg) hl
  have c2 := fun M' (hg : Grow M M') => c_AgainR (f := f) (e := e) (x := x) (y := y) (hs.grow hg) hl
  have c3 := fun M' (hg : Grow M M') => c_Prices (f := f) (e := e) (x := x) (y := y) (hs.grow hg) hl
  have hsm := plan_small (s := s) (a := x) (b := y)
  have hpp := prices_priced (s := s) (a := x) (b := y)
  have he : (agF s x y).2.2 = if okS s x y then 0 else 84 := by unfold agF; split <;> rfl
  have hpn : okS s x y = false -> pricesF s x y = [] := fun h0 => by unfold pricesF; rw [h0]; rfl
  have hpl : (pricesF s x y).length <= 1000000000000000 := by
    unfold pricesF
    split
    · rw [prices_len]; exact hl
    · exact Nat.zero_le _
  generalize agF s x y = F at *
  obtain ⟨F1, F2, F3⟩ := F
  dsimp only at *
  (repeat' (first | (with_reducible intro _) | refine sv ?_ | (refine sc ?_ ?_ <;> (intro h; try first | exact h.elim | exact absurd rfl h | (exfalso; omega))) | ((with_reducible first | apply x_call | apply d_call | apply x_call0); exact gd; exact rfl; exact rfl; (first | exact c1 _ (xg))) | (refine sg ?_ ?_ <;> (intro h; (fail_if_success (have : True := h)); try first | exact h.elim | exact absurd rfl h | (exfalso; omega))) | assumption | exact xm | exact rfl))
  rename_i hq1
  obtain ⟨p1, rfl, hp1, hg1⟩ := hq1
  have hl1 := hg1.le
  (repeat' (first | (with_reducible intro _) | refine sv ?_ | (refine sc ?_ ?_ <;> (intro h; try first | exact h.elim | exact absurd rfl h | (exfalso; omega))) | ((with_reducible first | apply x_call | apply d_call | apply x_call0); exact gd; exact rfl; exact rfl; (first | exact c2 _ (xg))) | (refine sg ?_ ?_ <;> (intro h; (fail_if_success (have : True := h)); try first | exact h.elim | exact absurd rfl h | (exfalso; omega))) | assumption | exact xm | exact rfl))
  rename_i hq2
  obtain ⟨p2, rfl, hp2, hg2⟩ := hq2
  have hl2 := hg2.le
  have hp1b := hp1.grow hg2
  obtain ⟨a1, f1, e1, rfl, hs1⟩ := hp1b
  obtain ⟨a2, f2, e2, rfl, hs2⟩ := hp2
  (repeat' (first | (with_reducible intro _) | refine sv ?_ | (refine sc ?_ ?_ <;> (intro h; try first | exact h.elim | exact absurd rfl h | (exfalso; omega))) | (refine sg ?_ ?_ <;> (intro h; (fail_if_success (have : True := h)); try first | exact h.elim | exact absurd rfl h | (exfalso; omega))) | assumption | exact xm | exact rfl))
  rename_i M1 M2 _ _
  clear h
  have hg12 : Grow M M2 := hg1.trans hg2
  clear hp1 hg1 hg2 hl1 hl2 c1 c2
  refine w_loop_ind (fun z E ms M' => ∃ k : Nat, z = F1.length - k /\ k <= F1.length /\ ms = [] /\ Has E [(0, .slice a s.length f e), (1, I x), (2, I y), (7, .slice a1 F1.length f1 e1), (10, .slice a2 F1.length f2 e2), (11, I F2), (12, I F3), (13, I k)] /\ M' = M2)
    ?_ F1.length _ _ _ ⟨0, by omega, by omega, rfl, .cons rfl (.cons rfl (.cons rfl (.cons rfl (.cons rfl (.cons rfl (.cons rfl (.cons rfl .nil))))))), rfl⟩
  rintro z E ms M3 ⟨k, rfl, hk, rfl, hE, rfl⟩
  refine w_has hE ?_
  by_cases hlast : k = F1.length
  · cases hok : okS s x y with
    | false =>
      rw [hpn hok] at c3
      rw [hok, if_neg (by decide)] at he
      subst he
      (repeat' (first | (with_reducible intro _) | refine sv ?_ | (refine sc ?_ ?_ <;> (intro h; try first | exact h.elim | exact absurd rfl h | (exfalso; omega))) | ((with_reducible first | apply x_call | apply d_call | apply x_call0); exact gd; exact rfl; exact rfl; (first | exact c3 _ hg12)) | (refine sg ?_ ?_ <;> (intro h; (fail_if_success (have : True := h)); try first | exact h.elim | exact absurd rfl h | (exfalso; omega))) | assumption | exact xm | exact rfl))
      rename_i hq3
      obtain ⟨a3, f3, e3, rfl, hs3, hg3⟩ := hq3
      have hl3 := hg3.le
      (repeat' (first | (with_reducible intro _) | refine sv ?_ | (refine sc ?_ ?_ <;> (intro h; try first | exact h.elim | exact absurd rfl h | (exfalso; omega))) | ((with_reducible first | apply x_same | apply d_same | apply d_same0); exact gd; exact rfl; exact rfl; (first | exact c_works (preOk_ext (Ext.of_grow (hg12.trans hg3) hB) hq))) | (refine sg ?_ ?_ <;> (intro h; (fail_if_success (have : True := h)); try first | exact h.elim | exact absurd rfl h | (exfalso; omega))) | assumption | exact xm | exact rfl))
      all_goals try (exfalso; simp_all; done)
      ((with_reducible first | apply k_fun | apply k_fun_norm); exact rx)
      rfl
    | true =>
      have hpp := hpp hok
      rw [hok, if_pos rfl] at he
      subst he
      (repeat' (first | (with_reducible intro _) | refine sv ?_ | (refine sc ?_ ?_ <;> (intro h; try first | exact h.elim | exact absurd rfl h | (exfalso; omega))) | ((with_reducible first | apply x_call | apply d_call | apply x_call0); exact gd; exact rfl; exact rfl; (first | exact c3 _ hg12)) | (refine sg ?_ ?_ <;> (intro h; (fail_if_success (have : True := h)); try first | exact h.elim | exact absurd rfl h | (exfalso; omega))) | assumption | exact xm | exact rfl))
      rename_i hq3
      obtain ⟨a3, f3, e3, rfl, hs3, hg3⟩ := hq3
      have hl3 := hg3.le
      have c4 := fun M' (hg : Grow M M') (hg' : Grow _ M') => c_PricedR (f := f) (e := e) (f' := f3) (e' := e3) (x := x) (y := y) (hs.grow hg) hl (hs3.grow hg') hpl
      rw [hpp] at c4
      dsimp only at c4
      have hgw := hg12.trans hg3
      (repeat' (first | (with_reducible intro _) | refine sv ?_ | (refine sc ?_ ?_ <;> (intro h; try first | exact h.elim | exact absurd rfl h | (exfalso; omega))) | ((with_reducible first | apply x_same | apply d_same | apply d_same0); exact gd; exact rfl; exact rfl; (first | exact c_works (preOk_ext (Ext.of_grow (hgw.trans (xg)) hB) hq))) | ((with_reducible first | apply x_pure | apply d_pure | apply d_pure0); exact gd; exact rfl; exact rfl; (first | exact c4 _ hgw (Grow.refl _))) | (refine sg ?_ ?_ <;> (intro h; (fail_if_success (have : True := h)); try first | exact h.elim | exact absurd rfl h | (exfalso; omega))) | assumption | exact xm | exact rfl))
      all_goals try (exfalso; simp_all; done)
      ((with_reducible first | apply k_fun | apply k_fun_norm); exact rx)
      rfl
  · have hlt : k < F1.length := by omega
    obtain ⟨i, o, rfl, hr⟩ := hs1.rd hlt
    obtain ⟨i2, o2, rfl, hr2⟩ := hs2.rd hlt
    (have hrd0 := hr; have hrd1 := hr2; repeat' (first | (with_reducible intro _) | refine sv ?_ | (refine sc ?_ ?_ <;> (intro h; try first | exact h.elim | exact absurd rfl h | (exfalso; omega))) | (refine sg ?_ ?_ <;> (intro h; (fail_if_success (have : True := h)); try first | exact h.elim | exact absurd rfl h | (exfalso; omega))) | assumption | exact xm | exact rfl))
    refine d_val (by exact gd) (xs_nepair rfl rfl) ?_
    rw [show (!(decide (F1[k].1 = F1[k].1) && decide (F1[k].2 = F1[k].2))) = false from by simp]
    (repeat' (first | (with_reducible intro _) | refine sv ?_ | (refine sc ?_ ?_ <;> (intro h; try first | exact h.elim | exact absurd rfl h | (exfalso; omega))) | (refine sg ?_ ?_ <;> (intro h; (fail_if_success (have : True := h)); try first | exact h.elim | exact absurd rfl h | (exfalso; omega))) | assumption | exact xm | exact rfl))
    exact k_step (F1.length - (k + 1)) (by omega) ⟨k + 1, rfl, by omega, rfl, .cons rfl (.cons rfl (.cons rfl (.cons rfl (.cons rfl (.cons rfl (.cons rfl (.cons rfl .nil))))))), rfl⟩
end Go.Proofs.YtlfkmgpngkbhpaaGreatDoor.C
end
