/-
 Part of the proof of TapeLacks: what functions of the program and of the statement come to, walked by the rules. No condition beyond those in each theorem.
-/
import Derived.Test.YtbfnnllgdioccaaGreatDoorTQ
import Derived.Test.YtbfnnllgdioccaaGreatDoorTX
import Derived.Test.YtbfnnllgdioccaaGreatDoorTP
section
open Go PvL Go.Proofs
set_option linter.unusedVariables false
set_option linter.unusedSimpArgs false
namespace Go.Proofs.YtbfnnllgdioccaaGreatDoor.C
section
variable {β : Type} {ev : β -> LV}
def lk : List (Int × β) -> Int -> Option β
 | [], _ => none
 |(a, b) :: L, k => if k = a then some b else lk L k
def stM : List (Int × β) -> Int -> β -> List (Int × β)
 | [], k, v => [(k, v)]
 |(a, b) :: L, k, v => if k = a then (k, v) :: L else (a, b) :: stM L k v
theorem lk_st : ∀ (L : List (Int × β)) (k : Int) (v : β) (k' : Int), lk (stM L k v) k' = if k' = k then some v else lk L k'
 | [], k, v, k' => by
  show (if k' = k then some v else none) = _
  rfl
 |(a, b) :: L, k, v, k' => by
  unfold stM
  by_cases h : k = a
  ·subst h
   rw [if_pos rfl]
   show (if k' = k then some v else lk L k') = if k' = k then some v else (if k' = k then some b else lk L k')
   by_cases h2 : k' = k
   ·rw [if_pos h2, if_pos h2]
   ·rw [if_neg h2, if_neg h2, if_neg h2]
  ·rw [if_neg h]
   show (if k' = a then some b else lk (stM L k v) k') = if k' = k then some v else (if k' = a then some b else lk L k')
   rw [lk_st L k v k']
   by_cases h2 : k' = a
   ·subst h2
    rw [if_pos rfl, if_neg (fun h3 => h h3.symm), if_pos rfl]
   ·rw [if_neg h2, if_neg h2]
theorem eq_int (a b : Int) : eqL Tryz.prog Op.maxDepth 3 (I a) (I b) = some (decide (a = b)) := by
 show eqL Tryz.prog (Op.maxDepth - 1 + 1) 3 (I a) (I b) = _
 unfold eqL
 rw [show Tryz.prog.underlying 3 = some (.int .i64) by kernel_rfl]
 show guard' (kEq .i64 .i64) (some (ieq a b)) = _
 rw [kEq_iff.2 rfl, guard'_true, ieq_eq]
 rfl
theorem st_cons (a : Int) (b : β) (L : List (Int × β)) (k : Int) (v : β) : stM ((a, b) :: L) k v = if k = a then (k, v) :: L else (a, b) :: stM L k v := rfl
theorem findL_cons {P : Program} {kt : TypeId} (heq : ∀ a b : Int, eqL P Op.maxDepth kt (I a) (I b) = some (decide (a = b))) (k a : Int) (b : β) (L : List (Int × β)) (i : Nat) : findL P kt (I k) (encM I ev ((a, b) :: L)) i = if k = a then some (some (i, I a, ev b)) else findL P kt (I k) (encM I ev L) (i + 1) := by
 have h : findL P kt (I k) (encM I ev ((a, b) :: L)) i = ob (eqL P Op.maxDepth kt (I k) (I a)) fun b' => ifb b' (some (some (i, I a, ev b))) (findL P kt (I k) (encM I ev L) (i + 1)) := rfl
 rw [h, heq, ob_some]
 by_cases hab : k = a
 ·rw [decide_eq_true hab, ifb_true, if_pos hab]
 ·rw [decide_eq_false hab, ifb_false, if_neg hab]
theorem find_none' {P : Program} {kt : TypeId} (heq : ∀ a b : Int, eqL P Op.maxDepth kt (I a) (I b) = some (decide (a = b))) (k : Int) : ∀ (L : List (Int × β)) (i : Nat), lk L k = none -> findL P kt (I k) (encM I ev L) i = some none /\ ∀ v, encM I ev L ++ [(I k, ev v)] = encM I ev (stM L k v)
 | [], i, _ => ⟨rfl, fun v => rfl⟩
 |(a, b) :: L, i, h => by
  have h : (if k = a then some b else lk L k) = none := h
  by_cases hka : k = a
  ·rw [if_pos hka] at h; cases h
  ·rw [if_neg hka] at h
   obtain ⟨h1, h2⟩ := find_none' heq k L (i + 1) h
   constructor
   ·rw [findL_cons heq, if_neg hka, h1]
   ·intro v
    rw [st_cons, if_neg hka]
    show (I a, ev b) :: (encM I ev L ++ [(I k, ev v)]) = (I a, ev b) :: encM I ev (stM L k v)
    rw [h2 v]
theorem find_some' {P : Program} {kt : TypeId} (heq : ∀ a b : Int, eqL P Op.maxDepth kt (I a) (I b) = some (decide (a = b))) (k : Int) : ∀ (L : List (Int × β)) (i : Nat) (b : β), lk L k = some b -> ∃ j, findL P kt (I k) (encM I ev L) i = some (some (i + j, I k, ev b)) /\ ∀ v, setVal (encM I ev L) j (I k) (ev v) = encM I ev (stM L k v)
 | [], i, b, h => by cases h
 |(a, c) :: L, i, b, h => by
  have h : (if k = a then some c else lk L k) = some b := h
  by_cases hka : k = a
  ·rw [if_pos hka] at h
   obtain rfl := Option.some.inj h
   subst hka
   refine ⟨0, ?_, fun v => ?_⟩
   ·rw [findL_cons heq, if_pos rfl, Nat.add_zero]
   ·rw [st_cons, if_pos rfl]; rfl
  ·rw [if_neg hka] at h
   obtain ⟨j, h1, h2⟩ := find_some' heq k L (i + 1) b h
   refine ⟨j + 1, ?_, fun v => ?_⟩
   ·rw [findL_cons heq, if_neg hka, h1, Nat.add_assoc, Nat.add_comm 1 j]
   ·rw [st_cons, if_neg hka]
    show (I a, ev c) :: setVal (encM I ev L) j (I k) (ev v) = (I a, ev c) :: encM I ev (stM L k v)
    rw [h2 v]
theorem find_none (k : Int) (L : List (Int × β)) (i : Nat) (hl : lk L k = none) : findL Tryz.prog 3 (I k) (encM I ev L) i = some none /\ ∀ v, encM I ev L ++ [(I k, ev v)] = encM I ev (stM L k v) := find_none' eq_int k L i hl
theorem find_some (k : Int) (L : List (Int × β)) (i : Nat) (b : β) (hl : lk L k = some b) : ∃ j, findL Tryz.prog 3 (I k) (encM I ev L) i = some (some (i + j, I k, ev b)) /\ ∀ v, setVal (encM I ev L) j (I k) (ev v) = encM I ev (stM L k v) := find_some' eq_int k L i b hl
def MpI (ev : β -> LV) (M : Mem) (r : Nat) (L : List (Int × β)) : Prop := ∃ bs clk, At M r (.map (encM I ev L) bs clk)
def lkV (ev : β -> LV) (z : LV) : Option β -> LV
 | some b => ev b
 | none => z
def lkV2 (ev : β -> LV) (z : LV) : Option β -> LV
 | some b => .tup [ev b, .bool true]
 | none => .tup [z, .bool false]
theorem MpI.grow {M M' : Mem} {r : Nat} {L : List (Int × β)} (h : MpI ev M r L) (hg : Grow M M') : MpI ev M' r L := by
 obtain ⟨bs, clk, h⟩ := h
 exact ⟨bs, clk, h.grow hg⟩
theorem MpI.lt {M : Mem} {r : Nat} {L : List (Int × β)} (h : MpI ev M r L) : r < M.next := by
 obtain ⟨bs, clk, h⟩ := h
 exact h.2
theorem MpI.upd {M M' : Mem} {r i : Nat} {lb : LB} {L : List (Int × β)} (h : MpI ev M r L) (hu : Upd M i lb M') (hi : r ≠ i) : MpI ev M' r L := by
 obtain ⟨bs, clk, h⟩ := h
 exact ⟨bs, clk, At.upd_ne hu hi h⟩
theorem MpI.keep {M M' : Mem} {r : Nat} {F : Nat -> Prop} {L : List (Int × β)} (h : MpI ev M r L) (hk : Keep F M M') (hi : ¬ F r) : MpI ev M' r L := by
 obtain ⟨bs, clk, h⟩ := h
 exact ⟨bs, clk, h.keep hk hi⟩
theorem key_ok (k : Int) : keyOk Tryz.prog 10000 3 (I k) = true := by kernel_rfl
variable {E : Env} {M : Mem} {x y z' : XO} {r : Nat} {L : List (Int × β)} {k : Int} {z : LV}
theorem MpI.look1 (h : MpI ev M r L) (hx : xval E x = some (.map (some r))) (hy : xval E y = some (I k)) : xstep Tryz.prog (.lkp 3 z false x y) E M = some (.val (lkV ev z (lk L k)) M) := by
 obtain ⟨bs, clk, hm⟩ := h
 show ob (xval E x) _ = _
 rw [hx, ob_some, hy, ob_some, key_ok, guard'_true]
 show atMap M r _ = _
 unfold atMap
 rw [hm.1, ob_some]
 show ob (findL Tryz.prog 3 (I k) (encM I ev L) 0) _ = _
 cases hl : lk L k with
 | none => rw [(find_none k L 0 hl).1]; rfl
 | some b =>
  obtain ⟨j, h1, _⟩ := find_some k L 0 b hl
  rw [h1]; rfl
theorem MpI.look2 (h : MpI ev M r L) (hx : xval E x = some (.map (some r))) (hy : xval E y = some (I k)) : xstep Tryz.prog (.lkp 3 z true x y) E M = some (.val (lkV2 ev z (lk L k)) M) := by
 obtain ⟨bs, clk, hm⟩ := h
 show ob (xval E x) _ = _
 rw [hx, ob_some, hy, ob_some, key_ok, guard'_true]
 show atMap M r _ = _
 unfold atMap
 rw [hm.1, ob_some]
 show ob (findL Tryz.prog 3 (I k) (encM I ev L) 0) _ = _
 cases hl : lk L k with
 | none => rw [(find_none k L 0 hl).1]; rfl
 | some b =>
  obtain ⟨j, h1, _⟩ := find_some k L 0 b hl
  rw [h1]; rfl
theorem MpI.put {v : β} (h : MpI ev M r L) (hx : xval E x = some (.map (some r))) (hy : xval E y = some (I k)) (hz : xval E z' = some (ev v)) : ∃ lb M', xstep Tryz.prog (.mset 3 x y z') E M = some (.skip M') /\ Upd M r lb M' /\ MpI ev M' r (stM L k v) := by
 obtain ⟨bs, clk, hm⟩ := h
 have key : ∀ R, (ob (findL Tryz.prog 3 (I k) (encM I ev L) 0) fun p => oe p
   (some (R1.skip (M.upd r (some (.map (encM I ev L ++ [(I k, ev v)]) (bs ++ [clk]) (clk + 1))))))
   (fun p => pr p fun i q => pr q fun k' _ => guard' (lvEq (I k) k') (some (.skip (M.upd r (some (.map (setVal (encM I ev L) i (I k) (ev v)) bs clk))))))) = some R -> xstep Tryz.prog (.mset 3 x y z') E M = some R := fun R hR => by
  show ob (xval E x) _ = _
  rw [hx, ob_some, hy, ob_some, hz, ob_some, key_ok, guard'_true]
  show atMap M r _ = _
  unfold atMap
  rw [hm.1, ob_some]
  exact hR
 cases hl : lk L k with
 | none =>
  obtain ⟨h1, h2⟩ := find_none (ev := ev) k L 0 hl
  refine ⟨_, _, key _ (by rw [h1, ob_some]; rfl), ⟨rfl⟩, bs ++ [clk], clk + 1, ?_⟩
  rw [<- h2 v]
  exact At.upd_same ⟨rfl⟩ hm
 | some b =>
  obtain ⟨j, h1, h2⟩ := find_some (ev := ev) k L 0 b hl
  refine ⟨_, _, key (.skip (M.upd r (some (.map (setVal (encM I ev L) j (I k) (ev v)) bs clk)))) (by
   rw [h1, ob_some, Nat.zero_add]
   show guard' (lvEq (I k) (I k)) _ = _
   rw [show lvEq (I k) (I k) = true from by show (kEq .i64 .i64 && ieq k k) = true; rw [kEq_iff.2 rfl, ieq_eq]; simp, guard'_true]), ⟨rfl⟩, bs, clk, ?_⟩
  rw [<- h2 v]
  exact At.upd_same ⟨rfl⟩ hm
end
section
variable {P : Program} [Orc P] {β : Type} {ev : β -> LV} {sz : Nat} {E : Env} {M : Mem} {K : Env -> Mem -> Prop} {l : List XG} {g : Option (Nat × Bool)} {st : List Mem} {n : Nat} {xs : List (Nat × Nat × (Mem -> Prop))} {ld : List (XG × XK)} {x y z' : XO} {r : Nat} {L : List (Int × β)} {k : Int} {v : β}
theorem x_mset_i [Orc Tryz.prog] (hg : GOn E g) (hm : MpI ev M r L) (hx : xval E x = some (.map (some r))) (hy : xval E y = some (I k)) (hz : xval E z' = some (ev v))
  (hk : ∀ lb M', Upd M r lb M' -> M'.next = M.next -> MpI ev M' r (stM L k v) -> XW Tryz.prog sz l E M' K) : XW Tryz.prog sz (⟨none, .mset 3 x y z', g⟩ :: l) E M K := by
 obtain ⟨lb, M', h1, h2, h3⟩ := MpI.put hm hx hy hz
 exact xw_skip hg h1 (hk lb M' h2 (by rw [h2.eq]; exact Mem.next_upd _ _ _) h3)
theorem MpI.nil {m : Nat} {M M' : Mem} {cl : Nat} (hN : New M m (.map [] [] cl) M') : MpI ev M' m [] := ⟨[], cl, At.new_same hN⟩
end
end Go.Proofs.YtbfnnllgdioccaaGreatDoor.C
end
section
open Go PvL Go.Proofs
set_option linter.unusedSimpArgs false
set_option linter.unusedVariables false
namespace Go.Proofs.YtbfnnllgdioccaaGreatDoor.C
theorem c_Dead1 {M : Mem} {p : Nat} {lv n : Int} {own : Bool} {ty : TypeId} (hA : At M p (.cells own [I lv] ty)) (hlv : 0 <= lv /\ lv <= 32767) :
  CallOk Tryz.prog 46 [I n, .ptr (some (p, 0))] M (fun w M' => w = .bool (ldn lv n) /\ M' = M) := by
 refine call_in k46 rfl ?_
 dsimp only [x46, zipE, Nat.reduceAdd]
 cases hk : knB n with
 | true =>
  have hc : ∀ M, CallOk Tryz.prog 47 [I n] M (fun w M' => w = .bool true /\ M' = M) := fun M => by rw [<- hk]; exact c_known n M
  (repeat' (first | (with_reducible intro _) | refine sv ?_ | (refine sc ?_ ?_ <;> (intro h; try first | exact h.elim | exact absurd rfl h | (exfalso; omega))) | ((with_reducible first | apply x_same | apply d_same | apply d_same0); exact gd; exact rfl; exact rfl; (first | exact hc _ | exact c_within _ _ _ _)) | (refine sg ?_ ?_ <;> (intro h; (fail_if_success (have : True := h)); try first | exact h.elim | exact absurd rfl h | (exfalso; omega))) | assumption | exact xm | exact rfl))
  ((with_reducible first | apply k_fun | apply k_fun_norm); exact rx)
  refine ⟨?_, rfl⟩
  unfold ldn; rw [hk]; rfl
 | false =>
  have hc : ∀ M, CallOk Tryz.prog 47 [I n] M (fun w M' => w = .bool false /\ M' = M) := fun M => by rw [<- hk]; exact c_known n M
  (repeat' (first | (with_reducible intro _) | refine sv ?_ | (refine sc ?_ ?_ <;> (intro h; try first | exact h.elim | exact absurd rfl h | (exfalso; omega))) | ((with_reducible first | apply x_same | apply d_same | apply d_same0); exact gd; exact rfl; exact rfl; (first | exact hc _)) | (refine sg ?_ ?_ <;> (intro h; (fail_if_success (have : True := h)); try first | exact h.elim | exact absurd rfl h | (exfalso; omega))) | assumption | exact xm | exact rfl))
  ((with_reducible first | apply k_fun | apply k_fun_norm); exact rx)
  refine ⟨?_, rfl⟩
  unfold ldn; rw [hk]; rfl
set_option maxHeartbeats 8000000 in
theorem c_Dead {M : Mem} {v : LV} {r : Rl} {lv : Int} (hv : RlV M v r) (hin : RlIn r) : CallOk Tryz.prog 14 [v, I lv] M (fun w M' => ∃ a f e, w = .tup [.slice a (deadF r lv).1.length f e, I (deadF r lv).2] /\ SlI M' a (deadF r lv).1 /\ Grow M M') := by
 have hv0 := hv
 obtain ⟨a, f, e, rfl, hs⟩ := hv
 refine call_in k14 rfl ?_
 dsimp only [x14, zipE, Nat.reduceAdd]
 have cc := fun M' (hg : Grow M M') => c_CheckReel (hv0.grow hg) hin
 by_cases her : errRl r = 0
 case neg =>
  have he : deadF r lv = ([], errRl r) := by unfold deadF; rw [if_neg her]
  rw [he]
  generalize errRl r = ER at *
  (repeat' (first | (with_reducible intro _) | refine sv ?_ | (refine sc ?_ ?_ <;> (intro h; try first | exact h.elim | exact absurd rfl h | (exfalso; omega))) | ((with_reducible first | apply x_pure | apply d_pure | apply d_pure0); exact gd; exact rfl; exact rfl; (first | exact cc _ (xg))) | (refine sg ?_ ?_ <;> (intro h; (fail_if_success (have : True := h)); try first | exact h.elim | exact absurd rfl h | (exfalso; omega))) | assumption | exact xm | exact rfl))
  all_goals try (exfalso; omega)
  ((with_reducible first | apply k_fun | apply k_fun_norm); exact rx)
  exact ⟨_, _, _, rfl, .inl rfl, xg⟩
 case pos =>
 rw [her] at cc
 cases hbt : btB lv 0 32767 with
 | false =>
  have he : deadF r lv = ([], 7) := by unfold deadF; rw [if_pos her, hbt]; rfl
  rw [he]
  have cw := fun M' => c_within lv 0 32767 M'
  rw [hbt] at cw
  (repeat' (first | (with_reducible intro _) | refine sv ?_ | (refine sc ?_ ?_ <;> (intro h; try first | exact h.elim | exact absurd rfl h | (exfalso; omega))) | ((with_reducible first | apply x_same | apply d_same | apply d_same0); exact gd; exact rfl; exact rfl; (first | exact cw _)) | ((with_reducible first | apply x_pure | apply d_pure | apply d_pure0); exact gd; exact rfl; exact rfl; (first | exact cc _ (xg))) | (refine sg ?_ ?_ <;> (intro h; (fail_if_success (have : True := h)); try first | exact h.elim | exact absurd rfl h | (exfalso; omega))) | assumption | exact xm | exact rfl))
  ((with_reducible first | apply k_fun | apply k_fun_norm); exact rx)
  exact ⟨_, _, _, rfl, .inl rfl, xg⟩
 | true =>
 have he : deadF r lv = (deadL r.2 lv 24, 0) := by unfold deadF; rw [if_pos her, hbt]; rfl
 rw [he]
 have cw := fun M' => c_within lv 0 32767 M'
 rw [hbt] at cw
 have hlv : 0 <= lv /\ lv <= 32767 := by unfold btB at hbt; exact of_decide_eq_true hbt
 have hfr := fun k (hk : k < r.2.length) => hin.fr hk
 have hlen := hin.2.1
 generalize r.2 = L at *
 generalize r.1 = nm at *
 (repeat' (first | (with_reducible intro _) | refine sv ?_ | (refine sc ?_ ?_ <;> (intro h; try first | exact h.elim | exact absurd rfl h | (exfalso; omega))) | ((with_reducible first | apply x_same | apply d_same | apply d_same0); exact gd; exact rfl; exact rfl; (first | exact cw _)) | ((with_reducible first | apply x_pure | apply d_pure | apply d_pure0); exact gd; exact rfl; exact rfl; (first | exact cc _ (xg))) | (refine sg ?_ ?_ <;> (intro h; (fail_if_success (have : True := h)); try first | exact h.elim | exact absurd rfl h | (exfalso; omega))) | assumption | exact xm | exact rfl))
 rename_i n1 M1 hN1 e1 e2 n2 M2 hN2 e3 e4 M3 hg3 e5 h0 n4 M4 hN4 e6 e7
 have hg4 : Grow M M4 := xg
 have hA2 : At M4 n2 (.cells true [I lv] 3) := xm
 have hA1 : At M4 n1 (.cells true [.str nm, .slice a L.length f e] 24) := xm
 have hm4 := MpI.nil (ev := LV.bool) hN4
 have hl1 : M.next <= n1 /\ n1 < n4 /\ n2 < n4 /\ n4 < M4.next := by omega
 clear hN1 hN2 hg3 hN4 cw cc e1 e2 e3 e4 e5 e6 e7
 refine w_loop_ind (fun z E ms M' => ∃ (k : Nat) (D : List (Int × Bool)), z = L.length - k /\ k <= L.length /\ ms = [] /\ Has E [(2, .ptr (some (n1, 0))), (3, .ptr (some (n2, 0))), (7, .map (some n4)), (25, .slice a L.length f e), (26, I L.length), (27, I k)] /\ Keep (fun i => i = n4) M4 M' /\ MpI LV.bool M' n4 D /\ ∀ c, lk D c = dq L lv k c)
  ?_ L.length _ _ _ ⟨0, [], by omega, by omega, rfl, .cons rfl (.cons rfl (.cons rfl (.cons rfl (.cons rfl (.cons rfl .nil))))), Keep.refl _ _, hm4, fun c => rfl⟩
 rintro z E ms M5 ⟨k, D, rfl, hk, rfl, hE, hk5, hm5, hD⟩
 refine w_has hE ?_
 have hle5 := hk5.le
 have hg5 : Grow M M5 := Keep.to_grow' hg4 hk5 (fun i hi => by omega)
 have hB2 : At M5 n2 (.cells true [I lv] 3) := hA2.keep hk5 (by omega)
 have hs5 := hs.grow hg5
 by_cases hlast : k = L.length
 ·subst hlast
  have hdT : ∀ c : Nat, dqT L lv c = (lk D c).getD false := fun c => by unfold dqT; rw [<- hD]
  have hle9 := hm5.lt
  (repeat' (first | (with_reducible intro _) | refine sv ?_ | (refine sc ?_ ?_ <;> (intro h; try first | exact h.elim | exact absurd rfl h | (exfalso; omega))) | (refine sg ?_ ?_ <;> (intro h; (fail_if_success (have : True := h)); try first | exact h.elim | exact absurd rfl h | (exfalso; omega))) | assumption | exact xm | exact rfl))
  refine w_loop_ind (fun z E ms M' => ∃ (c : Nat) (v : LV), z = 24 - c /\ c <= 24 /\ ms = [] /\ Has E [(7, .map (some n4)), (13, v), (55, I c)] /\ Vec M5.next 1 3 intc M' v (deadL L lv c) /\ Grow M5 M' /\ M5.next <= M'.next)
   ?_ 24 _ _ _ ⟨0, _, by omega, by omega, rfl, .cons rfl (.cons rfl (.cons rfl .nil)), Vec.nil, Grow.refl _, Nat.le_refl _⟩
  rintro z E ms M6 ⟨c, v, rfl, hc, rfl, hE, hv6, hg6, hle6⟩
  refine w_has hE ?_
  by_cases hlast : c = 24
  ·subst hlast
   (repeat' (first | (with_reducible intro _) | refine sv ?_ | (refine sc ?_ ?_ <;> (intro h; try first | exact h.elim | exact absurd rfl h | (exfalso; omega))) | (refine sg ?_ ?_ <;> (intro h; (fail_if_success (have : True := h)); try first | exact h.elim | exact absurd rfl h | (exfalso; omega))) | assumption | exact xm | exact rfl))
   ((with_reducible first | apply k_fun | apply k_fun_norm); exact rx)
   obtain ⟨a3, f3, e3, rfl, hs3⟩ := SlI.vec hv6
   exact ⟨_, _, _, rfl, hs3, hg5.trans hg6⟩
  have hlt : c < 24 := by omega
  have hm6 := hm5.grow hg6
  have hst := deadL_s L lv c
  have hlen6 := deadL_len L lv c
  (repeat' (first | (with_reducible intro _) | refine sv ?_ | (refine sc ?_ ?_ <;> (intro h; try first | exact h.elim | exact absurd rfl h | (exfalso; omega))) | (refine sg ?_ ?_ <;> (intro h; (fail_if_success (have : True := h)); try first | exact h.elim | exact absurd rfl h | (exfalso; omega))) | assumption | exact xm | exact rfl))
  refine x_val (by exact gd) (MpI.look1 hm6 rfl rfl) ?_
  have hdc := hdT c
  have hlk : lkV LV.bool (.bool false) (lk D c) = .bool (dqT L lv c) := by
   rw [hdc]; cases lk D (c : Int) <;> rfl
  rw [hlk]
  cases hd9 : dqT L lv c with
  | false =>
   rw [hd9] at hst
   (repeat' (first | (with_reducible intro _) | refine sv ?_ | (refine sc ?_ ?_ <;> (intro h; try first | exact h.elim | exact absurd rfl h | (exfalso; omega))) | (refine sg ?_ ?_ <;> (intro h; (fail_if_success (have : True := h)); try first | exact h.elim | exact absurd rfl h | (exfalso; omega))) | assumption | exact xm | exact rfl))
   refine k_step (24 - (c + 1)) (by omega) ⟨c + 1, v, rfl, by omega, rfl, .cons rfl (.cons rfl (.cons rfl .nil)), by rw [hst]; simpa using hv6, hg6, hle6⟩
  | true =>
   rw [hd9] at hst
   (repeat' (first | (with_reducible intro _) | refine sv ?_ | (refine sc ?_ ?_ <;> (intro h; try first | exact h.elim | exact absurd rfl h | (exfalso; omega))) | (refine sg ?_ ?_ <;> (intro h; (fail_if_success (have : True := h)); try first | exact h.elim | exact absurd rfl h | (exfalso; omega))) | assumption | exact xm | exact rfl))
   rename_i m9 M9 hN9 e8 e9
   have hv9 := hv6.grow hN9.grow
   refine x_vec_app (by exact gd) (l' := [(c : Int)]) hv9 rfl rfl rfl (by simp) (by rw [List.length_singleton]; omega) rfl (one_first hN9) (fun _ => rfl) (fun _ => rfl) (by omega) ?_
   intro v' M10 hv10 e10 hk10
   have hg10 : Grow M5 M10 := Keep.to_grow' (hg6.trans hN9.grow) hk10 (fun i hi => hi.1)
   (repeat' (first | (with_reducible intro _) | refine sv ?_ | (refine sc ?_ ?_ <;> (intro h; try first | exact h.elim | exact absurd rfl h | (exfalso; omega))) | (refine sg ?_ ?_ <;> (intro h; (fail_if_success (have : True := h)); try first | exact h.elim | exact absurd rfl h | (exfalso; omega))) | assumption | exact xm | exact rfl))
   refine k_step (24 - (c + 1)) (by omega) ⟨c + 1, v', rfl, by omega, rfl, .cons rfl (.cons rfl (.cons rfl .nil)), by rw [hst]; exact hv10, hg10, by omega⟩
 have hlt : k < L.length := by omega
 obtain ⟨i, o, b, g, u, rfl, hr, hfv⟩ := hs5.rd hlt
 have hfi := hfr k hlt
 have hcf : ∀ M', Grow M5 M' -> CallOk Tryz.prog 45 [.slice b (fe L k).2.2.length g u, .func (.func 46) [] [.ptr (some (n2, 0))]] M' (fun w M'' => w = .bool (loudF lv (fe L k)) /\ M'' = M') := fun M' hg => by
  obtain ⟨b', g', u', hbe, hsl⟩ := hfv
  cases hbe
  exact c_Contains (f := g) (e := u) (g := 46) (fi := []) (ca := [.ptr (some (n2, 0))]) (M := M') (ldn lv) hfi.2.2.1 (hsl.grow hg) (fun n _ => c_Dead1 (hB2.grow hg) hlv) (fun n _ M2 hg2 => c_Dead1 (hB2.grow (hg.trans hg2)) hlv)
 (repeat' (first | (with_reducible intro _) | refine sv ?_ | (refine sc ?_ ?_ <;> (intro h; try first | exact h.elim | exact absurd rfl h | (exfalso; omega))) | (refine sg ?_ ?_ <;> (intro h; (fail_if_success (have : True := h)); try first | exact h.elim | exact absurd rfl h | (exfalso; omega))) | assumption | exact xm | exact rfl))
 (repeat' (first | (with_reducible intro _) | refine sv ?_ | (refine sc ?_ ?_ <;> (intro h; try first | exact h.elim | exact absurd rfl h | (exfalso; omega))) | ((with_reducible first | apply x_same | apply d_same | apply d_same0); exact gd; exact rfl; exact rfl; (first | exact hcf _ (xg))) | ((with_reducible first | apply x_call | apply d_call | apply x_call0); exact gd; exact rfl; exact rfl; (first | exact hr)) | (refine sg ?_ ?_ <;> (intro h; (fail_if_success (have : True := h)); try first | exact h.elim | exact absurd rfl h | (exfalso; omega))) | assumption | exact xm | exact rfl))
 rename_i m6 M6 hN6 q1 q2 M7 hU7 q3 hA7
 have hg7 : Grow M5 M7 := xg
 have hm7 := hm5.grow hg7
 refine x_val (by exact gd) (MpI.look2 hm7 rfl rfl) ?_
 have hst := dq_s L lv k
 have hfin : ∀ (v : Bool) (M8 M9 : Mem) (lb : LB), Grow M5 M8 -> Upd M8 n4 lb M9 -> MpI LV.bool M9 n4 (stM D (fe L k).2.1 v) -> v = (!loudF lv (fe L k) && qd (lk D (fe L k).2.1)) -> Keep (fun i => i = n4) M4 M9 /\ ∀ c, lk (stM D (fe L k).2.1 v) c = dq L lv (k + 1) c := fun v M8 M9 lb hG hU hm hv => by
  refine ⟨xk, fun c => ?_⟩
  rw [lk_st, hst, hD]
  by_cases hc : c = (fe L k).2.1
  ·subst hc
   rw [if_pos rfl, if_pos rfl, hv, hD]
  ·rw [if_neg hc, if_neg hc]
 generalize loudF lv (fe L k) = B at *
 cases hl9 : lk D (fe L k).2.1 with
 | none =>
  rw [hl9] at hfin
  dsimp only [lkV2]
  cases B with
  | true =>
   (repeat' (first | (with_reducible intro _) | refine sv ?_ | (refine sc ?_ ?_ <;> (intro h; try first | exact h.elim | exact absurd rfl h | (exfalso; omega))) | (refine sg ?_ ?_ <;> (intro h; (fail_if_success (have : True := h)); try first | exact h.elim | exact absurd rfl h | (exfalso; omega))) | assumption | exact xm | exact rfl))
   refine x_mset_i (v := false) (by exact gd) hm7 rfl rfl rfl ?_
   intro lb M9 hU9 e9 hm9
   obtain ⟨f1, f2⟩ := hfin _ _ _ _ hg7 hU9 hm9 rfl
   (repeat' (first | (with_reducible intro _) | refine sv ?_ | (refine sc ?_ ?_ <;> (intro h; try first | exact h.elim | exact absurd rfl h | (exfalso; omega))) | (refine sg ?_ ?_ <;> (intro h; (fail_if_success (have : True := h)); try first | exact h.elim | exact absurd rfl h | (exfalso; omega))) | assumption | exact xm | exact rfl))
   exact k_step (L.length - (k + 1)) (by omega) ⟨k + 1, _, rfl, by omega, rfl, .cons rfl (.cons rfl (.cons rfl (.cons rfl (.cons rfl (.cons rfl .nil))))), f1, hm9, f2⟩
  | false =>
   (repeat' (first | (with_reducible intro _) | refine sv ?_ | (refine sc ?_ ?_ <;> (intro h; try first | exact h.elim | exact absurd rfl h | (exfalso; omega))) | (refine sg ?_ ?_ <;> (intro h; (fail_if_success (have : True := h)); try first | exact h.elim | exact absurd rfl h | (exfalso; omega))) | assumption | exact xm | exact rfl))
   refine x_mset_i (v := true) (by exact gd) hm7 rfl rfl rfl ?_
   intro lb M9 hU9 e9 hm9
   obtain ⟨f1, f2⟩ := hfin _ _ _ _ hg7 hU9 hm9 rfl
   (repeat' (first | (with_reducible intro _) | refine sv ?_ | (refine sc ?_ ?_ <;> (intro h; try first | exact h.elim | exact absurd rfl h | (exfalso; omega))) | (refine sg ?_ ?_ <;> (intro h; (fail_if_success (have : True := h)); try first | exact h.elim | exact absurd rfl h | (exfalso; omega))) | assumption | exact xm | exact rfl))
   exact k_step (L.length - (k + 1)) (by omega) ⟨k + 1, _, rfl, by omega, rfl, .cons rfl (.cons rfl (.cons rfl (.cons rfl (.cons rfl (.cons rfl .nil))))), f1, hm9, f2⟩
 | some q =>
  rw [hl9] at hfin
  dsimp only [lkV2]
  cases B with
  | true =>
   (repeat' (first | (with_reducible intro _) | refine sv ?_ | (refine sc ?_ ?_ <;> (intro h; try first | exact h.elim | exact absurd rfl h | (exfalso; omega))) | (refine sg ?_ ?_ <;> (intro h; (fail_if_success (have : True := h)); try first | exact h.elim | exact absurd rfl h | (exfalso; omega))) | assumption | exact xm | exact rfl))
   refine x_mset_i (v := false) (by exact gd) hm7 rfl rfl rfl ?_
   intro lb M9 hU9 e9 hm9
   obtain ⟨f1, f2⟩ := hfin _ _ _ _ hg7 hU9 hm9 rfl
   (repeat' (first | (with_reducible intro _) | refine sv ?_ | (refine sc ?_ ?_ <;> (intro h; try first | exact h.elim | exact absurd rfl h | (exfalso; omega))) | (refine sg ?_ ?_ <;> (intro h; (fail_if_success (have : True := h)); try first | exact h.elim | exact absurd rfl h | (exfalso; omega))) | assumption | exact xm | exact rfl))
   exact k_step (L.length - (k + 1)) (by omega) ⟨k + 1, _, rfl, by omega, rfl, .cons rfl (.cons rfl (.cons rfl (.cons rfl (.cons rfl (.cons rfl .nil))))), f1, hm9, f2⟩
  | false =>
   cases q with
   | true =>
    (repeat' (first | (with_reducible intro _) | refine sv ?_ | (refine sc ?_ ?_ <;> (intro h; try first | exact h.elim | exact absurd rfl h | (exfalso; omega))) | (refine sg ?_ ?_ <;> (intro h; (fail_if_success (have : True := h)); try first | exact h.elim | exact absurd rfl h | (exfalso; omega))) | assumption | exact xm | exact rfl))
    refine x_mset_i (v := true) (by exact gd) hm7 rfl rfl rfl ?_
    intro lb M9 hU9 e9 hm9
    obtain ⟨f1, f2⟩ := hfin _ _ _ _ hg7 hU9 hm9 rfl
    (repeat' (first | (with_reducible intro _) | refine sv ?_ | (refine sc ?_ ?_ <;> (intro h; try first | exact h.elim | exact absurd rfl h | (exfalso; omega))) | (refine sg ?_ ?_ <;> (intro h; (fail_if_success (have : True := h)); try first | exact h.elim | exact absurd rfl h | (exfalso; omega))) | assumption | exact xm | exact rfl))
    exact k_step (L.length - (k + 1)) (by omega) ⟨k + 1, _, rfl, by omega, rfl, .cons rfl (.cons rfl (.cons rfl (.cons rfl (.cons rfl (.cons rfl .nil))))), f1, hm9, f2⟩
   | false =>
    (repeat' (first | (with_reducible intro _) | refine sv ?_ | (refine sc ?_ ?_ <;> (intro h; try first | exact h.elim | exact absurd rfl h | (exfalso; omega))) | (refine sg ?_ ?_ <;> (intro h; (fail_if_success (have : True := h)); try first | exact h.elim | exact absurd rfl h | (exfalso; omega))) | assumption | exact xm | exact rfl))
    refine x_mset_i (v := false) (by exact gd) hm7 rfl rfl rfl ?_
    intro lb M9 hU9 e9 hm9
    obtain ⟨f1, f2⟩ := hfin _ _ _ _ hg7 hU9 hm9 rfl
    (repeat' (first | (with_reducible intro _) | refine sv ?_ | (refine sc ?_ ?_ <;> (intro h; try first | exact h.elim | exact absurd rfl h | (exfalso; omega))) | (refine sg ?_ ?_ <;> (intro h; (fail_if_success (have : True := h)); try first | exact h.elim | exact absurd rfl h | (exfalso; omega))) | assumption | exact xm | exact rfl))
    exact k_step (L.length - (k + 1)) (by omega) ⟨k + 1, _, rfl, by omega, rfl, .cons rfl (.cons rfl (.cons rfl (.cons rfl (.cons rfl (.cons rfl .nil))))), f1, hm9, f2⟩
def mgZ (n : Int) : Int := if n < 0 then -n else n
theorem mgZ_eq (lv n : Int) : decide (mgZ n > lv) = !btB n (-lv) lv := by
 rw [Bool.eq_iff_iff]
 unfold btB mgZ
 simp only [decide_eq_true_eq, Bool.not_eq_true', decide_eq_false_iff_not]
 split <;> omega
theorem c_Mag {M : Mem} {n : Int} (hk : -32767 <= n /\ n <= 32767) : CallOk Tryz.prog 51 [I n] M (fun w M' => w = I (mgZ n) /\ M' = M) := by
 refine call_in k51 rfl ?_
 dsimp only [x51, zipE, Nat.reduceAdd]
 (repeat' (first | (with_reducible intro _) | refine sv ?_ | (refine sc ?_ ?_ <;> (intro h; try first | exact h.elim | exact absurd rfl h | (exfalso; omega))) | (refine sg ?_ ?_ <;> (intro h; (fail_if_success (have : True := h)); try first | exact h.elim | exact absurd rfl h | (exfalso; omega))) | assumption | exact xm | exact rfl))
 ((with_reducible first | apply k_fun | apply k_fun_norm); exact rx)
 refine ⟨?_, rfl⟩
 rw [show iMax n (-n) = mgZ n from by unfold iMax mgZ; split <;> omega]; rfl
theorem any_take_s {l : List Int} {p : Int -> Bool} {k : Nat} (hk : k < l.length) : (l.take (k + 1)).any p = ((l.take k).any p || p l[k]) := by
 rw [List.take_succ_eq_append_getElem hk, List.any_append]; simp
set_option maxHeartbeats 8000000 in
theorem c_DeadR {M : Mem} {v : LV} {r : Rl} {lv : Int} (hv : RlV M v r) (hin : RlIn r) : CallOk Tryz.prog 15 [v, I lv] M (fun w M' => ∃ a f e, w = .tup [.slice a (deadF r lv).1.length f e, I (deadF r lv).2] /\ SlI M' a (deadF r lv).1 /\ Grow M M') := by
 have hv0 := hv
 obtain ⟨a, f, e, rfl, hs⟩ := hv
 refine call_in k15 rfl ?_
 dsimp only [x15, zipE, Nat.reduceAdd]
 have cc := fun M' (hg : Grow M M') => c_CheckReelR (hv0.grow hg) hin
 by_cases her : errRl r = 0
 case neg =>
  have he : deadF r lv = ([], errRl r) := by unfold deadF; rw [if_neg her]
  rw [he]
  generalize errRl r = ER at *
  (repeat' (first | (with_reducible intro _) | refine sv ?_ | (refine sc ?_ ?_ <;> (intro h; try first | exact h.elim | exact absurd rfl h | (exfalso; omega))) | ((with_reducible first | apply x_pure | apply d_pure | apply d_pure0); exact gd; exact rfl; exact rfl; (first | exact cc _ (xg))) | (refine sg ?_ ?_ <;> (intro h; (fail_if_success (have : True := h)); try first | exact h.elim | exact absurd rfl h | (exfalso; omega))) | assumption | exact xm | exact rfl))
  all_goals try (exfalso; omega)
  ((with_reducible first | apply k_fun | apply k_fun_norm); exact rx)
  exact ⟨_, _, _, rfl, .inl rfl, xg⟩
 case pos =>
 rw [her] at cc
 cases hbt : btB lv 0 32767 with
 | false =>
  have he : deadF r lv = ([], 7) := by unfold deadF; rw [if_pos her, hbt]; rfl
  rw [he]
  have cw := fun M' => c_btw lv 0 32767 M'
  rw [hbt] at cw
  (repeat' (first | (with_reducible intro _) | refine sv ?_ | (refine sc ?_ ?_ <;> (intro h; try first | exact h.elim | exact absurd rfl h | (exfalso; omega))) | ((with_reducible first | apply x_same | apply d_same | apply d_same0); exact gd; exact rfl; exact rfl; (first | exact cw _)) | ((with_reducible first | apply x_pure | apply d_pure | apply d_pure0); exact gd; exact rfl; exact rfl; (first | exact cc _ (xg))) | (refine sg ?_ ?_ <;> (intro h; (fail_if_success (have : True := h)); try first | exact h.elim | exact absurd rfl h | (exfalso; omega))) | assumption | exact xm | exact rfl))
  ((with_reducible first | apply k_fun | apply k_fun_norm); exact rx)
  exact ⟨_, _, _, rfl, .inl rfl, xg⟩
 | true =>
 have he : deadF r lv = (deadL r.2 lv 24, 0) := by unfold deadF; rw [if_pos her, hbt]; rfl
 rw [he]
 have cw := fun M' => c_btw lv 0 32767 M'
 rw [hbt] at cw
 have hlv : 0 <= lv /\ lv <= 32767 := by unfold btB at hbt; exact of_decide_eq_true hbt
 have hfr := fun k (hk : k < r.2.length) => hin.fr hk
 have hlen := hin.2.1
 generalize r.2 = L at *
 generalize r.1 = nm at *
 (repeat' (first | (with_reducible intro _) | refine sv ?_ | (refine sc ?_ ?_ <;> (intro h; try first | exact h.elim | exact absurd rfl h | (exfalso; omega))) | ((with_reducible first | apply x_same | apply d_same | apply d_same0); exact gd; exact rfl; exact rfl; (first | exact cw _)) | ((with_reducible first | apply x_pure | apply d_pure | apply d_pure0); exact gd; exact rfl; exact rfl; (first | exact cc _ (xg))) | (refine sg ?_ ?_ <;> (intro h; (fail_if_success (have : True := h)); try first | exact h.elim | exact absurd rfl h | (exfalso; omega))) | assumption | exact xm | exact rfl))
 rename_i n1 M1 hN1 e1 e2 M4 hg3 e5 h0
 have hA1 : At M4 n1 (.cells true [.str nm, .slice a L.length f e] 24) := xm
 have hg4 : Grow M M4 := xg
 have hl1 : M.next <= n1 /\ n1 < M4.next := by omega
 clear hN1 hg3 cw cc e1 e2 e5
 refine w_loop_ind (fun z E ms M' => ∃ (c : Nat) (v : LV), z = 24 - c /\ c <= 24 /\ ms = [] /\ Has E [(1, I lv), (2, .ptr (some (n1, 0))), (7, v), (8, I c)] /\ Vec M4.next 1 3 intc M' v (deadL L lv c) /\ Grow M4 M' /\ M4.next <= M'.next)
  ?_ 24 _ _ _ ⟨0, _, by omega, by omega, rfl, .cons rfl (.cons rfl (.cons rfl (.cons rfl .nil))), Vec.nil, Grow.refl _, Nat.le_refl _⟩
 rintro z E ms M6 ⟨c, v, rfl, hc, rfl, hE, hv6, hg6, hle6⟩
 refine w_has hE ?_
 by_cases hlast : c = 24
 ·subst hlast
  (repeat' (first | (with_reducible intro _) | refine sv ?_ | (refine sc ?_ ?_ <;> (intro h; try first | exact h.elim | exact absurd rfl h | (exfalso; omega))) | (refine sg ?_ ?_ <;> (intro h; (fail_if_success (have : True := h)); try first | exact h.elim | exact absurd rfl h | (exfalso; omega))) | assumption | exact xm | exact rfl))
  ((with_reducible first | apply k_fun | apply k_fun_norm); exact rx)
  obtain ⟨a3, f3, e3, rfl, hs3⟩ := SlI.vec hv6
  exact ⟨_, _, _, rfl, hs3, hg4.trans hg6⟩
 have hlt : c < 24 := by omega
 have hst := deadL_s L lv c
 have hlen6 := deadL_len L lv c
 have hA6 := At.grow hg6 hA1
 have hs6 := (hs.grow hg4).grow hg6
 (repeat' (first | (with_reducible intro _) | refine sv ?_ | (refine sc ?_ ?_ <;> (intro h; try first | exact h.elim | exact absurd rfl h | (exfalso; omega))) | (refine sg ?_ ?_ <;> (intro h; (fail_if_success (have : True := h)); try first | exact h.elim | exact absurd rfl h | (exfalso; omega))) | assumption | exact xm | exact rfl))
 refine w_loop_ind (fun z E ms M' => ∃ (k : Nat) (is ld : Bool), z = L.length - k /\ k <= L.length /\ ms = [] /\ M' = M6 /\ Has E [(1, I lv), (2, .ptr (some (n1, 0))), (7, v), (8, I c), (9, .bool is), (10, .bool ld), (11, I k)] /\ dq L lv k c = (if is then some (!ld) else none) /\ (is = false -> ld = false))
  ?_ L.length _ _ _ ⟨0, false, false, by omega, by omega, rfl, rfl, .cons rfl (.cons rfl (.cons rfl (.cons rfl (.cons rfl (.cons rfl (.cons rfl .nil)))))), rfl, fun _ => rfl⟩
 rintro z E ms M7 ⟨k, is, ld, rfl, hk, rfl, rfl, hE, hdq, hil⟩
 refine w_has hE ?_
 by_cases hlast : k = L.length
 ·subst hlast
  have hdT : dqT L lv c = (is && !ld) := by unfold dqT; rw [hdq]; cases is <;> cases ld <;> rfl
  rw [hdT] at hst
  cases is <;> cases ld
  case false.false =>
   (repeat' (first | (with_reducible intro _) | refine sv ?_ | (refine sc ?_ ?_ <;> (intro h; try first | exact h.elim | exact absurd rfl h | (exfalso; omega))) | (refine sg ?_ ?_ <;> (intro h; (fail_if_success (have : True := h)); try first | exact h.elim | exact absurd rfl h | (exfalso; omega))) | assumption | exact xm | exact rfl))
   refine k_step (24 - (c + 1)) (by omega) ⟨c + 1, v, rfl, by omega, rfl, .cons rfl (.cons rfl (.cons rfl (.cons rfl .nil))), by rw [hst]; simpa using hv6, hg6, hle6⟩
  case false.true =>
   (repeat' (first | (with_reducible intro _) | refine sv ?_ | (refine sc ?_ ?_ <;> (intro h; try first | exact h.elim | exact absurd rfl h | (exfalso; omega))) | (refine sg ?_ ?_ <;> (intro h; (fail_if_success (have : True := h)); try first | exact h.elim | exact absurd rfl h | (exfalso; omega))) | assumption | exact xm | exact rfl))
   refine k_step (24 - (c + 1)) (by omega) ⟨c + 1, v, rfl, by omega, rfl, .cons rfl (.cons rfl (.cons rfl (.cons rfl .nil))), by rw [hst]; simpa using hv6, hg6, hle6⟩
  case true.true =>
   (repeat' (first | (with_reducible intro _) | refine sv ?_ | (refine sc ?_ ?_ <;> (intro h; try first | exact h.elim | exact absurd rfl h | (exfalso; omega))) | (refine sg ?_ ?_ <;> (intro h; (fail_if_success (have : True := h)); try first | exact h.elim | exact absurd rfl h | (exfalso; omega))) | assumption | exact xm | exact rfl))
   refine k_step (24 - (c + 1)) (by omega) ⟨c + 1, v, rfl, by omega, rfl, .cons rfl (.cons rfl (.cons rfl (.cons rfl .nil))), by rw [hst]; simpa using hv6, hg6, hle6⟩
  case true.false =>
   (repeat' (first | (with_reducible intro _) | refine sv ?_ | (refine sc ?_ ?_ <;> (intro h; try first | exact h.elim | exact absurd rfl h | (exfalso; omega))) | (refine sg ?_ ?_ <;> (intro h; (fail_if_success (have : True := h)); try first | exact h.elim | exact absurd rfl h | (exfalso; omega))) | assumption | exact xm | exact rfl))
   rename_i m9 M9 hN9 e8 e9
   have hv9 := hv6.grow hN9.grow
   refine x_vec_app (by exact gd) (l' := [(c : Int)]) hv9 rfl rfl rfl (by simp) (by rw [List.length_singleton]; omega) rfl (one_first hN9) (fun _ => rfl) (fun _ => rfl) (by omega) ?_
   intro v' M10 hv10 e10 hk10
   have hg10 : Grow M4 M10 := Keep.to_grow' (hg6.trans hN9.grow) hk10 (fun i hi => hi.1)
   (repeat' (first | (with_reducible intro _) | refine sv ?_ | (refine sc ?_ ?_ <;> (intro h; try first | exact h.elim | exact absurd rfl h | (exfalso; omega))) | (refine sg ?_ ?_ <;> (intro h; (fail_if_success (have : True := h)); try first | exact h.elim | exact absurd rfl h | (exfalso; omega))) | assumption | exact xm | exact rfl))
   refine k_step (24 - (c + 1)) (by omega) ⟨c + 1, v', rfl, by omega, rfl, .cons rfl (.cons rfl (.cons rfl (.cons rfl .nil))), by rw [hst]; exact hv10, hg10, by omega⟩
 have hlt2 : k < L.length := by omega
 obtain ⟨i, o, b, g, u, rfl, hr, hfv⟩ := hs6.rd hlt2
 have hr1 : Rd1 M7 i (o + k * 3 + 1) (I (fe L k).2.1) := hr.nth (j := 1) rfl
 have hr2 : Rd1 M7 i (o + k * 3 + 2) (.slice b (fe L k).2.2.length g u) := hr.nth (j := 2) rfl
 have hfi := hfr k hlt2
 have hst2 := dq_s L lv k c
 rw [hdq, show loudF lv (fe L k) = (fe L k).2.2.any (ldn lv) from rfl] at hst2
 by_cases hch : (c : Int) = (fe L k).2.1
 ·rw [if_pos hch] at hst2
  (have hrd0 := hr1; repeat' (first | (with_reducible intro _) | refine sv ?_ | (refine sc ?_ ?_ <;> (intro h; try first | exact h.elim | exact absurd rfl h | (exfalso; omega))) | (refine sg ?_ ?_ <;> (intro h; (fail_if_success (have : True := h)); try first | exact h.elim | exact absurd rfl h | (exfalso; omega))) | assumption | exact xm | exact rfl))
  all_goals try (exfalso; omega)
  have hp2 : Grow M4 M7 /\ True := ⟨hg6, trivial⟩
  obtain ⟨b', g', u', hbe, hsl⟩ := hfv
  cases hbe
  have hsn := hfi.2.2.1
  generalize (fe L k).2.2 = S at *
  refine w_loop_ind (fun z E ms M' => ∃ (j : Nat), z = S.length - j /\ j <= S.length /\ ms = [] /\ M' = M7 /\ Has E [(1, I lv), (2, .ptr (some (n1, 0))), (7, v), (8, I c), (9, .bool true), (10, .bool (ld || (S.take j).any (ldn lv))), (11, I k), (12, I j)])
   ?_ S.length _ _ _ ⟨0, by omega, by omega, rfl, rfl, .cons rfl (.cons rfl (.cons rfl (.cons rfl (.cons rfl (.cons (by show some (LV.bool _) = some (LV.bool _); simp) (.cons rfl (.cons rfl .nil)))))))⟩
  rintro z E ms M8 ⟨j, rfl, hj, rfl, rfl, hE⟩
  refine w_has hE ?_
  by_cases hlast : j = S.length
  ·subst hlast
   (have hrd0 := hr2; repeat' (first | (with_reducible intro _) | refine sv ?_ | (refine sc ?_ ?_ <;> (intro h; try first | exact h.elim | exact absurd rfl h | (exfalso; omega))) | (refine sg ?_ ?_ <;> (intro h; (fail_if_success (have : True := h)); try first | exact h.elim | exact absurd rfl h | (exfalso; omega))) | assumption | exact xm | exact rfl))
   rw [List.take_length]
   refine k_step (L.length - (k + 1)) (by omega) ⟨k + 1, true, _, rfl, by omega, rfl, rfl, .cons rfl (.cons rfl (.cons rfl (.cons rfl (.cons rfl (.cons rfl (.cons rfl .nil)))))), ?_, fun h => by cases h⟩
   rw [hst2]
   cases is
   ·rw [hil rfl]; cases S.any (ldn lv) <;> rfl
   ·cases ld <;> cases S.any (ldn lv) <;> rfl
  have hlt3 : j < S.length := by omega
  obtain ⟨i3, o3, rfl, hr3⟩ := hsl.rd hlt3
  generalize hq : (ld || (S.take j).any (ldn lv)) = q
  have hq' : (ld || (S.take (j + 1)).any (ldn lv)) = (q || ldn lv S[j]) := by rw [any_take_s hlt3, <- Bool.or_assoc, hq]
  have hld : ldn lv S[j] = (knB S[j] && decide (mgZ S[j] > lv)) := by rw [mgZ_eq]; rfl
  have hkn : knB S[j] = true -> -32767 <= S[j] /\ S[j] <= 32767 := fun h => by unfold knB at h; exact of_decide_eq_true h
  generalize S[j] = n at *
  have cm := fun (hh : knB n = true) => c_Mag (M := M8) (hkn hh)
  cases q with
  | true =>
   (have hrd0 := hr2; have hrd1 := hr3; repeat' (first | (with_reducible intro _) | refine sv ?_ | (refine sc ?_ ?_ <;> (intro h; try first | exact h.elim | exact absurd rfl h | (exfalso; omega))) | (refine sg ?_ ?_ <;> (intro h; (fail_if_success (have : True := h)); try first | exact h.elim | exact absurd rfl h | (exfalso; omega))) | assumption | exact xm | exact rfl))
   refine k_step (S.length - (j + 1)) (by omega) ⟨j + 1, rfl, by omega, rfl, rfl, .cons rfl (.cons rfl (.cons rfl (.cons rfl (.cons rfl (.cons ?_ (.cons rfl (.cons rfl .nil)))))))⟩
   rw [hq']; rfl
  | false =>
   cases hkb : knB n with
   | true =>
    have ck : ∀ M, CallOk Tryz.prog 50 [I n] M (fun w M' => w = .bool true /\ M' = M) := fun M => by rw [<- hkb]; exact c_knownR _ M
    have cm2 := cm hkb
    rw [hkb] at hld
    (have hrd0 := hr2; have hrd1 := hr3; repeat' (first | (with_reducible intro _) | refine sv ?_ | (refine sc ?_ ?_ <;> (intro h; try first | exact h.elim | exact absurd rfl h | (exfalso; omega))) | ((with_reducible first | apply x_same | apply d_same | apply d_same0); exact gd; exact rfl; exact rfl; (first | exact ck _ | exact cm2)) | (refine sg ?_ ?_ <;> (intro h; (fail_if_success (have : True := h)); try first | exact h.elim | exact absurd rfl h | (exfalso; omega))) | assumption | exact xm | exact rfl))
    refine k_step (S.length - (j + 1)) (by omega) ⟨j + 1, rfl, by omega, rfl, rfl, .cons rfl (.cons rfl (.cons rfl (.cons rfl (.cons rfl (.cons ?_ (.cons rfl (.cons rfl .nil)))))))⟩
    rw [hq', hld]; rfl
   | false =>
    have ck : ∀ M, CallOk Tryz.prog 50 [I n] M (fun w M' => w = .bool false /\ M' = M) := fun M => by rw [<- hkb]; exact c_knownR _ M
    rw [hkb] at hld
    (have hrd0 := hr2; have hrd1 := hr3; repeat' (first | (with_reducible intro _) | refine sv ?_ | (refine sc ?_ ?_ <;> (intro h; try first | exact h.elim | exact absurd rfl h | (exfalso; omega))) | ((with_reducible first | apply x_same | apply d_same | apply d_same0); exact gd; exact rfl; exact rfl; (first | exact ck _)) | (refine sg ?_ ?_ <;> (intro h; (fail_if_success (have : True := h)); try first | exact h.elim | exact absurd rfl h | (exfalso; omega))) | assumption | exact xm | exact rfl))
    refine k_step (S.length - (j + 1)) (by omega) ⟨j + 1, rfl, by omega, rfl, rfl, .cons rfl (.cons rfl (.cons rfl (.cons rfl (.cons rfl (.cons ?_ (.cons rfl (.cons rfl .nil)))))))⟩
    rw [hq', hld]; rfl
 ·(have hrd0 := hr1; repeat' (first | (with_reducible intro _) | refine sv ?_ | (refine sc ?_ ?_ <;> (intro h; try first | exact h.elim | exact absurd rfl h | (exfalso; omega))) | (refine sg ?_ ?_ <;> (intro h; (fail_if_success (have : True := h)); try first | exact h.elim | exact absurd rfl h | (exfalso; omega))) | assumption | exact xm | exact rfl))
  all_goals try (exfalso; omega)
  rw [if_neg hch] at hst2
  exact k_step (L.length - (k + 1)) (by omega) ⟨k + 1, is, ld, rfl, by omega, rfl, rfl, .cons rfl (.cons rfl (.cons rfl (.cons rfl (.cons rfl (.cons rfl (.cons rfl .nil)))))), hst2, hil⟩
end Go.Proofs.YtbfnnllgdioccaaGreatDoor.C
end
