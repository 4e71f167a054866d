/-
  Part of the proof of TapeOne: what functions of the program and of the statement come to, walked by the rules. No condition beyond those in each theorem.
-/
import Derived.Test.YtbfnnllgdioccaaGreatDoorTU
section
open Go PvL Go.Proofs
variable {μ : Md}
set_option linter.unusedVariables false
set_option linter.unusedSimpArgs false
namespace Go.Proofs.YtbfnnllgdioccaaGreatDoor.C
theorem zhc {x y : Fr} (hx : frB x = true) (hy : frB y = true) (hk : fky x = fky y) (hb : bothL x.2.2 y.2.2 = x.2.2) : joinF x y = (x, 0) := by
  have e1 : errF x = 0 := by unfold errF; rw [hx]; rfl
  have e2 : errF y = 0 := by unfold errF; rw [hy]; rfl
  have h1 : (fky x).1 = (fky y).1 := congrArg Prod.fst hk
  have h2 : (fky x).2 = (fky y).2 := congrArg Prod.snd hk
  unfold joinF
  rw [if_pos e1, if_pos e2, if_pos ⟨h1, h2⟩, hb]
theorem zde {α : Type} {bs : List α} (hn : bs.Nodup) {i j : Nat} (hi : i < bs.length) (hj : j < bs.length) (he : bs[i] = bs[j]) : i = j := by
  unfold List.Nodup at hn
  rw [List.pairwise_iff_getElem] at hn
  rcases Nat.lt_trichotomy i j with h | h | h
  · exact absurd he (hn i j hi hj h)
  · exact h
  · exact absurd he.symm (hn j i hj hi h)
theorem zep {x : Fr} (h : frB x = true) : FrIn x := zlo (by unfold errF; rw [h]; rfl)
set_option maxHeartbeats 8000000 in
theorem zjd {M : Mem} {a : Option (Nat × Nat)} {L : List Fr} {f : Bool} {e : Nat} {v : LV} {x : Fr} (hs : FsV M a L) (hL : GdL L) (hv : FrV M v x) (hx : frB x = true) (hin : ∃ y ∈ L, fky y = fky x /\ bothL y.2.2 x.2.2 = y.2.2) (hl : L.length <= 1000000) :
    CallOk Tryz.prog 27 [.slice a L.length f e, v] M (fun w M' => w = .bool true /\ Grow M M') := by
  obtain ⟨y, hy, hky, hby⟩ := hin
  obtain ⟨n, hn, rfl⟩ := List.mem_iff_getElem.1 hy
  obtain ⟨bx, gq, ux, rfl, hsx⟩ := id hv
  refine z8 k27 rfl ?_
  dsimp only [x27, zipE, Nat.reduceAdd]
  (repeat' (first | (with_reducible intro _) | refine sv ?_ | (refine sc ?_ ?_ <;> (intro h; try first | exact h.elim | exact absurd rfl h | (exfalso; omega))) | (refine sg ?_ ?_ <;> (intro h; (fail_if_success (have : True := h)); try first | exact h.elim | exact absurd rfl h | (exfalso; omega))) | assumption | exact xm | exact rfl))
  rename_i m1 M1 hN1 q1 q1'
  have hA1 : At M1 m1 (.cells true [I x.1, I x.2.1, .slice bx x.2.2.length gq ux] 48) := At.new_same hN1
  have hg1 := hN1.grow
  clear hN1
  refine z7 (fun z E ms M' => ∃ (k : Nat), z = L.length - k /\ k <= n /\ ms = [] /\ Has E [(0, .slice a L.length f e), (3, .ptr (some (m1, 0))), (5, I k)] /\ Grow M1 M')
    ?_ (L.length - 0) _ _ _ ⟨0, rfl, Nat.zero_le _, rfl, .cons rfl (.cons rfl (.cons rfl .nil)), Grow.refl _⟩
  rintro z E ms M2 ⟨k, rfl, hk, rfl, hE, hg2⟩
  refine zu hE ?_
  have hlt : k < L.length := by omega
  have hA2 := At.grow hg2 hA1
  have hgM2 := hg1.trans hg2
  have hv2 := hv.grow hgM2
  have hfk := hL.b (fe L k) (by rw [z2e hlt]; exact List.getElem_mem hlt)
  obtain ⟨i, o, bk, gk, uk, rfl, hrk, hsk⟩ := FsV.at (hs.grow hgM2) hlt
  have hvk : FrV M2 (.agg [I (fe L k).1, I (fe L k).2.1, .slice bk (fe L k).2.2.length gk uk]) (fe L k) := ⟨_, _, _, rfl, hsk⟩
  have hr0 : Rd1 M2 i (o + k * 3 + 0) (I (fe L k).1) := Rd.nth (j := 0) hrk rfl
  have hr1 : Rd1 M2 i (o + k * 3 + 1) (I (fe L k).2.1) := Rd.nth (j := 1) hrk rfl
  have hx0 : Rd1 M2 m1 (0 + 0) (I x.1) := Rd1.of_at hA2 rfl
  have hx1 : Rd1 M2 m1 (0 + 1) (I x.2.1) := Rd1.of_at hA2 rfl
  by_cases hkn : k = n
  · subst hkn
    have hkk : fky (fe L k) = fky x := by rw [z2e hlt]; exact hky
    have h1 : (fky (fe L k)).1 = (fky x).1 := congrArg Prod.fst hkk
    have h2 : (fky (fe L k)).2 = (fky x).2 := congrArg Prod.snd hkk
    dsimp only at h1 h2
    have hj := zhc hfk hx hkk (by rw [z2e hlt]; exact hby)
    have cj := zkw hvk hv2 (zep hfk) (zep hx)
    rw [hj] at cj
    dsimp only at cj
    (have hrd0 := hr0; have hrd1 := hr1; have hrd2 := hx0; have hrd3 := hx1; have hrd4 := hrk; repeat' (first | (with_reducible intro _) | refine sv ?_ | (refine sc ?_ ?_ <;> (intro h; try first | exact h.elim | exact absurd rfl h | (exfalso; omega))) | ((with_reducible first | apply zo | apply zp | apply zc); exact gd; exact rfl; exact rfl; (first | exact cj)) | (refine sg ?_ ?_ <;> (intro h; (fail_if_success (have : True := h)); try first | exact h.elim | exact absurd rfl h | (exfalso; omega))) | assumption | exact xm | exact rfl))
    all_goals try (exfalso; omega)
    rename_i w3 M3 hq
    obtain ⟨q3, rfl, hq3, hg3⟩ := hq
    obtain ⟨a3, f3, e3, rfl, hs3⟩ := id hq3
    have hvk3 := hvk.grow hg3
    have hrk3 := hrk.grow hg3
    have hl3 := hg3.le
    have hil : i < M2.next := hrk.2
    have hln := (z4n hfk).2
    have cs := fun M' (hg : Grow M3 M') => z5r (M := M') (hq3.grow hg) (hvk3.grow hg) (by omega) (by omega)
    rw [decide_eq_true rfl] at cs
    have hg9 := hg3
    have hgM3 := hgM2.trans hg9
    clear hg3 hg9
    (have hrd0 := hrk3; repeat' (first | (with_reducible intro _) | refine sv ?_ | (refine sc ?_ ?_ <;> (intro h; try first | exact h.elim | exact absurd rfl h | (exfalso; omega))) | ((with_reducible first | apply zy | apply zx | apply zg); exact gd; exact rfl; exact rfl; (first | exact cs _ (xg))) | (refine sg ?_ ?_ <;> (intro h; (fail_if_success (have : True := h)); try first | exact h.elim | exact absurd rfl h | (exfalso; omega))) | assumption | exact xm | exact rfl))
    ((with_reducible first | apply z9 | apply z3); exact rx)
    exact ⟨rfl, hgM3.trans (xg)⟩
  · have hne : ¬ ((fe L k).1 = x.1 /\ (fe L k).2.1 = x.2.1) := fun ⟨h1, h2⟩ => by
      have h3 : fky (fe L k) = fky L[n] := by rw [hky]; exact Prod.ext h1 h2
      rw [z2e hlt] at h3
      exact hkn (zde hL.nd (by rw [List.length_map]; exact hlt) (by rw [List.length_map]; exact hn) (by rw [List.getElem_map, List.getElem_map]; exact h3))
    (have hrd0 := hr0; have hrd1 := hr1; have hrd2 := hx0; have hrd3 := hx1; repeat' (first | (with_reducible intro _) | refine sv ?_ | (refine sc ?_ ?_ <;> (intro h; try first | exact h.elim | exact absurd rfl h | (exfalso; omega))) | (refine sg ?_ ?_ <;> (intro h; (fail_if_success (have : True := h)); try first | exact h.elim | exact absurd rfl h | (exfalso; omega))) | assumption | exact xm | exact rfl))
    all_goals try (exfalso; omega)
    all_goals exact zn (L.length - (k + 1)) (by omega) ⟨k + 1, rfl, by omega, rfl, .cons rfl (.cons rfl (.cons rfl .nil)), hg2⟩
end Go.Proofs.YtbfnnllgdioccaaGreatDoor.C
end
section
open Go PvL Go.Proofs
variable {μ : Md}
set_option linter.unusedVariables false
set_option linter.unusedSimpArgs false
namespace Go.Proofs.YtbfnnllgdioccaaGreatDoor.C
instance : IsB Tryz.prog 4 := ⟨by kernel_rfl⟩
theorem mc {M : Mem} {v w : LV} {x y : Rl} (h : mgOk x y) (hv : RlV M v x) (hw : RlV M w y) {s : ByteArray} {L : List Fr} (hs : x.1 = s) (hL : jnL x.2 y.2 = L) :
    CallN Tryz.prog 23 [v, w] M (fun r M' => ∃ a f e, r = .tup [.agg [.str s, .slice a L.length f e], I 0] /\ FsV1 M' a L /\ Grow M M') := by
  subst hs hL
  have := ze5 hv hw (z8s h.1) (z8s h.2.1)
  rw [zfd h] at this
  refine this.mono ?_
  rintro r M' ⟨q, rfl, ⟨a, f, e, rfl, h1⟩, h2⟩
  exact ⟨a, f, e, rfl, h1, h2⟩
theorem mn {M : Mem} {v w : LV} {x y : Rl} (h : ¬ mgOk x y) (hv : RlV M v x) (hw : RlV M w y) (hx : RlIn x) (hy : RlIn y) :
    CallN Tryz.prog 23 [v, w] M (fun r M' => ∃ s a f e k n, r = .tup [.agg [.str s, .slice a k f e], I n] /\ n ≠ 0 /\ Grow M M') := by
  have := ze5 hv hw hx hy
  have hn := zfc h
  refine this.mono ?_
  rintro r M' ⟨q, rfl, ⟨a, f, e, rfl, h1⟩, h2⟩
  exact ⟨_, a, f, e, _, _, rfl, hn, h2⟩
theorem mg {M : Mem} {v w : LV} {x y : Rl} (hv : RlV M v x) (hw : RlV M w y) (hx : RlIn x) (hy : RlIn y) :
    CallN Tryz.prog 23 [v, w] M (fun r M' => ∃ s a k f e n, r = .tup [.agg [.str s, .slice a k f e], I n] /\ (n = 0 -> mgOk x y /\ s = x.1 /\ k = (jnL x.2 y.2).length /\ FsV1 M' a (jnL x.2 y.2)) /\ Grow M M') := by
  by_cases h : mgOk x y
  · refine (mc h hv hw rfl rfl).mono ?_
    rintro r M' ⟨a, f, e, rfl, h1, h2⟩
    exact ⟨_, a, _, f, e, 0, rfl, fun _ => ⟨h, rfl, rfl, h1⟩, h2⟩
  · refine (mn h hv hw hx hy).mono ?_
    rintro r M' ⟨s, a, f, e, k, n, rfl, h1, h2⟩
    exact ⟨s, a, k, f, e, n, rfl, fun h3 => absurd h3 h1, h2⟩
theorem sr {M : Mem} {s : ByteArray} {L : List Fr} {a b : Option (Nat × Nat)} {f g : Bool} {e u : Nat} (hL : GdL L) (hl : L.length <= 128) (h1 : FsV M a L) (h2 : FsV M b L) :
    CallOk Tryz.prog 25 [.agg [.str s, .slice a L.length f e], .agg [.str s, .slice b L.length g u]] M (fun u M' => u = .bool true /\ Grow M M') :=
  zcv (r := (s, L)) ⟨_, _, _, rfl, h1⟩ ⟨_, _, _, rfl, h2⟩ (by show L.length <= _; omega) (fun z hz => by have := (z4n (hL.b z hz)).2; omega)
set_option maxHeartbeats 16000000 in
theorem ze6 {M : Mem} {v w u : LV} {x y z : Rl} (hv : RlV M v x) (hw : RlV M w y) (hu : RlV M u z) (hx : RlIn x) (hy : RlIn y) (hz : RlIn z) (hB : Base M) (hp : preOk M tabs = true) :
    CallN Tryz.prog 6 [v, w, u] M (fun r _ => r = .bool true) := by
  have hv0 := hv
  have hw0 := hw
  have hu0 := hu
  obtain ⟨a, f, e, rfl, hs⟩ := hv
  obtain ⟨b, f', e', rfl, hs'⟩ := hw
  obtain ⟨c, f'', e'', rfl, hs''⟩ := hu
  have hpM : ∀ M', Grow M M' -> preOk M' tabs = true := fun M' hg => z6q (Ext.of_grow hg hB) hp
  refine z1w k6 rfl ?_
  dsimp only [x6, zipE, Nat.reduceAdd]
  (repeat' (first | (with_reducible intro _) | refine sv ?_ | (refine sc ?_ ?_ <;> (intro h; try first | exact h.elim | exact absurd rfl h | (exfalso; omega))) | (refine sg ?_ ?_ <;> (intro h; (fail_if_success (have : True := h)); try first | exact h.elim | exact absurd rfl h | (exfalso; omega))) | assumption | exact xm | exact rfl))
  rename_i n1 M1 hN1 q1 q1' n2 M2 hN2 q2 q2' n3 M3 hN3 q3 q3'
  have g3 : Grow M M3 := xg
  have a1 : At M3 n1 (.cells true [.str x.1, .slice a x.2.length f e] 24) := by
    have : At M1 n1 (.cells true [.str x.1, .slice a x.2.length f e] 24) := At.new_same hN1
    exact At.new_old hN3 (At.new_old hN2 this)
  have a2 : At M3 n2 (.cells true [.str y.1, .slice b y.2.length f' e'] 24) := by
    have : At M2 n2 (.cells true [.str y.1, .slice b y.2.length f' e'] 24) := At.new_same hN2
    exact At.new_old hN3 this
  have a3 : At M3 n3 (.cells true [.str z.1, .slice c z.2.length f'' e''] 24) := At.new_same hN3
  clear hN1 hN2 hN3
  by_cases hxy : mgOk x y
  case neg =>
    have hyx : ¬ mgOk y x := fun h => hxy (zfe.1 h)
    refine z0z (by exact gd) rfl rfl (mn hxy (hv0.grow g3) (hw0.grow g3) hx hy) ?_
    rintro w4 M4 ⟨s4, a4, f4, e4, k4, c4, rfl, hn4, hg4⟩
    have g4 := g3.trans hg4
    have b1 := At.grow hg4 a1
    have b2 := At.grow hg4 a2
    have hl4 := hg4.le
    clear hg4
    (repeat' (first | (with_reducible intro _) | refine sv ?_ | (refine sc ?_ ?_ <;> (intro h; try first | exact h.elim | exact absurd rfl h | (exfalso; omega))) | (refine sg ?_ ?_ <;> (intro h; (fail_if_success (have : True := h)); try first | exact h.elim | exact absurd rfl h | (exfalso; omega))) | assumption | exact xm | exact rfl))
    rename_i n5 M5 hN5 q5 q5' M6 hU6 q6 hA6
    have g6 : Grow M M6 := xg
    refine z0z (by exact gd) rfl rfl (mn hyx (hw0.grow g6) (hv0.grow g6) hy hx) ?_
    rintro w7 M7 ⟨s7, a7, f7, e7, k7, c7, rfl, hn7, hg7⟩
    have g7 := g6.trans hg7
    have hl7 := g7.le
    clear hN5 hU6
    (repeat' (first | (with_reducible intro _) | refine sv ?_ | (refine sc ?_ ?_ <;> (intro h; try first | exact h.elim | exact absurd rfl h | (exfalso; omega))) | ((with_reducible first | apply z0o | apply z0m | apply z00); exact gd; exact rfl; exact rfl; (first | exact zar (hpM _ (xg)))) | (refine sg ?_ ?_ <;> (intro h; (fail_if_success (have : True := h)); try first | exact h.elim | exact absurd rfl h | (exfalso; omega))) | assumption | exact xm | exact rfl))
    · ((with_reducible first | apply z9 | apply z3); exact rx)
      rfl
    · exfalso; simp_all
  have hyx := zfe.1 hxy
  have hjc : jnL y.2 x.2 = jnL x.2 y.2 := zby (err0 hxy.2.1).2.2 (err0 hxy.1).2.2
  have hnm := hxy.2.2.1
  have hgx := (err0 hxy.1).2.2
  have hgj := (z0n hgx (err0 hxy.2.1).2.2).1
  have hlj := hxy.2.2.2
  have hlx := (err0 hxy.1).2.1
  refine z0z (by exact gd) rfl rfl (mc hxy (hv0.grow g3) (hw0.grow g3) rfl rfl) ?_
  rintro w4 M4 ⟨a4, f4, e4, rfl, hs4, hg4⟩
  have g4 := g3.trans hg4
  have b1 := At.grow hg4 a1
  have b2 := At.grow hg4 a2
  have b3 := At.grow hg4 a3
  have hl4 := hg4.le
  clear hg4 a1 a2 a3
  (repeat' (first | (with_reducible intro _) | refine sv ?_ | (refine sc ?_ ?_ <;> (intro h; try first | exact h.elim | exact absurd rfl h | (exfalso; omega))) | (refine sg ?_ ?_ <;> (intro h; (fail_if_success (have : True := h)); try first | exact h.elim | exact absurd rfl h | (exfalso; omega))) | assumption | exact xm | exact rfl))
  rename_i n5 M5 hN5 q5 q5' M6 hU6 q6 hA6
  have g6 : Grow M M6 := xg
  have hs6 := hs4.grow (show Grow M4 M6 from xg)
  have b1 : At M6 n1 _ := xm
  have b2 : At M6 n2 _ := xm
  have b3 : At M6 n3 _ := xm
  have hmc := mc hyx (hw0.grow g6) (hv0.grow g6) hnm.symm hjc
  clear hN5 hU6
  refine z0z (by exact gd) rfl rfl hmc ?_
  rintro w7 M7 ⟨a7, f7, e7, rfl, hs7, hg7⟩
  have g7 := g6.trans hg7
  have b1 := At.grow hg7 b1
  have b2 := At.grow hg7 b2
  have b3 := At.grow hg7 b3
  have b5 := At.grow hg7 hA6
  have hs67 := hs6.grow hg7
  have hl7 := hg7.le
  clear hg7 hmc hA6 hs4 hs6
  (repeat' (first | (with_reducible intro _) | refine sv ?_ | (refine sc ?_ ?_ <;> (intro h; try first | exact h.elim | exact absurd rfl h | (exfalso; omega))) | (refine sg ?_ ?_ <;> (intro h; (fail_if_success (have : True := h)); try first | exact h.elim | exact absurd rfl h | (exfalso; omega))) | assumption | exact xm | exact rfl))
  rename_i n8 M8 hN8 q8 q8' M9 hU9 q9 hA9
  have g79 : Grow M7 M9 := xg
  have g9 : Grow M M9 := g7.trans g79
  have b1 : At M9 n1 _ := xm
  have b2 : At M9 n2 _ := xm
  have b3 : At M9 n3 _ := xm
  have b5 : At M9 n5 _ := xm
  have hs59 := hs67.grow g79
  have hs89 := hs7.grow g79
  obtain ⟨hself, hjs⟩ := zju hxy.1
  have hms := mc hself (hv0.grow g9) (hv0.grow g9) rfl hjs
  clear hN8 hU9 g79 hs67 hs7
  refine z0z (by exact gd) rfl rfl hms ?_
  rintro w10 M10 ⟨a10, f10, e10, rfl, hs10, hg10⟩
  have g10 := g9.trans hg10
  have b1 := At.grow hg10 b1
  have b2 := At.grow hg10 b2
  have b3 := At.grow hg10 b3
  have b5 := At.grow hg10 b5
  have b8 := At.grow hg10 hA9
  have hs5 := hs59.grow hg10
  have hs8 := hs89.grow hg10
  have hl10 := hg10.le
  have hsx := hs.grow g10
  clear hg10 hms hA9 hs59 hs89
  have cs1 := fun M' (hg : Grow M10 M') => sr (M := M') (s := x.1) (f := f10) (g := f) (e := e10) (u := e) hgx (err0 hxy.1).2.1 (hs10.grow hg).to (hsx.grow hg)
  have cs2 := fun M' (hg : Grow M10 M') => sr (M := M') (s := x.1) (f := f4) (g := f7) (e := e4) (u := e7) hgj hlj (hs5.grow hg).to (hs8.grow hg).to
  have cc := fun M' (hg : Grow M10 M') => z39 (M := M') (r := (x.1, jnL x.2 y.2)) (v := .agg [.str x.1, .slice a4 (jnL x.2 y.2).length f4 e4]) ⟨_, _, _, rfl, (hs5.grow hg).to⟩ (z8s (zc5 hxy))
  rw [zc5 hxy] at cc
  (repeat' (first | (with_reducible intro _) | refine sv ?_ | (refine sc ?_ ?_ <;> (intro h; try first | exact h.elim | exact absurd rfl h | (exfalso; omega))) | ((with_reducible first | apply zy | apply zx | apply zg); exact gd; exact rfl; exact rfl; (first | exact cs1 _ (xg) | exact cs2 _ (xg) | exact cc _ (xg))) | (refine sg ?_ ?_ <;> (intro h; (fail_if_success (have : True := h)); try first | exact h.elim | exact absurd rfl h | (exfalso; omega))) | assumption | exact xm | exact rfl))
  rename_i n11 M11 hN11 q11 q11' M12 hU12 q12 hA12 M13 hg13 q13 M14 hg14 q14 M15 hg15 q15
  have g1015 : Grow M10 M15 := xg
  have b1 : At M15 n1 _ := At.grow g1015 b1
  have b2 : At M15 n2 _ := At.grow g1015 b2
  have b3 : At M15 n3 _ := At.grow g1015 b3
  have b5 : At M15 n5 _ := At.grow g1015 b5
  have g15 := g10.trans g1015
  have hs15 := hs5.grow g1015
  have hsx15 := hsx.grow g1015
  clear hN11 hU12 hA12 hg13 hg14 hg15 hs5 hs8 hsx hs10
  refine z0y (K := fun e1 E ms M' => e1 = .exit 0 /\ ms = [] /\ Has E [(3, .ptr (some (n1, 0))), (4, .ptr (some (n2, 0))), (5, .ptr (some (n3, 0))), (7, .ptr (some (n5, 0)))] /\ Grow M15 M') ?_ ?_
  · refine z7 (fun m E ms M' => ∃ k : Nat, m = x.2.length - k /\ k <= x.2.length /\ ms = [] /\ Has E [(3, .ptr (some (n1, 0))), (4, .ptr (some (n2, 0))), (5, .ptr (some (n3, 0))), (7, .ptr (some (n5, 0))), (13, I k)] /\ Grow M15 M')
      ?_ (x.2.length - 0) _ _ _ ⟨0, rfl, Nat.zero_le _, rfl, .cons rfl (.cons rfl (.cons rfl (.cons rfl (.cons rfl .nil)))), Grow.refl _⟩
    rintro m E ms M16 ⟨k, rfl, hk, rfl, hE, hg16⟩
    refine zu hE ?_
    have d1 := At.grow hg16 b1
    have d5 := At.grow hg16 b5
    by_cases hlast : k = x.2.length
    · subst hlast
      have r1 : Rd1 M16 n1 (0 + 1) (.slice a x.2.length f e) := Rd1.of_at d1 rfl
      (have hrd0 := r1; repeat' (first | (with_reducible intro _) | refine sv ?_ | (refine sc ?_ ?_ <;> (intro h; try first | exact h.elim | exact absurd rfl h | (exfalso; omega))) | (refine sg ?_ ?_ <;> (intro h; (fail_if_success (have : True := h)); try first | exact h.elim | exact absurd rfl h | (exfalso; omega))) | assumption | exact xm | exact rfl))
      all_goals try (exfalso; omega)
      exact ⟨rfl, rfl, .cons rfl (.cons rfl (.cons rfl (.cons rfl .nil))), hg16⟩
    have hlt : k < x.2.length := by omega
    obtain ⟨i, o, bk, gk, uk, rfl, hrk, hsk⟩ := FsV.at (hsx15.grow hg16) hlt
    have r1 : Rd1 M16 n1 (0 + 1) (.slice (some (i, o)) x.2.length f e) := Rd1.of_at d1 rfl
    have r5 : Rd1 M16 n5 (0 + 1) (.slice a4 (jnL x.2 y.2).length f4 e4) := Rd1.of_at d5 rfl
    have hmem : fe x.2 k ∈ x.2 := by rw [z2e hlt]; exact List.getElem_mem hlt
    have hfk := hgx.b _ hmem
    have hhas := zjo hgx (err0 hxy.2.1).2.2 hmem
    have ch := zjd (M := M16) (f := f4) (e := e4) (hs15.grow hg16).to hgj (v := .agg [I (fe x.2 k).1, I (fe x.2 k).2.1, .slice bk (fe x.2 k).2.2.length gk uk]) ⟨_, _, _, rfl, hsk⟩ hfk hhas (by omega)
    (have hrd0 := r1; have hrd1 := r5; have hrd2 := hrk; repeat' (first | (with_reducible intro _) | refine sv ?_ | (refine sc ?_ ?_ <;> (intro h; try first | exact h.elim | exact absurd rfl h | (exfalso; omega))) | ((with_reducible first | apply zy | apply zx | apply zg); exact gd; exact rfl; exact rfl; (first | exact ch)) | (refine sg ?_ ?_ <;> (intro h; (fail_if_success (have : True := h)); try first | exact h.elim | exact absurd rfl h | (exfalso; omega))) | assumption | exact xm | exact rfl))
    rename_i M17 hg17 q17
    exact zn (x.2.length - (k + 1)) (by omega) ⟨k + 1, rfl, by omega, rfl, .cons rfl (.cons rfl (.cons rfl (.cons rfl (.cons rfl .nil)))), hg16.trans hg17⟩
  rintro e1 E ms M16 ⟨rfl, rfl, hE, hg16⟩
  apply z08
  apply z2a
  refine zu hE ?_
  have hle15 := g15.le
  have c1 := At.grow hg16 b1
  have c2 := At.grow hg16 b2
  have c3 := At.grow hg16 b3
  have c5 := At.grow hg16 b5
  have hs16 := hs15.grow hg16
  have g16 := g15.trans hg16
  clear b1 b2 b3 b5 hg16 hs15 g1015
  have hrx : errRl (x.1, jnL x.2 y.2) = 0 := zc5 hxy
  (repeat' (first | (with_reducible intro _) | refine sv ?_ | (refine sc ?_ ?_ <;> (intro h; try first | exact h.elim | exact absurd rfl h | (exfalso; omega))) | (refine sg ?_ ?_ <;> (intro h; (fail_if_success (have : True := h)); try first | exact h.elim | exact absurd rfl h | (exfalso; omega))) | assumption | exact xm | exact rfl))
  refine z0z (by exact gd) rfl rfl (mg (x := (x.1, jnL x.2 y.2)) ⟨_, _, _, rfl, hs16.to⟩ (hu0.grow g16) (z8s hrx) hz) ?_
  rintro w17 M17 ⟨s17, a17, k17, f17, e17, nA, rfl, hA17, hg17⟩
  have g17 := g16.trans hg17
  have c1 := At.grow hg17 c1
  have c2 := At.grow hg17 c2
  have c3 := At.grow hg17 c3
  have hl17 := g17.le
  have hn1 : n1 < M17.next := c1.2
  have hn2 : n2 < M17.next := c2.2
  have hn3 : n3 < M17.next := c3.2
  clear hg17 hs16 hE
  (repeat' (first | (with_reducible intro _) | refine sv ?_ | (refine sc ?_ ?_ <;> (intro h; try first | exact h.elim | exact absurd rfl h | (exfalso; omega))) | (refine sg ?_ ?_ <;> (intro h; (fail_if_success (have : True := h)); try first | exact h.elim | exact absurd rfl h | (exfalso; omega))) | assumption | exact xm | exact rfl))
  rename_i n18 M18 hN18 q18 q18' M19 hU19 q19 hA19
  have g1719 : Grow M17 M19 := xg
  have c1 : At M19 n1 _ := At.grow g1719 c1
  have c2 : At M19 n2 _ := At.grow g1719 c2
  have c3 : At M19 n3 _ := At.grow g1719 c3
  have g19 := g17.trans g1719
  have hsA : nA = 0 -> mgOk (x.1, jnL x.2 y.2) z /\ s17 = x.1 /\ k17 = (jnL (jnL x.2 y.2) z.2).length /\ FsV1 M19 a17 (jnL (jnL x.2 y.2) z.2) := fun h => by
    obtain ⟨h1, h2, h3, h4⟩ := hA17 h
    exact ⟨h1, h2, h3, h4.grow g1719⟩
  clear hN18 hU19 g1719 hA17
  refine z0z (by exact gd) rfl rfl (mg (hw0.grow g19) (hu0.grow g19) hy hz) ?_
  rintro w20 M20 ⟨s20, a20, k20, f20, e20, nB, rfl, hA20, hg20⟩
  have g20 := g19.trans hg20
  have c1 := At.grow hg20 c1
  have c14 := At.grow hg20 hA19
  have hl20 := hg20.le
  have hsA : nA = 0 -> mgOk (x.1, jnL x.2 y.2) z /\ s17 = x.1 /\ k17 = (jnL (jnL x.2 y.2) z.2).length /\ FsV1 M20 a17 (jnL (jnL x.2 y.2) z.2) := fun h => by
    obtain ⟨h1, h2, h3, h4⟩ := hsA h
    exact ⟨h1, h2, h3, h4.grow hg20⟩
  clear hg20 hA19 c2 c3
  have hl20' := g20.le
  (repeat' (first | (with_reducible intro _) | refine sv ?_ | (refine sc ?_ ?_ <;> (intro h; try first | exact h.elim | exact absurd rfl h | (exfalso; omega))) | ((with_reducible first | apply z0o | apply z0m | apply z00); exact gd; exact rfl; exact rfl; (first | exact zar (hpM _ (xg)))) | (refine sg ?_ ?_ <;> (intro h; (fail_if_success (have : True := h)); try first | exact h.elim | exact absurd rfl h | (exfalso; omega))) | assumption | exact xm | exact rfl))
  · ((with_reducible first | apply z9 | apply z3); exact rx)
    rfl
  · ((with_reducible first | apply z9 | apply z3); exact rx)
    rfl
  rename_i n21 M21 hN21 q21 q21' M22 hU22 q22 hA22 hzA
  have hA0 : nA = 0 := by omega
  have hB0 : nB = 0 := by omega
  obtain ⟨hokx, rfl, rfl, hsA2⟩ := hsA hA0
  obtain ⟨hokb, rfl, rfl, hsB⟩ := hA20 hB0
  obtain ⟨hfin, hass⟩ := zhi hxy hokb hokx
  have g2022 : Grow M20 M22 := xg
  have c1 : At M22 n1 _ := At.grow g2022 c1
  have c14 : At M22 n18 _ := At.grow g2022 c14
  have g22 := g20.trans g2022
  have hsA3 := hsA2.grow g2022
  have hsB := hsB.grow g2022
  have hn1 : n1 < M22.next := c1.2
  have hn18 : n18 < M22.next := c14.2
  clear hN21 hU22 g2022
  have hgl : GdL (jnL (jnL x.2 y.2) z.2) := (z0n (err0 hokx.1).2.2 (err0 hokx.2.1).2.2).1
  have hll : (jnL (jnL x.2 y.2) z.2).length <= 128 := hokx.2.2.2
  refine z0z (by exact gd) rfl rfl (mc hfin (hv0.grow g22) ⟨_, _, _, rfl, hsB.to⟩ rfl hass) ?_
  rintro w23 M23 ⟨a23, f23, e23, rfl, hs23, hg23⟩
  have c14 := At.grow hg23 c14
  have hsA4 := hsA3.grow hg23
  have g23 := g22.trans hg23
  have hl23 := g23.le
  have hn18 : n18 < M23.next := c14.2
  have cs := fun M' (hg : Grow M23 M') => sr (M := M') (s := x.1) (f := f17) (g := f23) (e := e17) (u := e23) hgl hll (hsA4.grow hg).to (hs23.grow hg).to
  clear hg23
  (repeat' (first | (with_reducible intro _) | refine sv ?_ | (refine sc ?_ ?_ <;> (intro h; try first | exact h.elim | exact absurd rfl h | (exfalso; omega))) | ((with_reducible first | apply z0o | apply z0m | apply z00); exact gd; exact rfl; exact rfl; (first | exact zar (hpM _ (xg)))) | ((with_reducible first | apply zy | apply zx | apply zg); exact gd; exact rfl; exact rfl; (first | exact cs _ (xg))) | (refine sg ?_ ?_ <;> (intro h; (fail_if_success (have : True := h)); try first | exact h.elim | exact absurd rfl h | (exfalso; omega))) | assumption | exact xm | exact rfl))
  all_goals try (exfalso; simp_all; done)
  ((with_reducible first | apply z9 | apply z3); exact rx)
  rfl
end Go.Proofs.YtbfnnllgdioccaaGreatDoor.C
end
