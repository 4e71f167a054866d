/-
 Part of the proof of CourseProves: what functions of the program and of the statement come to, walked by the rules. No condition beyond those in each theorem.
-/
import Derived.Test.YtpccafeedfpbaaaGreatTM
import Derived.Test.YtpccafeedfpbaaaGreatTN
import Derived.Test.YtpccafeedfpbaaaGreatTI
import Derived.Test.YtpccafeedfpbaaaGreatTE
section
open Go PvL Go.Proofs
set_option linter.unusedSimpArgs false
set_option linter.unusedVariables false
namespace Go.Proofs.YtpccafeedfpbaaaGreat.C
theorem conF_eq {s : Cr} (hs : CrOk s) {t : List Int} {set c m : Nat} (hc : c < 2 * s.lines.length) : conF s t set c m = if srcF s t set c m < 0 then none else if onR s m (srcF s t set c m) c < 0 then none else some (onR s m (srcF s t set c m) c) := by
 have hcn : conF s t set c m = if srcF s t set c m < 0 then none else (goF s (posR s m, srcF s t set c m) c).map (·.2) := rfl
 rw [hcn]
 split
 ·rfl
 ·unfold onR
  cases hg : goF s (posR s m, srcF s t set c m) c with
  | none => rfl
  | some b =>
   have hb := goF_bd hs (by omega) hg
   show some b.2 = if b.2 < 0 then none else some b.2
   rw [if_neg (by omega)]
theorem bad_iff {s : Cr} {t : List Int} {set c : Nat} : badS s t set c = true ↔ ∃ x ∈ earL s t set c, t.getD (plN s set c) 0 = -1 ∨ x < t.getD (plN s set c) 0 := by
 unfold badS
 cases h : minL (earL s t set c) with
 | none =>
  rw [minL_none.1 h]
  exact ⟨fun h => (by cases h), fun ⟨x, hx, _⟩ => (by cases hx)⟩
 | some w =>
  obtain ⟨h1, h2⟩ := minL_some h
  dsimp only
  rw [decide_eq_true_iff]
  refine ⟨fun h => ⟨w, h1, h⟩, fun ⟨x, hx, h3⟩ => ?_⟩
  have := h2 x hx
  omega
def okc (s : Cr) (t : List Int) (e : Int) (set c : Nat) : Prop := set.testBit (c / 2) = true -> badS s t set c = false /\ (set = allN s -> ¬ (t.getD (plN s set c) 0 ≠ -1 /\ t.getD (plN s set c) 0 < e))
noncomputable def pvV (s : Cr) (t : List Int) (e : Int) : Bool := !(badA s t) && !((t.drop (plN s (allN s) 0)).any fun v => decide (v ≠ -1) && decide (v < e))
theorem allN_lt (s : Cr) : allN s < 2 ^ s.lines.length := by unfold allN; have := Nat.two_pow_pos s.lines.length; omega
theorem early_iff {s : Cr} {t : List Int} {e : Int} (hl : t.length = 2 * s.lines.length * 2 ^ s.lines.length) : ((t.drop (plN s (allN s) 0)).any fun v => decide (v ≠ -1) && decide (v < e)) = true ↔ ∃ c, c < 2 * s.lines.length /\ (t.getD (plN s (allN s) c) 0 ≠ -1 /\ t.getD (plN s (allN s) c) 0 < e) := by
 have hp := Nat.two_pow_pos s.lines.length
 have hlen : plN s (allN s) 0 + 2 * s.lines.length = t.length := by
  rw [hl]
  unfold plN allN
  rw [Nat.mul_sub]
  have : 2 * s.lines.length * 1 <= 2 * s.lines.length * 2 ^ s.lines.length := Nat.mul_le_mul_left _ hp
  omega
 rw [List.any_eq_true]
 constructor
 ·rintro ⟨v, hv, h⟩
  rw [Bool.and_eq_true, decide_eq_true_iff, decide_eq_true_iff] at h
  obtain ⟨c, hc, rfl⟩ := List.getElem_of_mem hv
  rw [List.length_drop] at hc
  refine ⟨c, by omega, ?_⟩
  rw [List.getElem_drop] at h
  have hpc : plN s (allN s) c = plN s (allN s) 0 + c := rfl
  rw [getD_eq (by omega)]
  exact h
 ·rintro ⟨c, hc, h⟩
  have hpc : plN s (allN s) c = plN s (allN s) 0 + c := rfl
  rw [getD_eq (by omega)] at h
  refine ⟨t[plN s (allN s) c]'(by omega), ?_, by rw [Bool.and_eq_true, decide_eq_true_iff, decide_eq_true_iff]; exact h⟩
  rw [List.mem_drop_iff_getElem]
  exact ⟨c, by omega, rfl⟩
theorem pv_true {s : Cr} {t : List Int} {e : Int} (hl : t.length = 2 * s.lines.length * 2 ^ s.lines.length) (h : ∀ set, set < 2 ^ s.lines.length -> ∀ c, c < 2 * s.lines.length -> okc s t e set c) : pvV s t e = true := by
 have h1 : badA s t = false := by
  unfold badA
  rw [List.any_eq_false]
  intro set hset
  have hset := List.mem_range.1 hset
  unfold badR
  rw [Bool.not_eq_true, List.any_eq_false]
  intro c hc
  obtain ⟨hc1, hc2⟩ := mem_shoots.1 hc
  rw [(h set hset c hc1 hc2).1]; decide
 have h2 : ((t.drop (plN s (allN s) 0)).any fun v => decide (v ≠ -1) && decide (v < e)) = false := by
  rw [<- Bool.not_eq_true, early_iff hl]
  rintro ⟨c, hc, hv⟩
  exact (h (allN s) (allN_lt s) c hc (all_bit (by omega))).2 rfl hv
 unfold pvV
 rw [h1, h2]; rfl
theorem pv_bad {s : Cr} {t : List Int} {e : Int} {set c : Nat} (hset : set < 2 ^ s.lines.length) (hc : c < 2 * s.lines.length) (hb : set.testBit (c / 2) = true) (h : badS s t set c = true) : pvV s t e = false := by
 have h1 : badA s t = true := List.any_eq_true.2 ⟨set, List.mem_range.2 hset, List.any_eq_true.2 ⟨c, mem_shoots.2 ⟨hc, hb⟩, h⟩⟩
 unfold pvV
 rw [h1]; rfl
theorem pv_early {s : Cr} {t : List Int} {e : Int} {c : Nat} (hl : t.length = 2 * s.lines.length * 2 ^ s.lines.length) (hc : c < 2 * s.lines.length) (h : t.getD (plN s (allN s) c) 0 ≠ -1 /\ t.getD (plN s (allN s) c) 0 < e) : pvV s t e = false := by
 unfold pvV
 rw [(early_iff hl).2 ⟨c, hc, h⟩, Bool.not_true, Bool.and_false]
theorem provesF_eq {s : Cr} {t : List Int} {e : Int} (hs : CrOk s) (ht : TblOk s t) : ProvesF s t e = (pvV s t e, 0) := by
 unfold ProvesF
 rw [if_pos hs, if_pos ht]; rfl
set_option maxHeartbeats 16000000 in
theorem c_Proves4 {A : CrA} {s : Cr} {aT : Option (Nat × Nat)} {fT : Bool} {eT : Nat} {t : List Int} {e : Int} {M : Mem} (hM : CrM M A s) (ht : SlA 1 intz M aT t) (htl : t.length <= 1000000000000000) :
  CallOk Tryz.prog 26 [crv A s, .slice aT t.length fT eT, I e] M (fun v M' => Grow M M' /\ v = .tup [.bool (ProvesF s t e).1, I (ProvesF s t e).2]) := by
 classical
 have hc := fun M' (hg : Grow M M') => c_CheckCruise4 (hM.grow hg)
 refine call_in kq26 rfl ?_
 dsimp only [xq26, qm, qf, ql, qL, qi, qb, qc, qa, qn, qB, qC, qg, qS, qo, qq, qZ, qN, zipE, Nat.reduceAdd]
 unfold ProvesF
 by_cases hok : CrOk s
 rotate_left
 ·have he : eCrB s = 40 := if_neg (by rw [crB_f hok]; decide)
  rw [he] at hc
  rw [if_neg hok]
  (repeat' first|with_reducible intro _|refine sv ?_|refine sc ?_ ?_<;>(intro h;try exact sz h)|(with_reducible first|apply x_pure|apply d_pure|apply d_pure0);exact gd;exact rfl;exact rfl;exact hc _ (xg)|refine sg ?_ ?_<;>(intro h;first|exact sz h|refine sy h ?_)|exact sq|fail)
  all_goals first
   |(exfalso; omega)
   |((refine kf ?_)
     exact ⟨xg, rfl⟩)
 have he : eCrB s = 0 := if_pos (crB_t hok)
 rw [he] at hc
 rw [if_pos hok]
 have hcs := fun M' (hg : Grow M M') => c_costs4 hok (hM.grow hg)
 have hn5 := hok.n5
 have hn1 := hok.n1
 have hp2 : 2 ^ s.lines.length <= 32 := Nat.pow_le_pow_right (n := 2) (by omega) hn5
 have hsb := shl_one_bd (k := s.lines.length) (by omega)
 have hso := shl_one s.lines.length
 have hsh := shl_tab s.lines.length
 have hN : 2 * s.lines.length * 2 ^ s.lines.length <= 10 * 32 := Nat.mul_le_mul (by omega) hp2
 by_cases hl : t.length = 2 * s.lines.length * 2 ^ s.lines.length
 rotate_left
 ·have hl' : ¬ (t.length : Int) = shlZ (2 * (s.lines.length : Int)) (s.lines.length : Int) := by rw [hsh]; omega
  rw [if_neg (fun h => hl h.1)]
  (repeat' first|with_reducible intro _|refine sv ?_|refine sc ?_ ?_<;>(intro h;try exact sz h)|(with_reducible first|apply x_pure|apply d_pure|apply d_pure0);exact gd;exact rfl;exact rfl;exact hc _ (xg)|refine sg ?_ ?_<;>(intro h;first|exact sz h|refine sy h ?_)|exact sq|fail)
  all_goals first
   |(exfalso; omega)
   |((refine kf ?_)
     exact ⟨xg, rfl⟩)
 have hl' : (t.length : Int) = shlZ (2 * (s.lines.length : Int)) (s.lines.length : Int) := by rw [hsh]; omega
 (repeat' first|with_reducible intro _|refine sv ?_|refine sc ?_ ?_<;>(intro h;try exact sz h)|(with_reducible first|apply x_pure|apply d_pure|apply d_pure0);exact gd;exact rfl;exact rfl;exact hc _ (xg)|refine sg ?_ ?_<;>(intro h;first|exact sz h|refine sy h ?_)|exact sq|fail)
 all_goals try (exfalso; omega)
 rename_i n3 M1 hn3 e1 e2 M2 hg2 e3 hx1
 have b3 : At M2 n3 (.cells true (crc A s) 35) := xm
 have hgs2 : Grow M M2 /\ True := ⟨xg, trivial⟩
 have le2 := hgs2.1.le
 have l3 := b3.2
 have hl3 : M.next <= n3 := by omega
 refine w_loop_ind (fun n E ms M' => ∃ k : Nat, n = t.length - k /\ k <= t.length /\ ms = [] /\ Has E [(1, .slice aT t.length fT eT), (2, I e), (3, .ptr (some (n3, 0))), (9, I s.lines.length), (10, I k)] /\ Grow M2 M' /\ ∀ i (hi : i < t.length), i < k -> -1 <= t[i] /\ t[i] <= 4194304) ?_ t.length _ _ _
  ⟨0, by omega, by omega, rfl, .cons rfl (.cons rfl (.cons rfl (.cons rfl (.cons rfl .nil)))), Grow.refl _, fun i hi h => absurd h (Nat.not_lt_zero _)⟩
 clear hn3 hg2 hc
 rintro n E ms M3 ⟨k, rfl, hk, rfl, hE, hg3, hall⟩
 refine w_has hE ?_
 have le3 := hg3.le
 have d3 := b3.grow hg3
 by_cases hlast : k = t.length
 rotate_left
 ·have hlt : k < t.length := by omega
  obtain ⟨iT, oT, rfl, hrT⟩ := ht.resolve_left (fun h => by rw [h] at hlt; simp at hlt)
  have rT := (((hrT k hlt).nth (j := 0) (v := I t[k]) rfl).grow hgs2.1).grow hg3
  have hiT := (hrT k hlt).2
  by_cases hv : -1 <= t[k] /\ t[k] <= 4194304
  ·have hall' : ∀ i (hi : i < t.length), i < k + 1 -> -1 <= t[i] /\ t[i] <= 4194304 := fun i hi h => by
    rcases Nat.lt_or_ge i k with h1 | h1
    ·exact hall i hi h1
    ·obtain rfl : i = k := by omega
     exact hv
   have hbt := fun M' => c_between t[k] (-1) 4194304 M'
   rw [decide_eq_true hv] at hbt
   generalize t[k] = v at *
   (have hrd0 := rT;repeat' first|with_reducible intro _|refine sv ?_|refine sc ?_ ?_<;>(intro h;try exact sz h)|(with_reducible first|apply x_same|apply d_same|apply d_same0);exact gd;exact rfl;exact rfl;exact hbt _|refine sg ?_ ?_<;>(intro h;first|exact sz h|refine sy h ?_)|exact sq|fail)
   refine k_step (t.length - (k + 1)) (by omega) ⟨k + 1, rfl, by omega, rfl, .cons rfl (.cons rfl (.cons rfl (.cons rfl (.cons rfl .nil)))), hg3, hall'⟩
  ·have hno : ¬ TblOk s t := fun h => hv (h.2 _ (List.getElem_mem hlt))
   rw [if_neg hno]
   have hbt := fun M' => c_between t[k] (-1) 4194304 M'
   rw [decide_eq_false hv] at hbt
   generalize t[k] = v at *
   (have hrd0 := rT;repeat' first|with_reducible intro _|refine sv ?_|refine sc ?_ ?_<;>(intro h;try exact sz h)|(with_reducible first|apply x_same|apply d_same|apply d_same0);exact gd;exact rfl;exact rfl;exact hbt _|refine sg ?_ ?_<;>(intro h;first|exact sz h|refine sy h ?_)|exact sq|fail)
   (refine kf ?_)
   exact ⟨hgs2.1.trans hg3, rfl⟩
 subst hlast
 have hok2 : TblOk s t := ⟨hl, fun v hv => by
  obtain ⟨i, hi, rfl⟩ := List.getElem_of_mem hv
  exact hall i hi hi⟩
 rw [if_pos hok2]
 clear hall
 have hgs3 : Grow M M3 /\ True := ⟨hgs2.1.trans hg3, trivial⟩
 have l3' := d3.2
 have le03 := hgs3.1.le
 clear hg3 hgs2 b3
 (repeat' first|with_reducible intro _|refine sv ?_|refine sc ?_ ?_<;>(intro h;try exact sz h)|(with_reducible first|apply x_call|apply d_call|apply x_call0);exact gd;exact rfl;exact rfl;exact hcs _ hgs3.1|refine sg ?_ ?_<;>(intro h;first|exact sz h|refine sy h ?_)|exact sq|fail)
 rename_i w M4 hq n5 M5 hn5' e4 e5
 obtain ⟨hg4, aC, fC, rfl, hco⟩ := hq
 have le4 := hg4.le
 have hgs5 : Grow M M5 /\ True := ⟨(hgs3.1.trans hg4).trans hn5'.grow, trivial⟩
 (repeat' first|with_reducible intro _|refine sv ?_|refine sc ?_ ?_<;>(intro h;try exact sz h)|refine sg ?_ ?_<;>(intro h;first|exact sz h|refine sy h ?_)|exact sq|fail)
 rename_i M6 hu6 e6 a6
 have hk56 : Keep (fun i => i = n5) M5 M6 := (Keep.refl (fun i => i = n5) M5).upd hu6 (.inl rfl)
 have hco6 := hco.grow (Keep.to_grow' hn5'.grow hk56 (fun i hi => by omega))
 have hgs6 : Grow M M6 /\ True := ⟨Keep.to_grow' hgs5.1 hk56 (fun i hi => by omega), trivial⟩
 have c6 : At M6 n5 (.cells true (coc A s aC fC) 121) := a6
 have l6 := c6.2
 have le6 := hgs6.1.le
 clear hk56 hn5' hu6 a6 hco hgs5 hgs3 hcs hg4 d3 l3' e6 e5 e4 le4 le03 hE
 have hpos : 0 < t.length := by
  have := Nat.two_pow_pos s.lines.length
  rw [hl]
  exact Nat.mul_pos (by omega) this
 obtain ⟨iT, oT, rfl, hrT⟩ := ht.resolve_left (fun h => by rw [h] at hpos; simp at hpos)
 have hrT6 : ∀ i (hi : i < t.length), Rd1 M6 iT (oT + i * 1) (I t[i]) := fun i hi => ((hrT i hi).nth (j := 0) rfl).grow hgs6.1
 have hiT := (hrT 0 hpos).2
 have hpvt : (∀ set, set < 2 ^ s.lines.length -> ∀ c, c < 2 * s.lines.length -> okc s t e set c) -> ProvesF s t e = (true, 0) := fun h => by rw [provesF_eq hok hok2, pv_true hl h]
 have hpvf : ∀ set c, set < 2 ^ s.lines.length -> c < 2 * s.lines.length -> set.testBit (c / 2) = true -> badS s t set c = true -> ProvesF s t e = (false, 0) := fun set c h1 h2 h3 h4 => by rw [provesF_eq hok hok2, pv_bad h1 h2 h3 h4]
 have hpve : ∀ c, c < 2 * s.lines.length -> (t.getD (plN s (allN s) c) 0 ≠ -1 /\ t.getD (plN s (allN s) c) 0 < e) -> ProvesF s t e = (false, 0) := fun c h1 h2 => by rw [provesF_eq hok hok2, pv_early hl h1 h2]
 have hPF : ProvesF s t e = (!(badA s t) && !((t.drop (plN s (allN s) 0)).any fun v => decide (v ≠ -1) && decide (v < e)), 0) := provesF_eq hok hok2
 rw [<- hPF]
 clear hPF
 generalize ProvesF s t e = pf at *
 (repeat' first|with_reducible intro _|refine sv ?_|refine sc ?_ ?_<;>(intro h;try exact sz h)|refine sg ?_ ?_<;>(intro h;first|exact sz h|refine sy h ?_)|exact sq|fail)
 refine w_loop_ind (fun n E ms M' => ∃ k : Nat, n = 2 ^ s.lines.length - k /\ k <= 2 ^ s.lines.length /\ ms = [] /\ Has E [(1, .slice (some (iT, oT)) t.length fT eT), (2, I e), (9, I s.lines.length), (11, .ptr (some (n5, 0))), (12, I k)] /\ Grow M6 M' /\ ∀ set, set < k -> ∀ c, c < 2 * s.lines.length -> okc s t e set c) ?_ (2 ^ s.lines.length - 1) _ _ _
  ⟨1, by omega, by omega, rfl, .cons rfl (.cons rfl (.cons rfl (.cons rfl (.cons rfl (.nil))))), Grow.refl _, fun set hs0 c hc hb => by
   obtain rfl : set = 0 := by omega
   rw [Nat.zero_testBit] at hb; cases hb⟩
 rintro n E ms M7 ⟨k, rfl, hk, rfl, hE, hg7, hI⟩
 refine w_has hE ?_
 have le7 := hg7.le
 by_cases hlast : k = 2 ^ s.lines.length
 ·subst hlast
  rw [hpvt hI]
  (repeat' first|with_reducible intro _|refine sv ?_|refine sc ?_ ?_<;>(intro h;try exact sz h)|refine sg ?_ ?_<;>(intro h;first|exact sz h|refine sy h ?_)|exact sq|fail)
  (refine kf ?_)
  exact ⟨hgs6.1.trans hg7, rfl⟩
 have hlt : k < 2 ^ s.lines.length := by omega
 clear hpvt
 (repeat' first|with_reducible intro _|refine sv ?_|refine sc ?_ ?_<;>(intro h;try exact sz h)|refine sg ?_ ?_<;>(intro h;first|exact sz h|refine sy h ?_)|exact sq|fail)
 refine w_loop_ind (fun n E ms M' => ∃ j : Nat, n = 2 * s.lines.length - j /\ j <= 2 * s.lines.length /\ ms = [] /\ Has E [(1, .slice (some (iT, oT)) t.length fT eT), (2, I e), (9, I s.lines.length), (11, .ptr (some (n5, 0))), (12, I k), (13, I j)] /\ Grow M6 M' /\ ∀ c, c < j -> okc s t e k c) ?_ (2 * s.lines.length) _ _ _
  ⟨0, by omega, by omega, rfl, .cons rfl (.cons rfl (.cons rfl (.cons rfl (.cons rfl (.cons rfl (.nil)))))), hg7, fun c hc => absurd hc (Nat.not_lt_zero _)⟩
 clear hE hg7 le7
 rintro n E ms M8 ⟨j, rfl, hj, rfl, hE, hg8, hJ⟩
 refine w_has hE ?_
 have le8 := hg8.le
 by_cases hlast : j = 2 * s.lines.length
 ·subst hlast
  (repeat' first|with_reducible intro _|refine sv ?_|refine sc ?_ ?_<;>(intro h;try exact sz h)|refine sg ?_ ?_<;>(intro h;first|exact sz h|refine sy h ?_)|exact sq|fail)
  refine k_step (2 ^ s.lines.length - (k + 1)) (by omega) ⟨k + 1, rfl, by omega, rfl, .cons rfl (.cons rfl (.cons rfl (.cons rfl (.cons rfl (.nil))))), hg8, fun set h1 c hc => ?_⟩
  rcases Nat.lt_or_ge set k with h2 | h2
  ·exact hI set h2 c hc
  ·obtain rfl : set = k := by omega
   exact hJ c hc
 have hjlt : j < 2 * s.lines.length := by omega
 have hj2 : ((j / 2 : Nat) : Int) = (j : Int) / 2 := by omega
 have hbt := fun M' => c_bit4 (set := k) (k := j / 2) (by omega) (by omega) M'
 rw [hj2] at hbt
 have hJ' : okc s t e k j -> ∀ c, c < j + 1 -> okc s t e k c := fun h c hc => by
  rcases Nat.lt_or_ge c j with h2 | h2
  ·exact hJ c h2
  ·obtain rfl : c = j := by omega
   exact h
 cases hb : k.testBit (j / 2) with
 | false =>
  rw [hb] at hbt
  (repeat' first|with_reducible intro _|refine sv ?_|refine sc ?_ ?_<;>(intro h;try exact sz h)|(with_reducible first|apply x_pure|apply d_pure|apply d_pure0);exact gd;exact rfl;exact rfl;exact hbt _|refine sg ?_ ?_<;>(intro h;first|exact sz h|refine sy h ?_)|exact sq|fail)
  refine k_step (2 * s.lines.length - (j + 1)) (by omega) ⟨j + 1, rfl, by omega, rfl, .cons rfl (.cons rfl (.cons rfl (.cons rfl (.cons rfl (.cons rfl (.nil)))))), xg, hJ' fun h => by rw [hb] at h; cases h⟩
 | true =>
  rw [hb] at hbt
  have hri := rest_int hb
  rw [hj2] at hri
  have hrl := rest_lt hb
  have hpl : plN s k j < t.length := by rw [hl]; exact pl_lt hlt hjlt
  have rB := hrT6 _ hpl
  have hbnd := hok2.2 _ (List.getElem_mem hpl)
  have hgd : t.getD (plN s k j) 0 = t[plN s k j] := getD_eq hpl
  have htb : ∀ fr, fr < 2 * s.lines.length -> restN k (j / 2) ≠ 0 -> -1 <= t.getD (plN s (restN k (j / 2)) fr) 0 := fun fr hfr _ => by
   have hl2 : plN s (restN k (j / 2)) fr < t.length := by rw [hl]; exact pl_lt (by omega) hfr
   rw [getD_eq hl2]; exact (hok2.2 _ (List.getElem_mem hl2)).1
  have hear := con_ear (t := t) (set := k) (c := j) htb
  have hbi := bad_iff (s := s) (t := t) (set := k) (c := j)
  rw [<- hear, hgd] at hbi
  have hoke : okc s t e k j ↔ (badS s t k j = false /\ (k = allN s -> ¬ (t[plN s k j] ≠ -1 /\ t[plN s k j] < e))) := by
   unfold okc
   rw [hgd, hb]
   exact ⟨fun h => h rfl, fun h _ => h⟩
  have hmb := mul_bd (a := 2 * (s.lines.length : Int)) (b := (k : Int)) (A := 10) (B := 32) (by omega) (by omega)
  have hidx : 0 <= 2 * (s.lines.length : Int) * (k : Int) + (j : Int) /\ 2 * (s.lines.length : Int) * (k : Int) + (j : Int) < (t.length : Nat) := by
   have e : 2 * (s.lines.length : Int) * (k : Int) + (j : Int) = ((plN s k j : Nat) : Int) := by unfold plN; rw [Int.natCast_add, Int.natCast_mul, Int.natCast_mul]; rfl
   rw [e]; omega
  have hpve' : k = allN s -> (t[plN s k j] ≠ -1 /\ t[plN s k j] < e) -> pf = (false, 0) := fun h1 h2 => hpve j hjlt (by rw [<- h1, hgd]; exact h2)
  generalize t[plN s k j] = bnd at *
  rw [<- pl_idx] at rB
  have rB8 := rB.grow hg8
  (have hrd0 := rB8;repeat' first|with_reducible intro _|refine sv ?_|refine sc ?_ ?_<;>(intro h;try exact sz h)|(with_reducible first|apply x_pure|apply d_pure|apply d_pure0);exact gd;exact rfl;exact rfl;exact hbt _|refine sg ?_ ?_<;>(intro h;first|exact sz h|refine sy h ?_)|exact sq|fail)
  rename_i M9 hg9 e9
  have hmem : ∀ m q, m < 2 * s.lines.length + 1 -> conF s t k j m = some q -> q ∈ conL s t k j (2 * s.lines.length + 1) := fun m q h1 h2 => List.mem_filterMap.2 ⟨m, List.mem_range.2 h1, h2⟩
  refine w_loop_ind (fun n E ms M' => ∃ m : Nat, n = 2 * s.lines.length + 1 - m /\ m <= 2 * s.lines.length + 1 /\ ms = [] /\ Has E [(1, .slice (some (iT, oT)) t.length fT eT), (2, I e), (9, I s.lines.length), (11, .ptr (some (n5, 0))), (12, I k), (13, I j), (14, I bnd), (15, I (restN k (j / 2) : Nat)), (16, I m)] /\ Grow M6 M' /\ ∀ x ∈ conL s t k j m, ¬ (bnd = -1 ∨ x < bnd)) ?_ (2 * s.lines.length + 1) _ _ _
   ⟨0, by omega, by omega, rfl, .cons rfl (.cons rfl (.cons rfl (.cons rfl (.cons rfl (.cons rfl (.cons rfl (.cons (by rw [<- hri]; rfl) (.cons rfl (.nil))))))))), hg8.trans hg9, fun x hx => (by cases hx)⟩
  clear hE hg8 hg9 e9 le8 rB8 hrd0
  rintro n E ms M10 ⟨m, rfl, hm, rfl, hE, hg10, hX⟩
  refine w_has hE ?_
  have le10 := hg10.le
  by_cases hlast : m = 2 * s.lines.length + 1
  ·subst hlast
   have hnb : badS s t k j = false := by
    rw [<- Bool.not_eq_true, hbi]
    rintro ⟨x, h1, h2⟩
    exact hX x h1 h2
   have hki : (k : Int) = shlZ 1 (s.lines.length : Int) - 1 ↔ k = allN s := by
    rw [hso]; unfold allN
    have := Nat.two_pow_pos s.lines.length
    omega
   by_cases hka : k = allN s
   ·have hk1 := hki.2 hka
    by_cases hea : bnd ≠ -1 /\ bnd < e
    ·rw [hpve' hka hea]
     (repeat' first|with_reducible intro _|refine sv ?_|refine sc ?_ ?_<;>(intro h;try exact sz h)|refine sg ?_ ?_<;>(intro h;first|exact sz h|refine sy h ?_)|exact sq|fail)
     all_goals try (exfalso; omega)
     (refine kf ?_)
     exact ⟨hgs6.1.trans hg10, rfl⟩
    ·(repeat' first|with_reducible intro _|refine sv ?_|refine sc ?_ ?_<;>(intro h;try exact sz h)|refine sg ?_ ?_<;>(intro h;first|exact sz h|refine sy h ?_)|exact sq|fail)
     all_goals try (exfalso; omega)
     all_goals refine k_step (2 * s.lines.length - (j + 1)) (by omega) ⟨j + 1, rfl, by omega, rfl, .cons rfl (.cons rfl (.cons rfl (.cons rfl (.cons rfl (.cons rfl (.nil)))))), hg10, hJ' (hoke.2 ⟨hnb, fun _ => hea⟩)⟩
   ·have hk1 : ¬ (k : Int) = shlZ 1 (s.lines.length : Int) - 1 := fun h => hka (hki.1 h)
    (repeat' first|with_reducible intro _|refine sv ?_|refine sc ?_ ?_<;>(intro h;try exact sz h)|refine sg ?_ ?_<;>(intro h;first|exact sz h|refine sy h ?_)|exact sq|fail)
    all_goals try (exfalso; omega)
    all_goals refine k_step (2 * s.lines.length - (j + 1)) (by omega) ⟨j + 1, rfl, by omega, rfl, .cons rfl (.cons rfl (.cons rfl (.cons rfl (.cons rfl (.cons rfl (.nil)))))), hg10, hJ' (hoke.2 ⟨hnb, fun h => absurd h hka⟩)⟩
  have hsrc : srcF s t k j m = if m < 2 * s.lines.length then (if restN k (j / 2) = 0 then -1 else t.getD (plN s (restN k (j / 2)) m) 0) else (if restN k (j / 2) = 0 then 0 else -1) := rfl
  by_cases hm2 : m < 2 * s.lines.length
  ·rw [if_pos hm2] at hsrc
   by_cases hr : restN k (j / 2) = 0
   ·rw [if_pos hr] at hsrc
    have hcf := conF_eq hok (t := t) (set := k) hjlt (m := m)
    rw [hsrc, if_pos (by decide)] at hcf
    (repeat' first|with_reducible intro _|refine sv ?_|refine sc ?_ ?_<;>(intro h;try exact sz h)|refine sg ?_ ?_<;>(intro h;first|exact sz h|refine sy h ?_)|exact sq|fail)
    refine k_step (2 * s.lines.length + 1 - (m + 1)) (by omega) ⟨m + 1, rfl, by omega, rfl, .cons rfl (.cons rfl (.cons rfl (.cons rfl (.cons rfl (.cons rfl (.cons rfl (.cons rfl (.cons rfl (.nil))))))))), xg, fun x hx => hX x (by rw [conL_succ, hcf] at hx; simpa using hx)⟩
   ·rw [if_neg hr] at hsrc
    have hix : plN s (restN k (j / 2)) m < t.length := by rw [hl]; exact pl_lt (by omega) hm2
    have hR := hrT6 _ hix
    rw [getD_eq hix] at hsrc
    have hib := hok2.2 _ (List.getElem_mem hix)
    have hmb2 := mul_bd (a := 2 * (s.lines.length : Int)) (b := ((restN k (j / 2) : Nat) : Int)) (A := 10) (B := 32) (by omega) (by omega)
    have hidx2 : 0 <= 2 * (s.lines.length : Int) * ((restN k (j / 2) : Nat) : Int) + (m : Int) /\ 2 * (s.lines.length : Int) * ((restN k (j / 2) : Nat) : Int) + (m : Int) < (t.length : Nat) := by
     have e : 2 * (s.lines.length : Int) * ((restN k (j / 2) : Nat) : Int) + (m : Int) = ((plN s (restN k (j / 2)) m : Nat) : Int) := by unfold plN; rw [Int.natCast_add, Int.natCast_mul, Int.natCast_mul]; rfl
     rw [e]; omega
    generalize t[plN s (restN k (j / 2)) m] = v at *
    rw [<- pl_idx] at hR
    have rR := hR.grow hg10
    by_cases hv0 : v < 0
    ·have hcf := conF_eq hok (t := t) (set := k) hjlt (m := m)
     rw [hsrc, if_pos hv0] at hcf
     (have hrd0 := rR;repeat' first|with_reducible intro _|refine sv ?_|refine sc ?_ ?_<;>(intro h;try exact sz h)|refine sg ?_ ?_<;>(intro h;first|exact sz h|refine sy h ?_)|exact sq|fail)
     refine k_step (2 * s.lines.length + 1 - (m + 1)) (by omega) ⟨m + 1, rfl, by omega, rfl, .cons rfl (.cons rfl (.cons rfl (.cons rfl (.cons rfl (.cons rfl (.cons rfl (.cons rfl (.cons rfl (.nil))))))))), xg, fun x hx => hX x (by rw [conL_succ, hcf] at hx; simpa using hx)⟩
    ·skip
     have hcf := conF_eq hok (t := t) (set := k) hjlt (m := m)
     rw [hsrc, if_neg (by omega)] at hcf
     have c10 := c6.grow hg10
     have hg010 : Grow M M10 := hgs6.1.trans hg10
     have hon := fun M' (hg : Grow M10 M') => c_on4 (fC := fC) (fr := m) (to := j) (t := v) hok ((hco6.grow hg10).grow hg) (Nat.le_of_lt hm2) hjlt (by omega)
     have hret : 0 <= onR s (m) v j -> (bnd < 0 ∨ onR s (m) v j < bnd) -> pf = (false, 0) := fun h1 h2 => by
      rw [if_neg (by omega)] at hcf
      exact hpvf k j hlt hjlt hb (hbi.2 ⟨_, hmem _ _ (by omega) hcf, by omega⟩)
     have hXn : ¬ (0 <= onR s (m) v j /\ (bnd < 0 ∨ onR s (m) v j < bnd)) -> ∀ x ∈ conL s t k j (m + 1), ¬ (bnd = -1 ∨ x < bnd) := fun hn x hx => by
      rw [conL_succ, hcf] at hx
      rcases List.mem_append.1 hx with hx | hx
      ·exact hX x hx
      ·by_cases h0 : onR s (m) v j < 0
       ·rw [if_pos h0] at hx; cases hx
       ·rw [if_neg h0] at hx
        obtain rfl := List.mem_singleton.1 hx
        omega
     clear hcf
     generalize onR s (m) v j = q at *
     (have hrd0 := rR;repeat' first|with_reducible intro _|refine sv ?_|refine sc ?_ ?_<;>(intro h;try exact sz h)|(with_reducible first|apply x_pure|apply d_pure|apply d_pure0);exact gd;exact rfl;exact rfl;exact hon _ (xg)|refine sg ?_ ?_<;>(intro h;first|exact sz h|refine sy h ?_)|exact sq|fail)
     all_goals first
      |(exfalso; omega)
      |(refine k_step (2 * s.lines.length + 1 - (m + 1)) (by omega) ⟨m + 1, rfl, by omega, rfl, .cons rfl (.cons rfl (.cons rfl (.cons rfl (.cons rfl (.cons rfl (.cons rfl (.cons rfl (.cons rfl (.nil))))))))), xg, hXn (by omega)⟩)
      |((refine kf ?_)
        exact ⟨xg, by rw [hret (by omega) (by omega)]; rfl⟩)
  ·obtain rfl : m = 2 * s.lines.length := by omega
   rw [if_neg hm2] at hsrc
   by_cases hr : restN k (j / 2) = 0
   ·rw [if_pos hr] at hsrc
    have hcf := conF_eq hok (t := t) (set := k) hjlt (m := (2 * s.lines.length))
    rw [hsrc, if_neg (by omega)] at hcf
    have c10 := c6.grow hg10
    have hg010 : Grow M M10 := hgs6.1.trans hg10
    have hon := fun M' (hg : Grow M10 M') => c_on4 (fC := fC) (fr := (2 * s.lines.length)) (to := j) (t := 0) hok ((hco6.grow hg10).grow hg) (Nat.le_refl _) hjlt (by omega)
    have hret : 0 <= onR s ((2 * s.lines.length)) 0 j -> (bnd < 0 ∨ onR s ((2 * s.lines.length)) 0 j < bnd) -> pf = (false, 0) := fun h1 h2 => by
     rw [if_neg (by omega)] at hcf
     exact hpvf k j hlt hjlt hb (hbi.2 ⟨_, hmem _ _ (by omega) hcf, by omega⟩)
    have hXn : ¬ (0 <= onR s ((2 * s.lines.length)) 0 j /\ (bnd < 0 ∨ onR s ((2 * s.lines.length)) 0 j < bnd)) -> ∀ x ∈ conL s t k j ((2 * s.lines.length) + 1), ¬ (bnd = -1 ∨ x < bnd) := fun hn x hx => by
     rw [conL_succ, hcf] at hx
     rcases List.mem_append.1 hx with hx | hx
     ·exact hX x hx
     ·by_cases h0 : onR s ((2 * s.lines.length)) 0 j < 0
      ·rw [if_pos h0] at hx; cases hx
      ·rw [if_neg h0] at hx
       obtain rfl := List.mem_singleton.1 hx
       omega
    clear hcf
    generalize onR s ((2 * s.lines.length)) 0 j = q at *
    (repeat' first|with_reducible intro _|refine sv ?_|refine sc ?_ ?_<;>(intro h;try exact sz h)|(with_reducible first|apply x_pure|apply d_pure|apply d_pure0);exact gd;exact rfl;exact rfl;exact hon _ (xg)|refine sg ?_ ?_<;>(intro h;first|exact sz h|refine sy h ?_)|exact sq|fail)
    all_goals first
     |(exfalso; omega)
     |(refine k_step (2 * s.lines.length + 1 - ((2 * s.lines.length) + 1)) (by omega) ⟨(2 * s.lines.length) + 1, rfl, by omega, rfl, .cons rfl (.cons rfl (.cons rfl (.cons rfl (.cons rfl (.cons rfl (.cons rfl (.cons rfl (.cons rfl (.nil))))))))), xg, hXn (by omega)⟩)
     |((refine kf ?_)
       exact ⟨xg, by rw [hret (by omega) (by omega)]; rfl⟩)
   ·rw [if_neg hr] at hsrc
    have hcf := conF_eq hok (t := t) (set := k) hjlt (m := (2 * s.lines.length))
    rw [hsrc, if_pos (by decide)] at hcf
    (repeat' first|with_reducible intro _|refine sv ?_|refine sc ?_ ?_<;>(intro h;try exact sz h)|refine sg ?_ ?_<;>(intro h;first|exact sz h|refine sy h ?_)|exact sq|fail)
    refine k_step (2 * s.lines.length + 1 - ((2 * s.lines.length) + 1)) (by omega) ⟨(2 * s.lines.length) + 1, rfl, by omega, rfl, .cons rfl (.cons rfl (.cons rfl (.cons rfl (.cons rfl (.cons rfl (.cons rfl (.cons rfl (.cons rfl (.nil))))))))), xg, fun x hx => hX x (by rw [conL_succ, hcf] at hx; simpa using hx)⟩
def restM (x m : Int) : Int := if x.tmod m < 0 then x.tmod m + m else x.tmod m
theorem restM_bd {x m : Int} (hm : 1 <= m) : 0 <= restM x m /\ restM x m < m := by
 have h1 := Int.lt_tmod_of_pos x (b := m) (by omega)
 have h2 := Int.tmod_lt_of_pos x (b := m) (by omega)
 unfold restM
 split <;> omega
theorem c_RestN (x m : Int) (hm : 1 <= m /\ m <= 1000000000000000) (M : Mem) : CallOk Tryz.prog 28 [I x, I m] M (fun w M' => w = I (restM x m) /\ M' = M) := by
 have h1 := Int.lt_tmod_of_pos x (b := m) (by omega)
 have h2 := Int.tmod_lt_of_pos x (b := m) (by omega)
 refine call_in kq28 rfl ?_
 dsimp only [xq28, qm, qi, qB, qC, qq, zipE, Nat.reduceAdd]
 (repeat' first|with_reducible intro _|refine sv ?_|refine sc ?_ ?_<;>(intro h;try exact sz h)|refine sg ?_ ?_<;>(intro h;first|exact sz h|refine sy h ?_)|exact sq|fail)
 all_goals (refine kf ?_)
 all_goals refine ⟨?_, rfl⟩
 all_goals unfold restM
 ·rw [if_pos (by omega)]; rfl
 ·rw [if_neg (by omega)]; rfl
theorem c_Own {a : Option (Nat × Nat)} {f : Bool} {e : Nat} {l : List Int} {M : Mem} (h : SlA 1 intz M a l) (hl : l.length <= 1000000) :
  CallOk Tryz.prog 69 [.slice a l.length f e] M (fun w M' => Vec M.next 1 3 intz M' w l /\ Grow M M') := by
 refine call_in kq69 rfl ?_
 dsimp only [xq69, qm, qo, qq, qZ, qN, zipE, Nat.reduceAdd]
 (repeat' first|with_reducible intro _|refine sv ?_|refine sc ?_ ?_<;>(intro h;try exact sz h)|refine sg ?_ ?_<;>(intro h;first|exact sz h|refine sy h ?_)|exact sq|fail)
 refine x_vec_app0 (by exact gd) (b := M.next) (l := []) (l' := l) (enc := intz) (.inl ⟨rfl, rfl⟩) rfl rfl rfl (by simp; omega) rfl (fun h0 => sla_first h (fun _ _ => rfl) h0) (fun _ => rfl) (fun _ => rfl) (Nat.le_refl _) ?_
 intro v M1 hv le hk
 have hg : Grow M M1 := Keep.to_grow' (Grow.refl _) hk (fun i hi => hi.1)
 (repeat' first|with_reducible intro _|refine sv ?_|refine sc ?_ ?_<;>(intro h;try exact sz h)|refine sg ?_ ?_<;>(intro h;first|exact sz h|refine sy h ?_)|exact sq|fail)
 (refine kf ?_)
 exact ⟨hv, hg⟩
abbrev clv (own : Bool) (at_ less : Int) (aT : Option (Nat × Nat)) (n : Nat) (fT : Bool) (e : Int) : LV := .agg [.bool own, I at_, I less, .slice aT n fT 1, I e]
set_option maxHeartbeats 8000000 in
theorem c_claimT {A : CrA} {s : Cr} {own : Bool} {at_ less e : Int} {aT : Option (Nat × Nat)} {fT : Bool} {t : List Int} {M : Mem} (hM : CrM M A s) (ht : SlA 1 intz M aT t) (htl : t.length <= 1000000000000000) :
  CallOk Tryz.prog 24 [clv own at_ less aT t.length fT e, crv A s] M (fun v M' => Grow M M' /\ ∃ (a : Option (Nat × Nat)) (l : List Int) (f : Bool) (q : Nat), v = .slice a l.length f q /\ SlA 1 intz M' a l /\ l.length <= 1000000000000000 /\ (CrOk s -> q = 1)) := by
 refine call_in kq24 rfl ?_
 dsimp only [xq24, qm, qf, ql, qL, qb, qe, qc, qa, qn, qB, qC, qS, qo, qk, qK, qq, qN, zipE, Nat.reduceAdd]
 cases own with
 | false =>
  (repeat' first|with_reducible intro _|refine sv ?_|refine sc ?_ ?_<;>(intro h;try exact sz h)|refine sg ?_ ?_<;>(intro h;first|exact sz h|refine sy h ?_)|exact sq|fail)
  all_goals try (exfalso; omega)
  (refine kf ?_)
  exact ⟨xg, aT, t, fT, 1, rfl, ht.grow (xg), htl, fun _ => rfl⟩
 | true =>
  have htb := fun M' (hg : Grow M M') => c_Table4 (hM.grow hg)
  have hll := tableF_len (s := s)
  have hne : CrOk s -> 0 < (TableF s).1.length := fun hok => by
   unfold TableF
   rw [if_pos hok]
   show 0 < (tabF s).length
   rw [tab_len]
   have := Nat.two_pow_pos s.lines.length
   exact Nat.mul_pos (by have := hok.n1; omega) this
  have htv : ∀ v ∈ (TableF s).1, -1 <= v /\ v <= 1048576 := by
   unfold TableF
   split
   ·next hok => exact (TbOk.rows hok _).2
   ·exact fun v hv => (by cases hv)
  generalize TableF s = tf at *
  (repeat' first|with_reducible intro _|refine sv ?_|refine sc ?_ ?_<;>(intro h;try exact sz h)|(with_reducible first|apply x_call|apply d_call|apply x_call0);exact gd;exact rfl;exact rfl;exact htb _ (xg)|refine sg ?_ ?_<;>(intro h;first|exact sz h|refine sy h ?_)|exact sq|fail)
  rename_i n2 M1 hn2 e1 e2 n3 M2 hn3 e3 e4 w M3 hq
  obtain ⟨hg3, sl, rfl, hsl⟩ := hq
  have le3 := hg3.le
  obtain ⟨a1, f1, q1, rfl, hA⟩ := veci_sl hsl
  have hown := fun M' (hg : Grow M3 M') => c_Own (f := f1) (e := q1) (hA.grow hg) hll
  have b2 : At M3 n2 (.cells true [.bool true, I at_, I less, .slice aT t.length fT 1, I e] 57) := xm
  have hgs3 : Grow M M3 /\ True := ⟨xg, trivial⟩
  have h23 : n2 < M3.next /\ M.next <= M3.next := by omega
  clear htb hsl hn2 hn3 hg3
  (repeat' first|with_reducible intro _|refine sv ?_|refine sc ?_ ?_<;>(intro h;try exact sz h)|(with_reducible first|apply x_call|apply d_call|apply x_call0);exact gd;exact rfl;exact rfl;exact hown _ (xg)|refine sg ?_ ?_<;>(intro h;first|exact sz h|refine sy h ?_)|exact sq|fail)
  rename_i w M4 hq
  obtain ⟨hv, hg4⟩ := hq
  have le4 := hg4.le
  have b4 := b2.grow hg4
  have hgs4 : Grow M M4 /\ True := ⟨hgs3.1.trans hg4, trivial⟩
  clear hown hg4
  rcases hv with ⟨h0, rfl⟩ | ⟨i, rfl, ai, hib⟩
  ·have hno : ¬ CrOk s := fun h => by have := hne h; rw [h0] at this; simp at this
   (repeat' first|with_reducible intro _|refine sv ?_|refine sc ?_ ?_<;>(intro h;try exact sz h)|refine sg ?_ ?_<;>(intro h;first|exact sz h|refine sy h ?_)|exact sq|fail)
   all_goals try (exfalso; omega)
   (refine kf ?_)
   exact ⟨hgs4.1, none, [], true, 0, rfl, .inl rfl, by simp, fun h => absurd h hno⟩
  ·have hix := ai.2
   by_cases h0 : 0 < tf.1.length
   rotate_left
   ·(repeat' first|with_reducible intro _|refine sv ?_|refine sc ?_ ?_<;>(intro h;try exact sz h)|refine sg ?_ ?_<;>(intro h;first|exact sz h|refine sy h ?_)|exact sq|fail)
    all_goals try (exfalso; omega)
    (refine kf ?_)
    exact ⟨hgs4.1, some (i, 0), tf.1, _, 1, rfl, rd_int ai, by omega, fun _ => rfl⟩
   have hrb := restM_bd (x := at_) (m := tf.1.length) (by omega)
   have hkn : (restM at_ tf.1.length).toNat < tf.1.length := by omega
   have hr1 := fun M' => c_RestN at_ tf.1.length (by omega) M'
   have hr2 := fun M' => c_RestN less 1000 (by omega) M'
   have hl2 := restM_bd (x := less) (m := 1000) (by omega)
   have rT : Rd1 M4 i (0 + (restM at_ tf.1.length).toNat * 1) (I tf.1[(restM at_ tf.1.length).toNat]) := (rd_flat (enc := intz) ai (fun _ _ => rfl) hkn).nth (j := 0) rfl
   have hvb := htv _ (List.getElem_mem hkn)
   generalize tf.1[(restM at_ tf.1.length).toNat] = v at *
   generalize restM less 1000 = r2 at *
   generalize restM at_ tf.1.length = r1 at *
   (have hrd0 := rT;repeat' first|with_reducible intro _|refine sv ?_|refine sc ?_ ?_<;>(intro h;try exact sz h)|(with_reducible first|apply x_same|apply d_same|apply d_same0);exact gd;exact rfl;exact rfl;(first|exact hr1 _|exact hr2 _)|refine sg ?_ ?_<;>(intro h;first|exact sz h|refine sy h ?_)|exact sq|fail)
   all_goals try (exfalso; omega)
   refine d_st (by exact gd) rfl rfl ai rfl rfl (cs' := (tf.1.set r1.toNat (iMax (-1) (v - r2))).flatMap intz) (by rw [show 0 + r1.toNat * 1 = r1.toNat by omega]; exact setList_int _ _ _ hkn) ?_
   intro M5 hu5 e5 a5
   (repeat' first|with_reducible intro _|refine sv ?_|refine sc ?_ ?_<;>(intro h;try exact sz h)|refine sg ?_ ?_<;>(intro h;first|exact sz h|refine sy h ?_)|exact sq|fail)
   (refine kf ?_)
   exact ⟨Keep.to_grow' hgs4.1 ((Keep.refl (fun j => j = i) M4).upd hu5 (.inl rfl)) (fun j hj => by omega), some (i, 0), tf.1.set r1.toNat (iMax (-1) (v - r2)), false, 1, by rw [List.length_set]; rfl, rd_int a5, by rw [List.length_set]; omega, fun _ => rfl⟩
theorem c_ProvesNo {A : CrA} {s : Cr} {aT : Option (Nat × Nat)} {fT : Bool} {n q : Nat} {e : Int} {M : Mem} (hM : CrM M A s) (hno : ¬ CrOk s) :
  CallOk Tryz.prog 25 [crv A s, .slice aT n fT q, I e] M (fun v M' => Grow M M' /\ v = .tup [.bool false, I 40]) := by
 refine call_in kq25 rfl ?_
 dsimp only [xq25, qm, qf, ql, qL, qi, qb, qe, qc, qa, qn, qB, qC, qg, qS, qo, qk, qK, qq, qZ, zipE, Nat.reduceAdd]
 have hc := fun M' (hg : Grow M M') => c_planOf (hM.grow hg)
 (repeat' first|with_reducible intro _|refine sv ?_|refine sc ?_ ?_<;>(intro h;try exact sz h)|(with_reducible first|apply x_call|apply d_call|apply x_call0);exact gd;exact rfl;exact rfl;exact hc _ (xg)|refine sg ?_ ?_<;>(intro h;first|exact sz h|refine sy h ?_)|exact sq|fail)
 rename_i n3 M1 hn3 e1 e2 n4 M2 hn4 e3 e4 n5 M3 hn5 e5 e6 n6 M4 hn6 e7 e8 n7 M5 hn7 e9 e10 w M6 hq
 obtain ⟨hg6, ⟨hno, pk, rfl⟩ | ⟨hok, pc, pm, pk, rfl, hpl, h1, h2, h3⟩⟩ := hq
 ·have hle6 := hg6.le
  (repeat' first|with_reducible intro _|refine sv ?_|refine sc ?_ ?_<;>(intro h;try exact sz h)|refine sg ?_ ?_<;>(intro h;first|exact sz h|refine sy h ?_)|exact sq|fail)
  (refine kf ?_)
  exact ⟨xg, rfl⟩
 ·exact absurd hok hno
set_option maxHeartbeats 8000000 in
theorem c_CourseProves {A : CrA} {s : Cr} {own : Bool} {at_ less e : Int} {aT : Option (Nat × Nat)} {fT : Bool} {t : List Int} {M : Mem} (hM : CrM M A s) (ht : SlA 1 intz M aT t) (htl : t.length <= 1000000000000000) :
  CallOk Tryz.prog 7 [crv A s, clv own at_ less aT t.length fT e] M (fun v M' => v = .bool true) := by
 have hct := fun M' (hg : Grow M M') => c_claimT (own := own) (at_ := at_) (less := less) (e := e) (fT := fT) (hM.grow hg) (ht.grow hg) htl
 refine call_in kq7 rfl ?_
 dsimp only [xq7, qm, qf, ql, qL, qb, qe, qc, qg, qo, qq, zipE, Nat.reduceAdd]
 (repeat' first|with_reducible intro _|refine sv ?_|refine sc ?_ ?_<;>(intro h;try exact sz h)|(with_reducible first|apply x_call|apply d_call|apply x_call0);exact gd;exact rfl;exact rfl;exact hct _ (xg)|refine sg ?_ ?_<;>(intro h;first|exact sz h|refine sy h ?_)|exact sq|fail)
 rename_i n2 M1 hn2 e1 e2 n3 M2 hn3 e3 e4 w M3 hq
 obtain ⟨hg3, a, l, f, q, rfl, hA, hll, hq1⟩ := hq
 have le3 := hg3.le
 have b3 : At M3 n3 (.cells true [.bool own, I at_, I less, .slice aT t.length fT 1, I e] 57) := xm
 have b2 : At M3 n2 (.cells true (crc A s) 35) := xm
 have hp1 : ∀ M', Grow M M' -> Grow M3 M' -> CallOk Tryz.prog 25 [crv A s, .slice a l.length f q, I e] M' (fun v M'' => v = .tup [.bool (ProvesF s l e).1, I (ProvesF s l e).2] /\ Grow M' M'') := fun M' hg hg3 => by
  by_cases hok : CrOk s
  ·obtain rfl := hq1 hok
   exact (c_Proves (hM.grow hg) (hA.grow hg3) hll).mono fun v M4 ⟨h1, h2⟩ => ⟨h2, h1⟩
  ·have e0 : ProvesF s l e = (false, 40) := if_neg hok
   rw [e0]
   exact (c_ProvesNo (hM.grow hg) hok).mono fun v M4 ⟨h1, h2⟩ => ⟨h2, h1⟩
 have hp2 : ∀ M', Grow M M' -> Grow M3 M' -> CallOk Tryz.prog 26 [crv A s, .slice a l.length f q, I e] M' (fun v M'' => v = .tup [.bool (ProvesF s l e).1, I (ProvesF s l e).2] /\ Grow M' M'') := fun M' hg hg3 => (c_Proves4 (hM.grow hg) (hA.grow hg3) hll).mono fun v M4 ⟨h1, h2⟩ => ⟨h2, h1⟩
 generalize ProvesF s l e = pf at *
 have hgs3 : Grow M M3 := xg
 clear hct hn2 hn3 hg3
 have hgn : ∀ M', Grow M3 M' -> Grow M M' := fun M' h => hgs3.trans h
 clear hgs3
 (repeat' first|with_reducible intro _|refine sv ?_|refine sc ?_ ?_<;>(intro h;try exact sz h)|(with_reducible first|apply x_same|apply d_same|apply d_same0);exact gd;exact rfl;exact rfl;exact c_works _|(with_reducible first|apply x_pure|apply d_pure|apply d_pure0);exact gd;exact rfl;exact rfl;(first|exact hp1 _ (hgn _ (xg)) (xg)|exact hp2 _ (hgn _ (xg)) (xg))|refine sg ?_ ?_<;>(intro h;first|exact sz h|refine sy h ?_)|exact sq|fail)
 all_goals first
  |(exfalso; omega)
  |((refine kf ?_); rfl)
end Go.Proofs.YtpccafeedfpbaaaGreat.C
end
section
open Go PvL Go.Proofs
set_option linter.unusedVariables false
namespace Go.Proofs.YtpccafeedfpbaaaGreat.C
abbrev clSh : Sh := .pair .bool (.pair (.int .i64) (.pair (.int .i64) (.pair (.sl (.int .i64)) (.int .i64))))
theorem enc_claim {m : Mem} {x : clSh.T} {c : List LV} (h : Enc m clSh x c) : ∃ a f, c = [.bool x.1, I x.2.1, I x.2.2.1, .slice a x.2.2.2.1.length f 1, I x.2.2.2.2] /\ SlA 1 intz m a x.2.2.2.1 /\ x.2.2.2.1.length <= reachBytes := by
 obtain ⟨c1, d1, rfl, h1, c2, d2, rfl, h2, c3, d3, rfl, h3, c4, d4, rfl, h4, h5⟩ := h
 obtain ⟨a, f, e, hs, hl⟩ := enc_slA (enc := intz) (fun _ _ => enc_int) h4
 obtain rfl := e
 have e1 : c1 = [.bool x.1] := h1
 rw [e1, enc_int h2, enc_int h3, enc_int h5]
 exact ⟨a, f, rfl, hs, hl⟩
end Go.Proofs.YtpccafeedfpbaaaGreat.C
end
