/-
 Part of the proof of CourseProves: what functions of the program and of the statement come to, walked by the rules. No condition beyond those in each theorem.
-/
import Derived.Test.YtpccafeedfpbaaaGreatTK
section
open Go PvL Go.Proofs
set_option linter.unusedSimpArgs false
set_option linter.unusedVariables false
namespace Go.Proofs.YtpccafeedfpbaaaGreat.C
theorem us_sSh : ∃ e, Tryz.prog.underlying 42 = some (.slice e) := ⟨50, by kernel_rfl⟩
instance : IsSl Tryz.prog 42 := ⟨us_sSh⟩
abbrev shcc (c : Nat) : List LV := [I (c / 2 : Nat), I (c % 2 : Nat)]
noncomputable def nextO (s : Cr) (e : Int) : Nat -> List Nat -> Rch -> Nat -> Option (List Nat)
 | 0, l, x, left => if left = 0 then (if x.2 = e then some l else none) else none
 | f + 1, l, x, left => if left = 0 then (if x.2 = e then some l else none) else
  (shootsL s left).findSome? fun c => match goF s x c with
   | none => none
   | some b => if e < b.2 then none else nextO s e f (l ++ [c]) (rchF s c b.2) (restN left (c / 2))
abbrev bestV (nf ne np nx : Nat) : LV := .func (.func 65) [] [.ptr (some (nf, 0)), .ptr (some (ne, 0)), .ptr (some (np, 0)), .ptr (some (nx, 0))]
def BsPost (s : Cr) (pm pk nf b0 : Nat) (o : Option (List Nat)) (M : Mem) (w : LV) (M' : Mem) : Prop :=
 Keep (fun i => i = pm ∨ i = pk ∨ i = nf) M M' /\ KnM M' s pm /\ KcM M' s pk /\ ∃ u, At M' nf (.cells true [u] 42) /\ ((w = .bool true /\ ∃ r, o = some r /\ Vec b0 2 50 shcc M' u r) ∨ (w = .bool false /\ o = none))
structure BsPre (MB : Mem) (s : Cr) (pc pm pk nf ne np nx : Nat) (e : Int) (b0 : Nat) (l : List Nat) (x : Rch) (left : Nat) (v : LV) (M : Mem) : Prop where
 kp : Keep (fun i => i = pm ∨ i = pk) MB M
 kn : KnM M s pm
 kc : KcM M s pk
 fo : ∃ u, At M nf (.cells true [u] 42)
 en : At M ne (.cells true [I e] 3)
 pl : At M np (.cells true [.ptr (some (pc, 0)), .map (some pk)] 109)
 nx : At M nx (.cells true [bestV nf ne np nx] 133)
 vec : Vec b0 2 50 shcc M v l
 nil : l = [] -> ∀ i, v ≠ .slice (some (i, 0)) 0 false 2
 len : l.length + left <= 100
 pos : PoseOk x.1
 tim : 0 <= x.2 /\ x.2 <= 5000000
noncomputable def stepG (s : Cr) (e : Int) (G : List Nat -> Rch -> Nat -> Option (List Nat)) (l : List Nat) (x : Rch) (left c : Nat) : Option (List Nat) :=
 match goF s x c with | none => none | some b => if e < b.2 then none else G (l ++ [c]) (rchF s c b.2) (restN left (c / 2))
noncomputable def allN (s : Cr) : Nat := 2 ^ s.lines.length - 1
noncomputable def endS (s : Cr) (e : Int) (c : Nat) : Int := if 0 <= TT s (allN s) c /\ (e < 0 ∨ TT s (allN s) c < e) then TT s (allN s) c else e
noncomputable def endB (s : Cr) : Int := (shootsL s (allN s)).foldl (endS s) (-1)
set_option maxHeartbeats 4000000 in
theorem c_IndexFunc {aI : Option (Nat × Nat)} {fI : Bool} {eI : Nat} {l : List Int} {gf : FuncId} {fi ca : List LV} {p : Int -> Bool} {M : Mem} (hl : SlA 1 intz M aI l) (hlen : l.length <= 1000000000000000)
  (hf : ∀ (v : Int) (M' : Mem), v ∈ l -> Grow M M' -> CallOk Tryz.prog gf (fi ++ [I v] ++ ca) M' (fun w M'' => w = .bool (p v) /\ Grow M' M'')) :
  CallOk Tryz.prog 115 [.slice aI l.length fI eI, .func (.func gf) fi ca] M (fun w M' => Grow M M' /\ ((l.any p = false /\ w = I (-1)) ∨ (l.any p = true /\ ∃ k : Nat, k < l.length /\ w = I k))) := by
 refine call_in kq115 rfl ?_
 dsimp only [xq115, qm, ql, qi, qa, qn, qB, qC, qo, qq, zipE, Nat.reduceAdd]
 (repeat' first|with_reducible intro _|refine sv ?_|refine sc ?_ ?_<;>(intro h;try exact sz h)|refine sg ?_ ?_<;>(intro h;first|exact sz h|refine sy h ?_)|exact sq|fail)
 refine w_loop_ind (fun n E ms M' => ∃ k : Nat, n = l.length - k /\ k <= l.length /\ ms = [] /\ Has E [(0, .slice aI l.length fI eI), (1, .func (.func gf) fi ca), (7, I l.length), (8, I k)] /\ Grow M M' /\ (l.take k).any p = false) ?_ l.length _ _ _
  ⟨0, by omega, by omega, rfl, .cons rfl (.cons rfl (.cons rfl (.cons rfl .nil))), xg, rfl⟩
 rintro n E ms M1 ⟨k, rfl, hk, rfl, hE, hg, hall⟩
 have hle := hg.le
 refine w_has hE ?_
 by_cases hlast : k = l.length
 ·subst hlast
  rw [List.take_length] at hall
  (repeat' first|with_reducible intro _|refine sv ?_|refine sc ?_ ?_<;>(intro h;try exact sz h)|refine sg ?_ ?_<;>(intro h;first|exact sz h|refine sy h ?_)|exact sq|fail)
  (refine kf ?_)
  exact ⟨hg, .inl ⟨hall, rfl⟩⟩
 have hlt : k < l.length := by omega
 obtain ⟨i, o, rfl, hr⟩ := hl.resolve_left (fun h => by rw [h] at hlt; simp at hlt)
 have r1 : Rd1 M1 i (o + k * 1) (I l[k]) := ((hr k hlt).nth (j := 0) rfl).grow hg
 have hi := r1.2
 have hc := hf l[k] M1 (List.getElem_mem hlt) hg
 have htk : l.take (k + 1) = l.take k ++ [l[k]] := List.take_succ_eq_append_getElem hlt
 have hany : l[k] ∈ l := List.getElem_mem hlt
 generalize l[k] = v at *
 (have hrd0 := r1;repeat' first|with_reducible intro _|refine sv ?_|refine sc ?_ ?_<;>(intro h;try exact sz h)|refine sg ?_ ?_<;>(intro h;first|exact sz h|refine sy h ?_)|exact sq|fail)
 refine x_call (by exact gd) rfl rfl (show AppOk Tryz.prog (.func (.func gf) fi ca) _ M1 _ from hc) ?_
 rintro w M2 ⟨rfl, hg2⟩
 have hle2 := hg2.le
 cases hp : p v with
 | true =>
  have : l.any p = true := List.any_eq_true.2 ⟨v, hany, hp⟩
  (repeat' first|with_reducible intro _|refine sv ?_|refine sc ?_ ?_<;>(intro h;try exact sz h)|refine sg ?_ ?_<;>(intro h;first|exact sz h|refine sy h ?_)|exact sq|fail)
  (refine kf ?_)
  exact ⟨hg.trans hg2, .inr ⟨this, k, hlt, rfl⟩⟩
 | false =>
  (repeat' first|with_reducible intro _|refine sv ?_|refine sc ?_ ?_<;>(intro h;try exact sz h)|refine sg ?_ ?_<;>(intro h;first|exact sz h|refine sy h ?_)|exact sq|fail)
  refine k_step (l.length - (k + 1)) (by omega) ⟨k + 1, rfl, by omega, rfl, .cons rfl (.cons rfl (.cons rfl (.cons rfl .nil))), hg.trans hg2, by rw [htk, List.any_append, hall]; simp [hp]⟩
theorem c_ContainsFunc {aI : Option (Nat × Nat)} {fI : Bool} {eI : Nat} {l : List Int} {gf : FuncId} {fi ca : List LV} {p : Int -> Bool} {M : Mem} (hl : SlA 1 intz M aI l) (hlen : l.length <= 1000000000000000)
  (hf : ∀ (v : Int) (M' : Mem), v ∈ l -> Grow M M' -> CallOk Tryz.prog gf (fi ++ [I v] ++ ca) M' (fun w M'' => w = .bool (p v) /\ Grow M' M'')) :
  CallOk Tryz.prog 70 [.slice aI l.length fI eI, .func (.func gf) fi ca] M (fun w M' => Grow M M' /\ w = .bool (l.any p)) := by
 have hc := c_IndexFunc (fI := fI) (eI := eI) hl hlen hf
 refine call_in kq70 rfl ?_
 dsimp only [xq70, qm, qc, qC, qo, qq, zipE, Nat.reduceAdd]
 (repeat' first|with_reducible intro _|refine sv ?_|refine sc ?_ ?_<;>(intro h;try exact sz h)|refine sg ?_ ?_<;>(intro h;first|exact sz h|refine sy h ?_)|exact sq|fail)
 refine x_call (by exact gd) rfl rfl (show AppOk Tryz.prog _ _ M _ from hc) ?_
 rintro w M1 ⟨hg, ⟨ha, rfl⟩ | ⟨ha, k, hk, rfl⟩⟩
 ·have hle := hg.le
  (repeat' first|with_reducible intro _|refine sv ?_|refine sc ?_ ?_<;>(intro h;try exact sz h)|refine sg ?_ ?_<;>(intro h;first|exact sz h|refine sy h ?_)|exact sq|fail)
  (refine kf ?_)
  exact ⟨hg, by rw [ha]; first | done | rfl⟩
 ·have hle := hg.le
  (repeat' first|with_reducible intro _|refine sv ?_|refine sc ?_ ?_<;>(intro h;try exact sz h)|refine sg ?_ ?_<;>(intro h;first|exact sz h|refine sy h ?_)|exact sq|fail)
  (refine kf ?_)
  exact ⟨hg, by rw [ha]; show LV.bool _ = _; congr 1⟩
theorem c_outside (v : Int) (M : Mem) : CallOk Tryz.prog 71 [I v] M (fun w M' => w = .bool (!decide (-1 <= v /\ v <= 4194304)) /\ Grow M M') := by
 refine call_in kq71 rfl ?_
 dsimp only [xq71, qm, qc, qo, qq, zipE, Nat.reduceAdd]
 (repeat' first|with_reducible intro _|refine sv ?_|refine sc ?_ ?_<;>(intro h;try exact sz h)|(with_reducible first|apply x_same|apply d_same|apply d_same0);exact gd;exact rfl;exact rfl;exact c_within _ _ _ _|refine sg ?_ ?_<;>(intro h;first|exact sz h|refine sy h ?_)|exact sq|fail)
 (refine kf ?_)
 exact ⟨rfl, xg⟩
theorem c_early {v e : Int} {ne : Nat} {M : Mem} (he : At M ne (.cells true [I e] 3)) : CallOk Tryz.prog 76 [I v, .ptr (some (ne, 0))] M (fun w M' => w = .bool (decide (v ≠ -1) && decide (v < e)) /\ Grow M M') := by
 have hle := he.2
 refine call_in kq76 rfl ?_
 dsimp only [xq76, qm, qC, qg, qo, qq, zipE, Nat.reduceAdd]
 (repeat' first|with_reducible intro _|refine sv ?_|refine sc ?_ ?_<;>(intro h;try exact sz h)|refine sg ?_ ?_<;>(intro h;first|exact sz h|refine sy h ?_)|exact sq|fail)
 all_goals (refine kf ?_)
 all_goals refine ⟨?_, xg⟩
 all_goals first
  | rfl
  |(show LV.bool _ = LV.bool _; congr 1; simp; omega)
noncomputable def badS (s : Cr) (t : List Int) (set c : Nat) : Bool := match minL (earL s t set c) with | some w => decide (t.getD (plN s set c) 0 = -1 ∨ w < t.getD (plN s set c) 0) | none => false
noncomputable def badR (s : Cr) (t : List Int) (set : Nat) : Bool := (shootsL s set).any (badS s t set)
noncomputable def badA (s : Cr) (t : List Int) : Bool := (List.range (2 ^ s.lines.length)).any (badR s t)
def TblOk (s : Cr) (t : List Int) : Prop := t.length = 2 * s.lines.length * 2 ^ s.lines.length /\ ∀ v ∈ t, -1 <= v /\ v <= 4194304
open Classical in
noncomputable def ProvesF (s : Cr) (t : List Int) (e : Int) : Bool × Int :=
 if CrOk s then (if TblOk s t then (!(badA s t) && !((t.drop (plN s (allN s) 0)).any fun v => decide (v ≠ -1) && decide (v < e)), 0) else (false, 43)) else (false, 40)
theorem any_out (t : List Int) : (t.any fun v => !decide (-1 <= v /\ v <= 4194304)) = false ↔ ∀ v ∈ t, -1 <= v /\ v <= 4194304 := by
 rw [List.any_eq_false]
 refine forall_congr' fun v => forall_congr' fun _ => ?_
 simp
theorem xs_slcN {i o len n k : Nat} {f : Bool} (h0 : k < len) {E : Env} {M : Mem} {x lo : XO} (hx : xval E x = some (.slice (some (i, o)) len f n)) (hlo : xval E lo = some (I (k : Int))) : xstep Tryz.prog (.slc n x (some lo) none none) E M = some (.val (.slice (some (i, o + k * n)) (len - k) f n) M) := by
 have hs : sliceSl n (some (i, o)) len f n (some (.int .i64 (k : Int))) none none = guard' (Nat.ble k len) (guard' (Nat.beq n n) (ifb (false || (f || (Nat.ble (k + 1) len || Nat.beq k 0)))
    (some (LV.slice (some (i, ifb (Nat.beq len k && (f || false)) o (o + k * n))) (len - k) (ifb false (Nat.beq len len) (f && Nat.beq len len)) n)) (some (LV.slice (some (i, o)) 0 false 0)))) := by
  have e1 : sliceSl n (some (i, o)) len f n (some (.int .i64 (k : Int))) none none = guard' (Nat.ble k len) (guard' (Nat.beq n n) (ifb (false || (f || (Nat.ble (k + 1) len || Nat.beq k 0))) (fN (ifb (Nat.beq len k && (f || false)) o (o + k * n)) fun off' => fN (len - k) fun len' => some (LV.slice (some (i, off')) len' (ifb false (Nat.beq len len) (f && Nat.beq len len)) n)) (some (LV.slice (some (i, o)) 0 false 0)))) := by
   rfl
  rw [e1, fN_eq, fN_eq]
 have hnn : Nat.beq n n = true := by simp
 have h1 : Nat.beq len k = false := by cases hb : Nat.beq len k with | false => rfl | true => have := Nat.eq_of_beq_eq_true hb; omega
 have h2 : Nat.beq len len = true := by simp
 rw [Nat.ble_eq_true_of_le (show k <= len by omega), guard'_true, hnn, guard'_true, Nat.ble_eq_true_of_le (show k + 1 <= len by omega), h1, h2] at hs
 have hs : sliceSl n (some (i, o)) len f n (some (.int .i64 (k : Int))) none none = some (.slice (some (i, o + k * n)) (len - k) f n) := by
  rw [hs]; cases f <;> rfl
 show ob (xval E x) _ = _
 rw [hx, ob_some]
 show ob (ob (xval E lo) _) _ = _
 rw [hlo, ob_some]
 show ob (sliceSl n (some (i, o)) len f n (some (.int .i64 (k : Int))) none none) (rv M) = _
 rw [hs]; rfl
theorem sla_drop {M : Mem} {i o : Nat} {t : List Int} {k : Nat} (h : SlA 1 intz M (some (i, o)) t) (hk : k < t.length) : SlA 1 intz M (some (i, o + k * 1)) (t.drop k) := by
 obtain ⟨i', o', e, hr⟩ := h.resolve_left (fun h => by rw [h] at hk; simp at hk)
 cases e
 refine .inr ⟨i, o + k * 1, rfl, fun j hj => ?_⟩
 rw [List.length_drop] at hj
 have := hr (k + j) (by omega)
 rw [List.getElem_drop, show o + k * 1 + j * 1 = o + (k + j) * 1 by omega]
 exact this
theorem c_outA (M : Mem) : ∀ (v : Int) (M' : Mem), Grow M M' -> CallOk Tryz.prog 71 ([] ++ [I v] ++ []) M' (fun w M'' => w = .bool ((fun v => !decide (-1 <= v /\ v <= 4194304)) v) /\ Grow M' M'') := fun v M' _ => c_outside v M'
set_option maxHeartbeats 16000000 in
theorem c_Proves {A : CrA} {s : Cr} {aT : Option (Nat × Nat)} {fT : Bool} {t : List Int} {e : Int} {M : Mem} (hM : CrM M A s) (ht : SlA 1 intz M aT t) (htl : t.length <= 1000000000000000) :
  CallOk Tryz.prog 25 [crv A s, .slice aT t.length fT 1, I e] M (fun v M' => Grow M M' /\ v = .tup [.bool (ProvesF s t e).1, I (ProvesF s t e).2]) := by
 refine call_in kq25 rfl ?_
 dsimp only [xq25, qm, qf, ql, qL, qi, qb, qe, qc, qa, qn, qB, qC, qg, qS, qo, qk, qK, qq, qZ, zipE, Nat.reduceAdd]
 have hc := fun M' (hg : Grow M M') => c_planOf (hM.grow hg)
 unfold ProvesF
 (repeat' first|with_reducible intro _|refine sv ?_|refine sc ?_ ?_<;>(intro h;try exact sz h)|(with_reducible first|apply x_call|apply d_call|apply x_call0);exact gd;exact rfl;exact rfl;exact hc _ (xg)|refine sg ?_ ?_<;>(intro h;first|exact sz h|refine sy h ?_)|exact sq|fail)
 rename_i n3 M1 hn3 e1 e2 n4 M2 hn4 e3 e4 n5 M3 hn5 e5 e6 n6 M4 hn6 e7 e8 n7 M5 hn7 e9 e10 w M6 hq
 obtain ⟨hg6, ⟨hno, pk, rfl⟩ | ⟨hok, pc, pm, pk, rfl, hpl, h1, h2, h3⟩⟩ := hq
 ·have hle6 := hg6.le
  rw [if_neg hno]
  (repeat' first|with_reducible intro _|refine sv ?_|refine sc ?_ ?_<;>(intro h;try exact sz h)|refine sg ?_ ?_<;>(intro h;first|exact sz h|refine sy h ?_)|exact sq|fail)
  (refine kf ?_)
  exact ⟨xg, rfl⟩
 have hle6 := hg6.le
 rw [if_pos hok]
 have hn5' := hok.n5
 have hn1' := hok.n1
 have hsh := shl_tab s.lines.length
 have hp2 : 2 ^ s.lines.length <= 32 := Nat.pow_le_pow_right (n := 2) (by omega) hn5'
 have hN : 2 * s.lines.length * 2 ^ s.lines.length <= 10 * 32 := Nat.mul_le_mul (by omega) hp2
 have hg06 : Grow M M6 := xg
 have ht6 := ht.grow hg06
 have hcf := fun M' (hg : Grow M6 M') => c_ContainsFunc (gf := 71) (fi := []) (ca := []) (fI := fT) (eI := 1) (p := fun v => !decide (-1 <= v /\ v <= 4194304)) (ht6.grow hg) htl (fun v M'' _ _ => c_outA _ v M'' (Grow.refl _))
 have hcell := hpl.ch.cells
 have hpc := hcell.2
 clear hc hg06
 by_cases hl : t.length = 2 * s.lines.length * 2 ^ s.lines.length
 rotate_left
 ·have hl' : ¬ (t.length : Int) = shlZ (2 * (s.lines.length : Int)) (s.lines.length : Int) := by rw [hsh]; omega
  rw [if_neg (fun h => hl h.1)]
  (repeat' first|with_reducible intro _|refine sv ?_|refine sc ?_ ?_<;>(intro h;try exact sz h)|refine sg ?_ ?_<;>(intro h;first|exact sz h|refine sy h ?_)|exact sq|fail)
  all_goals first
   |(exfalso; omega)
   |((refine kf ?_)
     exact ⟨xg, rfl⟩)
 have hl' : (t.length : Int) = shlZ (2 * (s.lines.length : Int)) (s.lines.length : Int) := by rw [hsh]; omega
 cases hout : t.any fun v => !decide (-1 <= v /\ v <= 4194304) with
 | true =>
  rw [hout] at hcf
  have hno : ¬ TblOk s t := fun h => by rw [(any_out t).2 h.2] at hout; cases hout
  rw [if_neg hno]
  (repeat' first|with_reducible intro _|refine sv ?_|refine sc ?_ ?_<;>(intro h;try exact sz h)|(with_reducible first|apply x_call|apply d_call|apply x_call0);exact gd;exact rfl;exact rfl;exact hcf _ (xg)|refine sg ?_ ?_<;>(intro h;first|exact sz h|refine sy h ?_)|exact sq|fail)
  all_goals try (exfalso; omega)
  rename_i w MX hq
  obtain ⟨hgX, rfl⟩ := hq
  have hleX := hgX.le
  (repeat' first|with_reducible intro _|refine sv ?_|refine sc ?_ ?_<;>(intro h;try exact sz h)|refine sg ?_ ?_<;>(intro h;first|exact sz h|refine sy h ?_)|exact sq|fail)
  (refine kf ?_)
  exact ⟨xg, rfl⟩
 | false =>
  rw [hout] at hcf
  have hok2 : TblOk s t := ⟨hl, (any_out t).1 hout⟩
  rw [if_pos hok2]
  have hsb := shl_one_bd (k := s.lines.length) (by omega)
  have hso := shl_one s.lines.length
  (repeat' first|with_reducible intro _|refine sv ?_|refine sc ?_ ?_<;>(intro h;try exact sz h)|(with_reducible first|apply x_call|apply d_call|apply x_call0);exact gd;exact rfl;exact rfl;exact hcf _ (xg)|refine sg ?_ ?_<;>(intro h;first|exact sz h|refine sy h ?_)|exact sq|fail)
  all_goals try (exfalso; omega)
  rename_i n8 M7 hn8 e11 e12 M8 hu8 e13 a8 hx w M9 hq
  obtain ⟨hg9, rfl⟩ := hq
  have hle9 := hg9.le
  have hall : shlZ 1 (s.lines.length : Int) - 1 = ((allN s : Nat) : Int) := by rw [shl_one]; unfold allN; have := Nat.two_pow_pos s.lines.length; omega
  have htb : ∀ v ∈ t, -1 <= v /\ v <= 5000000 := fun v hv => by have := hok2.2 v hv; omega
  have b4 : At M9 n4 (.cells true [.slice aT t.length fT 1] 52) := xm
  have b5 : At M9 n5 (.cells true [I e] 3) := xm
  have b6 : At M9 n6 (.cells true [.bool false] 4) := xm
  have b7 : At M9 n7 (.cells true [I 0] 36) := xm
  have b8 : At M9 n8 (.cells true [.ptr (some (pc, 0)), .map (some pk)] 109) := xm
  have hg69 : Grow M6 M9 := xg
  have hpl9 := hpl.grow hg69
  have hg09 : Grow M M9 := xg
  have hle09 := hg09.le
  have ht9 := ht6.grow hg69
  have hpm9 := hpl9.ch.known.lt
  have hpk9 := hpl9.kc.lt
  have hpc9 := hpl9.ch.cells.2
  have g4 := b4.2
  have g5 := b5.2
  have g6 := b6.2
  have g7 := b7.2
  have g8 := b8.2
  have hpm6 := hpl.ch.known.lt
  have hpk6 := hpl.kc.lt
  have hnpm : n4 ≠ pm /\ n5 ≠ pm /\ n6 ≠ pm /\ n7 ≠ pm /\ n8 ≠ pm /\ n4 ≠ pk /\ n5 ≠ pk /\ n6 ≠ pk /\ n7 ≠ pk /\ n8 ≠ pk := by omega
  have hM0 : M.next <= pm /\ M.next <= pk /\ M.next <= n6 /\ M.next <= n7 /\ M.next <= pc := by omega
  have hnn : n6 ≠ n7 /\ n6 ≠ n4 /\ n6 ≠ n5 /\ n6 ≠ n8 /\ n7 ≠ n4 /\ n7 ≠ n5 /\ n7 ≠ n8 /\ n6 ≠ pc /\ n7 ≠ pc := by omega
  clear hg69 hcf hg9 hg6 hn3 hn4 hn5 hn6 hn7 hn8 hu8 hpl ht6 hcell hl' hx
  (repeat' first|with_reducible intro _|refine sv ?_|refine sc ?_ ?_<;>(intro h;try exact sz h)|refine sg ?_ ?_<;>(intro h;first|exact sz h|refine sy h ?_)|exact sq|fail)
  refine w_loop_ind (fun n E ms M' => ∃ k : Nat, n = 2 ^ s.lines.length - k /\ k <= 2 ^ s.lines.length /\ ms.Nodup /\ (∀ d ∈ ms, At M' d .defr /\ M9.next <= d) /\ Has E [(4, .ptr (some (n4, 0))), (5, .ptr (some (n5, 0))), (6, .ptr (some (n6, 0))), (7, .ptr (some (n7, 0))), (8, .ptr (some (n8, 0))), (10, I s.lines.length), (11, I (shlZ 1 (s.lines.length : Int) - 1)), (48, I (shlZ 1 (s.lines.length : Int))), (49, I k)] /\
    Keep (fun i => i = pm ∨ i = pk) M9 M' /\ KnM M' s pm /\ KcM M' s pk /\ (List.range k).any (badR s t) = false) ?_ (2 ^ s.lines.length) _ _ _
   ⟨0, (Nat.sub_zero _).symm, Nat.zero_le _, List.nodup_nil, fun d hd => (by cases hd), .cons rfl (.cons rfl (.cons rfl (.cons rfl (.cons rfl (.cons rfl (.cons rfl (.cons rfl (.cons rfl .nil)))))))), Keep.refl _ _, hpl9.ch.known, hpl9.kc, rfl⟩
  rintro n E ms MA ⟨k, rfl, hkl, hnd, hms, hE, hkA, hknA, hkcA, hbad⟩
  refine w_has hE ?_
  have hleA := hkA.le
  have c4 := b4.keep hkA (by omega)
  have c5 := b5.keep hkA (by omega)
  have c6 := b6.keep hkA (by omega)
  have c7 := b7.keep hkA (by omega)
  have c8 := b8.keep hkA (by omega)
  by_cases hlast : k = 2 ^ s.lines.length
  ·subst hlast
   have hba : badA s t = false := hbad
   rw [hba]
   have hidx : plN s (allN s) 0 < t.length := by rw [hl]; exact pl_lt (by unfold allN; have := Nat.two_pow_pos s.lines.length; omega) (by omega)
   obtain ⟨iT, oT, rfl, hrT⟩ := ht.resolve_left (fun h => by rw [h] at hidx; simp at hidx)
   have hiT := (hrT _ hidx).2
   have hgMA : Grow M MA := Keep.to_grow' hg09 hkA (fun i hi => by omega)
   have hplA := hpl9.keepm hkA hknA hkcA
   have hcellA := hplA.ch.cells
   have z1 := hcellA.2
   have hplc := fun M' (hg : Grow MA M') => c_placeD (pk := pk) (set := allN s) (c := 0) (ChC.mk (A := A) (hM.grow (hgMA.trans hg)) (hcellA.grow hg)) hn5' (by unfold allN; omega) (by omega)
   rw [<- hall] at hplc
   have l4 := c4.2
   have l5 := c5.2
   have l6 := c6.2
   have l7 := c7.2
   have l8 := c8.2
   have htA : SlA 1 intz MA (some (iT, oT)) t := ht.grow hgMA
   generalize hk0 : plN s (allN s) 0 = k0 at *
   have hcl := fun M' (hg : Grow MA M') => c_ContainsFunc (gf := 76) (fi := []) (ca := [.ptr (some (n5, 0))]) (fI := fT) (eI := 1) (p := fun v => decide (v ≠ -1) && decide (v < e)) (sla_drop (htA.grow hg) hidx) (by rw [List.length_drop]; omega) (fun v M'' _ hg' => c_early (c5.grow (hg.trans hg')))
   rw [List.length_drop] at hcl
   clear hgMA
   (repeat' first|with_reducible intro _|refine sv ?_|refine sc ?_ ?_<;>(intro h;try exact sz h)|(with_reducible first|apply x_pure|apply d_pure|apply d_pure0);exact gd;exact rfl;exact rfl;exact hplc _ (xg)|refine sg ?_ ?_<;>(intro h;first|exact sz h|refine sy h ?_)|exact sq|fail)
   refine d_val (by exact gd) (xs_slcN hidx rfl rfl) ?_
   (repeat' first|with_reducible intro _|refine sv ?_|refine sc ?_ ?_<;>(intro h;try exact sz h)|(with_reducible first|apply x_call|apply d_call|apply x_call0);exact gd;exact rfl;exact rfl;exact hcl _ (xg)|refine sg ?_ ?_<;>(intro h;first|exact sz h|refine sy h ?_)|exact sq|fail)
   rename_i MB hgB hleB w MC hq
   obtain ⟨hgC, rfl⟩ := hq
   have hleC := hgC.le
   (repeat' first|with_reducible intro _|refine sv ?_|refine sc ?_ ?_<;>(intro h;try exact sz h)|refine sg ?_ ?_<;>(intro h;first|exact sz h|refine sy h ?_)|exact sq|fail)
   rename_i MX huX eX aX MY huY eY aY
   have hgY : Keep (fun i => i = n6 ∨ i = n7) MA MY := ((((Keep.refl _ MA).grow hgB).grow hgC).upd huX (.inl (.inl rfl))).upd huY (.inl (.inr rfl))
   refine k_fun_end (.inr rfl) hnd (fun d hd => ((hms d hd).1.keep hgY (by have := (hms d hd).2; omega))) fun M11 hm => ?_
   have hkm : Keep (fun i => M9.next <= i) MY M11 := (Keep.refl _ MY).unmark hm (fun d' hd' => .inl (hms d' hd').2)
   have f6 := (aX.upd_ne huY (by omega)).keep hkm (by omega)
   have f7 := aY.keep hkm (by omega)
   refine ⟨_, .cell1 rfl (Rd1.of_at f6 rfl).1 (.cell1 rfl (Rd1.of_at f7 rfl).1 .nil), ?_, by simp only [Bool.not_false, Bool.true_and]; rfl⟩
   exact Keep.to_grow' (Keep.to_grow' (Keep.to_grow' hg09 hkA (fun i hi => by omega)) hgY (fun i hi => by omega)) hkm (fun i hi => by omega)
  have hlt : k < 2 ^ s.lines.length := by omega
  have l8 := c8.2
  (repeat' first|with_reducible intro _|refine sv ?_|refine sc ?_ ?_<;>(intro h;try exact sz h)|refine sg ?_ ?_<;>(intro h;first|exact sz h|refine sy h ?_)|exact sq|fail)
  rename_i n12 MB hnB e14 e15 MC huC e16 a12
  have hgC : Grow MA MC := xg
  refine x_call (by exact gd) rfl rfl (show AppOk Tryz.prog _ _ MC _ from c_shoots (pc := pc) (pk := pk) (set := (k : Int)) MC) ?_
  rintro w MD ⟨np2, ns2, rfl, hgD, hpD, hsD, aD, bD⟩
  have hleD := hgD.le
  have q1 := aD.2
  have q2 := bD.2
  (repeat' first|with_reducible intro _|refine sv ?_|refine sc ?_ ?_<;>(intro h;try exact sz h)|refine sg ?_ ?_<;>(intro h;first|exact sz h|refine sy h ?_)|exact sq|fail)
  apply w_rfun
  exact rfl
  intro lb d l ME MF hlb hd e17 e18 hl9 e19 e20
  have hgF : Grow MA MF := ((hgC.trans hgD).new hd).new hl9
  have hleF := hgF.le
  have hgDF : Grow MD MF := hd.grow.trans hl9.grow
  have hkF := hkA.grow hgF
  have hchF := hpl9.chc hkF
  have hknF := hknA.at hgF.le (hgF.old _ hknA.lt)
  have hkcF := hkcA.at hgF.le (hgF.old _ hkcA.lt)
  have hpmA := hknA.lt
  have hpkA := hkcA.lt
  have hy := y_shoots (A := A) (s := s) (pc := pc) (pm := pm) (pk := pk) (np := np2) (ns := ns2) (set := k) (M0 := MF) hchF.cells (aD.grow hgDF) (bD.grow hgDF) hn5' (by omega)
  have hdmem : ∀ d' ∈ d :: ms, At MF d' .defr /\ M9.next <= d' /\ d' < l := fun d' hd' => by
   rcases List.mem_cons.1 hd' with rfl | hd'
   ·exact ⟨At.new_old hl9 (At.new_same hd), by omega, by omega⟩
   ·obtain ⟨h1, h2⟩ := hms d' hd'
    exact ⟨h1.grow hgF, h2, by have := h1.2; omega⟩
  have hnd' : (d :: ms).Nodup := List.nodup_cons.2 ⟨fun h => by have := (hms d h).1.2; omega, hnd⟩
  have d4 := c4.grow hgF
  have d5 := c5.grow hgF
  have d6 := c6.grow hgF
  have d7 := c7.grow hgF
  have d8 := c8.grow hgF
  have d12 : At MF n12 (.cells true [I k] 3) := (a12.grow hgD).grow hgDF
  have hn12M : M9.next <= n12 /\ n12 < l := by have := a12.2; omega
  have hgMF : Grow M MF := Keep.to_grow' hg09 hkF (fun i hi => by omega)
  have hpcF := hchF.cells.2
  have hpdl : ∀ d' ∈ d :: ms, M9.next <= d' /\ d' < l := fun d' hd' => (hdmem d' hd').2
  let KF : Nat -> Prop := fun i => i = pm ∨ i = pk ∨ i = l ∨ i = n6 ∨ i = n7
  refine (hy l KF (fun dn T M' => Keep (fun i => i = pm ∨ i = pk ∨ i = l) MF M' /\ KnM M' s pm /\ KcM M' s pk /\ At M' l (lb .ready none) /\ dn.any (badS s t k) = false)
   (fun T M' => Keep KF MF M' /\ At M' n6 (.cells true [.bool false] 4) /\ At M' n7 (.cells true [I 0] 36) /\ At M' l (lb .done (some .ret)) /\ badR s t k = true) ⟨?_, ?_, ?_, ?_⟩ ?_ ⟨Keep.refl _ _, hknF, hkcF, At.new_same hl9, rfl⟩).mono ?_
  ·rintro i (rfl | rfl | rfl | rfl | rfl) <;> omega
  ·rintro dn T Mx My ⟨h1, h2, h3, h4, h5⟩ hle hg
   have hgo : ∀ i, i < MF.next -> My.get i = Mx.get i := fun i hi => hg i (.inl ⟨hi, id⟩)
   exact ⟨⟨Nat.le_trans h1.le hle, fun i hi hf => by rw [hgo i (by omega)]; exact h1.old i hi hf⟩, h2.at hle (hgo _ (by omega)), h3.at hle (hgo _ (by omega)), h4.same hle (hgo _ (by omega)), h5⟩
  ·rintro T Mx My ⟨h1, h2, h3, h4, h5⟩ hle hg
   have hgo : ∀ i, i < MF.next -> My.get i = Mx.get i := fun i hi => hg i (.inl ⟨hi, id⟩)
   exact ⟨⟨Nat.le_trans h1.le hle, fun i hi hf => by rw [hgo i (by omega)]; exact h1.old i hi hf⟩, h2.same hle (hgo _ (by omega)), h3.same hle (hgo _ (by omega)), h4.same hle (hgo _ (by omega)), h5⟩
  ·rintro dn c rest vv U T Mx hits ⟨rfl, hU⟩ hN0 hT hUd ⟨h1, h2, h3, h4, h5⟩
   have hcm := mem_shoots.1 (show c ∈ shootsL s k by rw [hits]; simp)
   have hc2 : c < 2 * s.lines.length := hcm.1
   have hidx : plN s k c < t.length := by rw [hl]; exact pl_lt hlt hc2
   have hle1 := h1.le
   have hk9x : Keep (fun i => i = pm ∨ i = pk ∨ i = l) M9 Mx := (hkF.weaken (fun i hi => by omega)).trans h1 (fun i hi => by omega)
   have hgMx : Grow M Mx := Keep.to_grow' hg09 hk9x (fun i hi => by omega)
   have hplx : PlM Mx A s pc pm pk := hpl9.keepm (hkF.trans h1 (fun i hi => by omega)) h2 h3
   have x4 := d4.keep h1 (by omega)
   have x6 := d6.keep h1 (by omega)
   have x7 := d7.keep h1 (by omega)
   have x8 := d8.keep h1 (by omega)
   have x12 := d12.keep h1 (by omega)
   have hab : (dn ++ [c]).any (badS s t k) = badS s t k c := by rw [List.any_append, h5]; simp
   have hbr : badS s t k c = true -> badR s t k = true := fun h => List.any_eq_true.2 ⟨c, by rw [hits]; simp, h⟩
   obtain ⟨iT, oT, rfl, hrT⟩ := ht.resolve_left (fun h => by rw [h] at hidx; simp at hidx)
   have rT : Rd1 Mx iT (oT + plN s k c * 1) (I t[plN s k c]) := ((hrT _ hidx).nth (j := 0) rfl).grow hgMx
   have hiT := (hrT _ hidx).2
   have hgd : t.getD (plN s k c) 0 = t[plN s k c] := getD_eq hidx
   have hub := hok2.2 _ (List.getElem_mem hidx)
   have hcellx := hplx.ch.cells
   have z1 := hcellx.2
   have hplc := fun M' (hk' : Keep (fun i => i = l) Mx M') => c_placeD (pk := pk) (set := k) (c := c) (ChC.mk (A := A) (hM.grow (Keep.to_grow' hgMx hk' (fun i hi => by omega))) (hcellx.keep hk' (by omega))) hn5' (by omega) (by omega)
   have hbad1 : badS s t k c = match minL (earL s t k c) with | some w => decide (t.getD (plN s k c) 0 = -1 ∨ w < t.getD (plN s k c) 0) | none => false := rfl
   rw [hgd] at hbad1
   generalize t[plN s k c] = tv at *
   refine round_in hlb h4 rfl ?_
   dsimp only [zipP]
   (have hrd0 := rT;repeat' first|with_reducible intro _|refine sv ?_|refine sc ?_ ?_<;>(intro h;try exact sz h)|(with_reducible first|apply x_pure|apply d_pure|apply d_pure0);exact gd;exact rfl;exact rfl;exact hplc _ (xk)|refine sg ?_ ?_<;>(intro h;first|exact sz h|refine sy h ?_)|exact sq|fail)
   rename_i n13 MG hnG e21 e22 MH huH e23 aH MI huI e24 aI MJ hgJ hleJ
   have hkI : Keep (fun i => i = l) Mx MI := xk
   have hkJ := hkI.grow hgJ
   have hleIJ := hkJ.le
   refine x_call (by exact gd) rfl rfl (show AppOk Tryz.prog _ _ MJ _ from c_earliest (pc := pc) (pk := pk) (set := k) (c := c) (aT := some (iT, oT)) (n := t.length) (fT := fT) MJ) ?_
   rintro w MK ⟨nq, nt, ne, nx, rfl, hgK, bq, be, bx, bt⟩
   have hleK := hgK.le
   have hkK := hkJ.grow hgK
   have hkm := h2.lt
   have hkk := h3.lt
   have hplK : PlM MK A s pc pm pk := hpl9.keepm ((hkF.trans h1 (fun i hi => by omega)).trans hkK (fun i hi => .inr (by omega))) (h2.at hkK.le (hkK.old _ hkm (by omega))) (h3.at hkK.le (hkK.old _ hkk (by omega)))
   have htK : SlA 1 intz MK (some (iT, oT)) t := ht.grow (Keep.to_grow' hgMx hkK (fun i hi => by omega))
   have hlK : At MK l (lb .busy none) := (aI.grow hgJ).grow hgK
   have y6 := x6.keep hkK (by omega)
   have y7 := x7.keep hkK (by omega)
   refine x_call (by exact gd) rfl rfl (show AppOk Tryz.prog _ _ MK _ from c_least (fT := fT) hplK htK hok hc2 hlt hl htb bq be bx bt) ?_
   rintro w ML ⟨hkL, ⟨hknL, hkcL⟩, rfl⟩
   have hleL := hkL.le
   have hkxL : Keep (fun i => i = pm ∨ i = pk ∨ i = l) Mx ML := (hkK.weaken (fun i hi => .inr (.inr hi))).trans hkL (fun i hi => .inl (hi.elim .inl (fun h => .inr (.inl h))))
   have hlL := hlK.keep hkL (by omega)
   have v6 := y6.keep hkL (by omega)
   have v7 := y7.keep hkL (by omega)
   have w1 := hknL.lt
   have w2 := hkcL.lt
   have w6 := v6.2
   have w7 := v7.2
   have hgo : ∀ {MY : Mem}, Upd ML l (lb .ready none) MY -> At MY l (lb .ready none) -> badS s t k c = false -> Keep (fun i => KF i ∨ T i ∨ U i) Mx MY /\ ∃ T' : Nat -> Prop, (∀ i, T' i -> (T i ∨ U i ∨ Mx.next <= i) /\ i < MY.next) /\ ((LV.bool true = .bool true /\ Keep (fun i => i = pm ∨ i = pk ∨ i = l) MF MY /\ KnM MY s pm /\ KcM MY s pk /\ At MY l (lb .ready none) /\ (dn ++ [c]).any (badS s t k) = false) ∨
     (LV.bool true = .bool false /\ Keep KF MF MY /\ At MY n6 (.cells true [.bool false] 4) /\ At MY n7 (.cells true [I 0] 36) /\ At MY l (lb .done (some .ret)) /\ badR s t k = true)) := by
    intro MY huY aY hb
    have hkY : Keep (fun i => i = l) ML MY := (Keep.refl _ ML).upd huY (.inl rfl)
    have hkxY : Keep (fun i => i = pm ∨ i = pk ∨ i = l) Mx MY := hkxL.trans hkY (fun i hi => .inl (.inr (.inr hi)))
    exact ⟨hkxY.weaken (fun i hi => .inl (by show i = pm ∨ i = pk ∨ i = l ∨ i = n6 ∨ i = n7; omega)), fun _ => False, fun i hi => hi.elim, .inl ⟨rfl, h1.trans hkxY (fun i hi => .inl hi), hknL.at hkY.le (hkY.old _ w1 (by omega)), hkcL.at hkY.le (hkY.old _ w2 (by omega)), aY, by rw [hab]; exact hb⟩⟩
   have hstop : ∀ {MX MY MZ : Mem}, Upd ML n6 (.cells true [.bool false] 4) MX -> Upd MX n7 (.cells true [I 0] 36) MY -> At MY n7 (.cells true [I 0] 36) -> At MX n6 (.cells true [.bool false] 4) -> Upd MY l (lb .done (some .ret)) MZ -> At MZ l (lb .done (some .ret)) -> badS s t k c = true ->
     Keep (fun i => KF i ∨ T i ∨ U i) Mx MZ /\ ∃ T' : Nat -> Prop, (∀ i, T' i -> (T i ∨ U i ∨ Mx.next <= i) /\ i < MZ.next) /\ ((LV.bool false = .bool true /\ Keep (fun i => i = pm ∨ i = pk ∨ i = l) MF MZ /\ KnM MZ s pm /\ KcM MZ s pk /\ At MZ l (lb .ready none) /\ (dn ++ [c]).any (badS s t k) = false) ∨
     (LV.bool false = .bool false /\ Keep KF MF MZ /\ At MZ n6 (.cells true [.bool false] 4) /\ At MZ n7 (.cells true [I 0] 36) /\ At MZ l (lb .done (some .ret)) /\ badR s t k = true)) := by
    intro MX MY MZ huX huY aY aX huZ aZ hb
    have hkZ : Keep (fun i => i = n6 ∨ i = n7 ∨ i = l) ML MZ := (((Keep.refl _ ML).upd huX (.inl (.inl rfl))).upd huY (.inl (.inr (.inl rfl)))).upd huZ (.inl (.inr (.inr rfl)))
    have hkxZ : Keep KF Mx MZ := (hkxL.weaken (fun i hi => by show i = pm ∨ i = pk ∨ i = l ∨ i = n6 ∨ i = n7; omega)).trans hkZ (fun i hi => .inl (by show i = pm ∨ i = pk ∨ i = l ∨ i = n6 ∨ i = n7; omega))
    exact ⟨hkxZ.weaken (fun i hi => .inl hi), fun _ => False, fun i hi => hi.elim, .inr ⟨rfl, (h1.weaken (fun i hi => by show i = pm ∨ i = pk ∨ i = l ∨ i = n6 ∨ i = n7; omega)).trans hkxZ (fun i hi => .inl hi), (aX.upd_ne huY (by omega)).upd_ne huZ (by omega), aY.upd_ne huZ (by omega), aZ, hbr hb⟩⟩
   cases hm : minL (earL s t k c) with
   | none =>
    rw [hm] at hbad1
    have hbad1 : badS s t k c = false := hbad1
    (repeat' first|with_reducible intro _|refine sv ?_|refine sc ?_ ?_<;>(intro h;try exact sz h)|refine sg ?_ ?_<;>(intro h;first|exact sz h|refine sy h ?_)|exact sq|fail)
    exact hgo (by assumption) (by assumption) hbad1
   | some w0 =>
    rw [hm] at hbad1
    have hbad1 : badS s t k c = decide (tv = -1 ∨ w0 < tv) := hbad1
    have hw0 : (some w0 : Option Int).getD 0 = w0 := rfl
    (repeat' first|with_reducible intro _|refine sv ?_|refine sc ?_ ?_<;>(intro h;try exact sz h)|refine sg ?_ ?_<;>(intro h;first|exact sz h|refine sy h ?_)|exact sq|fail)
    all_goals first
     |(refine hgo (by assumption) (by assumption) ?_; rw [hbad1]; exact decide_eq_false (by omega))
     |(refine hstop (by assumption) (by assumption) (by assumption) (by assumption) (by assumption) (by assumption) ?_; rw [hbad1]; exact decide_eq_true (by omega))
  ·rintro i (rfl | rfl | rfl) (hi | hi | hi | hi | hi)
   all_goals first
    | omega
    |(exact absurd hi hpl9.ch.ne)
    |(exact absurd hi hpl9.nc)
  ·rintro v M8 ⟨hk8, _, T8, hT8, ⟨h1, h2, h3, h4, h5⟩ | ⟨h1, h2, h3, h4, h5⟩⟩
   ·have r2 := h2.lt
    have r3 := h3.lt
    have r4 := h4.2
    have hle1 := h1.le
    have hk18 : Keep (fun i => i = pm ∨ i = pk) M9 M8 := hkF.trans h1 (fun i hi => by omega)
    have hd8 : ∀ d' ∈ d :: ms, At M8 d' .defr := fun d' hd' => (hdmem d' hd').1.keep h1 (by have := hpdl d' hd'; omega)
    have hdl : d < l := by omega
    refine k_iter h4 (by simp) fun M10 hu10 e25 a10 => ?_
    (repeat' first|with_reducible intro _|refine sv ?_|refine sc ?_ ?_<;>(intro h;try exact sz h)|refine sg ?_ ?_<;>(intro h;first|exact sz h|refine sy h ?_)|exact sq|fail)
    refine k_step (2 ^ s.lines.length - (k + 1)) (by omega) ⟨k + 1, rfl, by omega, hnd', fun d' hd' => ⟨(hd8 d' hd').upd_ne hu10 (by have := hpdl d' hd'; omega), (hpdl d' hd').1⟩, .cons rfl (.cons rfl (.cons rfl (.cons rfl (.cons rfl (.cons rfl (.cons rfl (.cons rfl (.cons rfl .nil)))))))), hk18.upd hu10 (.inr (by omega)), h2.at (by omega) (by rw [upd_get_ne hu10 (by omega)]), h3.at (by omega) (by rw [upd_get_ne hu10 (by omega)]), ?_⟩
    rw [List.range_succ, List.any_append, hbad]
    show (false || (badR s t k || false)) = false
    rw [show badR s t k = false from h5]; rfl
   ·have r2 := h2.2
    have r3 := h3.2
    have hle1 := h1.le
    have hdF : ∀ d' ∈ d :: ms, At M8 d' .defr := fun d' hd' => (hdmem d' hd').1.keep h1 (by have := hpdl d' hd'; show ¬ (d' = pm ∨ d' = pk ∨ d' = l ∨ d' = n6 ∨ d' = n7); omega)
    refine k_iter_ret h4 (by simp) fun M10 hu10 e25 a10 => ?_
    (repeat' first|with_reducible intro _|refine sv ?_|refine sc ?_ ?_<;>(intro h;try exact sz h)|refine sg ?_ ?_<;>(intro h;first|exact sz h|refine sy h ?_)|exact sq|fail)
    refine k_fun_end (.inr rfl) hnd' (fun d' hd' => (hdF d' hd').upd_ne hu10 (by have := hpdl d' hd'; omega)) fun M11 hm => ?_
    have hkm : Keep (fun i => M9.next <= i) M10 M11 := (Keep.refl _ M10).unmark hm (fun d' hd' => .inl (hpdl d' hd').1)
    have f6 := (h2.upd_ne hu10 (by omega)).keep hkm (by omega)
    have f7 := (h3.upd_ne hu10 (by omega)).keep hkm (by omega)
    have hk811 : Keep (fun i => M.next <= i) M8 M11 := ((Keep.refl (fun i => M.next <= i) M8).upd hu10 (.inl (by omega))).trans hkm (fun i hi => .inl (by omega))
    have hF : Keep (fun i => M.next <= i) MF M11 := (h1.weaken (fun i hi => by have hi : i = pm ∨ i = pk ∨ i = l ∨ i = n6 ∨ i = n7 := hi; omega)).trans hk811 (fun i hi => .inl hi)
    refine ⟨_, .cell1 rfl (Rd1.of_at f6 rfl).1 (.cell1 rfl (Rd1.of_at f7 rfl).1 .nil), Keep.to_grow' hgMF hF (fun i hi => hi), ?_⟩
    have hbt : badA s t = true := List.any_eq_true.2 ⟨k, List.mem_range.2 hlt, h5⟩
    rw [hbt]; rfl
end Go.Proofs.YtpccafeedfpbaaaGreat.C
end
