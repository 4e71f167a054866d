/-
  Part of the proof of CourseTimes: what functions of the program and of the statement come to, walked by the rules. No condition beyond those in each theorem.
-/
import Derived.Test.YtpccafeedfpbaaaGreatTH
section
open Go PvL Go.Proofs
set_option linter.unusedSimpArgs false
set_option linter.unusedVariables false
namespace Go.Proofs.YtpccafeedfpbaaaGreat.C
theorem goR_len {s : Cr} {P more : List Pt} (hP : P = s.buoys ++ more) {to : Nat} (hto : s.buoys.length <= to) (hto2 : to < P.length) {last : Int} {d at_ : Nat} {o : Int} {used : List Nat} {so y : Psg} (h : goR s P to last d at_ o used so = some y) : y.1.length <= so.1.length + d := by
  have hb := goR_best hP hto hto2 last d at_ o used so
  rw [h] at hb
  obtain ⟨ks, n, h1, _, _, h4, _⟩ := hb.1
  rw [h4, List.length_append, List.length_append, List.length_singleton]
  unfold byB
  rw [List.length_map]
  omega
theorem c_go1 {A : CrA} {s : Cr} {P more : List Pt} (hs : CrOk s) (hP : P = s.buoys ++ more) (hPl : ∀ p ∈ P, PlP p) (hPn : P.length <= 100) {to : Nat} (hto : s.buoys.length <= to) (hto2 : to < P.length) {last : Int} (hlast : 0 <= last /\ last <= 7) {aP aF : Option (Nat × Nat)} {fP fF : Bool} :
    ∀ (d : Nat) (M : Mem) (at_ : Nat) (o : Int) (done : List Nat) (so : Psg) (aU aL : Option (Nat × Nat)) (fU fL iS : Bool), d + done.length = s.buoys.length + 1 -> done.Nodup -> (∀ k ∈ done, k < s.buoys.length) -> MpM M A s P aP aF -> at_ < P.length -> 0 <= o /\ o <= 7 -> SlA 1 boolc M aU (usedL s done) -> SlA 2 ptc M aL so.1 -> so.1.length = done.length + 1 -> 0 <= so.2 /\ so.2 <= 96682 * (done.length : Int) ->
      CallOk Tryz.prog 104 [.agg (mpc A s aP P.length fP aF P.length fF), I at_, I o, .slice aU s.buoys.length fU 1, I to, I last, wyv (.slice aL so.1.length fL 2) so.2 iS] M
      (fun v M' => Grow M M' /\ ∃ sl c b, v = wyv sl c b /\ WayN M.next M' (goR s P to last d at_ o done so) sl c b) := by
  intro d
  have hnb := hs.nb
  induction d with
  | zero =>
    intro M at_ o done so aU aL fU fL iS hd hnd hlt _ _ _ _ _ _ _
    have := nodup_lt _ _ hnd hlt
    omega
  | succ d ih =>
    intro M at_ o done so aU aL fU fL iS hd hnd hlt hm hat ho hU hL hl hc
    refine c_go1_step hs hP hPl hPn hto hto2 hlast (goR s P to last d) (fun k o' u so' y hs' hy => ?_) (fun M' k o' so' aU' aL' fU' fL' hk hkd ho' hm' hU' hL' hl' hc' => ?_) hm hat ho hU hL (by omega) (by omega) (by omega)
    · have := goR_len hP hto hto2 hy; omega
    · have hkP : k < P.length := by rw [hP, List.length_append]; omega
      exact ih M' k o' (k :: done) so' aU' aL' fU' fL' true (by rw [List.length_cons]; omega) (List.nodup_cons.2 ⟨hkd, hnd⟩) (fun j hj => by
        rcases List.mem_cons.1 hj with rfl | hj
        · exact hk
        · exact hlt j hj) hm' hkP ho' hU' hL' (by rw [List.length_cons]; omega) (by rw [List.length_cons]; omega)
theorem rep_bool : ∀ n : Nat, rep n [.bool false] = (List.replicate n false).flatMap boolc
  | 0 => rfl
  | n + 1 => by
    show [LV.bool false] ++ rep n [.bool false] = _
    rw [rep_bool n]; rfl
theorem usedL_nil {s : Cr} : usedL s [] = List.replicate s.buoys.length false := by
  refine List.ext_getElem (by rw [usedL_len, List.length_replicate]) fun j h1 h2 => ?_
  rw [usedL_get, List.getElem_replicate]; simp
set_option maxHeartbeats 16000000 in
theorem c_passage4 {A : CrA} {s : Cr} {P more : List Pt} (hs : CrOk s) (hP : P = s.buoys ++ more) (hPl : ∀ p ∈ P, PlP p) (hPn : P.length <= 100) {fr to : Nat} (hfr : fr < P.length) (hto : s.buoys.length <= to) (hto2 : to < P.length) {a b : Int} (ha : 0 <= a /\ a <= 7) (hb : 0 <= b /\ b <= 7) {aP aF : Option (Nat × Nat)} {fP fF : Bool} {M : Mem} (hm : MpM M A s P aP aF) :
    CallOk Tryz.prog 47 [.agg (mpc A s aP P.length fP aF P.length fF), I fr, I a, I to, I b] M (fun v M' => Grow M M' /\ ∃ sl c b', v = wyv sl c b' /\ WayN M.next M' (passR s P fr a to b) sl c b') := by
  have hgo := c_go1 (A := A) (aP := aP) (aF := aF) (fP := fP) (fF := fF) hs hP hPl hPn hto hto2 hb (s.buoys.length + 1)
  have hnb := hs.nb
  obtain ⟨iP, oP, rfl, hrP⟩ := hm.p.resolve_left (fun h => by rw [h] at hfr; simp at hfr)
  have rPf := hrP fr hfr
  have rPt := hrP to hto2
  have ef : P.getD fr (0, 0) = P[fr] := getD_eq hfr
  have et : P.getD to (0, 0) = P[to] := getD_eq hto2
  have htu := hs.turn
  have htr := trnF_bd a b
  have hmu := mul_bd (a := s.turn) (b := trnF a b) (A := 1000) (B := 4) (by omega) (by omega)
  have hmu0 : 0 <= s.turn * trnF a b := Int.mul_nonneg (by omega) (by omega)
  unfold passR
  rw [ef, et]
  have hiP := rPf.2
  generalize P[fr] = pf at *
  generalize P[to] = pt at *
  refine call_in kq47 rfl ?_
  dsimp only [xq47, qm, qf, ql, qL, qb, qc, qa, qn, qB, qS, qo, qk, qK, qq, qZ, qN, zipE, Nat.reduceAdd]
  (have hrd0 := rPf; have hrd1 := rPt; repeat' (first | (with_reducible intro _) | refine sv ?_ | (refine sc ?_ ?_ <;> (intro h; try exact sz h)) | (refine sg ?_ ?_ <;> (intro h; first | exact sz h | refine sy h ?_)) | exact sq | fail))
  rename_i n5 M1 hn5 e1 e2 n10 M2 hn10 e3 e4
  refine xd_new (by exact gd) (xs_mksl rfl rfl (Nat.le_refl _) (by omega) (by omega)) ?_
  have hnU : New M2 M2.next (.cells true (rep s.buoys.length [.bool false]) 4) (M2.push (.cells true (rep s.buoys.length [.bool false]) 4)) := ⟨rfl, rfl⟩
  generalize hM3 : M2.push (.cells true (rep s.buoys.length [.bool false]) 4) = M3 at hnU ⊢
  have e5 := hnU.next
  generalize hiU : M2.next = iU at hnU e5 ⊢
  rw [rep_bool, <- usedL_nil] at hnU
  (have hrd0 := rPf; have hrd1 := rPt; repeat' (first | (with_reducible intro _) | refine sv ?_ | (refine sc ?_ ?_ <;> (intro h; try exact sz h)) | (refine sg ?_ ?_ <;> (intro h; first | exact sz h | refine sy h ?_)) | exact sq | fail))
  rename_i n28 M4 hn28 e6 e7
  have hg4 : Grow M M4 := xg
  have hU4 : SlA 1 boolc M4 (some (iU, 0)) (usedL s []) := .inr ⟨iU, 0, rfl, fun j hj => rd_flat (enc := boolc) (At.new_old hn28 (At.new_same hnU)) (fun _ _ => rfl) hj⟩
  have hL4 : SlA 2 ptc M4 (some (n28, 0)) [pf] := .inr ⟨n28, 0, rfl, fun j hj => rd_flat (enc := ptc) (l := [pf]) (At.new_same hn28) (fun _ _ => rfl) hj⟩
  have hcall := hgo M4 fr a [] ([pf], 0) (some (iU, 0)) (some (n28, 0)) (Nat.beq s.buoys.length s.buoys.length) true false (by simp) List.nodup_nil (fun _ h => by cases h) (hm.grow hg4) hfr ha hU4 hL4 rfl ⟨Int.le_refl 0, by simp⟩
  clear hg4
  (repeat' (first | (with_reducible intro _) | refine sv ?_ | (refine sc ?_ ?_ <;> (intro h; try exact sz h)) | ((with_reducible first | apply x_call | apply d_call | apply x_call0); exact gd; exact rfl; exact rfl; (first | exact hcall)) | (refine sg ?_ ?_ <;> (intro h; first | exact sz h | refine sy h ?_)) | exact sq | fail))
  rename_i w M5 hq n11 M6 hn11 e8 e9
  obtain ⟨hg5, sl1, c1, b1, rfl, hw1⟩ := hq
  obtain ⟨a1, nn1, f1, es1, rfl⟩ := hw1.shape
  have le5 := hg5.le
  have hlen1 : ∀ y, goR s P to b (s.buoys.length + 1) fr a [] ([pf], 0) = some y -> y.1.length <= 1000 := fun y hy => by have := goR_len hP hto hto2 hy; simp at this; omega
  generalize goR s P to b (s.buoys.length + 1) fr a [] ([pf], 0) = gr at *
  have hpq : pf = pt ↔ (pf.1 = pt.1 /\ pf.2 = pt.2) := Prod.ext_iff
  have hMn : M.next <= n5 /\ M.next <= n10 /\ M4.next <= n11 /\ n10 < M4.next := by omega
  (have hrd0 := rPf; have hrd1 := rPt; repeat' (first | (with_reducible intro _) | refine sv ?_ | (refine sc ?_ ?_ <;> (intro h; try exact sz h)) | ((with_reducible first | apply x_same | apply d_same | apply d_same0); exact gd; exact rfl; exact rfl; (first | exact c_turned4 _ _ (by omega) (by omega) _)) | (refine sg ?_ ?_ <;> (intro h; first | exact sz h | refine sy h ?_)) | exact sq | fail))
  · rename_i M7 hu7 eu7 a7 n47 M8 hn8 e10 e11 n12 M9 hn9 e12 e13 M10 hu10 e14 a10
    have hpe : pf = pt := hpq.2 (by simpa using h)
    rw [if_pos hpe, addO_bet]
    have hk : Keep (fun i => i = n11) M5 M10 := (((((Keep.refl (fun i => i = n11) M5).new hn11).upd hu7 (.inl rfl)).new hn8).new hn9).upd hu10 (.inr (by omega))
    have hwk := hw1.keep hk (fun i h1 h2 => by omega)
    have b47 : At M10 n47 (.cells true ([pf].flatMap ptc) 30) := (At.new_old hn9 (At.new_same hn8)).upd_ne hu10 (by omega)
    have r11 : At M10 n11 (.cells true [.slice a1 nn1 f1 es1, I c1, .bool b1] 102) := (At.new_old hn9 (At.new_old hn8 a7)).upd_ne hu10 (by omega)
    have hbt := c_better4 (x := some ([pf], s.turn * trnF a b)) (y := gr) ⟨rfl, rfl, some (n47, 0), true, rfl, .inr ⟨n47, 0, rfl, rd_pts b47⟩⟩ hwk.d (fun p h => by cases h; show [pf].length <= 1000; simp) hlen1
    have l47 := b47.2
    clear hk
    cases hbo : betO (some ([pf], s.turn * trnF a b)) gr with
    | true =>
      rw [hbo] at hbt
      rw [if_pos rfl]
      (repeat' (first | (with_reducible intro _) | refine sv ?_ | (refine sc ?_ ?_ <;> (intro h; try exact sz h)) | ((with_reducible first | apply x_pure | apply d_pure | apply d_pure0); exact gd; exact rfl; exact rfl; (first | exact hbt)) | (refine sg ?_ ?_ <;> (intro h; first | exact sz h | refine sy h ?_)) | exact sq | fail))
      rename_i M11 hg11 le11 M12 hu12 e15 a12 M13 hu13 e16 a13
      (refine kf ?_)
      exact ⟨xg, _, _, _, rfl, rfl, rfl, n47, true, rfl, xm, by omega⟩
    | false =>
      rw [hbo] at hbt
      rw [if_neg (by decide)]
      (repeat' (first | (with_reducible intro _) | refine sv ?_ | (refine sc ?_ ?_ <;> (intro h; try exact sz h)) | ((with_reducible first | apply x_pure | apply d_pure | apply d_pure0); exact gd; exact rfl; exact rfl; (first | exact hbt)) | (refine sg ?_ ?_ <;> (intro h; first | exact sz h | refine sy h ?_)) | exact sq | fail))
      rename_i M11 hg11 le11 M13 hu13 e16 a13
      (refine kf ?_)
      exact ⟨xg, _, _, _, rfl, ((hwk.keep (hg11.to_keep (fun _ => False)) (fun _ _ _ h => h)).keep ((Keep.refl (fun i => i = n10) M11).upd hu13 (.inl rfl)) (fun i h1 h2 => by omega)).low (by omega)⟩
  · rename_i M7 hu7 eu7 a7 M13 hu13 e16 a13
    have hpe : ¬ pf = pt := fun h' => by have h2 := hpq.1 h'; simp [h2.1, h2.2] at h
    rw [if_neg hpe]
    have hk : Keep (fun i => i = n11 ∨ i = n10) M5 M13 := (((Keep.refl (fun i => i = n11 ∨ i = n10) M5).new hn11).upd hu7 (.inl (.inl rfl))).upd hu13 (.inl (.inr rfl))
    (refine kf ?_)
    exact ⟨xg, _, _, _, rfl, (hw1.keep hk (fun i h1 h2 => by omega)).low (by omega)⟩
end Go.Proofs.YtpccafeedfpbaaaGreat.C
end
section
open Go PvL Go.Proofs
set_option linter.unusedVariables false
set_option linter.unusedSimpArgs false
namespace Go.Proofs.YtpccafeedfpbaaaGreat.C
section
variable {α : Type} {b q : Nat} {ty : TypeId} {enc : α -> List LV} {M : Mem} {v : LV} {l l' : List α} {P : Program} [Orc P] {sz : Nat} {E : Env} {K : Env -> Mem -> Prop} {ll : List XG} {d : Nat} {g : Option (Nat × Bool)} {s x : XO} {by' : Nat} {z : List LV} {xv : LV}
theorem x_vec_app0 (hg : GOn E g) (hv : Vec b q ty enc M v l) (hs : xval E s = some v) (hx : xval E x = some xv) (hn : lenOfL xv = some l'.length) (hb : (2 * (l.length + l'.length) + 2048) * by' <= 140737488355328) (hz : (Nat.ble 1 q && (Nat.ble 1 by' && Nat.beq z.length q)) = true) (hw : 0 < l'.length -> firstL q l'.length xv M = some (l'.flatMap enc))
    (henc : ∀ x, (enc x).length = q) (hfl : ∀ x, allFlat (enc x) = true) (hbM : b <= M.next) (hk : ∀ v' M', Vec b q ty enc M' v' (l ++ l') -> M.next <= M'.next -> Keep (fun i => b <= i /\ ∃ o n f e, v = .slice (some (i, o)) n f e) M M' -> XW P sz ll ((d, v') :: E) M' K) : XW P sz (⟨some d, .app ty q by' z s x, g⟩ :: ll) E M K := by
  rcases Nat.eq_zero_or_pos l'.length with h0 | h0
  · obtain rfl : l' = [] := List.length_eq_zero_iff.1 h0
    obtain ⟨a, f, e, hsh⟩ := hv.shape
    have h1 := hk v M (by rw [List.append_nil]; exact hv) (Nat.le_refl _) (Keep.refl _ _)
    rw [hsh] at hs h1
    exact x_val hg (xs_app_nop hs hx hn) h1
  · exact x_vec_app hg hv hs hx hn h0 hb hz (hw h0) henc hfl hbM fun v' M' h1 h2 h3 => hk v' M' h1 (by omega) h3
end
theorem sla_first {α : Type} {q : Nat} {enc : α -> List LV} {M : Mem} {a : Option (Nat × Nat)} {l : List α} {f : Bool} {e : Nat} (h : SlA q enc M a l) (henc : ∀ x ∈ l, (enc x).length = q) (h0 : 0 < l.length) : firstL q l.length (.slice a l.length f e) M = some (l.flatMap enc) := by
  obtain ⟨i, o, rfl, hr⟩ := h.resolve_left (fun h => by rw [h] at h0; simp at h0)
  exact firstL_rd henc hr
abbrev mpw (A : CrA) (s : Cr) (aP : Option (Nat × Nat)) (n : Nat) (fP : Bool) (v : LV) : List LV := [.slice A.aL s.lines.length A.fL 4, .slice A.aF s.fields.length A.fF A.eF, .slice A.aB s.buoys.length A.fB 2, I s.spread.1.1, I s.spread.1.2, I s.spread.2.1.1, I s.spread.2.1.2, I s.spread.2.2.1.1, I s.spread.2.2.1.2, I s.spread.2.2.2.1, I s.spread.2.2.2.2,
  I s.start.1.1, I s.start.1.2, I s.start.2, I s.speed, I s.turn, .slice A.aO s.opn.length A.fO 1, .slice aP n fP 2, v]
noncomputable def rowB (s : Cr) (P : List Pt) (i m : Nat) : List Bool := (List.range m).map fun j => frB s P i j
theorem row_succ {s : Cr} {P : List Pt} {i m : Nat} : rowB s P i (m + 1) = rowB s P i m ++ [frB s P i m] := by unfold rowB; rw [List.range_succ, List.map_append]; rfl
abbrev rslc (n : Nat) (i : Nat) : List LV := [.slice (some (i, 0)) n false 1]
theorem fr_eq {s : Cr} (hs : CrOk s) {P : List Pt} {i k : Nat} (hi : i < P.length) (hk : k < P.length) : frB s P i k = (decide (P[i] ≠ P[k]) && freeF s P[i] P[k]) := by
  unfold frB
  rw [getD_eq hi, getD_eq hk, clear_free hs]
set_option maxHeartbeats 16000000 in
theorem c_mapped {A : CrA} {s : Cr} {more : List Pt} {aM : Option (Nat × Nat)} {fM : Bool} {eM : Nat} {M : Mem} (hs : CrOk s) (hM : CrM M A s) (hm : SlA 2 ptc M aM more) (hm0 : 0 < more.length) (hmn : more.length <= 50) :
    CallOk Tryz.prog 46 [crv A s, .slice aM more.length fM eM] M (fun v M' => Grow M M' /\ ∃ aP fP aF fF, v = .agg (mpc A s aP (s.buoys ++ more).length fP aF (s.buoys ++ more).length fF) /\ MpM M' A s (s.buoys ++ more) aP aF) := by
  have hnb := hs.nb
  refine call_in kq46 rfl ?_
  dsimp only [xq46, qm, qf, ql, qL, qi, qb, qa, qn, qB, qC, qg, qS, qo, qk, qK, qq, qZ, qN, zipE, Nat.reduceAdd]
  (repeat' (first | (with_reducible intro _) | refine sv ?_ | (refine sc ?_ ?_ <;> (intro h; try exact sz h)) | (refine sg ?_ ?_ <;> (intro h; first | exact sz h | refine sy h ?_)) | exact sq | fail))
  rename_i n2 M1 hn2 e1 e2 n4 M2 hn4 e3 e4 n5 M3 hn5 e5 e6 M4 hu4 e7 a4
  have hg4 : Grow M M4 := xg
  have hB4 : SlA 2 ptc M4 A.aB s.buoys := SlA.grow hM.buoys hg4
  have hm4 := hm.grow hg4
  have hg4s : Grow M M4 /\ True := ⟨hg4, trivial⟩
  clear hg4
  refine x_vec_app0 (by exact gd) (b := M4.next) (l := []) (l' := s.buoys) (enc := ptc) (.inl ⟨rfl, rfl⟩) rfl rfl rfl (by simp; omega) rfl (fun h0 => sla_first hB4 (fun _ _ => rfl) h0) (fun _ => rfl) (fun _ => rfl) (Nat.le_refl _) ?_
  intro v1 M5 hv5 e8 hk5
  have hv5 : Vec M4.next 2 30 ptc M5 v1 s.buoys := hv5
  have hg5 : Grow M4 M5 := hk5.to_grow (fun i hi => hi.1)
  clear hk5
  (repeat' (first | (with_reducible intro _) | refine sv ?_ | (refine sc ?_ ?_ <;> (intro h; try exact sz h)) | (refine sg ?_ ?_ <;> (intro h; first | exact sz h | refine sy h ?_)) | exact sq | fail))
  refine x_vec_app0 (by exact gd) (l' := more) hv5 rfl rfl rfl (by omega) rfl (fun h0 => sla_first (hm4.grow hg5) (fun _ _ => rfl) h0) (fun _ => rfl) (fun _ => rfl) (by omega) ?_
  intro v2 M6 hv6 e9 hk6
  have hg6 : Grow M4 M6 := Keep.to_grow' hg5 hk6 (fun i hi => hi.1)
  clear hk6
  have hP50 : (s.buoys ++ more).length <= 54 /\ 0 < (s.buoys ++ more).length := by rw [List.length_append]; omega
  generalize hPe : s.buoys ++ more = P at *
  rcases hv6 with ⟨h0, _⟩ | ⟨iP, rfl, hP6, hiP⟩
  · rw [h0] at hP50; simp at hP50
  have le6 := hg6.le
  have l6P := hP6.2
  have a6 := a4.grow hg6
  (repeat' (first | (with_reducible intro _) | refine sv ?_ | (refine sc ?_ ?_ <;> (intro h; try exact sz h)) | (refine sg ?_ ?_ <;> (intro h; first | exact sz h | refine sy h ?_)) | exact sq | fail))
  rename_i M7 hu7 e10 a7
  have hk67 : Keep (fun i => i = n5) M6 M7 := (Keep.refl (fun i => i = n5) M6).upd hu7 (.inl rfl)
  have hg07 : Grow M M7 := Keep.to_grow' (hg4s.1.trans hg6) hk67 (fun i hi => by omega)
  have b2 : At M7 n2 (.cells true (crc A s) 35) := (At.grow hg6 (xm)).keep hk67 (by omega)
  have b4 : At M7 n4 (.cells true [.slice none 0 true 0, .slice none 0 true 0, .slice none 0 true 0, I 0, I 0, I 0, I 0, I 0, I 0, I 0, I 0, I 0, I 0, I 0, I 0, I 0, .slice none 0 true 0, .slice none 0 true 0, .slice none 0 true 0] 99) := (At.grow hg6 (xm)).keep hk67 (by omega)
  have bP : At M7 iP (.cells true (P.flatMap ptc) 30) := hP6.keep hk67 (by omega)
  have b5 : At M7 n5 (.cells true (mpw A s (some (iP, 0)) P.length false (.slice none 0 true 0)) 99) := a7
  have hord : n2 < n4 /\ n4 < n5 /\ n5 < iP /\ iP < M7.next /\ M.next <= n2 := by omega
  clear hg6 hg5 hn2 hn4 hn5 hu4 hu7 hk67 a7 a6 a4 hP6 hv5 hB4 hm4
  refine w_loop_ind (fun n E ms M' => ∃ (k : Nat) (vo : LV) (is : List Nat), n = P.length - k /\ k <= P.length /\ is.length = k /\ ms = [] /\ Has E [(2, .ptr (some (n2, 0))), (4, .ptr (some (n4, 0))), (5, .ptr (some (n5, 0))), (6, I k)] /\ Keep (fun i => i = n5) M7 M' /\ At M' n5 (.cells true (mpw A s (some (iP, 0)) P.length false vo) 99) /\
      Vec M7.next 1 178 (rslc P.length) M' vo is /\ ∀ j (hj : j < is.length), M7.next <= is[j] /\ At M' is[j] (.cells true ((rowB s P j P.length).flatMap boolc) 4)) ?_ P.length _ _ _
    ⟨0, _, [], by omega, by omega, rfl, rfl, .cons rfl (.cons rfl (.cons rfl (.cons rfl .nil))), Keep.refl _ _, b5, .nil, fun j hj => by simp at hj⟩
  rintro n E ms M8 ⟨k, vo, is, rfl, hk, hisl, rfl, hE, hk8, c5, hvo, hbk⟩
  refine w_has hE ?_
  have le8 := hk8.le
  have c2 := b2.keep hk8 (by omega)
  have c4 := b4.keep hk8 (by omega)
  have cP := bP.keep hk8 (by omega)
  have l2 := c2.2
  have l4 := c4.2
  have l5 := c5.2
  have lP := cP.2
  by_cases hlast : k = P.length
  · subst hlast
    rcases hvo with ⟨h0, _⟩ | ⟨iv, rfl, av, hb⟩
    · rw [h0] at hisl; simp at hisl; omega
    have hMv : ∀ M', Keep (fun i => i = n4) M8 M' -> MpM M' A s P (some (iP, 0)) (some (iv, 0)) := fun M' hk' => ⟨hM.grow (Keep.to_grow' (Keep.to_grow' hg07 hk8 (fun i hi => by omega)) hk' (fun i hi => by omega)), .inr ⟨iP, 0, rfl, rd_pts (cP.keep hk' (by omega))⟩, .inr ⟨iv, 0, rfl, fun j hj => by
      have hj1 : j < is.length := by rw [frM_len] at hj; omega
      obtain ⟨g1, g2⟩ := hbk j hj1
      have hrow : (frM s P)[j] = rowB s P j P.length := (List.getElem_map (l := List.range P.length) (fun i => (List.range P.length).map fun k => frB s P i k) (i := j) (h := hj)).trans (congrArg (fun i => (List.range P.length).map fun k => frB s P i k) (List.getElem_range ..))
      have hrl : (rowB s P j P.length).length = P.length := by unfold rowB; rw [List.length_map, List.length_range]
      rw [hrow]
      refine ⟨some (is[j], 0), false, ?_, ?_, by rw [hrl]; omega⟩
      · rw [hrl]
        exact (rd_flat (enc := rslc P.length) (av.keep hk' (by omega)) (fun _ _ => rfl) hj1).nth (j := 0) rfl
      · exact .inr ⟨is[j], 0, rfl, fun q hq => rd_flat (enc := boolc) (g2.keep hk' (by omega)) (fun _ _ => rfl) hq⟩⟩⟩
    have hg08 : Grow M M8 := Keep.to_grow' hg07 hk8 (fun i hi => by omega)
    have hgs : Grow M M8 /\ True := ⟨hg08, trivial⟩
    clear hg08 hg07 hg4s
    (repeat' (first | (with_reducible intro _) | refine sv ?_ | (refine sc ?_ ?_ <;> (intro h; try exact sz h)) | (refine sg ?_ ?_ <;> (intro h; first | exact sz h | refine sy h ?_)) | exact sq | fail))
    rename_i M9 hu9 e12 a9
    have hk9 : Keep (fun i => i = n4) M8 M9 := (Keep.refl (fun i => i = n4) M8).upd hu9 (.inl rfl)
    have hg89 : Grow M M9 := Keep.to_grow' hgs.1 hk9 (fun i hi => by omega)
    (refine kf ?_)
    exact ⟨hg89, some (iP, 0), false, some (iv, 0), false, by rw [hisl]; rfl, hMv _ hk9⟩
  have hlt : k < P.length := by omega
  have hg08 : Grow M M8 := Keep.to_grow' hg07 hk8 (fun i hi => by omega)
  have hM8 := hM.grow hg08
  clear hg08
  (repeat' (first | (with_reducible intro _) | refine sv ?_ | (refine sc ?_ ?_ <;> (intro h; try exact sz h)) | (refine sg ?_ ?_ <;> (intro h; first | exact sz h | refine sy h ?_)) | exact sq | fail))
  refine w_loop_ind (fun n E ms M' => ∃ (m : Nat) (vr : LV), n = P.length - m /\ m <= P.length /\ ms = [] /\ Has E [(2, .ptr (some (n2, 0))), (4, .ptr (some (n4, 0))), (5, .ptr (some (n5, 0))), (6, I k), (7, vr), (8, I m)] /\ Grow M8 M' /\ Vec M8.next 1 4 boolc M' vr (rowB s P k m)) ?_ P.length _ _ _
    ⟨0, _, by omega, by omega, rfl, .cons rfl (.cons rfl (.cons rfl (.cons rfl (.cons rfl (.cons rfl .nil))))), Grow.refl _, .nil⟩
  rintro n E2 ms M9 ⟨m, vr, rfl, hm9, rfl, hE2, hg9, hvr⟩
  refine w_has hE2 ?_
  have le9 := hg9.le
  have d2 := c2.grow hg9
  have d5 := c5.grow hg9
  have dP := cP.grow hg9
  by_cases hlm : m = P.length
  · subst hlm
    have hrl : (rowB s P k P.length).length = P.length := by unfold rowB; rw [List.length_map, List.length_range]
    rcases hvr with ⟨h0, _⟩ | ⟨iR, rfl, hR, hRb⟩
    · rw [h0] at hrl; simp at hrl; omega
    rw [hrl]
    obtain ⟨ao, fo, eo, rfl⟩ := hvo.shape
    (repeat' (first | (with_reducible intro _) | refine sv ?_ | (refine sc ?_ ?_ <;> (intro h; try exact sz h)) | (refine sg ?_ ?_ <;> (intro h; first | exact sz h | refine sy h ?_)) | exact sq | fail))
    rename_i n64 M10 hn64 e12 e13
    have hvo10 : Vec M7.next 1 178 (rslc P.length) M10 (.slice ao is.length fo eo) is := hvo.grow (hg9.trans hn64.grow)
    have hw10 : firstL 1 1 (.slice (some (n64, 0)) 1 true 1) M10 = some ([iR].flatMap (rslc P.length)) := firstL_rd (enc := rslc P.length) (l := [iR]) (fun _ _ => rfl) (fun k hk => rd_flat (enc := rslc P.length) (l := [iR]) (At.new_same hn64) (fun _ _ => rfl) hk)
    refine x_vec_app (by exact gd) (l' := [iR]) hvo10 rfl rfl rfl (by simp) (by rw [List.length_singleton]; omega) rfl hw10 (fun _ => rfl) (fun _ => rfl) (by omega) ?_
    intro v11 M11 hv11 e14 hk11
    have le11 := hk11.le
    have hg810 : Grow M8 M10 := hg9.trans hn64.grow
    have hF : ∀ i, (∃ cs ty, At M10 i (.cells true cs ty) /\ ty ≠ 178) -> ¬ (M7.next <= i /\ ∃ o n f e, LV.slice ao is.length fo eo = .slice (some (i, o)) n f e) := by
      rintro i ⟨cs, ty, hi, hty⟩ ⟨h1, o, n, f, e, h2⟩
      rcases hvo10 with ⟨_, q1⟩ | ⟨q, q1, q2, _⟩
      · rw [q1] at h2; cases h2
      · rw [q1] at h2
        cases h2
        exact hty (at_ty hi q2)
    have d10 : At M10 n5 (.cells true (mpw A s (some (iP, 0)) P.length false (.slice ao is.length fo eo)) 99) := c5.grow hg810
    have d11 := d10.keep hk11 (hF _ ⟨_, _, d10, by decide⟩)
    have hR10 := hR.grow hn64.grow
    have hR11 := hR10.keep hk11 (hF _ ⟨_, _, hR10, by decide⟩)
    have hbk11 : ∀ j (hj : j < is.length), M7.next <= is[j] /\ At M11 is[j] (.cells true ((rowB s P j P.length).flatMap boolc) 4) := fun j hj => by
      obtain ⟨g1, g2⟩ := hbk j hj
      have g3 := g2.grow hg810
      exact ⟨g1, g3.keep hk11 (hF _ ⟨_, _, g3, by decide⟩)⟩
    have hk811 : Keep (fun i => M7.next <= i) M8 M11 := (hg810.to_keep _).trans hk11 (fun i hi => .inl hi.1)
    clear hF hg810 hvo hvo10 hk11
    obtain ⟨av, fv, ev, rfl⟩ := hv11.shape
    (repeat' (first | (with_reducible intro _) | refine sv ?_ | (refine sc ?_ ?_ <;> (intro h; try exact sz h)) | (refine sg ?_ ?_ <;> (intro h; first | exact sz h | refine sy h ?_)) | exact sq | fail))
    rename_i M12 hu12 e15 a12
    have hv12 : Vec M7.next 1 178 (rslc P.length) M12 (.slice av (is ++ [iR]).length fv ev) (is ++ [iR]) := Or.imp id (fun ⟨i, z1, z2, z3⟩ => ⟨i, z1, z2.upd_ne hu12 (by omega), z3⟩) hv11
    refine k_step (P.length - (k + 1)) (by omega) ⟨k + 1, _, is ++ [iR], rfl, by omega, by rw [List.length_append, List.length_singleton]; omega, rfl, .cons rfl (.cons rfl (.cons rfl (.cons rfl .nil))), (hk8.trans hk811 (fun i hi => .inr hi)).upd hu12 (.inl rfl), a12, hv12, fun j hj => ?_⟩
    by_cases hjk : j < is.length
    · rw [List.getElem_append_left hjk]
      obtain ⟨g1, g2⟩ := hbk11 j hjk
      exact ⟨g1, g2.upd_ne hu12 (by omega)⟩
    · obtain rfl : j = is.length := by rw [List.length_append, List.length_singleton] at hj; omega
      rw [List.getElem_append_right (Nat.le_refl _)]
      simp only [Nat.sub_self, List.getElem_cons_zero]
      subst hisl
      exact ⟨by omega, hR11.upd_ne hu12 (by omega)⟩
  have hmlt : m < P.length := by omega
  have rPk : Rd M9 iP (0 + k * 2) 2 (ptc P[k]) := rd_pts dP k hlt
  have rPm : Rd M9 iP (0 + m * 2) 2 (ptc P[m]) := rd_pts dP m hmlt
  have hfe := fr_eq hs hlt hmlt
  have hcf := fun M' (hg : Grow M8 M') => c_free (A := A) (s := s) (a := P[k]) (b := P[m]) (hM8.grow hg)
  have hpq : P[k] = P[m] ↔ ((P[k]).1 = (P[m]).1 /\ (P[k]).2 = (P[m]).2) := Prod.ext_iff
  generalize P[k] = pk at *
  generalize P[m] = pm at *
  have l9 := rPk.2
  obtain ⟨av, fv, ev, rfl⟩ := hvr.shape
  have hlr : (rowB s P k m).length = m := by unfold rowB; rw [List.length_map, List.length_range]
  have hfin : ∀ {E' : Env} {M1 : Mem} {x : Bool} {K : Ex -> Env -> List Nat -> Mem -> Prop} {vr' : LV}, x = frB s P k m -> Has E' [(2, .ptr (some (n2, 0))), (4, .ptr (some (n4, 0))), (5, .ptr (some (n5, 0))), (6, I k), (7, vr'), (8, I ((m + 1 : Nat) : Int))] -> Grow M8 M1 -> Vec M8.next 1 4 boolc M1 vr' (rowB s P k m ++ [x]) ->
      KStep (fun n E ms M' => ∃ (m : Nat) (vr : LV), n = P.length - m /\ m <= P.length /\ ms = [] /\ Has E [(2, .ptr (some (n2, 0))), (4, .ptr (some (n4, 0))), (5, .ptr (some (n5, 0))), (6, I k), (7, vr), (8, I m)] /\ Grow M8 M' /\ Vec M8.next 1 4 boolc M' vr (rowB s P k m)) (P.length - m) K .norm E' [] M1 := by
    intro E' M1 x K vr' hx h1 h2 h3
    refine k_step (P.length - (m + 1)) (by omega) ⟨m + 1, vr', rfl, by omega, rfl, h1, h2, ?_⟩
    rw [row_succ, <- hx]; exact h3
  by_cases hne : pk = pm
  · obtain ⟨q1, q2⟩ := hpq.1 hne
    have hx : false = frB s P k m := by rw [hfe, decide_eq_false (fun h => h hne)]; rfl
    (have hrd0 := rPk; have hrd1 := rPm; repeat' (first | (with_reducible intro _) | refine sv ?_ | (refine sc ?_ ?_ <;> (intro h; try exact sz h)) | ((with_reducible first | apply x_pure | apply d_pure | apply d_pure0); exact gd; exact rfl; exact rfl; (first | exact hcf _ (xg))) | (refine sg ?_ ?_ <;> (intro h; first | exact sz h | refine sy h ?_)) | exact sq | fail))
    rename_i nB MB hnB eB1 eB2
    have hwB : firstL 1 1 (.slice (some (nB, 0)) 1 true 1) MB = some ([false].flatMap boolc) := firstL_rd (enc := boolc) (l := [false]) (fun _ _ => rfl) (fun k hk => rd_flat (enc := boolc) (l := [false]) (At.new_same hnB) (fun _ _ => rfl) hk)
    have hvB : Vec M8.next 1 4 boolc MB (.slice av (rowB s P k m).length fv ev) (rowB s P k m) := Or.imp id (fun ⟨i, z1, z2, z3⟩ => ⟨i, z1, At.new_old hnB z2, z3⟩) hvr
    refine d_vec_app (by exact gd) (l' := [false]) hvB rfl rfl rfl (by simp) (by rw [List.length_singleton]; omega) rfl hwB (fun _ => rfl) (fun _ => rfl) (by omega) ?_
    intro v3 MC hvC eC hkC
    have hgC : Grow M8 MC := Keep.to_grow' (hg9.trans hnB.grow) hkC (fun i hi => hi.1)
    clear hkC
    (repeat' (first | (with_reducible intro _) | refine sv ?_ | (refine sc ?_ ?_ <;> (intro h; try exact sz h)) | (refine sg ?_ ?_ <;> (intro h; first | exact sz h | refine sy h ?_)) | exact sq | fail))
    exact hfin hx (.cons rfl (.cons rfl (.cons rfl (.cons rfl (.cons rfl (.cons rfl .nil)))))) hgC hvC
  · have hne' : ¬ (pk.1 = pm.1 /\ pk.2 = pm.2) := fun h => hne (hpq.2 h)
    have hx : freeF s pk pm = frB s P k m := by rw [hfe, decide_eq_true hne]; rfl
    generalize freeF s pk pm = x at *
    (have hrd0 := rPk; have hrd1 := rPm; repeat' (first | (with_reducible intro _) | refine sv ?_ | (refine sc ?_ ?_ <;> (intro h; try exact sz h)) | ((with_reducible first | apply x_pure | apply d_pure | apply d_pure0); exact gd; exact rfl; exact rfl; (first | exact hcf _ (xg))) | (refine sg ?_ ?_ <;> (intro h; first | exact sz h | refine sy h ?_)) | exact sq | fail))
    rename_i MA hgA leA nB MB hnB eB1 eB2
    have hgAB : Grow M9 MB := hgA.trans hnB.grow
    have hwB : firstL 1 1 (.slice (some (nB, 0)) 1 true 1) MB = some ([x].flatMap boolc) := firstL_rd (enc := boolc) (l := [x]) (fun _ _ => rfl) (fun k hk => rd_flat (enc := boolc) (l := [x]) (At.new_same hnB) (fun _ _ => rfl) hk)
    have hvB : Vec M8.next 1 4 boolc MB (.slice av (rowB s P k m).length fv ev) (rowB s P k m) := Or.imp id (fun ⟨i, z1, z2, z3⟩ => ⟨i, z1, z2.grow hgAB, z3⟩) hvr
    clear hgAB
    refine d_vec_app (by exact gd) (l' := [x]) hvB rfl rfl rfl (by simp) (by rw [List.length_singleton]; omega) rfl hwB (fun _ => rfl) (fun _ => rfl) (by omega) ?_
    intro v3 MC hvC eC hkC
    have hgC : Grow M8 MC := Keep.to_grow' ((hg9.trans hgA).trans hnB.grow) hkC (fun i hi => hi.1)
    clear hkC
    (repeat' (first | (with_reducible intro _) | refine sv ?_ | (refine sc ?_ ?_ <;> (intro h; try exact sz h)) | (refine sg ?_ ?_ <;> (intro h; first | exact sz h | refine sy h ?_)) | exact sq | fail))
    exact hfin hx (.cons rfl (.cons rfl (.cons rfl (.cons rfl (.cons rfl (.cons rfl .nil)))))) hgC hvC
end Go.Proofs.YtpccafeedfpbaaaGreat.C
end
section
open Go PvL Go.Proofs
set_option linter.unusedSimpArgs false
set_option linter.unusedVariables false
namespace Go.Proofs.YtpccafeedfpbaaaGreat.C
abbrev befG (ne nx nq nt : Nat) : LV := .func (.func 146) [] [.ptr (some (ne, 0)), .ptr (some (nx, 0)), .ptr (some (nq, 0)), .ptr (some (nt, 0))]
end Go.Proofs.YtpccafeedfpbaaaGreat.C
end
