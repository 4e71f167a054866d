/-
 Part of the proof of CourseMovedUpto: what functions of the program and of the statement come to, walked by the rules. No condition beyond those in each theorem.
-/
import Derived.Test.YtifcpjfpjkoicaaGreatTI
section
open Go PvL Go.Proofs
set_option linter.unusedSimpArgs false
set_option linter.unusedVariables false
namespace Go.Proofs.YtifcpjfpjkoicaaGreat.C
theorem setList_nil : ∀ l : List LV, setList l 0 [] = some l
 | [] => rfl
 | x :: l => rfl
theorem setList_int : ∀ (t : List Int) (k : Nat) (v : Int), k < t.length -> setList (t.flatMap intz) k [I v] = some ((t.set k v).flatMap intz)
 | [], k, v, h => absurd h (Nat.not_lt_zero _)
 | x :: t, 0, v, _ => by
  show ob (setList (t.flatMap intz) 0 []) (fun l => some (I v :: l)) = _
  rw [setList_nil]; rfl
 | x :: t, k + 1, v, h => by
  show ob (setList (t.flatMap intz) k [I v]) (fun l => some (I x :: l)) = _
  rw [setList_int t k v (by simpa using h)]; rfl
theorem rep_int : ∀ n : Nat, rep n [I 0] = (List.replicate n (0 : Int)).flatMap intz
 | 0 => rfl
 | n + 1 => by
  show [I 0] ++ rep n [I 0] = _
  rw [rep_int n]; rfl
theorem shl_tab (n : Nat) : shlZ (2 * (n : Int)) (n : Int) = ((2 * n * 2 ^ n : Nat) : Int) := by
 unfold shlZ
 rw [Int.natCast_mul]; rfl
theorem rd_int {M : Mem} {i : Nat} {own : Bool} {t : List Int} {ty : TypeId} (ha : At M i (.cells own (t.flatMap intz) ty)) : SlA 1 intz M (some (i, 0)) t := .inr ⟨i, 0, rfl, fun k hk => rd_flat (enc := intz) ha (fun _ _ => rfl) hk⟩
abbrev earF (nq nt ne nx : Nat) : LV := .func (.func 60) [] [.ptr (some (nq, 0)), .ptr (some (nt, 0)), .ptr (some (ne, 0)), .ptr (some (nx, 0))]
theorem c_earliest {pc pk set c : Nat} {aT : Option (Nat × Nat)} {n : Nat} {fT : Bool} (M : Mem) : CallOk Tryz.prog 46 [planv pc pk, .slice aT n fT 1, I set, shC c] M (fun v M' => ∃ nq nt ne nx, v = earF nq nt ne nx /\ Grow M M' /\ At M' nq (.cells true [.ptr (some (pc, 0)), .map (some pk)] 77) /\ At M' ne (.cells true [I set] 3) /\
  At M' nx (.cells true [I (c / 2 : Nat), I (c % 2 : Nat)] 45) /\ At M' nt (.cells true [.slice aT n fT 1] 46)) := by
 refine call_in kq46 rfl ?_
 dsimp only [xq46, qm, qb, qo, qq, zipE, Nat.reduceAdd]
 (repeat' first|with_reducible intro _|refine sv ?_|refine sc ?_ ?_<;>(intro h;try exact sz h)|refine sg ?_ ?_<;>(intro h;first|exact sz h|refine sy h ?_)|exact sq|fail)
 (refine kf ?_)
 exact ⟨_, _, _, _, rfl, xg, xm, xm, xm, xm⟩
theorem c_least {A : CrA} {s : Cr} {pc pm pk set c : Nat} {aT : Option (Nat × Nat)} {fT : Bool} {tab : List Int} {M : Mem} (hpl : PlM M A s pc pm pk) (htab : SlA 1 intz M aT tab) (hs : CrOk s) (hc : c < 2 * s.lines.length) (hset : set < 2 ^ s.lines.length) (htl : tab.length = 2 * s.lines.length * 2 ^ s.lines.length) (htb : ∀ v ∈ tab, -1 <= v /\ v <= 5000000)
  {nq nt ne nx : Nat} (hq : At M nq (.cells true [.ptr (some (pc, 0)), .map (some pk)] 77)) (he : At M ne (.cells true [I set] 3)) (hx : At M nx (.cells true [I (c / 2 : Nat), I (c % 2 : Nat)] 45)) (ht : At M nt (.cells true [.slice aT tab.length fT 1] 46)) :
  CallOk Tryz.prog 45 [earF nq nt ne nx, .func (.func 47) [] []] M (fun v M' => Keep (fun i => i = pm ∨ i = pk) M M' /\ (KnM M' s pm /\ KcM M' s pk) /\ v = .tup [I ((minL (earL s tab set c)).getD 0), .bool (minL (earL s tab set c)).isSome]) := by
 have h1 := hpl.ch.known.lt
 have h2 := hpl.kc.lt
 refine c_first_int (gf := 60) (ca := [.ptr (some (nq, 0)), .ptr (some (nt, 0)), .ptr (some (ne, 0)), .ptr (some (nx, 0))]) (items := earL s tab set c) (Wr := fun i => i = pm ∨ i = pk) (Fin := fun M' => KnM M' s pm /\ KcM M' s pk) (fun M' hg => ?_) (fun i hi => by rcases hi with rfl | rfl <;> assumption) (fun M1 M2 hf hle h => ⟨hf.1.at hle (h _ h1), hf.2.at hle (h _ h2)⟩)
 refine YieldsS.weakS (y_earliest hpl htab (hg.to_keep _) (hpl.ch.known.at hg.le (hg.old _ h1)) (hpl.kc.at hg.le (hg.old _ h2)) (hq.grow hg) (he.grow hg) (hx.grow hg) (ht.grow hg) hs hc hset htl htb) ?_
 rintro i (hi | rfl | rfl | rfl | rfl)
 ·exact hi
 ·exact hq.2
 ·exact ht.2
 ·exact he.2
 ·exact hx.2
def TbOk (s : Cr) (t : List Int) : Prop := t.length = 2 * s.lines.length * 2 ^ s.lines.length /\ ∀ v ∈ t, -1 <= v /\ v <= 1048576
theorem ear_bd {s : Cr} (hs : CrOk s) {t : List Int} {set c : Nat} (hc : c < 2 * s.lines.length) {e : Int} (he : e ∈ earL s t set c) : 0 <= e /\ e <= 1048576 := by
 unfold earL at he
 obtain ⟨x, hx, h⟩ := List.mem_filterMap.1 he
 obtain ⟨b, hb, rfl⟩ := Option.map_eq_some_iff.1 h
 have := goF_bd hs (div_lt hc) hb
 omega
theorem TbOk.step {s : Cr} (hs : CrOk s) {t : List Int} {set c : Nat} (h : TbOk s t) (hc : c < 2 * s.lines.length) : TbOk s (tabStep s set t c) := by
 unfold tabStep
 cases hm : minL (earL s t set c) with
 | none => exact h
 | some e =>
  have he := ear_bd hs hc (minL_some hm).1
  refine ⟨by dsimp only; rw [List.length_set]; exact h.1, fun v hv => ?_⟩
  rcases List.mem_or_eq_of_mem_set hv with hv | rfl
  ·exact h.2 v hv
  ·omega
theorem TbOk.steps {s : Cr} (hs : CrOk s) {set : Nat} : ∀ (l : List Nat) {t : List Int}, TbOk s t -> (∀ c ∈ l, c < 2 * s.lines.length) -> TbOk s (l.foldl (tabStep s set) t)
 | [], t, h, _ => h
 | c :: l, t, h, hl => TbOk.steps hs l (h.step hs (hl c (List.mem_cons_self ..))) fun d hd => hl d (List.mem_cons_of_mem _ hd)
theorem TbOk.zero (s : Cr) : TbOk s (tab0 s) := by
 unfold tab0
 exact ⟨List.length_replicate .., fun v hv => by obtain rfl := (List.mem_replicate.1 hv).2; exact ⟨by decide, by decide⟩⟩
theorem TbOk.rows {s : Cr} (hs : CrOk s) : ∀ k, TbOk s ((List.range k).foldl (tabSet s) (tab0 s))
 | 0 => TbOk.zero s
 | k + 1 => by
  rw [List.range_succ, List.foldl_append]
  exact TbOk.steps hs _ (TbOk.rows hs k) fun c hc => (mem_shoots.1 hc).1
set_option maxHeartbeats 16000000 in
theorem c_table {A : CrA} {s : Cr} {pc pm pk : Nat} {M : Mem} (hpl : PlM M A s pc pm pk) (hs : CrOk s) :
  CallOk Tryz.prog 25 [planv pc pk] M (fun v M' => Keep (fun i => i = pm ∨ i = pk) M M' /\ KnM M' s pm /\ KcM M' s pk /\ ∃ iT, v = .slice (some (iT, 0)) (tabF s).length true 1 /\ M.next <= iT /\ At M' iT (.cells true ((tabF s).flatMap intz) 3)) := by
 have hn5 := hs.n5
 have hn1 := hs.n1
 have hcell := hpl.ch.cells
 have hpc := hcell.2
 have hpm := hpl.ch.known.lt
 have hpk := hpl.kc.lt
 have hp2 : 2 ^ s.lines.length <= 32 := Nat.pow_le_pow_right (n := 2) (by omega) hn5
 have hsb := shl_one_bd (k := s.lines.length) (by omega)
 have hN : 2 * s.lines.length * 2 ^ s.lines.length <= 10 * 32 := Nat.mul_le_mul (by omega) hp2
 have hsh := shl_tab s.lines.length
 refine call_in kq25 rfl ?_
 dsimp only [xq25, qm, qf, ql, qL, qi, qb, qe, qc, qa, qn, qB, qC, qS, qo, qk, qK, qq, qZ, qN, zipE, Nat.reduceAdd]
 (repeat' first|with_reducible intro _|refine sv ?_|refine sc ?_ ?_<;>(intro h;try exact sz h)|refine sg ?_ ?_<;>(intro h;first|exact sz h|refine sy h ?_)|exact sq|fail)
 rename_i n1 M1 hn1' e1 e2
 refine xw_know (t := 20) (v' := I ((2 * s.lines.length * 2 ^ s.lines.length : Nat) : Int)) rfl (by rw [<- hsh]) ?_
 refine x_gen (by exact gd) (xs_mksl rfl rfl (Nat.le_refl _) (by omega) (by omega)) ?_
 have hnT : New M1 M1.next (.cells true (rep (2 * s.lines.length * 2 ^ s.lines.length) [I 0]) 3) (M1.push (.cells true (rep (2 * s.lines.length * 2 ^ s.lines.length) [I 0]) 3)) := ⟨rfl, rfl⟩
 generalize hM2 : M1.push (.cells true (rep (2 * s.lines.length * 2 ^ s.lines.length) [I 0]) 3) = M2 at hnT ⊢
 have e3 := hnT.next
 generalize hiT : M1.next = iT at hnT e3 ⊢
 rw [rep_int] at hnT
 generalize hNN : 2 * s.lines.length * 2 ^ s.lines.length = NN at *
 refine xw_know (t := 21) (v' := .slice (some (iT, 0)) NN true 1) rfl (by simp) ?_
 (repeat' first|with_reducible intro _|refine sv ?_|refine sc ?_ ?_<;>(intro h;try exact sz h)|refine sg ?_ ?_<;>(intro h;first|exact sz h|refine sy h ?_)|exact sq|fail)
 rename_i n4 M3 hn4 e4 e5 M4 hu4 e6 a4
 have b1 : At M4 n1 (.cells true [.ptr (some (pc, 0)), .map (some pk)] 77) := xm
 have bT : At M4 iT (.cells true ((List.replicate NN (0 : Int)).flatMap intz) 3) := xm
 have hg4 : Grow M M4 := xg
 have hg4le := hg4.le
 refine w_loop_ind (fun n E ms M' => ∃ (k : Nat) (t : List Int), n = NN - k /\ k <= NN /\ ms = [] /\ Has E [(1, .ptr (some (n1, 0))), (3, I s.lines.length), (4, .ptr (some (n4, 0))), (23, I NN), (24, I k)] /\ Keep (fun i => i = iT) M4 M' /\ t.length = NN /\ (∀ i (hi : i < t.length), i < k -> t[i] = -1) /\ At M' iT (.cells true (t.flatMap intz) 3)) ?_ NN _ _ _
  ⟨0, List.replicate NN 0, by omega, by omega, rfl, .cons rfl (.cons rfl (.cons rfl (.cons rfl (.cons rfl .nil)))), Keep.refl _ _, List.length_replicate .., fun i _ h => absurd h (Nat.not_lt_zero _), bT⟩
 rintro n E ms M5 ⟨kk, t, rfl, hk, rfl, hE, hk5, htl, hall, aT⟩
 refine w_has hE ?_
 have c4 : At M5 n4 (.cells true [.slice (some (iT, 0)) NN true 1] 46) := a4.keep hk5 (by omega)
 have hTl := aT.2
 have hle5 := hk5.le
 by_cases hlast : kk = NN
 rotate_left
 ·have hlt : kk < NN := by omega
  (repeat' first|with_reducible intro _|refine sv ?_|refine sc ?_ ?_<;>(intro h;try exact sz h)|refine sg ?_ ?_<;>(intro h;first|exact sz h|refine sy h ?_)|exact sq|fail)
  refine x_st (by exact gd) rfl rfl aT rfl rfl (cs' := (t.set kk (-1)).flatMap intz) (by rw [show 0 + kk * 1 = kk by omega]; exact setList_int t kk (-1) (by omega)) ?_
  intro M6 hu6 e7 a6
  (repeat' first|with_reducible intro _|refine sv ?_|refine sc ?_ ?_<;>(intro h;try exact sz h)|refine sg ?_ ?_<;>(intro h;first|exact sz h|refine sy h ?_)|exact sq|fail)
  refine k_step (NN - (kk + 1)) (by omega) ⟨kk + 1, t.set kk (-1), rfl, by omega, rfl, .cons rfl (.cons rfl (.cons rfl (.cons rfl (.cons rfl .nil)))), hk5.upd hu6 (.inl rfl), by rw [List.length_set]; exact htl, fun i hi h => ?_, a6⟩
  rw [List.getElem_set]
  split
  ·rfl
  ·exact hall i (by rw [List.length_set] at hi; exact hi) (by omega)
 subst hlast
 obtain rfl : t = tab0 s := by
  unfold tab0
  rw [hNN]
  exact List.eq_replicate_iff.2 ⟨htl, fun v hv => by
   obtain ⟨i, hi, rfl⟩ := List.getElem_of_mem hv
   exact hall i hi (by omega)⟩
 have c1 := b1.keep hk5 (by omega)
 have hK5 : Keep (fun i => i = pm ∨ i = pk) M M5 := (hg4.to_keep _).trans hk5 (fun i hi => .inr (by omega))
 have hkn5 : KnM M5 s pm := (hpl.ch.known.at hg4.le (hg4.old _ hpm)).at hk5.le (hk5.old _ (by omega) (by omega))
 have hkc5 : KcM M5 s pk := (hpl.kc.at hg4.le (hg4.old _ hpk)).at hk5.le (hk5.old _ (by omega) (by omega))
 have hMi : M.next <= iT := by omega
 clear hall hE
 (repeat' first|with_reducible intro _|refine sv ?_|refine sc ?_ ?_<;>(intro h;try exact sz h)|refine sg ?_ ?_<;>(intro h;first|exact sz h|refine sy h ?_)|exact sq|fail)
 refine w_loop_ind (fun n E ms M' => ∃ k : Nat, n = 2 ^ s.lines.length - k /\ k <= 2 ^ s.lines.length /\ ms.Nodup /\ (∀ d ∈ ms, At M' d .defr /\ M5.next <= d) /\ Has E [(1, .ptr (some (n1, 0))), (3, I s.lines.length), (4, .ptr (some (n4, 0))), (32, I (2 ^ s.lines.length : Nat)), (33, I k)] /\ Keep (fun i => i = pm ∨ i = pk) M M' /\ KnM M' s pm /\ KcM M' s pk /\ M5.next <= M'.next /\
   At M' n1 (.cells true [.ptr (some (pc, 0)), .map (some pk)] 77) /\ At M' n4 (.cells true [.slice (some (iT, 0)) kk true 1] 46) /\ At M' iT (.cells true (((List.range k).foldl (tabSet s) (tab0 s)).flatMap intz) 3)) ?_ (2 ^ s.lines.length) _ _ _
  ⟨0, (Nat.sub_zero _).symm, Nat.zero_le _, List.nodup_nil, fun d hd => (by cases hd), .cons rfl (.cons rfl (.cons rfl (.cons (by rw [<- shl_one]; rfl) (.cons rfl .nil)))), hK5, hkn5, hkc5, Nat.le_refl _, c1, c4, aT⟩
 rintro n E ms M6 ⟨k, rfl, hkl, hnd, hms, hE, hK6, hkn6, hkc6, hle6, d1, d4, dT⟩
 have hTb := TbOk.rows hs k
 refine w_has hE ?_
 by_cases hlast : k = 2 ^ s.lines.length
 ·subst hlast
  (repeat' first|with_reducible intro _|refine sv ?_|refine sc ?_ ?_<;>(intro h;try exact sz h)|refine sg ?_ ?_<;>(intro h;first|exact sz h|refine sy h ?_)|exact sq|fail)
  refine k_fun_end (.inr rfl) hnd (fun d hd => (hms d hd).1) fun M9 hm => ?_
  have hdi : ∀ d ∈ ms, M5.next <= d := fun d hd => (hms d hd).2
  have hkm : Keep (fun i => M5.next <= i) M6 M9 := (Keep.refl _ M6).unmark hm (fun d hd => .inl (hdi d hd))
  have hlen9 : (tabF s).length = kk := by rw [tab_len]; exact hNN
  refine ⟨_, .tmp rfl .nil, hK6.trans hkm (fun i hi => .inr (by omega)), hkn6.at hkm.le (hkm.old _ hkn6.lt (by omega)), hkc6.at hkm.le (hkm.old _ hkc6.lt (by omega)), iT, by rw [hlen9]; rfl, hMi, dT.keep hkm (by omega)⟩
 have hlt : k < 2 ^ s.lines.length := by omega
 have l1 := d1.2
 have l4 := d4.2
 have lT := dT.2
 (repeat' first|with_reducible intro _|refine sv ?_|refine sc ?_ ?_<;>(intro h;try exact sz h)|refine sg ?_ ?_<;>(intro h;first|exact sz h|refine sy h ?_)|exact sq|fail)
 rename_i n6 M7 hn6 e7 e8 M8 hu8 e9 a6
 have hg8 : Grow M6 M8 := xg
 refine x_call (by exact gd) rfl rfl (show AppOk Tryz.prog _ _ M8 _ from c_shoots (pc := pc) (pk := pk) (set := (k : Int)) M8) ?_
 rintro w M9 ⟨np2, ns2, rfl, hg9, hp9, hs9, a9, b9⟩
 have hle9 := hg9.le
 have q1 := a9.2
 have q2 := b9.2
 (repeat' first|with_reducible intro _|refine sv ?_|refine sc ?_ ?_<;>(intro h;try exact sz h)|refine sg ?_ ?_<;>(intro h;first|exact sz h|refine sy h ?_)|exact sq|fail)
 apply w_rfun
 exact rfl
 intro lb d l M10 M11 hlb hd e10 e11 hl e12 e13
 have hg11 : Grow M6 M11 := ((hg8.trans hg9).new hd).new hl
 have hle11 := hg11.le
 have hg911 : Grow M9 M11 := hd.grow.trans hl.grow
 have hK11 := hK6.grow hg11
 have hch11 := hpl.chc hK11
 have hkn11 := hkn6.at hg11.le (hg11.old _ hkn6.lt)
 have hkc11 := hkc6.at hg11.le (hg11.old _ hkc6.lt)
 have hpm6 := hkn6.lt
 have hpk6 := hkc6.lt
 have hy := y_shoots (A := A) (s := s) (pc := pc) (pm := pm) (pk := pk) (np := np2) (ns := ns2) (set := k) (M0 := M11) hch11.cells (a9.grow hg911) (b9.grow hg911) hn5 (by omega)
 have hn6M : M6.next <= n6 := by omega
 have hn6l : n6 < l := by omega
 have hdmem : ∀ d' ∈ d :: ms, At M11 d' .defr /\ M5.next <= d' /\ d' < l := fun d' hd' => by
  rcases List.mem_cons.1 hd' with rfl | hd'
  ·exact ⟨At.new_old hl (At.new_same hd), by omega, by omega⟩
  ·obtain ⟨h1, h2⟩ := hms d' hd'
   exact ⟨h1.grow hg11, h2, by have := h1.2; omega⟩
 have hnd' : (d :: ms).Nodup := List.nodup_cons.2 ⟨fun h => by have := (hms d h).1.2; omega, hnd⟩
 have e1' : At M11 n1 (.cells true [.ptr (some (pc, 0)), .map (some pk)] 77) := d1.grow hg11
 have e4' : At M11 n4 (.cells true [.slice (some (iT, 0)) kk true 1] 46) := d4.grow hg11
 have e6' : At M11 n6 (.cells true [I k] 3) := (a6.grow hg9).grow hg911
 refine (hy l (fun i => i = pm ∨ i = pk ∨ i = iT ∨ i = l) (fun dn T M' => Keep (fun i => i = pm ∨ i = pk) M M' /\ KnM M' s pm /\ KcM M' s pk /\ At M' iT (.cells true ((dn.foldl (tabStep s k) ((List.range k).foldl (tabSet s) (tab0 s))).flatMap intz) 3) /\ At M' n1 (.cells true [.ptr (some (pc, 0)), .map (some pk)] 77) /\
   At M' n4 (.cells true [.slice (some (iT, 0)) kk true 1] 46) /\ At M' n6 (.cells true [I k] 3) /\ At M' l (lb .ready none) /\ ∀ d' ∈ d :: ms, At M' d' .defr) (fun _ _ => False) ⟨?_, ?_, fun T M M' h => h.elim, ?_⟩ ?_ ⟨hK11, hkn11, hkc11, dT.grow hg11, e1', e4', e6', At.new_same hl, fun d' hd' => (hdmem d' hd').1⟩).mono ?_
 ·rintro i (rfl | rfl | rfl | rfl) <;> omega
 ·rintro dn T Mx My ⟨h1, h2, h3, h4, h5, h6, h7, h8, h9⟩ hle hg
  have hgo : ∀ i, i < M11.next -> My.get i = Mx.get i := fun i hi => hg i (.inl ⟨hi, id⟩)
  exact ⟨⟨Nat.le_trans h1.le hle, fun i hi hf => by rw [hgo i (by omega)]; exact h1.old i hi hf⟩, h2.at hle (hgo _ (by omega)), h3.at hle (hgo _ (by omega)), h4.same hle (hgo _ (by omega)), h5.same hle (hgo _ (by omega)), h6.same hle (hgo _ (by omega)), h7.same hle (hgo _ (by omega)), h8.same hle (hgo _ (by omega)), fun d' hd' => (h9 d' hd').same hle (hgo _ (by have := (hdmem d' hd').2.2; omega))⟩
 ·rintro dn c rest v U T Mx hits ⟨rfl, hU⟩ hN0 hT hUd ⟨h1, h2, h3, h4, h5, h6, h7, h8, h9⟩
  have hcm := mem_shoots.1 (show c ∈ shootsL s k by rw [hits]; simp)
  have hsub : ∀ y ∈ dn, y < 2 * s.lines.length := fun y hy => (mem_shoots.1 (show y ∈ shootsL s k by rw [hits]; simp [hy])).1
  have hTx := TbOk.steps hs (set := k) dn hTb hsub
  have hfold : (dn ++ [c]).foldl (tabStep s k) ((List.range k).foldl (tabSet s) (tab0 s)) = tabStep s k (dn.foldl (tabStep s k) ((List.range k).foldl (tabSet s) (tab0 s))) c := by rw [List.foldl_append]; rfl
  rw [hfold]
  generalize dn.foldl (tabStep s k) ((List.range k).foldl (tabSet s) (tab0 s)) = tx at *
  have hlx : tx.length = kk := by rw [hTx.1]; exact hNN
  refine round_in hlb h8 rfl ?_
  dsimp only [zipP]
  (repeat' first|with_reducible intro _|refine sv ?_|refine sc ?_ ?_<;>(intro h;try exact sz h)|refine sg ?_ ?_<;>(intro h;first|exact sz h|refine sy h ?_)|exact sq|fail)
  rename_i n7 MA hnA e14 e15 MX huX e16 aX MC huC e17 aC
  have hle1 := h1.le
  have hlM := h8.2
  have hkC : Keep (fun i => i = l) Mx MC := xk
  have hleC := hkC.le
  refine x_call (by exact gd) rfl rfl (show AppOk Tryz.prog _ _ MC _ from c_earliest (pc := pc) (pk := pk) (set := k) (c := c) (aT := some (iT, 0)) (n := kk) (fT := true) MC) ?_
  rintro w MD ⟨nq, nt, ne, nx, rfl, hgD, bq, be, bx, bt⟩
  have hleD := hgD.le
  have hkD := hkC.grow hgD
  have hkm := h2.lt
  have hkk' := h3.lt
  have hplD : PlM MD A s pc pm pk := hpl.keepm (h1.trans hkD (fun i hi => .inr (by omega))) (h2.at hkD.le (hkD.old _ hkm (by omega))) (h3.at hkD.le (hkD.old _ hkk' (by omega)))
  have hTD := h4.keep hkD (by omega)
  have a7D : At MD n7 (.cells true [I (c / 2 : Nat), I (c % 2 : Nat)] 45) := At.grow hgD (xm)
  have hlD : At MD l (lb .busy none) := aC.grow hgD
  have h1D := h5.keep hkD (by omega)
  have h4D := h6.keep hkD (by omega)
  have h6D := h7.keep hkD (by omega)
  have hdD : ∀ d' ∈ d :: ms, At MD d' .defr := fun d' hd' => (h9 d' hd').keep hkD (by have := (hdmem d' hd').2.2; omega)
  refine x_call (by exact gd) rfl rfl (show AppOk Tryz.prog _ _ MD _ from c_least (fT := true) hplD (rd_int hTD) hs hcm.1 hlt hTx.1 (fun v hv => by have := hTx.2 v hv; omega) bq be bx (by rw [hlx]; exact bt)) ?_
  rintro w ME ⟨hkE, ⟨hknE, hkcE⟩, rfl⟩
  have hleE := hkE.le
  have hkxE : Keep (fun i => i = pm ∨ i = pk ∨ i = iT ∨ i = l) Mx ME := (hkD.weaken (fun i hi => .inr (.inr (.inr hi)))).trans hkE (fun i hi => .inl (hi.elim .inl (fun h => .inr (.inl h))))
  have hTE := hTD.keep hkE (by omega)
  have a7E := a7D.keep hkE (by omega)
  have hlE := hlD.keep hkE (by omega)
  have h1E := h1D.keep hkE (by omega)
  have h4E := h4D.keep hkE (by omega)
  have h6E := h6D.keep hkE (by omega)
  have hdE : ∀ d' ∈ d :: ms, At ME d' .defr := fun d' hd' => (hdD d' hd').keep hkE (by have := (hdmem d' hd').2.1; omega)
  have hpmE := hknE.lt
  have hpkE := hkcE.lt
  have hdl : ∀ d' ∈ d :: ms, M5.next <= d' /\ d' < l := fun d' hd' => (hdmem d' hd').2
  have hfin : ∀ {MF MG : Mem} (ty : List Int), Keep (fun i => i = iT) ME MF -> At MF iT (.cells true (ty.flatMap intz) 3) -> Upd MF l (lb .ready none) MG -> At MG l (lb .ready none) -> ty = tabStep s k tx c ->
    Keep (fun i => (i = pm ∨ i = pk ∨ i = iT ∨ i = l) ∨ T i ∨ U i) Mx MG /\ ∃ T' : Nat -> Prop, (∀ i, T' i -> (T i ∨ U i ∨ Mx.next <= i) /\ i < MG.next) /\ ((LV.bool true = .bool true /\ Keep (fun i => i = pm ∨ i = pk) M MG /\ KnM MG s pm /\ KcM MG s pk /\ At MG iT (.cells true ((tabStep s k tx c).flatMap intz) 3) /\ At MG n1 (.cells true [.ptr (some (pc, 0)), .map (some pk)] 77) /\
     At MG n4 (.cells true [.slice (some (iT, 0)) kk true 1] 46) /\ At MG n6 (.cells true [I k] 3) /\ At MG l (lb .ready none) /\ ∀ d' ∈ d :: ms, At MG d' .defr) ∨ (LV.bool true = .bool false /\ False)) := by
   intro MF MG ty hkF aF huG aG hty
   subst hty
   have hkG : Keep (fun i => i = iT ∨ i = l) ME MG := (hkF.weaken (fun i hi => .inl hi)).upd huG (.inl (.inr rfl))
   have hkxG : Keep (fun i => i = pm ∨ i = pk ∨ i = iT ∨ i = l) Mx MG := hkxE.trans hkG (fun i hi => .inl (hi.elim (fun h => .inr (.inr (.inl h))) (fun h => .inr (.inr (.inr h)))))
   exact ⟨hkxG.weaken (fun i hi => .inl hi), fun _ => False, fun i hi => hi.elim, .inl ⟨rfl, h1.trans hkxG (fun i hi => by
    rcases hi with hi | hi | hi | hi
    ·exact .inl (.inl hi)
    ·exact .inl (.inr hi)
    ·exact .inr (by omega)
    ·exact .inr (by omega)), hknE.at hkG.le (hkG.old _ hpmE (by omega)), hkcE.at hkG.le (hkG.old _ hpkE (by omega)), aF.upd_ne huG (by omega), h1E.keep hkG (by omega), h4E.keep hkG (by omega), h6E.keep hkG (by omega), aG, fun d' hd' => (hdE d' hd').keep hkG (by have := hdl d' hd'; omega)⟩⟩
  cases hm : minL (earL s tx k c) with
  | none =>
   (repeat' first|with_reducible intro _|refine sv ?_|refine sc ?_ ?_<;>(intro h;try exact sz h)|refine sg ?_ ?_<;>(intro h;first|exact sz h|refine sy h ?_)|exact sq|fail)
   rename_i MG huG e18 aG
   exact hfin tx (Keep.refl _ _) hTE huG aG (by unfold tabStep; rw [hm])
  | some e =>
   have hchE : ∀ M', Grow ME M' -> ChC M' A s pc pm := fun M' hg => (hpl.chc (h1.trans hkxE (fun i hi => by
    rcases hi with hi | hi | hi | hi
    ·exact .inl (.inl hi)
    ·exact .inl (.inr hi)
    ·exact .inr (by omega)
    ·exact .inr (by omega)))).grow hg
   have hplc := fun M' (hg : Grow ME M') => c_placeD (pk := pk) (set := k) (c := c) (hchE M' hg) hn5 (by omega) (by omega)
   have hidx : plN s k c < tx.length := by rw [hTx.1]; exact pl_lt hlt hcm.1
   have hidx2 : plN s k c < kk := by omega
   (repeat' first|with_reducible intro _|refine sv ?_|refine sc ?_ ?_<;>(intro h;try exact sz h)|(with_reducible first|apply x_pure|apply d_pure|apply d_pure0);exact gd;exact rfl;exact rfl;exact hplc _ (xg)|refine sg ?_ ?_<;>(intro h;first|exact sz h|refine sy h ?_)|exact sq|fail)
   rename_i MF0 hgF e18
   refine d_st (by exact gd) rfl rfl (hTE.grow hgF) rfl rfl (cs' := (tx.set (plN s k c) e).flatMap intz) (by rw [show 0 + plN s k c * 1 = plN s k c by omega]; exact setList_int tx _ e hidx) ?_
   intro MF huF e19 aF
   (repeat' first|with_reducible intro _|refine sv ?_|refine sc ?_ ?_<;>(intro h;try exact sz h)|refine sg ?_ ?_<;>(intro h;first|exact sz h|refine sy h ?_)|exact sq|fail)
   rename_i MG huG e20 aG
   exact hfin (tx.set (plN s k c) e) ((hgF.to_keep _).upd huF (.inl rfl)) aF huG aG (by unfold tabStep; rw [hm])
 ·rintro i (rfl | rfl | rfl) (hi | hi | hi | hi)
  all_goals first
   | omega
   |(exact absurd hi hpl.ch.ne)
   |(exact absurd hi hpl.nc)
 ·rintro v M12 ⟨hk12, _, T12, hT12, ⟨h1, h2, h3, h4, h5, h6, h7, h8, h9⟩ | h⟩
  rotate_left
  ·exact h.elim
  have hle12 := hk12.le
  have hkm := h2.lt
  have hkk' := h3.lt
  refine k_iter h8 (by simp) fun M13 hu13 e14 a13 => ?_
  have hdl : ∀ d' ∈ d :: ms, M5.next <= d' /\ d' < l := fun d' hd' => (hdmem d' hd').2
  have hk13 : Keep (fun i => i = l) M12 M13 := (Keep.refl _ _).upd hu13 (.inl rfl)
  (repeat' first|with_reducible intro _|refine sv ?_|refine sc ?_ ?_<;>(intro h;try exact sz h)|refine sg ?_ ?_<;>(intro h;first|exact sz h|refine sy h ?_)|exact sq|fail)
  refine k_step (2 ^ s.lines.length - (k + 1)) (by omega) ⟨k + 1, rfl, by omega, hnd', fun d' hd' => ⟨(h9 d' hd').keep hk13 (by have := hdl d' hd'; omega), (hdl d' hd').1⟩, .cons rfl (.cons rfl (.cons rfl (.cons rfl (.cons rfl .nil)))), h1.trans hk13 (fun i hi => .inr (by omega)), h2.at hk13.le (hk13.old _ hkm (by omega)), h3.at hk13.le (hk13.old _ hkk' (by omega)), by omega, h5.keep hk13 (by omega), h6.keep hk13 (by omega), ?_⟩
  rw [List.range_succ, List.foldl_append]
  exact h4.keep hk13 (by omega)
end Go.Proofs.YtifcpjfpjkoicaaGreat.C
end
