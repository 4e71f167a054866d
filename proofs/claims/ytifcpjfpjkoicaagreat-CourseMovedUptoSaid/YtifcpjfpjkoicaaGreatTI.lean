/-
 Part of the proof of CourseMovedUpto: what functions of the program and of the statement come to, walked by the rules. No condition beyond those in each theorem.
-/
import Derived.Test.YtifcpjfpjkoicaaGreatTH
section
open Go PvL Go.Proofs
set_option linter.unusedSimpArgs false
set_option linter.unusedVariables false
namespace Go.Proofs.YtifcpjfpjkoicaaGreat.C
theorem bef_ok {s : Cr} (hs : CrOk s) {tab : List Int} {set c : Nat} (htb : ∀ v ∈ tab, -1 <= v /\ v <= 5000000) {x : Rch} (hx : x ∈ befL s tab set c) : PoseOk x.1 /\ 0 <= x.2 /\ x.2 <= 5000000 := by
 unfold befL at hx
 split at hx
 ·obtain rfl := List.mem_singleton.1 hx
  exact ⟨hs.start, Int.le_refl 0, show (0 : Int) <= 5000000 by decide⟩
 ·obtain ⟨y, hy, h⟩ := List.mem_filterMap.1 hx
  have hy2 := List.mem_range.1 hy
  split at h
  ·rename_i hne
   cases h
   refine ⟨endC_ok hs (div_lt hy2), ?_⟩
   show 0 <= tab.getD _ 0 /\ tab.getD _ 0 <= 5000000
   rcases Nat.lt_or_ge (plN s (restN set (c / 2)) y) tab.length with h1 | h1
   ·rw [getD_eq h1] at hne ⊢
    have := htb _ (List.getElem_mem h1)
    omega
   ·rw [List.getD_eq_getElem?_getD, List.getElem?_eq_none h1] at *
    exact ⟨by decide, by decide⟩
  ·cases h
abbrev befG (ne nx nq nt : Nat) : LV := .func (.func 77) [] [.ptr (some (ne, 0)), .ptr (some (nx, 0)), .ptr (some (nq, 0)), .ptr (some (nt, 0))]
theorem c_before2 {pc pk set c : Nat} {aT : Option (Nat × Nat)} {n : Nat} {fT : Bool} (M : Mem) : CallOk Tryz.prog 61 [planv pc pk, .slice aT n fT 1, I set, shC c] M (fun v M' => ∃ ne nx nq nt, v = befG ne nx nq nt /\ Grow M M' /\ (M.next <= ne /\ M.next <= nx /\ M.next <= nq /\ M.next <= nt) /\ At M' nq (.cells true [.ptr (some (pc, 0)), .map (some pk)] 77) /\ At M' ne (.cells true [I set] 3) /\
  At M' nx (.cells true [I (c / 2 : Nat), I (c % 2 : Nat)] 45) /\ At M' nt (.cells true [.slice aT n fT 1] 46)) := by
 refine call_in kq61 rfl ?_
 dsimp only [xq61, qm, qb, qo, qq, zipE, Nat.reduceAdd]
 (repeat' first|with_reducible intro _|refine sv ?_|refine sc ?_ ?_<;>(intro h;try exact sz h)|refine sg ?_ ?_<;>(intro h;first|exact sz h|refine sy h ?_)|exact sq|fail)
 (refine kf ?_)
 exact ⟨_, _, _, _, rfl, xg, ⟨by omega, by omega, by omega, by omega⟩, xm, xm, xm, xm⟩
set_option maxHeartbeats 8000000 in
theorem y_earliest {MB M0 : Mem} {A : CrA} {s : Cr} {pc pm pk nq ne nx nt set c : Nat} {aT : Option (Nat × Nat)} {fT : Bool} {tab : List Int} (hpl : PlM MB A s pc pm pk) (htab : SlA 1 intz MB aT tab) (hK : Keep (fun i => i = pm ∨ i = pk) MB M0) (hkn : KnM M0 s pm) (hkc : KcM M0 s pk)
  (hq0 : At M0 nq (.cells true [.ptr (some (pc, 0)), .map (some pk)] 77)) (he0 : At M0 ne (.cells true [I set] 3)) (hx0 : At M0 nx (.cells true [I (c / 2 : Nat), I (c % 2 : Nat)] 45)) (ht0 : At M0 nt (.cells true [.slice aT tab.length fT 1] 46))
  (hs : CrOk s) (hc : c < 2 * s.lines.length) (hset : set < 2 ^ s.lines.length) (htl : tab.length = 2 * s.lines.length * 2 ^ s.lines.length) (htb : ∀ v ∈ tab, -1 <= v /\ v <= 5000000) :
  YieldsS Tryz.prog 60 [] [.ptr (some (nq, 0)), .ptr (some (nt, 0)), .ptr (some (ne, 0)), .ptr (some (nx, 0))] (fun i => i < MB.next ∨ i = nq ∨ i = nt ∨ i = ne ∨ i = nx) (fun i => i = pm ∨ i = pk) (fun M' => KnM M' s pm /\ KcM M' s pk) (earL s tab set c) (PlainR I) M0 := by
 intro l AA II DD tk hS hI0
 have l1 := hq0.2
 have l2' := he0.2
 have l3 := hx0.2
 have l4 := ht0.2
 have hAlt := tk.lt
 have hleK := hK.le
 have hpm0 := hpl.ch.known.lt
 have hpk0 := hpl.kc.lt
 have hpm1 := hkn.lt
 have hpk1 := hkc.lt
 have hAge : ∀ i, AA i -> MB.next <= i := fun i hi => by
  rcases Nat.lt_or_ge i MB.next with h | h
  ·exact absurd hi (hS i (.inl h))
  ·exact h
 have hqm := hkn.ne_at hq0
 have hqk := hkc.ne_at hq0
 have hxm := hkn.ne_at hx0
 have hxk := hkc.ne_at hx0
 refine call_in kq60 rfl ?_
 dsimp only [xq60, qm, ql, qL, qb, qe, qc, qg, qS, qo, qq, qZ, zipE, Nat.reduceAdd, List.nil_append, List.cons_append]
 (repeat' first|with_reducible intro _|refine sv ?_|refine sc ?_ ?_<;>(intro h;try exact sz h)|refine sg ?_ ?_<;>(intro h;first|exact sz h|refine sy h ?_)|exact sq|fail)
 rename_i ny M1 hny e1 e2
 refine x_call (by exact gd) rfl rfl (show AppOk Tryz.prog _ _ M1 _ from c_before2 (pc := pc) (pk := pk) (set := set) (c := c) (aT := aT) (n := tab.length) (fT := fT) M1) ?_
 rintro w M4 ⟨ne2, nx2, nq2, nt2, rfl, hg4, ⟨g1, g2, g3, g4⟩, aq, ae, ax, at4⟩
 have hle4 := hg4.le
 have q1 := aq.2
 have q2 := ae.2
 have q3 := ax.2
 have q4 := at4.2
 (repeat' first|with_reducible intro _|refine sv ?_|refine sc ?_ ?_<;>(intro h;try exact sz h)|refine sg ?_ ?_<;>(intro h;first|exact sz h|refine sy h ?_)|exact sq|fail)
 apply w_rfun
 exact rfl
 intro lb d l2 M5 M6 hlb hd e7 e8 hl e9 e10
 have hg46 : Grow M4 M6 := hd.grow.trans hl.grow
 have hg06 : Grow M0 M6 := (hny.grow.trans hg4).trans hg46
 have hle06 := hg06.le
 have hy := y_before (M0 := M6) hpl htab (hK.grow hg06) (aq.grow hg46) (ae.grow hg46) (ax.grow hg46) (at4.grow hg46) hs hc hset htl htb
 have by6 : At M6 ny (.cells true [.func (.yield l) [] []] 112) := At.grow hg46 (At.grow hg4 (At.new_same hny))
 have bd6 : At M6 d .defr := At.new_old hl (At.new_same hd)
 have hII6 : II [] (fun _ => False) M6 := tk.stab _ _ _ _ hI0 hle06 fun i hi => hg06.old i (by rcases hi with hi | hi; omega; exact hi.elim)
 have hear : earL s tab set c = (befL s tab set c).filterMap fun x => (goF s x c).map (·.2) := rfl
 refine (hy l2 (fun i => AA i ∨ i = pm ∨ i = pk ∨ i = l2) (fun dn T M => Keep (fun i => AA i ∨ i = pm ∨ i = pk) M0 M /\ KnM M s pm /\ KcM M s pk /\ (∀ i, T i -> M0.next <= i /\ i < M.next) /\ II (dn.filterMap fun x => (goF s x c).map (·.2)) T M /\ At M ny (.cells true [.func (.yield l) [] []] 112) /\ At M l2 (lb .ready none) /\ At M d .defr)
  (fun T M => Keep (fun i => AA i ∨ i = pm ∨ i = pk) M0 M /\ KnM M s pm /\ KcM M s pk /\ (∀ i, T i -> M0.next <= i /\ i < M.next) /\ DD T M /\ At M l2 (lb .done (some .ret)) /\ At M d .defr) ⟨?_, ?_, ?_, ?_⟩ ?_ ⟨hg06.to_keep _, hkn.at hg06.le (hg06.old _ hkn.lt), hkc.at hg06.le (hg06.old _ hkc.lt), fun _ h => h.elim, hII6, by6, At.new_same hl, bd6⟩).mono ?_
 ·rintro i (hi | rfl | rfl | rfl)
  ·have := hAlt i hi; omega
  ·omega
  ·omega
  ·omega
 ·rintro dn T M M' ⟨h1, k1, k2, h2, h3, h4, h6, h7⟩ hle hg
  have hgo : ∀ i, i < M6.next -> M'.get i = M.get i := fun i hi => hg i (.inl ⟨hi, id⟩)
  exact ⟨⟨Nat.le_trans h1.le hle, fun i hi hf => by rw [hgo i (by omega)]; exact h1.old i hi hf⟩, k1.at hle (hgo _ (by omega)), k2.at hle (hgo _ (by omega)), fun i hi => by have := h2 i hi; omega, tk.stab _ _ _ _ h3 hle (fun i hi => by
   rcases hi with hi | hi
   ·exact hgo i (by omega)
   ·exact hg i (.inr hi)), h4.same hle (hgo _ by6.2), h6.same hle (hgo _ (by omega)), h7.same hle (hgo _ bd6.2)⟩
 ·rintro T M M' ⟨h1, k1, k2, h2, h3, h4, h5⟩ hle hg
  have hgo : ∀ i, i < M6.next -> M'.get i = M.get i := fun i hi => hg i (.inl ⟨hi, id⟩)
  exact ⟨⟨Nat.le_trans h1.le hle, fun i hi hf => by rw [hgo i (by omega)]; exact h1.old i hi hf⟩, k1.at hle (hgo _ (by omega)), k2.at hle (hgo _ (by omega)), fun i hi => by have := h2 i hi; omega, tk.stabD _ _ _ h3 hle (fun i hi => by
   rcases hi with hi | hi
   ·exact hgo i (by omega)
   ·exact hg i (.inr hi)), h4.same hle (hgo _ (by omega)), h5.same hle (hgo _ bd6.2)⟩
 ·rintro dn x rest v U T M hits ⟨rfl, hU⟩ hN hT hUd ⟨h1, k1, k2, h2, h3, h4, h6, h7⟩
  have hle1 := h1.le
  have hKB : Keep (fun i => i = pm ∨ i = pk) MB M := hK.trans h1 (fun i hi => by
   rcases hi with h | h | h
   ·exact .inr (hAge i h)
   ·exact .inl (.inl h)
   ·exact .inl (.inr h))
  have hxok := bef_ok hs htb (x := x) (by rw [hits]; simp)
  have hq1 := hq0.keep h1 (by
   rintro (h | h | h)
   ·exact hS _ (.inr (.inl rfl)) h
   ·exact hqm h
   ·exact hqk h)
  have hx1 := hx0.keep h1 (by
   rintro (h | h | h)
   ·exact hS _ (.inr (.inr (.inr (.inr rfl)))) h
   ·exact hxm h
   ·exact hxk h)
  have hlq := hq1.2
  have hlx := hx1.2
  have hl2M := h6.2
  have hdM := h7.2
  have hkm := k1.lt
  have hkk := k2.lt
  have hfm : (dn ++ [x]).filterMap (fun x => (goF s x c).map (·.2)) = dn.filterMap (fun x => (goF s x c).map (·.2)) ++ ((goF s x c).map (·.2)).toList := by
   rw [List.filterMap_append]
   congr 1
  have hpl' : ∀ M', Keep (fun i => i = l2) M M' -> PlM M' A s pc pm pk := fun M' hk' => hpl.keepm (hKB.trans hk' (fun i hi => .inr (by omega))) (k1.at hk'.le (hk'.old _ hkm (by omega))) (k2.at hk'.le (hk'.old _ hkk (by omega)))
  rw [hfm]
  refine round_in hlb h6 rfl ?_
  dsimp only [zipP]
  (repeat' first|with_reducible intro _|refine sv ?_|refine sc ?_ ?_<;>(intro h;try exact sz h)|refine sg ?_ ?_<;>(intro h;first|exact sz h|refine sy h ?_)|exact sq|fail)
  rename_i n6 MA hnA e11 e12 MX huX e13 aX MC huC e14 aC
  have hkC : Keep (fun i => i = l2) M MC := xk
  have hleC := hkC.le
  have ax6 : At MC n6 (.cells true (rchc x) 90) := xm
  refine x_call (by exact gd) rfl rfl (show AppOk Tryz.prog _ _ MC _ from c_goes (hpl' MC hkC) hs hxok.1 hxok.2 hc) ?_
  rintro w MG ⟨rfl, hkG, hknG, hkcG⟩
  have hleG := hkG.le
  have hnyG := (h4.keep hkC (by omega)).keep hkG (by omega)
  have hl2G := aC.keep hkG (by omega)
  have hdG := (h7.keep hkC (by omega)).keep hkG (by omega)
  have hkMG : Keep (fun i => i = l2 ∨ i = pm ∨ i = pk) M MG := (hkC.weaken (fun i hi => .inl hi)).trans hkG (fun i hi => .inl (.inr hi))
  have hkmG := hknG.lt
  have hkkG := hkcG.lt
  have hny0 : ny ≠ l2 := by omega
  have hd0 : d ≠ l2 := by omega
  have hl20 : M0.next <= l2 := by omega
  have hsameT : ∀ M', Keep (fun i => i = l2 ∨ i = pm ∨ i = pk) M M' -> II (dn.filterMap fun x => (goF s x c).map (·.2)) T M' := fun M' hk' => tk.stab _ _ _ _ h3 hk'.le (fun i hi => hk'.old i (by
   rcases hi with hi | hi
   ·omega
   ·exact (hT i hi).2) (by
   rcases hi with hi | hi
   ·rintro (h | h | h)
    ·omega
    ·exact hi.2 (.inl h)
    ·exact hi.2 (.inr h)
   ·have := (hT i hi).1; omega))
  cases hgf : goF s x c with
  | none =>
   (repeat' first|with_reducible intro _|refine sv ?_|refine sc ?_ ?_<;>(intro h;try exact sz h)|refine sg ?_ ?_<;>(intro h;first|exact sz h|refine sy h ?_)|exact sq|fail)
   rename_i n7 MH hnH e15 e16 MI huI e17 aI MJ huJ e18 aJ
   have hkJ : Keep (fun i => i = l2 ∨ i = pm ∨ i = pk) M MJ := ((hkMG.new hnH).upd huI (.inr (by omega))).upd huJ (.inl (.inl rfl))
   exact ⟨hkJ.weaken (fun i hi => by rcases hi with h | h | h; exact .inl (.inr (.inr (.inr h))); exact .inl (.inr (.inl h)); exact .inl (.inr (.inr (.inl h)))), T, fun i hi => ⟨.inl hi, by have := hT i hi; have := hkJ.le; omega⟩, .inl ⟨rfl, h1.trans hkJ (fun i hi => by rcases hi with h | h | h; exact .inr (by omega); exact .inl (.inr (.inl h)); exact .inl (.inr (.inr h))),
    hknG.at (by omega) (by rw [upd_get_ne huJ (by omega), upd_get_ne huI (by omega)]; exact hnH.grow.old _ hkmG), hkcG.at (by omega) (by rw [upd_get_ne huJ (by omega), upd_get_ne huI (by omega)]; exact hnH.grow.old _ hkkG), fun i hi => by have := h2 i hi; have := hkJ.le; omega, by show II (_ ++ []) T MJ; rw [List.append_nil]; exact hsameT MJ hkJ, xm, aJ, xm⟩⟩
  | some b =>
   (repeat' first|with_reducible intro _|refine sv ?_|refine sc ?_ ?_<;>(intro h;try exact sz h)|refine sg ?_ ?_<;>(intro h;first|exact sz h|refine sy h ?_)|exact sq|fail)
   rename_i n7 MH hnH e15 e16 MI huI e17 aI
   have hkI : Keep (fun i => i = l2 ∨ i = pm ∨ i = pk) M MI := (hkMG.new hnH).upd huI (.inr (by omega))
   have hits2 : earL s tab set c = (dn.filterMap fun x => (goF s x c).map (·.2)) ++ b.2 :: (rest.filterMap fun x => (goF s x c).map (·.2)) := by rw [hear, hits, List.filterMap_append, List.filterMap_cons, hgf]; rfl
   have hst := tk.step _ _ _ [I b.2] (fun _ => False) T MI hits2 ⟨rfl, fun _ h => h⟩ (by omega) (fun i hi => by have := h2 i hi; omega) (fun _ h => h.elim) (hsameT MI hkI)
   have hl2I : At MI l2 (lb .busy none) := xm
   have hnyI : At MI ny (.cells true [.func (.yield l) [] []] 112) := xm
   have hdI : At MI d .defr := xm
   have hknI : KnM MI s pm := hknG.at (by omega) (by rw [upd_get_ne huI (by omega)]; exact hnH.grow.old _ hkmG)
   have hkcI : KcM MI s pk := hkcG.at (by omega) (by rw [upd_get_ne huI (by omega)]; exact hnH.grow.old _ hkkG)
   refine x_call (by exact gd) rfl rfl (show AppOk Tryz.prog (.func (.yield l) [] []) _ MI _ from hst) ?_
   rintro w MF ⟨hkF, TF, hTF, hres⟩
   have hleF := hkF.le
   have hout : ∀ j, (j < MB.next ∨ (M0.next <= j /\ j < M6.next)) -> ¬ (AA j ∨ T j ∨ False) := fun j hj h => by
    rcases h with h | h | h
    ·have := hAlt _ h; have := hAge _ h; omega
    ·have := (hT _ h).1; omega
    ·exact h
   have aF := hl2I.keep hkF (hout _ (.inr ⟨by omega, by omega⟩))
   have hnyF := hnyI.keep hkF (hout _ (.inr ⟨by omega, by omega⟩))
   have hdF := hdI.keep hkF (hout _ (.inr ⟨by omega, by omega⟩))
   have hknF : KnM MF s pm := hknI.at hleF (hkF.old _ (by omega) (hout _ (.inl hpm0)))
   have hkcF : KcM MF s pk := hkcI.at hleF (hkF.old _ (by omega) (hout _ (.inl hpk0)))
   have hkMF : Keep (fun i => (AA i ∨ i = pm ∨ i = pk ∨ i = l2) ∨ T i ∨ U i) M MF := (hkI.weaken (fun i hi => by rcases hi with h | h | h; exact .inl (.inr (.inr (.inr h))); exact .inl (.inr (.inl h)); exact .inl (.inr (.inr (.inl h))))).trans hkF (fun i hi => by
    rcases hi with hi | hi | hi
    ·exact .inl (.inl (.inl hi))
    ·exact .inl (.inr (.inl hi))
    ·exact hi.elim)
   have hk0F : Keep (fun i => AA i ∨ i = pm ∨ i = pk) M0 MF := (h1.trans hkI (fun i hi => by rcases hi with h | h | h; exact .inr (by omega); exact .inl (.inr (.inl h)); exact .inl (.inr (.inr h)))).trans hkF (fun i hi => by
    rcases hi with hi | hi | hi
    ·exact .inl (.inl hi)
    ·exact .inr (h2 i hi).1
    ·exact hi.elim)
   have hTF' : ∀ i, TF i -> (T i ∨ U i ∨ M.next <= i) /\ i < MF.next := fun i hi => by
    obtain ⟨q1, q2⟩ := hTF i hi
    refine ⟨?_, q2⟩
    rcases q1 with q1 | q1 | q1
    ·exact .inl q1
    ·exact q1.elim
    ·exact .inr (.inr (by omega))
   have hTFl : ∀ i, TF i -> M0.next <= i /\ i ≠ l2 := fun i hi => by
    rcases (hTF i hi).1 with q1 | q1 | q1
    ·have := hT i q1; have := h2 i q1; omega
    ·exact q1.elim
    ·omega
   have hpml : pm ≠ l2 := by omega
   have hpkl : pk ≠ l2 := by omega
   rcases hres with ⟨rfl, hIF⟩ | ⟨rfl, hDF⟩
   ·(repeat' first|with_reducible intro _|refine sv ?_|refine sc ?_ ?_<;>(intro h;try exact sz h)|refine sg ?_ ?_<;>(intro h;first|exact sz h|refine sy h ?_)|exact sq|fail)
    rename_i MJ huJ e18 aJ
    have hGo : ∀ i, i ≠ l2 -> MJ.get i = MF.get i := fun i hi => upd_get_ne huJ hi
    exact ⟨hkMF.upd huJ (.inl (.inl (.inr (.inr (.inr rfl))))), TF, fun i hi => by have := hTF' i hi; rw [e18]; exact this, .inl ⟨rfl, hk0F.upd huJ (.inr hl20), hknF.at (by omega) (hGo _ hpml), hkcF.at (by omega) (hGo _ hpkl), fun i hi => by have := hTFl i hi; have := (hTF' i hi).2; omega, tk.stab _ _ _ _ hIF (by omega) (fun i hi => hGo i (by
     rcases hi with hi | hi
     ·omega
     ·exact (hTFl i hi).2)), hnyF.upd_ne huJ hny0, aJ, hdF.upd_ne huJ hd0⟩⟩
   ·(repeat' first|with_reducible intro _|refine sv ?_|refine sc ?_ ?_<;>(intro h;try exact sz h)|refine sg ?_ ?_<;>(intro h;first|exact sz h|refine sy h ?_)|exact sq|fail)
    rename_i MJ huJ e18 aJ
    have hGo : ∀ i, i ≠ l2 -> MJ.get i = MF.get i := fun i hi => upd_get_ne huJ hi
    exact ⟨hkMF.upd huJ (.inl (.inl (.inr (.inr (.inr rfl))))), TF, fun i hi => by have := hTF' i hi; rw [e18]; exact this, .inr ⟨rfl, hk0F.upd huJ (.inr hl20), hknF.at (by omega) (hGo _ hpml), hkcF.at (by omega) (hGo _ hpkl), fun i hi => by have := hTFl i hi; have := (hTF' i hi).2; omega, tk.stabD _ _ _ hDF (by omega) (fun i hi => hGo i (by
     rcases hi with hi | hi
     ·omega
     ·exact (hTFl i hi).2)), aJ, hdF.upd_ne huJ hd0⟩⟩
 ·rintro i (rfl | rfl | ⟨h1, h2, h3⟩) (hi | hi | hi | hi)
  all_goals first
   |(have := hAlt _ hi; have := hAge _ hi; omega)
   | omega
   | exact h2 hi
   | exact h3 hi
 ·rintro v M7 ⟨hk7, _, T7, hT7, ⟨h1, k1, k2, h2, h3, h4, h6, h7⟩ | ⟨h1, k1, k2, h2, h3, h4, h5⟩⟩
  ·have hle1 := h1.le
   have hkm := k1.lt
   have hkk := k2.lt
   refine k_iter h6 (by simp) fun M8 hu8 e11 a8 => ?_
   (repeat' first|with_reducible intro _|refine sv ?_|refine sc ?_ ?_<;>(intro h;try exact sz h)|refine sg ?_ ?_<;>(intro h;first|exact sz h|refine sy h ?_)|exact sq|fail)
   refine k_fun_end (.inl rfl) (by simp) (fun d' hd' => by obtain rfl := List.mem_singleton.1 hd'; exact xm) fun M9 hm => ?_
   have hk9 : Keep (fun i => i = l2 ∨ i = d) M7 M9 := ((Keep.refl _ M7).upd hu8 (.inl (.inl rfl))).unmark hm (fun d' hd' => by obtain rfl := List.mem_singleton.1 hd'; exact .inl (.inr rfl))
   refine ⟨_, .nil, (h1.trans hk9 (fun i hi => .inr (by omega))), ⟨k1.at hk9.le (hk9.old _ hkm (by omega)), k2.at hk9.le (hk9.old _ hkk (by omega))⟩, T7, fun i hi => ⟨(h2 i hi).1, by have := (h2 i hi).2; have := hk9.le; omega⟩, .inl ?_⟩
   rw [hear]
   exact tk.stab _ _ _ _ h3 hk9.le (fun i hi => hk9.old i (by
    rcases hi with hi | hi
    ·omega
    ·exact (h2 i hi).2) (by
    rcases hi with hi | hi
    ·omega
    ·have := (hT7 i hi).1; omega))
  ·have hle1 := h1.le
   have hkm := k1.lt
   have hkk := k2.lt
   refine k_iter_ret h4 (by simp) fun M8 hu8 e11 a8 => ?_
   (repeat' first|with_reducible intro _|refine sv ?_|refine sc ?_ ?_<;>(intro h;try exact sz h)|refine sg ?_ ?_<;>(intro h;first|exact sz h|refine sy h ?_)|exact sq|fail)
   refine k_fun_end (.inr rfl) (by simp) (fun d' hd' => by obtain rfl := List.mem_singleton.1 hd'; exact xm) fun M9 hm => ?_
   have hk9 : Keep (fun i => i = l2 ∨ i = d) M7 M9 := ((Keep.refl _ M7).upd hu8 (.inl (.inl rfl))).unmark hm (fun d' hd' => by obtain rfl := List.mem_singleton.1 hd'; exact .inl (.inr rfl))
   refine ⟨_, .nil, (h1.trans hk9 (fun i hi => .inr (by omega))), ⟨k1.at hk9.le (hk9.old _ hkm (by omega)), k2.at hk9.le (hk9.old _ hkk (by omega))⟩, T7, fun i hi => ⟨(h2 i hi).1, by have := (h2 i hi).2; have := hk9.le; omega⟩, .inr ?_⟩
   exact tk.stabD _ _ _ h3 hk9.le (fun i hi => hk9.old i (by
    rcases hi with hi | hi
    ·omega
    ·exact (h2 i hi).2) (by
    rcases hi with hi | hi
    ·omega
    ·have := (hT7 i hi).1; omega))
theorem YieldsS.weakS {α : Type} {gf : FuncId} {fi ca : List LV} {S S' Wr : Nat -> Prop} {Fin : Mem -> Prop} {items : List α} {R : α -> List LV -> (Nat -> Prop) -> Mem -> Prop} {M0 : Mem} (h : YieldsS Tryz.prog gf fi ca S Wr Fin items R M0) (hS : ∀ i, S i -> S' i) : YieldsS Tryz.prog gf fi ca S' Wr Fin items R M0 :=
 fun l A I D tk hd h0 => h l A I D tk (fun i hi => hd i (hS i hi)) h0
theorem c_sooner (a b : Int) (M : Mem) : CallOk Tryz.prog 47 [I a, I b] M (fun w M' => w = .bool (decide (a < b)) /\ M' = M) := by
 refine call_in kq47 rfl ?_
 dsimp only [xq47, qm, qB, qo, qq, zipE, Nat.reduceAdd]
 (repeat' first|with_reducible intro _|refine sv ?_|refine sc ?_ ?_<;>(intro h;try exact sz h)|refine sg ?_ ?_<;>(intro h;first|exact sz h|refine sy h ?_)|exact sq|fail)
 (refine kf ?_)
 exact ⟨rfl, rfl⟩
set_option maxHeartbeats 4000000 in
theorem c_first_int {gf : FuncId} {ca : List LV} {Wr : Nat -> Prop} {Fin : Mem -> Prop} {items : List Int} {M0 : Mem} (hy : ∀ M', Grow M0 M' -> YieldsS Tryz.prog gf [] ca (fun i => i < M0.next) Wr Fin items (PlainR I) M') (hWr : ∀ i, Wr i -> i < M0.next)
  (hFin : ∀ M1 M2, Fin M1 -> M1.next <= M2.next -> (∀ i, i < M0.next -> M2.get i = M1.get i) -> Fin M2) :
  CallOk Tryz.prog 45 [.func (.func gf) [] ca, .func (.func 47) [] []] M0 (fun v M' => Keep Wr M0 M' /\ Fin M' /\ v = .tup [I ((minL items).getD 0), .bool (minL items).isSome]) := by
 refine call_in kq45 rfl ?_
 dsimp only [xq45, qm, ql, qb, qg, qS, qo, qK, qq, qZ, zipE, Nat.reduceAdd]
 (repeat' first|with_reducible intro _|refine sv ?_|refine sc ?_ ?_<;>(intro h;try exact sz h)|refine sg ?_ ?_<;>(intro h;first|exact sz h|refine sy h ?_)|exact sq|fail)
 rename_i n3 M1 hn3 e1 e2 n4 M2 hn4 e3 e4 n5 M2b hn5 e3b e4b
 apply w_rfun
 exact rfl
 intro lb d l M3 M4 hlb hd e5 e6 hl e7 e8
 have a3 : At M4 n3 (.cells true [.func (.func 47) [] []] 117) := xm
 have a4 : At M4 n4 (.cells true [I 0] 3) := xm
 have a5 : At M4 n5 (.cells true [.bool false] 4) := xm
 have ad : At M4 d .defr := At.new_old hl (At.new_same hd)
 have hg4 : Grow M0 M4 := xg
 refine (hy M4 hg4 l (fun i => M0.next <= i /\ i < M4.next) (fun dn T M => At M n3 (.cells true [.func (.func 47) [] []] 117) /\ At M n4 (.cells true [I ((minL dn).getD 0)] 3) /\ At M n5 (.cells true [.bool (minL dn).isSome] 4) /\
   At M l (lb .ready none) /\ At M d .defr) (fun _ _ => False) ⟨fun i hi => hi.2, ?_, fun T M M' h => h.elim, ?_⟩ (fun i h1 h2 => by omega) ⟨a3, a4, a5, At.new_same hl, ad⟩).mono ?_
 ·rintro dn T M M' ⟨h3, h4, h5, h6, h7⟩ hle hg
  have hg2 : ∀ i, M0.next <= i -> i < M4.next -> M'.get i = M.get i := fun i h1 h2 => hg i (.inl ⟨h2, fun hw => by have := hWr i hw; omega⟩)
  exact ⟨h3.same hle (hg2 _ (by omega) (by omega)), h4.same hle (hg2 _ (by omega) (by omega)), h5.same hle (hg2 _ (by omega) (by omega)), h6.same hle (hg2 _ (by omega) (by omega)), h7.same hle (hg2 _ (by omega) (by omega))⟩
 ·rintro dn x rest v U T M hits ⟨rfl, hU⟩ hN hT hUd ⟨h3, h4, h5, h6, h7⟩
  have hfold : minL (dn ++ [x]) = minS (minL dn) x := by unfold minL; rw [List.foldl_append]; rfl
  have hfin : ∀ {M' : Mem} (o' : Option Int) (c' : Int), Keep (fun i => M0.next <= i /\ i < M4.next) M M' -> At M' n3 (.cells true [.func (.func 47) [] []] 117) -> At M' n4 (.cells true [I c'] 3) -> At M' n5 (.cells true [.bool true] 4) ->
    At M' l (lb .ready none) -> At M' d .defr -> minS (minL dn) x = o' -> o' = some c' -> Keep (fun i => (M0.next <= i /\ i < M4.next) ∨ T i ∨ U i) M M' /\ ∃ T' : Nat -> Prop, (∀ i, T' i -> (T i ∨ U i ∨ M.next <= i) /\ i < M'.next) /\ ((LV.bool true = .bool true /\ At M' n3 (.cells true [.func (.func 47) [] []] 117) /\ At M' n4 (.cells true [I ((minL (dn ++ [x])).getD 0)] 3) /\ At M' n5 (.cells true [.bool (minL (dn ++ [x])).isSome] 4) /\ At M' l (lb .ready none) /\ At M' d .defr) ∨ (LV.bool true = .bool false /\ False)) := by
   intro M' o' c' hk q3 q4 q5 q6 q7 ho hc
   subst hc
   exact ⟨hk.weaken (fun i hi => .inl hi), fun _ => False, fun i hi => hi.elim, .inl ⟨rfl, q3, by rw [hfold, ho]; exact q4, by rw [hfold, ho]; exact q5, q6, q7⟩⟩
  refine round_in hlb h6 rfl ?_
  dsimp only [zipP]
  cases hfo : minL dn with
  | none =>
   rw [hfo] at h4 h5 hfin
   (repeat' first|with_reducible intro _|refine sv ?_|refine sc ?_ ?_<;>(intro h;try exact sz h)|refine sg ?_ ?_<;>(intro h;first|exact sz h|refine sy h ?_)|exact sq|fail)
   exact hfin (some x) x (xk) (xm) (xm) (xm) (xm) (xm) rfl rfl
  | some y =>
   rw [hfo] at h4 h5 hfin
   have h4 : At M n4 (.cells true [I y] 3) := h4
   have h5 : At M n5 (.cells true [.bool true] 4) := h5
   by_cases hxy : x < y
   ·(repeat' first|with_reducible intro _|refine sv ?_|refine sc ?_ ?_<;>(intro h;try exact sz h)|(with_reducible first|apply x_same|apply d_same|apply d_same0);exact gd;exact rfl;exact rfl;exact c_sooner _ _ _|refine sg ?_ ?_<;>(intro h;first|exact sz h|refine sy h ?_)|exact sq|fail)
    all_goals try (exfalso; omega)
    exact hfin (some x) x (xk) (xm) (xm) (xm) (xm) (xm) (by show (if x < y then some x else some y) = _; rw [if_pos hxy]) rfl
   ·(repeat' first|with_reducible intro _|refine sv ?_|refine sc ?_ ?_<;>(intro h;try exact sz h)|(with_reducible first|apply x_same|apply d_same|apply d_same0);exact gd;exact rfl;exact rfl;exact c_sooner _ _ _|refine sg ?_ ?_<;>(intro h;first|exact sz h|refine sy h ?_)|exact sq|fail)
    all_goals try (exfalso; omega)
    exact hfin (some y) y (xk) (xm) (xm) (xm) (xm) (xm) (by show (if x < y then some x else some y) = _; rw [if_neg hxy]) rfl
 ·rintro v M5 ⟨hk5, hf5, T5, hT5, ⟨h3, h4, h5, h6, h7⟩ | h⟩
  rotate_left
  ·exact h.elim
  have hle5 := hk5.le
  have hk05 : Keep Wr M0 M5 := (hg4.to_keep Wr).trans hk5 (fun i hi => hi.elim (fun h => .inr h.1) .inl)
  have hle4 := hg4.le
  refine k_iter h6 (by simp) fun M6 hu e9 a9 => ?_
  have hendd : ∀ {M9 M8 M7 : Mem} (lb7 lb8 : LB), Upd M6 n4 lb7 M7 -> Upd M7 n5 lb8 M8 -> Unmark [d] M8 M9 -> Keep Wr M0 M9 /\ Fin M9 := by
   intro M9 M8 M7 lb7 lb8 hu7 hu8 hm
   have hkk : Keep (fun i => M0.next <= i /\ i < M4.next) M5 M9 := ((((Keep.refl _ M5).upd hu (.inl ⟨by omega, by omega⟩)).upd hu7 (.inl ⟨by omega, by omega⟩)).upd hu8 (.inl ⟨by omega, by omega⟩)).unmark hm (fun d' hd' => by obtain rfl := List.mem_singleton.1 hd'; exact .inl ⟨by omega, by omega⟩)
   exact ⟨hk05.trans hkk (fun i hi => .inr hi.1), hFin M5 M9 hf5 hkk.le (fun i hi => hkk.old i (by omega) (by omega))⟩
  (repeat' first|with_reducible intro _|refine sv ?_|refine sc ?_ ?_<;>(intro h;try exact sz h)|refine sg ?_ ?_<;>(intro h;first|exact sz h|refine sy h ?_)|exact sq|fail)
  refine k_fun_end (.inr rfl) (by simp) (fun d' hd' => by obtain rfl := List.mem_singleton.1 hd'; exact xm) fun M9 hm => ?_
  rename_i M7 hu7 e10 a7 M8 hu8 e11 a8
  obtain ⟨q1, q2⟩ := hendd _ _ hu7 hu8 hm
  have b4 : At M8 n4 (.cells true [I ((minL items).getD 0)] 3) := xm
  refine ⟨_, .cell1 rfl (Rd1.of_at (b4.unmark hm (by simp; omega)) rfl).1 (.cell1 rfl (Rd1.of_at (a8.unmark hm (by simp; omega)) rfl).1 .nil), q1, q2, rfl⟩
end Go.Proofs.YtifcpjfpjkoicaaGreat.C
end
