/-
 Part of the proof of CourseProves: what functions of the program and of the statement come to, walked by the rules. No condition beyond those in each theorem.
-/
import Derived.Test.YtpccafeedfpbaaaGreatTI
section
open Go PvL Go.Proofs
set_option linter.unusedSimpArgs false
set_option linter.unusedVariables false
namespace Go.Proofs.YtpccafeedfpbaaaGreat.C
theorem setList_nil : ∀ l : List LV, setList l 0 [] = some l
 | [] => rfl
 | x :: l => rfl
theorem setList_int : ∀ (t : List Int) (k : Nat) (v : Int), k < t.length -> setList (t.flatMap intz) k [I v] = some ((t.set k v).flatMap intz)
 | [], k, v, h => absurd h (Nat.not_lt_zero _)
 | x :: t, 0, v, _ => by
  show ob (setList (t.flatMap intz) 0 []) (fun l => some (I v :: l)) = _
  rw [setList_nil]; rfl
 | x :: t, k + 1, v, h => by
  show ob (setList (t.flatMap intz) k [I v]) (fun l => some (I x :: l)) = _
  rw [setList_int t k v (by simpa using h)]; rfl
theorem shl_tab (n : Nat) : shlZ (2 * (n : Int)) (n : Int) = ((2 * n * 2 ^ n : Nat) : Int) := by
 unfold shlZ
 rw [Int.natCast_mul]; rfl
theorem rd_int {M : Mem} {i : Nat} {own : Bool} {t : List Int} {ty : TypeId} (ha : At M i (.cells own (t.flatMap intz) ty)) : SlA 1 intz M (some (i, 0)) t := .inr ⟨i, 0, rfl, fun k hk => rd_flat (enc := intz) ha (fun _ _ => rfl) hk⟩
abbrev earF (nq nt ne nx : Nat) : LV := .func (.func 116) [] [.ptr (some (nq, 0)), .ptr (some (nt, 0)), .ptr (some (ne, 0)), .ptr (some (nx, 0))]
theorem c_earliest {pc pk set c : Nat} {aT : Option (Nat × Nat)} {n : Nat} {fT : Bool} (M : Mem) : CallOk Tryz.prog 74 [planv pc pk, .slice aT n fT 1, I set, shC c] M (fun v M' => ∃ nq nt ne nx, v = earF nq nt ne nx /\ Grow M M' /\ At M' nq (.cells true [.ptr (some (pc, 0)), .map (some pk)] 109) /\ At M' ne (.cells true [I set] 3) /\
  At M' nx (.cells true [I (c / 2 : Nat), I (c % 2 : Nat)] 50) /\ At M' nt (.cells true [.slice aT n fT 1] 52)) := by
 refine call_in kq74 rfl ?_
 dsimp only [xq74, qm, qb, qo, qq, zipE, Nat.reduceAdd]
 (repeat' first|with_reducible intro _|refine sv ?_|refine sc ?_ ?_<;>(intro h;try exact sz h)|refine sg ?_ ?_<;>(intro h;first|exact sz h|refine sy h ?_)|exact sq|fail)
 (refine kf ?_)
 exact ⟨_, _, _, _, rfl, xg, xm, xm, xm, xm⟩
theorem c_least {A : CrA} {s : Cr} {pc pm pk set c : Nat} {aT : Option (Nat × Nat)} {fT : Bool} {tab : List Int} {M : Mem} (hpl : PlM M A s pc pm pk) (htab : SlA 1 intz M aT tab) (hs : CrOk s) (hc : c < 2 * s.lines.length) (hset : set < 2 ^ s.lines.length) (htl : tab.length = 2 * s.lines.length * 2 ^ s.lines.length) (htb : ∀ v ∈ tab, -1 <= v /\ v <= 5000000)
  {nq nt ne nx : Nat} (hq : At M nq (.cells true [.ptr (some (pc, 0)), .map (some pk)] 109)) (he : At M ne (.cells true [I set] 3)) (hx : At M nx (.cells true [I (c / 2 : Nat), I (c % 2 : Nat)] 50)) (ht : At M nt (.cells true [.slice aT tab.length fT 1] 52)) :
  CallOk Tryz.prog 73 [earF nq nt ne nx, .func (.func 75) [] []] M (fun v M' => Keep (fun i => i = pm ∨ i = pk) M M' /\ (KnM M' s pm /\ KcM M' s pk) /\ v = .tup [I ((minL (earL s tab set c)).getD 0), .bool (minL (earL s tab set c)).isSome]) := by
 have h1 := hpl.ch.known.lt
 have h2 := hpl.kc.lt
 refine c_first_int (gf := 116) (ca := [.ptr (some (nq, 0)), .ptr (some (nt, 0)), .ptr (some (ne, 0)), .ptr (some (nx, 0))]) (items := earL s tab set c) (Wr := fun i => i = pm ∨ i = pk) (Fin := fun M' => KnM M' s pm /\ KcM M' s pk) (fun M' hg => ?_) (fun i hi => by rcases hi with rfl | rfl <;> assumption) (fun M1 M2 hf hle h => ⟨hf.1.at hle (h _ h1), hf.2.at hle (h _ h2)⟩)
 refine YieldsS.weakS (y_earliest hpl htab (hg.to_keep _) (hpl.ch.known.at hg.le (hg.old _ h1)) (hpl.kc.at hg.le (hg.old _ h2)) (hq.grow hg) (he.grow hg) (hx.grow hg) (ht.grow hg) hs hc hset htl htb) ?_
 rintro i (hi | rfl | rfl | rfl | rfl)
 ·exact hi
 ·exact hq.2
 ·exact ht.2
 ·exact he.2
 ·exact hx.2
def TbOk (s : Cr) (t : List Int) : Prop := t.length = 2 * s.lines.length * 2 ^ s.lines.length /\ ∀ v ∈ t, -1 <= v /\ v <= 1048576
theorem ear_bd {s : Cr} (hs : CrOk s) {t : List Int} {set c : Nat} (hc : c < 2 * s.lines.length) {e : Int} (he : e ∈ earL s t set c) : 0 <= e /\ e <= 1048576 := by
 unfold earL at he
 obtain ⟨x, hx, h⟩ := List.mem_filterMap.1 he
 obtain ⟨b, hb, rfl⟩ := Option.map_eq_some_iff.1 h
 have := goF_bd hs (div_lt hc) hb
 omega
theorem TbOk.step {s : Cr} (hs : CrOk s) {t : List Int} {set c : Nat} (h : TbOk s t) (hc : c < 2 * s.lines.length) : TbOk s (tabStep s set t c) := by
 unfold tabStep
 cases hm : minL (earL s t set c) with
 | none => exact h
 | some e =>
  have he := ear_bd hs hc (minL_some hm).1
  refine ⟨by dsimp only; rw [List.length_set]; exact h.1, fun v hv => ?_⟩
  rcases List.mem_or_eq_of_mem_set hv with hv | rfl
  ·exact h.2 v hv
  ·omega
theorem TbOk.steps {s : Cr} (hs : CrOk s) {set : Nat} : ∀ (l : List Nat) {t : List Int}, TbOk s t -> (∀ c ∈ l, c < 2 * s.lines.length) -> TbOk s (l.foldl (tabStep s set) t)
 | [], t, h, _ => h
 | c :: l, t, h, hl => TbOk.steps hs l (h.step hs (hl c (List.mem_cons_self ..))) fun d hd => hl d (List.mem_cons_of_mem _ hd)
theorem TbOk.zero (s : Cr) : TbOk s (tab0 s) := by
 unfold tab0
 exact ⟨List.length_replicate .., fun v hv => by obtain rfl := (List.mem_replicate.1 hv).2; exact ⟨by decide, by decide⟩⟩
theorem TbOk.rows {s : Cr} (hs : CrOk s) : ∀ k, TbOk s ((List.range k).foldl (tabSet s) (tab0 s))
 | 0 => TbOk.zero s
 | k + 1 => by
  rw [List.range_succ, List.foldl_append]
  exact TbOk.steps hs _ (TbOk.rows hs k) fun c hc => (mem_shoots.1 hc).1
end Go.Proofs.YtpccafeedfpbaaaGreat.C
end
