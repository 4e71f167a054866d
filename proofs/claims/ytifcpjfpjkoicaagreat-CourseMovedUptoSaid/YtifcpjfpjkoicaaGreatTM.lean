/-
 Part of the proof of CourseMovedUpto: what functions of the program and of the statement come to, walked by the rules. No condition beyond those in each theorem.
-/
import Derived.Test.YtifcpjfpjkoicaaGreatTL
import Derived.Test.YtifcpjfpjkoicaaGreatTE
section
open Go PvL Go.Proofs
set_option linter.unusedSimpArgs false
set_option linter.unusedVariables false
namespace Go.Proofs.YtifcpjfpjkoicaaGreat.C
open Classical in
noncomputable def nbB (p : Pt) : Bool := decide (NbP 20000 p)
theorem c_near (p : Pt) (M : Mem) : CallOk Tryz.prog 12 [.agg [I p.1, I p.2]] M (fun v M' => v = .bool (nbB p) /\ Grow M M') := by
 classical
 have h1 := fun M' => c_between p.1 (-20000) 20000 M'
 have h2 := fun M' => c_between p.2 (-20000) 20000 M'
 have hd : nbB p = (decide (-20000 <= p.1 /\ p.1 <= 20000) && decide (-20000 <= p.2 /\ p.2 <= 20000)) := by
  unfold nbB NbP
  rw [Bool.decide_and]
 rw [hd]
 refine call_in kq12 rfl ?_
 dsimp only [xq12, qm, qf, ql, qb, qc, qg, qo, qq, zipE, Nat.reduceAdd]
 cases hb : decide (-20000 <= p.1 /\ p.1 <= 20000) with
 | true =>
  rw [hb] at h1
  (repeat' first|with_reducible intro _|refine sv ?_|refine sc ?_ ?_<;>(intro h;try exact sz h)|(with_reducible first|apply x_same|apply d_same|apply d_same0);exact gd;exact rfl;exact rfl;(first|exact h1 _|exact h2 _)|refine sg ?_ ?_<;>(intro h;first|exact sz h|refine sy h ?_)|exact sq|fail)
  all_goals try (exfalso; omega)
  all_goals (refine kf ?_)
  all_goals exact ⟨congrArg LV.bool (Bool.true_and _).symm, xg⟩
 | false =>
  rw [hb] at h1
  (repeat' first|with_reducible intro _|refine sv ?_|refine sc ?_ ?_<;>(intro h;try exact sz h)|(with_reducible first|apply x_same|apply d_same|apply d_same0);exact gd;exact rfl;exact rfl;(first|exact h1 _|exact h2 _)|refine sg ?_ ?_<;>(intro h;first|exact sz h|refine sy h ?_)|exact sq|fail)
  all_goals try (exfalso; omega)
  all_goals (refine kf ?_)
  all_goals exact ⟨congrArg LV.bool (Bool.false_and _).symm, xg⟩
theorem c_middle (b : Bd) (M : Mem) : CallOk Tryz.prog 10 [.agg [I b.1, I b.2], I 5000] M (fun v M' => v = .bool (decide (-5000 <= b.1 /\ b.2 <= 5000)) /\ Grow M M') := by
 refine call_in kq10 rfl ?_
 dsimp only [xq10, qm, qf, ql, qb, qB, qg, qo, qq, zipE, Nat.reduceAdd]
 (repeat' first|with_reducible intro _|refine sv ?_|refine sc ?_ ?_<;>(intro h;try exact sz h)|refine sg ?_ ?_<;>(intro h;first|exact sz h|refine sy h ?_)|exact sq|fail)
 ·(refine kf ?_)
  exact ⟨congrArg LV.bool (decide_eq_decide.2 ⟨fun h2 => ⟨h, h2⟩, fun h2 => h2.2⟩), xg⟩
 ·(refine kf ?_)
  exact ⟨congrArg LV.bool (decide_eq_false (by omega)).symm, xg⟩
def mvP (d p : Pt) : Pt := (IntKind.wrap .i64 (p.1 + d.1), IntKind.wrap .i64 (p.2 + d.2))
theorem mv_near {d p : Pt} (hp : NbP 20000 p) (hd : NbP 3000 d) : mvP d p = shP d p := by
 unfold NbP at *
 have e1 : IntKind.wrap .i64 (p.1 + d.1) = p.1 + d.1 := wrap_in (by show (-9223372036854775808 : Int) <= _ /\ _ <= (9223372036854775807 : Int); omega)
 have e2 : IntKind.wrap .i64 (p.2 + d.2) = p.2 + d.2 := wrap_in (by show (-9223372036854775808 : Int) <= _ /\ _ <= (9223372036854775807 : Int); omega)
 unfold mvP
 rw [e1, e2]
theorem c_shadd (d p : Pt) (M : Mem) : CallOk Tryz.prog 11 [.agg [I d.1, I d.2], .agg [I p.1, I p.2]] M (fun v M' => v = .agg [I (mvP d p).1, I (mvP d p).2] /\ Grow M M') := by
 refine call_in kq11 rfl ?_
 dsimp only [xq11, qf, ql, qb, qB, qS, qo, qq, qZ, zipE, Nat.reduceAdd]
 unfold mvP
 (repeat' first|with_reducible intro _|refine sv ?_|refine sc ?_ ?_<;>(intro h;try exact sz h)|refine sg ?_ ?_<;>(intro h;first|exact sz h|refine sy h ?_)|exact sq|fail)
 (refine kf ?_)
 exact ⟨rfl, xg⟩
theorem c_alike {aa ab : Option (Nat × Nat)} {fa fb : Bool} {ea eb : Nat} {l : List Int} {M : Mem} (ha : SlA 1 intz M aa l) (hb : SlA 1 intz M ab l) (hlen : l.length <= 1000000) :
  CallOk Tryz.prog 9 [.slice aa l.length fa ea, .slice ab l.length fb eb] M (fun w M' => w = .bool true /\ Grow M M') := by
 refine call_in kq9 rfl ?_
 dsimp only [xq9, qm, ql, qi, qa, qn, qB, qC, qo, qk, qK, qq, zipE, Nat.reduceAdd]
 (repeat' first|with_reducible intro _|refine sv ?_|refine sc ?_ ?_<;>(intro h;try exact sz h)|refine sg ?_ ?_<;>(intro h;first|exact sz h|refine sy h ?_)|exact sq|fail)
 refine w_loop_ind (fun n E ms M' => ∃ k : Nat, n = l.length - k /\ k <= l.length /\ ms = [] /\ Has E [(0, .slice aa l.length fa ea), (1, .slice ab l.length fb eb), (5, I k)] /\ Grow M M') ?_ l.length _ _ _
  ⟨0, by omega, by omega, rfl, .cons rfl (.cons rfl (.cons rfl .nil)), xg⟩
 rintro n E ms M1 ⟨k, rfl, hk, rfl, hE, hg⟩
 have hle := hg.le
 refine w_has hE ?_
 by_cases hlast : k = l.length
 ·subst hlast
  (repeat' first|with_reducible intro _|refine sv ?_|refine sc ?_ ?_<;>(intro h;try exact sz h)|refine sg ?_ ?_<;>(intro h;first|exact sz h|refine sy h ?_)|exact sq|fail)
  (refine kf ?_)
  exact ⟨rfl, hg⟩
 have hlt : k < l.length := by omega
 obtain ⟨i, o, rfl, hr⟩ := ha.resolve_left (fun h => by subst h; simp at hlt)
 obtain ⟨i2, o2, rfl, hr2⟩ := hb.resolve_left (fun h => by subst h; simp at hlt)
 have r1 := ((hr k hlt).nth (j := 0) (v := I l[k]) rfl).grow hg
 have r2 := ((hr2 k hlt).nth (j := 0) (v := I l[k]) rfl).grow hg
 have h1 := (hr k hlt).2
 have h2 := (hr2 k hlt).2
 generalize l[k] = p at *
 (have hrd0 := r1;have hrd1 := r2;repeat' first|with_reducible intro _|refine sv ?_|refine sc ?_ ?_<;>(intro h;try exact sz h)|refine sg ?_ ?_<;>(intro h;first|exact sz h|refine sy h ?_)|exact sq|fail)
 all_goals try (exfalso; omega)
 refine k_step (l.length - (k + 1)) (by omega) ⟨k + 1, rfl, by omega, rfl, .cons rfl (.cons rfl (.cons rfl .nil)), xg⟩
end Go.Proofs.YtifcpjfpjkoicaaGreat.C
end
section
open Go PvL Go.Proofs
set_option linter.unusedVariables false
set_option linter.unusedSimpArgs false
namespace Go.Proofs.YtifcpjfpjkoicaaGreat.C
def NV (v : LV) (i : Nat) : Prop := ∃ o n f e, v = .slice (some (i, o)) n f e
theorem NV.nil {n : Nat} {f : Bool} {e i : Nat} : ¬ NV (.slice none n f e) i := fun ⟨o, n, f, e, h⟩ => by cases h
theorem NV.some {j o n : Nat} {f : Bool} {e i : Nat} (h : NV (.slice (some (j, o)) n f e) i) : i = j := by
 obtain ⟨_, _, _, _, h⟩ := h
 cases h; rfl
section
variable {α : Type} {b sz : Nat} {ty : TypeId} {enc : α -> List LV} {M : Mem} {v : LV} {l : List α}
theorem NV.lt (h : Vec b sz ty enc M v l) {i : Nat} (hi : NV v i) : i < M.next := by
 obtain ⟨o, n, f, e, h1⟩ := hi
 rcases h with ⟨_, rfl⟩ | ⟨j, rfl, h2, _⟩
 ·cases h1
 ·cases h1; exact h2.2
theorem NV.ge (h : Vec b sz ty enc M v l) {i : Nat} (hi : NV v i) : b <= i := by
 obtain ⟨o, n, f, e, h1⟩ := hi
 rcases h with ⟨_, rfl⟩ | ⟨j, rfl, _, h3⟩
 ·cases h1
 ·cases h1; exact h3
theorem Vec.keepN {M' : Mem} {F : Nat -> Prop} (h : Vec b sz ty enc M v l) (hk : Keep F M M') (hF : ∀ i, F i -> ¬ NV v i) : Vec b sz ty enc M' v l :=
 h.imp id fun ⟨i, h1, h2, h3⟩ => ⟨i, h1, h2.keep hk (fun hf => hF i hf ⟨_, _, _, _, h1⟩), h3⟩
theorem Vec.appx {P : Program} [Orc P] {E : Env} {s x : XO} {by' : Nat} {z : List LV} {l' : List α} {xv : LV} (h : Vec b sz ty enc M v l) (hs : xval E s = some v) (hx : xval E x = some xv) (hn : lenOfL xv = some l'.length) (h0 : 0 < l'.length)
  (hb : (2 * (l.length + l'.length) + 2048) * by' <= 140737488355328) (hz : (Nat.ble 1 sz && (Nat.ble 1 by' && Nat.beq z.length sz)) = true) (hw : firstL sz l'.length xv M = some (l'.flatMap enc))
  (henc : ∀ x, (enc x).length = sz) (hfl : ∀ x, allFlat (enc x) = true) (hbM : b <= M.next) :
  ∃ v' M', xstep P (.app ty sz by' z s x) E M = some (.val v' M') /\ Vec b sz ty enc M' v' (l ++ l') /\ M'.next = M.next + 1 /\ Keep (fun i => b <= i /\ NV v i) M M' /\ ∃ n f e, v' = .slice (some (M.next, 0)) n f e := by
 have hf := allFlat_flatMap (l := l') (enc := enc) (fun x _ => hfl x)
 rcases h with ⟨rfl, rfl⟩ | ⟨i, rfl, h2, h3⟩
 ·refine ⟨_, _, xs_app_new hs hx hn h0 (by simpa using hb) hz rfl hw hf (.inl rfl), .inr ⟨M.next, ?_, ?_, hbM⟩, rfl, ?_, _, _, _, rfl⟩
  ·rw [List.nil_append, Nat.zero_add]
  ·rw [List.nil_append, List.nil_append]; exact ⟨by rw [Mem.get_push, if_pos rfl], Nat.lt_succ_self _⟩
  ·have hN : New M M.next (.cells true ([] ++ l'.flatMap enc) ty) (M.push (.cells true ([] ++ l'.flatMap enc) ty)) := ⟨rfl, rfl⟩
   exact hN.grow.to_keep _
 ·have ho : firstL sz l.length (.slice (some (i, 0)) l.length false sz) M = some (l.flatMap enc) := by
   rw [firstL_slice h2 (by rw [flatMap_len (fun x _ => henc x)]; omega), List.drop_zero, List.take_of_length_le (by rw [flatMap_len (fun x _ => henc x)]; omega)]
  have hK : Kill M i M.next (.cells true (l.flatMap enc ++ l'.flatMap enc) ty) ((M.upd i none).push (.cells true (l.flatMap enc ++ l'.flatMap enc) ty)) := ⟨rfl, rfl⟩
  refine ⟨_, _, xs_app_kill hs hx hn h0 hb hz ho hw hf h2, .inr ⟨M.next, by rw [List.length_append], ?_, hbM⟩, hK.next, hK.keep.weaken fun j hj => ?_, _, _, _, rfl⟩
  ·rw [List.flatMap_append]; exact hK.same
  ·subst hj; exact ⟨h3, _, _, _, _, rfl⟩
end
section
variable {α : Type} {b q : Nat} {ty : TypeId} {enc : α -> List LV} {M : Mem} {v : LV} {l l' : List α} {P : Program} [Orc P] {sz : Nat} {E : Env} {K : Env -> Mem -> Prop} {ll : List XG} {d : Nat} {g : Option (Nat × Bool)} {s x : XO} {st : List Mem} {k : Nat} {xs : List (Nat × Nat × (Mem -> Prop))} {ld : List (XG × XK)} {by' : Nat} {z : List LV} {xv : LV}
theorem x_vec_appx (hg : GOn E g) (hv : Vec b q ty enc M v l) (hs : xval E s = some v) (hx : xval E x = some xv) (hn : lenOfL xv = some l'.length) (h0 : 0 < l'.length) (hb : (2 * (l.length + l'.length) + 2048) * by' <= 140737488355328) (hz : (Nat.ble 1 q && (Nat.ble 1 by' && Nat.beq z.length q)) = true) (hw : firstL q l'.length xv M = some (l'.flatMap enc))
  (henc : ∀ x, (enc x).length = q) (hfl : ∀ x, allFlat (enc x) = true) (hbM : b <= M.next) (hk : ∀ v' M', Vec b q ty enc M' v' (l ++ l') -> M'.next = M.next + 1 -> Keep (fun i => b <= i /\ NV v i) M M' -> (∃ n f e, v' = .slice (some (M.next, 0)) n f e) -> XW P sz ll ((d, v') :: E) M' K) : XW P sz (⟨some d, .app ty q by' z s x, g⟩ :: ll) E M K := by
 obtain ⟨v', M', h1, h2, h3, h4, h5⟩ := Vec.appx (P := P) hv hs hx hn h0 hb hz hw henc hfl hbM
 exact x_gen hg h1 (hk v' M' h2 h3 h4 h5)
theorem d_vec_appx (hg : GOn E g) (hv : Vec b q ty enc M v l) (hs : xval E s = some v) (hx : xval E x = some xv) (hn : lenOfL xv = some l'.length) (h0 : 0 < l'.length) (hb : (2 * (l.length + l'.length) + 2048) * by' <= 140737488355328) (hz : (Nat.ble 1 q && (Nat.ble 1 by' && Nat.beq z.length q)) = true) (hw : firstL q l'.length xv M = some (l'.flatMap enc))
  (henc : ∀ x, (enc x).length = q) (hfl : ∀ x, allFlat (enc x) = true) (hbM : b <= M.next) (hk : ∀ v' M', Vec b q ty enc M' v' (l ++ l') -> M'.next = M.next + 1 -> Keep (fun i => b <= i /\ NV v i) M M' -> (∃ n f e, v' = .slice (some (M.next, 0)) n f e) -> XD P sz ld ((d, v') :: E) M' (M' :: st) (k + 1) xs K) : XD P sz ((⟨some d, .app ty q by' z s x, g⟩, .anchor) :: ld) E M st k xs K := by
 obtain ⟨v', M', h1, h2, h3, h4, h5⟩ := Vec.appx (P := P) hv hs hx hn h0 hb hz hw henc hfl hbM
 exact d_anch hg h1 (hk v' M' h2 h3 h4 h5)
end
abbrev SlT := Option (Nat × Nat) × Nat × Bool × Nat
abbrev slc (x : SlT) : List LV := [.slice x.1 x.2.1 x.2.2.1 x.2.2.2]
def PyN (N : Nat -> Prop) (M : Mem) (x : SlT) (f : List Pt) : Prop := x.2.1 = f.length /\ f.length <= 1000000000000000 /\ (f = [] ∨ ∃ i o, x.1 = some (i, o) /\ ¬ N i /\ ∀ k (hk : k < f.length), Rd M i (o + k * 2) 2 (ptc f[k]))
inductive PyL (N : Nat -> Prop) (M : Mem) : List SlT -> List (List Pt) -> Prop
 | nil : PyL N M [] []
 | cons {x : SlT} {f : List Pt} {xs : List SlT} {fs : List (List Pt)} (h : PyN N M x f) (h' : PyL N M xs fs) : PyL N M (x :: xs) (f :: fs)
theorem PyN.keep {N F : Nat -> Prop} {M M' : Mem} {x : SlT} {f : List Pt} (h : PyN N M x f) (hk : Keep F M M') (hF : ∀ i, F i -> N i) : PyN N M' x f :=
 ⟨h.1, h.2.1, h.2.2.imp id fun ⟨i, o, h1, h2, h3⟩ => ⟨i, o, h1, h2, fun k hk' => (h3 k hk').keep hk (fun hf => h2 (hF i hf))⟩⟩
theorem PyN.ge {N N' : Nat -> Prop} {M : Mem} {x : SlT} {f : List Pt} (h : PyN N M x f) (hb : ∀ i, N' i -> N i ∨ M.next <= i) : PyN N' M x f := by
 refine ⟨h.1, h.2.1, ?_⟩
 rcases h.2.2 with h0 | ⟨i, o, h1, h2, h3⟩
 ·exact .inl h0
 ·by_cases h0 : f.length = 0
  ·exact .inl (List.length_eq_zero_iff.1 h0)
  ·refine .inr ⟨i, o, h1, fun hN => ?_, h3⟩
   have h4 := (h3 0 (by omega)).2
   rcases hb i hN with h | h
   ·exact h2 h
   ·omega
theorem PyL.keep {N F : Nat -> Prop} {M M' : Mem} {xs : List SlT} {fs : List (List Pt)} (h : PyL N M xs fs) (hk : Keep F M M') (hF : ∀ i, F i -> N i) : PyL N M' xs fs := by
 induction h with
 | nil => exact .nil
 | cons h _ ih => exact .cons (h.keep hk hF) ih
theorem PyL.ge {N N' : Nat -> Prop} {M : Mem} {xs : List SlT} {fs : List (List Pt)} (h : PyL N M xs fs) (hb : ∀ i, N' i -> N i ∨ M.next <= i) : PyL N' M xs fs := by
 induction h with
 | nil => exact .nil
 | cons h _ ih => exact .cons (h.ge hb) ih
theorem PyL.snoc {N : Nat -> Prop} {M : Mem} {xs : List SlT} {fs : List (List Pt)} {x : SlT} {f : List Pt} (h : PyL N M xs fs) (h' : PyN N M x f) : PyL N M (xs ++ [x]) (fs ++ [f]) := by
 induction h with
 | nil => exact .cons h' .nil
 | cons h _ ih => exact .cons h ih
theorem PyL.len {N : Nat -> Prop} {M : Mem} {xs : List SlT} {fs : List (List Pt)} (h : PyL N M xs fs) : xs.length = fs.length := by
 induction h with
 | nil => rfl
 | cons _ _ ih => simp [ih]
theorem PyL.at {N : Nat -> Prop} {M : Mem} {xs : List SlT} {fs : List (List Pt)} (h : PyL N M xs fs) : ∀ {k : Nat} (hk : k < xs.length) (hk' : k < fs.length), PyN N M xs[k] fs[k] := by
 induction h with
 | nil => intro k hk; exact absurd hk (Nat.not_lt_zero _)
 | cons h _ ih =>
  intro k hk hk'
  cases k with
  | zero => exact h
  | succ k => exact ih (by simpa using hk) (by simpa using hk')
theorem py_vec {b : Nat} {ty : TypeId} {N : Nat -> Prop} {M : Mem} {v : LV} {xs : List SlT} {fs : List (List Pt)} (hv : Vec b 1 ty slc M v xs) (h : PyL N M xs fs) : ∃ a f e, v = .slice a fs.length f e /\ SlE 2 ptc M a fs := by
 obtain ⟨a, f, e, h1, h2⟩ := hv.rd (fun _ _ => rfl)
 refine ⟨a, f, e, by rw [<- h.len]; exact h1, ?_⟩
 rcases h2 with rfl | ⟨i, o, rfl, h3⟩
 ·have := h.len
  exact .inl (List.length_eq_zero_iff.1 (by rw [<- this]; rfl))
 ·refine .inr ⟨i, o, rfl, fun k hk => ?_⟩
  have hk' : k < xs.length := by rw [h.len]; exact hk
  obtain ⟨g1, g2, g3⟩ := h.at hk' hk
  refine ⟨xs[k].1, xs[k].2.2.1, xs[k].2.2.2, ?_, ?_, g2⟩
  ·rw [<- g1]; exact Rd.nth (j := 0) (h3 k hk') rfl
  ·exact g3.imp id fun ⟨i, o, h4, _, h5⟩ => ⟨i, o, h4, h5⟩
end Go.Proofs.YtifcpjfpjkoicaaGreat.C
end
