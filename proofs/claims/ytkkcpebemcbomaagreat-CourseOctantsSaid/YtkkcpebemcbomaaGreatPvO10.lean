/-
  Part of the proof that what the interpreter of YtkkcpebemcbomaaGreatPvL yields, the model's machine comes to. No condition.
-/
import Derived.Test.YtkkcpebemcbomaaGreatPvO9
namespace PvL
open Go

section op1
variable {P : Program}

theorem copy_sim {m : Mem} {dt : TypeId} {d x : LV} {r : R1} (h : copyL P dt d x m rvm = some r) :
    ∃ v m', r = .val v m' ∧ ∀ (Pt : Prot) (ρ : Rho) (w : World) (d' x' : Value) (ts : Array TypeId) (ty : TypeId), ts[0]? = some dt → VR ρ d d' → VR ρ x x' → Rel Pt ρ m w →
      Gives P Pt ρ m w (Builtin.copy_ ts ty #[d', x']) v m' := by
  obtain ⟨e, he, h1⟩ := ob_eq.1 h
  obtain ⟨sz, hsz, h2⟩ := ob_eq.1 h1
  obtain ⟨a, dl, full, es, rfl, h3⟩ := asSlice_eq.1 h2
  obtain ⟨sl, hsl, h4⟩ := ob_eq.1 h3
  rw [fN_eq] at h4
  obtain ⟨l, hl, h5⟩ := ob_eq.1 h4
  obtain ⟨hfl, h6⟩ := guard'_eq.1 h5
  have hu := sliceElem_eq he
  cases a with
  | none =>
    cases h6
    refine ⟨_, _, rfl, fun Pt ρ w d' x' ts ty ht hd hx hrel => ?_⟩
    cases hd with
    | sliceNil =>
      obtain ⟨L, hL, hv, _⟩ := firstL_sim (P := P) hrel hl hx
      refine Gives.pure hrel (v' := .int .i64 (Nat.min sl 0)) ?_ (.int _ _)
      unfold Builtin.copy_
      simp only [ht, List.getElem?_toArray, List.getElem?_cons_zero, List.getElem?_cons_succ, Sem.run_bind, Go.run_underlying hu, Result.andThen_ok, lenOf_sim hsl hx, run_sizeOf hsz, hL]
      rfl
  | some p =>
    obtain ⟨id, off⟩ := p
    obtain ⟨m', hst, h7⟩ := ob_eq.1 (show ob (storeCs m id off l) _ = some r from h6)
    cases h7
    refine ⟨_, _, rfl, fun Pt ρ w d' x' ts ty ht hd hx hrel => ?_⟩
    cases hd with
    | slice hρ hle hf hc =>
      obtain ⟨L, hL, hv, _⟩ := firstL_sim (P := P) hrel hl hx
      obtain ⟨w', hrun, hrel', hnext⟩ := storeCs_sim (P := P) hrel hst hv hfl hρ
      refine ⟨ρ, .int .i64 (Nat.min sl dl), w', ?_, by rw [hnext]; exact Same.refl _ _ _, .int _ _, hrel'⟩
      unfold Builtin.copy_
      simp only [ht, List.getElem?_toArray, List.getElem?_cons_zero, List.getElem?_cons_succ, Sem.run_bind, Go.run_underlying hu, Result.andThen_ok, lenOf_sim hsl hx, run_sizeOf hsz, hL, hrun]
      rfl

def R1.mem : R1 → Mem | .val _ m | .skip m | .enter _ _ m | .round _ _ m => m
def OpOk (P : Program) (Pt : Prot) (ρ : Rho) (m : Mem) (w : World) (a : Act) (o : Oper) : R1 → Prop
  | .val v m' => ∃ ρ' v' w', (execOp a.eval o).run P w = .ok (.value v') w' ∧ Same ρ ρ' m.next m'.next ∧ VR ρ' v v' ∧ Rel Pt ρ' m' w'
  | .skip m' => ∃ w', (execOp a.eval o).run P w = .ok .skip w' ∧ Rel Pt ρ m' w' ∧ m'.next = m.next
  | .enter f args m' => m' = m ∧ ∀ fn, fnOf P f = some fn → ∃ args', (execOp a.eval o).run P w = .ok (.enter f args') w ∧ VRs ρ args args'.toList
  | .round l args m' => m' = m ∧ ∃ b s c args', ρ l = some (b, s, c) ∧ VRs ρ args args'.toList ∧ (execOp a.eval o).run P w = (Instr.yield b args').run P w

variable {Pt : Prot} {ρ : Rho} {m : Mem} {w : World} {T : Tm} {a : Act}

theorem ok_val {o : Oper} {v : LV} {s : Sem Value} (he : execOp a.eval o = (do pure (.value (← s)) : Sem Next)) (hrel : Rel Pt ρ m w) (h : ∃ v', s.run P w = .ok v' w ∧ VR ρ v v') : OpOk P Pt ρ m w a o (.val v m) := by
  obtain ⟨v', hr, hv⟩ := h
  exact ⟨ρ, v', w, by rw [he, Sem.run_bind, hr]; rfl, Same.refl _ _ _, hv, hrel⟩
theorem ok_gives {o : Oper} {v : LV} {m' : Mem} {s : Sem Value} (he : execOp a.eval o = (do pure (.value (← s)) : Sem Next)) (h : Gives P Pt ρ m w s v m') : OpOk P Pt ρ m w a o (.val v m') := by
  obtain ⟨ρ', v', w', hr, hs, hv, hrel⟩ := h
  exact ⟨ρ', v', w', by rw [he, Sem.run_bind, hr]; rfl, hs, hv, hrel⟩
theorem rv_eq {m : Mem} {x : Option LV} {r : R1} (h : ob x (rv m) = some r) : ∃ v, x = some v ∧ r = .val v m := by
  obtain ⟨v, hv, h⟩ := ob_eq.1 h
  cases h
  exact ⟨v, hv, rfl⟩
theorem evOpt_sim {T : Tm} {a : Act} (h : TR ρ T a.tmps) {x : Option Operand} {v : Option LV} (hx : evOpt T x = some v) : OR ρ v (x.map a.eval) := by
  cases x with
  | none => cases hx; trivial
  | some x =>
    obtain ⟨u, hu, h2⟩ := ob_eq.1 (show ob (ev T x) _ = some v from hx)
    cases h2
    exact ev_sim h hu
theorem map_toList {α β : Type} (xs : Array α) (f : α → β) : (xs.map f) = (xs.toList.map f).toArray := by
  rw [← Array.toList_map, Array.toArray_toList]

theorem callV_sim {f : LV} {args : List LV} {r : R1} (h : callV f args m = some r) {f' : Value} (hf : VR ρ f f') {args' : Array Value} (ha : VRs ρ args args'.toList) :
    (∃ g as, r = .enter g as m ∧ ∀ fn, fnOf P g = some fn → ∃ as', (do let d ← Deferred.ofValue f' args'; invoke d.target d.args : Sem Next).run P w = .ok (.enter g as') w ∧ VRs ρ as as'.toList) ∨
    (∃ l b s c, r = .round l args m ∧ ρ l = some (b, s, c) ∧ (do let d ← Deferred.ofValue f' args'; invoke d.target d.args : Sem Next).run P w = (Instr.yield b args').run P w) := by
  unfold callV at h
  split at h
  · rename_i g fi ca
    cases h
    left
    refine ⟨g, _, rfl, fun fn hfn => ?_⟩
    cases hf with
    | func h1 h2 =>
      rename_i fi' ca'
      obtain ⟨fn', hg, h3⟩ := ob_eq.1 hfn
      obtain ⟨hbody, h4⟩ := guard'_eq.1 h3
      obtain ⟨hname, h5⟩ := guard'_eq.1 h4
      cases h5
      refine ⟨fi' ++ args' ++ ca', ?_, ?_⟩
      · simp only [Deferred.ofValue, Sem.run_bind, Sem.run_pure, Result.andThen_ok, invoke, callFunc, run_program, hg]
        have hnone : fn.body.isNone = false := by cases hb : fn.body with
          | none => rw [hb] at hbody; cases hbody
          | some _ => rfl
        have hnm : (fn.name == "runtime.NumGoroutine") = false := by simpa using hname
        simp only [hnm, hnone, Bool.false_eq_true, if_false]
        rfl
      · simp only [Array.toList_append]
        exact (h1.append ha).append h2
  · rename_i l
    cases h
    right
    cases hf with
    | yield hρ =>
      rename_i b s c
      refine ⟨l, b, s, c, rfl, hρ, ?_⟩
      show (Instr.yield b (#[] ++ args')).run P w = _
      rw [Array.empty_append]
  · cases h

theorem two_args {x y : LV} {A : Array Value} (h : VRs ρ [x, y] A.toList) : ∃ x' y', A = #[x', y'] ∧ VR ρ x x' ∧ VR ρ y y' := by
  obtain ⟨l⟩ := A
  have h : VRs ρ [x, y] l := h
  cases h with
  | cons h1 h2 => cases h2 with
    | cons h2 h3 => cases h3; exact ⟨_, _, rfl, h1, h2⟩

set_option maxHeartbeats 2000000 in
theorem op1_sim {o : Oper} {r : R1} (h : op1 P o.op T m = some r) (hT : TR ρ T a.tmps) (hrel : Rel Pt ρ m w) (hf : Fresh ρ m.next r.mem.next) : OpOk P Pt ρ m w a o r := by
  obtain ⟨dst, op, ty, pos, after, guard⟩ := o
  cases op with
  | move x =>
    obtain ⟨v, hv, rfl⟩ := rv_eq (show ob (ev T x) (rv m) = some r from h)
    exact ⟨ρ, _, w, rfl, Same.refl _ _ _, ev_sim hT hv, hrel⟩
  | assign x =>
    obtain ⟨v, hv, rfl⟩ := rv_eq (show ob (ev T x) (rv m) = some r from h)
    exact ⟨ρ, _, w, rfl, Same.refl _ _ _, ev_sim hT hv, hrel⟩
  | pick c x y =>
    obtain ⟨cv, hc, h1⟩ := ob_eq.1 (show ob (ev T c) _ = some r from h)
    obtain ⟨b, rfl, h2⟩ := asBool_eq.1 h1
    have hcv := (ev_sim hT hc).bool_inv
    cases b with
    | true =>
      obtain ⟨v, hv, rfl⟩ := rv_eq (show ob (ev T x) (rv m) = some r from h2)
      refine ⟨ρ, a.eval x, w, ?_, Same.refl _ _ _, ev_sim hT hv, hrel⟩
      simp [execOp, hcv, Go.asBool]
    | false =>
      obtain ⟨v, hv, rfl⟩ := rv_eq (show ob (ev T y) (rv m) = some r from h2)
      refine ⟨ρ, a.eval y, w, ?_, Same.refl _ _ _, ev_sim hT hv, hrel⟩
      simp [execOp, hcv, Go.asBool]
  | alloc t =>
    obtain ⟨z, hz, h1⟩ := ob_eq.1 (show ob (zeroL P t) _ = some r from h)
    obtain ⟨hfl, h2⟩ := guard'_eq.1 h1
    unfold newPtr at h2
    rw [Mem.new_eq] at h2
    cases h2
    obtain ⟨zv, hz1, hz2, hzc, hzf⟩ := zero_sim (w := w) (ρ := ρ) hz
    have hn := newPtr_sim (P := P) (t := t) hrel (hf _ (Nat.le_refl _) (Nat.lt_succ_self _)) hzc
    refine ok_gives (s := Instr.alloc t true (.tuple #[])) rfl ?_
    obtain ⟨ρ', v', w', h3, h4⟩ := hn
    refine ⟨ρ', v', w', ?_, h4⟩
    simp only [Instr.alloc, Sem.run_bind, hz1, Result.andThen_ok]
    exact h3
  | box t x =>
    obtain ⟨v, hv, h1⟩ := ob_eq.1 (show ob (ev T x) _ = some r from h)
    obtain ⟨hfl, h2⟩ := guard'_eq.1 h1
    unfold newPtr at h2
    rw [Mem.new_eq] at h2
    cases h2
    exact ok_gives (s := Instr.box t (a.eval x)) rfl (newPtr_sim (P := P) (t := t) hrel (hf _ (Nat.le_refl _) (Nat.lt_succ_self _)) ((ev_sim hT hv).cells hfl))
  | build t ps =>
    obtain ⟨vs, hvs, h1⟩ := ob_eq.1 (show ob (evParts T ps.toList) _ = some r from h)
    obtain ⟨v, hv, rfl⟩ := rv_eq h1
    obtain ⟨v', hr, hvr⟩ := buildL_sim (P := P) (w := w) (evParts_sim hT hvs) hv
    refine ok_val (s := Instr.build t (ps.map fun (i, x) => (i, a.eval x))) rfl hrel ⟨v', ?_, hvr⟩
    rw [map_toList]; exact hr
  | buildSlice t n ps =>
    obtain ⟨vs, hvs, h1⟩ := ob_eq.1 (show ob (evParts T ps.toList) _ = some r from h)
    obtain ⟨v, b, rfl, hsim⟩ := buildSliceL_sim h1
    refine ok_gives (s := Instr.buildSlice t n (ps.map fun (i, x) => (i, a.eval x))) rfl ?_
    rw [map_toList]
    exact hsim Pt ρ w _ (evParts_sim hT hvs) hrel (hf _ (Nat.le_refl _) (Nat.lt_succ_self _))
  | load t x =>
    obtain ⟨x1, hx, h1⟩ := ob_eq.1 (show ob (ev T x) _ = some r from h)
    obtain ⟨v, hv, rfl⟩ := rv_eq h1
    obtain ⟨ad, v', e, hr, hvr⟩ := loadT_sim hrel (ev_sim hT hx) hv
    refine ok_val (s := Instr.loadAt t (a.eval x)) rfl hrel ⟨v', ?_, hvr⟩
    rw [e]
    exact hr
  | store t x y =>
    obtain ⟨x1, hx, h1⟩ := ob_eq.1 (show ob (ev T x) _ = some r from h)
    obtain ⟨y1, hy, h2⟩ := ob_eq.1 h1
    obtain ⟨m', hm, h3⟩ := ob_eq.1 h2
    cases h3
    obtain ⟨w', hr, hrel', hn⟩ := storeT_sim (P := P) hrel (ev_sim hT hx) (ev_sim hT hy) hm
    exact ⟨w', by simp [execOp, hr], hrel', hn⟩
  | nilCheck x =>
    obtain ⟨x1, hx, h1⟩ := ob_eq.1 (show ob (ev T x) _ = some r from h)
    obtain ⟨v, hv, rfl⟩ := rv_eq h1
    obtain ⟨ad, e, hvr⟩ := nilCheckL_sim hv (ev_sim hT hx)
    exact ⟨ρ, a.eval x, w, by simp [execOp, e], Same.refl _ _ _, hvr, hrel⟩
  | binOp op t x y yt =>
    obtain ⟨x1, hx, h1⟩ := ob_eq.1 (show ob (ev T x) _ = some r from h)
    obtain ⟨y1, hy, h2⟩ := ob_eq.1 h1
    obtain ⟨v, hv, rfl⟩ := rv_eq h2
    exact ok_val rfl hrel (binL_sim (P := P) (w := w) hv (ev_sim hT hx) (ev_sim hT hy) x y)
  | unOp op t x =>
    obtain ⟨x1, hx, h1⟩ := ob_eq.1 (show ob (ev T x) _ = some r from h)
    obtain ⟨v, hv, rfl⟩ := rv_eq h1
    exact ok_val rfl hrel (unL_sim hv (ev_sim hT hx))
  | convert s d x =>
    obtain ⟨x1, hx, h1⟩ := ob_eq.1 (show ob (ev T x) _ = some r from h)
    obtain ⟨v, hv, rfl⟩ := rv_eq h1
    exact ok_val rfl hrel (convL_sim hv (ev_sim hT hx))
  | makeFunc fn fi ca =>
    have h : fnFunc fn (fun g => ob (evs T fi.toList) fun a => ob (evs T ca.toList) fun b => some (R1.val (.func (.func g) a b) m)) = some r := h
    cases fn with
    | func g =>
      obtain ⟨x1, hx, h1⟩ := ob_eq.1 (show ob (evs T fi.toList) _ = some r from h)
      obtain ⟨y1, hy, h2⟩ := ob_eq.1 h1
      cases h2
      refine ⟨ρ, _, w, rfl, Same.refl _ _ _, .func ?_ ?_, hrel⟩
      · rw [Array.toList_map]; exact evs_sim hT hx
      · rw [Array.toList_map]; exact evs_sim hT hy
    | _ => cases h
  | makeMap t rv0 =>
    obtain ⟨hg, h1⟩ := guard'_eq.1 (show guard' rv0.isNone _ = some r from h)
    rw [Mem.new_eq] at h1
    cases h1
    cases rv0 with
    | some _ => cases hg
    | none =>
      have hf0 := hf _ (Nat.le_refl _) (Nat.lt_succ_self _)
      refine ⟨_, .map (some w.heap.size), _, ?_, Same.upd1 hf0, .map (upd1_self _ _ (w.heap.size, 0, 0)), hrel.alloc hf0 rfl (o := .map #[] 0) ⟨#[], 0, rfl, trivial⟩⟩
      simp [execOp, Instr.makeMap]
  | makeSlice t l c =>
    obtain ⟨x1, hx, h1⟩ := ob_eq.1 (show ob (ev T l) _ = some r from h)
    obtain ⟨y1, hy, h2⟩ := ob_eq.1 h1
    obtain ⟨v, b, rfl, hsim⟩ := makeSliceL_sim h2
    exact ok_gives rfl (hsim Pt ρ w _ _ (ev_sim hT hx) (ev_sim hT hy) hrel (hf _ (Nat.le_refl _) (Nat.lt_succ_self _)))
  | slice t x lo hi mx =>
    obtain ⟨x1, hx, h1⟩ := ob_eq.1 (show ob (ev T x) _ = some r from h)
    obtain ⟨lo1, hlo, h2⟩ := ob_eq.1 h1
    obtain ⟨hi1, hhi, h3⟩ := ob_eq.1 h2
    obtain ⟨mx1, hmx, h4⟩ := ob_eq.1 h3
    obtain ⟨v, hv, rfl⟩ := rv_eq h4
    exact ok_val rfl hrel (sliceL_sim hv (ev_sim hT hx) (evOpt_sim hT hlo) (evOpt_sim hT hhi) (evOpt_sim hT hmx))
  | fieldAddr t x f =>
    obtain ⟨x1, hx, h1⟩ := ob_eq.1 (show ob (ev T x) _ = some r from h)
    obtain ⟨v, hv, rfl⟩ := rv_eq h1
    exact ok_val rfl hrel (fieldAddrL_sim hv (ev_sim hT hx))
  | field t x f =>
    obtain ⟨x1, hx, h1⟩ := ob_eq.1 (show ob (ev T x) _ = some r from h)
    obtain ⟨v, hv, rfl⟩ := rv_eq h1
    exact ok_val rfl hrel (fieldL_sim hv (ev_sim hT hx))
  | indexAddr t x i =>
    obtain ⟨x1, hx, h1⟩ := ob_eq.1 (show ob (ev T x) _ = some r from h)
    obtain ⟨y1, hy, h2⟩ := ob_eq.1 h1
    obtain ⟨v, hv, rfl⟩ := rv_eq h2
    exact ok_val rfl hrel (indexAddrL_sim hv (ev_sim hT hx) (ev_sim hT hy))
  | index t x i =>
    obtain ⟨x1, hx, h1⟩ := ob_eq.1 (show ob (ev T x) _ = some r from h)
    obtain ⟨y1, hy, h2⟩ := ob_eq.1 h1
    obtain ⟨v, hv, rfl⟩ := rv_eq h2
    exact ok_val rfl hrel (indexL_sim hv (ev_sim hT hx) (ev_sim hT hy))
  | lookup t x i ok =>
    obtain ⟨x1, hx, h1⟩ := ob_eq.1 (show ob (ev T x) _ = some r from h)
    obtain ⟨y1, hy, h2⟩ := ob_eq.1 h1
    obtain ⟨v, hv, rfl⟩ := rv_eq h2
    exact ok_val rfl hrel (lookupL_sim hrel hv (ev_sim hT hx) (ev_sim hT hy))
  | mapUpdate t x k y =>
    obtain ⟨x1, hx, h1⟩ := ob_eq.1 (show ob (ev T x) _ = some r from h)
    obtain ⟨k1, hk, h2⟩ := ob_eq.1 h1
    obtain ⟨y1, hy, h3⟩ := ob_eq.1 h2
    obtain ⟨m', hm, h4⟩ := ob_eq.1 h3
    cases h4
    obtain ⟨w', hr, hrel', hn⟩ := mapUpdateL_sim (P := P) hrel hm (ev_sim hT hx) (ev_sim hT hk) (ev_sim hT hy)
    exact ⟨w', by simp [execOp, hr], hrel', hn⟩
  | extract x i =>
    obtain ⟨x1, hx, h1⟩ := ob_eq.1 (show ob (ev T x) _ = some r from h)
    obtain ⟨vs, rfl, h2⟩ := asTup_eq.1 h1
    obtain ⟨v, hv, rfl⟩ := rv_eq h2
    exact ok_val rfl hrel (extract_sim hv (ev_sim hT hx))
  | call c =>
    obtain ⟨callee, args, ats⟩ := c
    obtain ⟨as, has, h1⟩ := ob_eq.1 (show ob (evs T args.toList) _ = some r from h)
    have hargs : VRs ρ as (args.map a.eval).toList := by rw [Array.toList_map]; exact evs_sim hT has
    cases callee with
    | invoke rc nm => cases h1
    | value f =>
      obtain ⟨fv, hfv, h2⟩ := ob_eq.1 (show ob (ev T f) _ = some r from h1)
      have hex : execOp a.eval ⟨dst, .call ⟨.value f, args, ats⟩, ty, pos, after, guard⟩ = (do let d ← Deferred.ofValue (a.eval f) (args.map a.eval); invoke d.target d.args : Sem Next) := rfl
      rcases callV_sim (P := P) (w := w) h2 (ev_sim hT hfv) hargs with ⟨g, gs, rfl, hg⟩ | ⟨l, b, s, c, rfl, hρ, hg⟩
      · refine ⟨rfl, fun fn hfn => ?_⟩
        obtain ⟨as', h3, h4⟩ := hg fn hfn
        exact ⟨as', by rw [hex]; exact h3, h4⟩
      · exact ⟨rfl, b, s, c, args.map a.eval, hρ, hargs, by rw [hex]; exact hg⟩
    | builtin bi =>
      have hex : execOp a.eval ⟨dst, .call ⟨.builtin bi, args, ats⟩, ty, pos, after, guard⟩ = builtin bi ats ty (args.map fun | .const _ => true | _ => false) (args.map a.eval) := rfl
      have h1 : callB P bi ats.toList as m = some r := h1
      cases bi with
      | append =>
        obtain ⟨st, ts1, ht1, h2⟩ := arg0_eq.1 (show arg0 ats.toList _ = some r from h1)
        obtain ⟨xt, ts2, ht2, h3⟩ := arg0_eq.1 h2
        obtain ⟨s, as1, rfl, h4⟩ := arg0_eq.1 h3
        obtain ⟨x, as2, rfl, h5⟩ := arg0_eq.1 h4
        obtain ⟨he, h6⟩ := guard'_eq.1 h5
        obtain rfl : as2 = [] := by simpa using he
        obtain ⟨v, m', rfl, hsim⟩ := append_sim h6
        have hA := two_args hargs
        obtain ⟨s', x', hA, hs, hx⟩ := hA
        refine ok_gives (s := Builtin.append_ ats ty (args.map a.eval)) (by rw [hex]; rfl) ?_
        rw [hA]
        exact hsim Pt ρ w s' x' ats ty (by rw [← Array.getElem?_toList, ht1]; rfl) (by rw [← Array.getElem?_toList, ht1, ht2]; rfl) hs hx hrel hf
      | copy =>
        obtain ⟨dt, ts1, ht1, h2⟩ := arg0_eq.1 (show arg0 ats.toList _ = some r from h1)
        obtain ⟨s, as1, rfl, h4⟩ := arg0_eq.1 h2
        obtain ⟨x, as2, rfl, h5⟩ := arg0_eq.1 h4
        obtain ⟨he, h6⟩ := guard'_eq.1 h5
        obtain rfl : as2 = [] := by simpa using he
        obtain ⟨v, m', rfl, hsim⟩ := copy_sim h6
        obtain ⟨s', x', hA, hs, hx⟩ := two_args hargs
        refine ok_gives (s := Builtin.copy_ ats ty (args.map a.eval)) (by rw [hex]; rfl) ?_
        rw [hA]
        exact hsim Pt ρ w s' x' ats ty (by rw [← Array.getElem?_toList, ht1]; rfl) hs hx hrel
      | len =>
        obtain ⟨t, ts1, ht1, h2⟩ := arg0_eq.1 (show arg0 ats.toList _ = some r from h1)
        obtain ⟨x, as1, rfl, h3⟩ := arg0_eq.1 h2
        obtain ⟨v, hv, rfl⟩ := rv_eq h3
        refine ok_val (s := Builtin.len_ ats ty (args.map a.eval)) (by rw [hex]; rfl) hrel ?_
        have e : args.map a.eval = ((args.map a.eval).toList).toArray := by rw [Array.toArray_toList]
        rw [e]
        cases hA : (args.map a.eval).toList with
        | nil => rw [hA] at hargs; cases hargs
        | cons x' as' =>
          rw [hA] at hargs
          cases hargs with
          | cons hx hrest => exact lenL_sim hrel hv hx ats ty as' (by rw [← Array.getElem?_toList, ht1]; rfl)
      | max =>
        obtain ⟨x, as1, rfl, h3⟩ := arg0_eq.1 (show arg0 as _ = some r from h1)
        obtain ⟨v, hv, rfl⟩ := rv_eq h3
        refine ok_val (s := Builtin.max_ ats ty (args.map a.eval)) (by rw [hex]; rfl) hrel ?_
        unfold Builtin.max_
        cases hA : (args.map a.eval).toList with
        | nil => rw [hA] at hargs; cases hargs
        | cons x' as' =>
          rw [hA] at hargs
          cases hargs with
          | cons hx hrest => exact foldL_sim (fun _ _ _ _ _ g1 g2 g3 => max2L_sim g1 g2 g3) _ _ _ _ _ hv hx hrest
      | min =>
        obtain ⟨x, as1, rfl, h3⟩ := arg0_eq.1 (show arg0 as _ = some r from h1)
        obtain ⟨v, hv, rfl⟩ := rv_eq h3
        refine ok_val (s := Builtin.min_ ats ty (args.map a.eval)) (by rw [hex]; rfl) hrel ?_
        unfold Builtin.min_
        cases hA : (args.map a.eval).toList with
        | nil => rw [hA] at hargs; cases hargs
        | cons x' as' =>
          rw [hA] at hargs
          cases hargs with
          | cons hx hrest => exact foldL_sim (fun _ _ _ _ _ g1 g2 g3 => min2L_sim g1 g2 g3) _ _ _ _ _ hv hx hrest
      | _ => cases h1
  | _ => cases h
end op1
end PvL
