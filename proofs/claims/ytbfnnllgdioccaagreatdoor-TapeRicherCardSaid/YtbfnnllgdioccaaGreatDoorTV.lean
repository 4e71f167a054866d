/-
  Part of the proof of TapeRicher: what functions of the program and of the statement come to, walked by the rules. No condition beyond those in each theorem.
-/
import Derived.Test.YtbfnnllgdioccaaGreatDoorTU
section
open Go PvL Go.Proofs
variable {μ : Md}
set_option linter.unusedVariables false
set_option linter.unusedSimpArgs false
namespace Go.Proofs.YtbfnnllgdioccaaGreatDoor.C
end Go.Proofs.YtbfnnllgdioccaaGreatDoor.C
end
section
open Go PvL Go.Proofs
variable {μ : Md}
set_option linter.unusedVariables false
set_option linter.unusedSimpArgs false
namespace Go.Proofs.YtbfnnllgdioccaaGreatDoor.C
instance : IsB Tryz.prog 4 := ⟨by kernel_rfl⟩
theorem mc {M : Mem} {v w : LV} {x y : Rl} (h : mgOk x y) (hv : RlV M v x) (hw : RlV M w y) {s : ByteArray} {L : List Fr} (hs : x.1 = s) (hL : jnL x.2 y.2 = L) :
    CallN Tryz.prog 23 [v, w] M (fun r M' => ∃ a f e, r = .tup [.agg [.str s, .slice a L.length f e], I 0] /\ FsV1 M' a L /\ Grow M M') := by
  subst hs hL
  have := zer hv hw (zbs h.1) (zbs h.2.1)
  rw [zfx h] at this
  refine this.mono ?_
  rintro r M' ⟨q, rfl, ⟨a, f, e, rfl, h1⟩, h2⟩
  exact ⟨a, f, e, rfl, h1, h2⟩
theorem mn {M : Mem} {v w : LV} {x y : Rl} (h : ¬ mgOk x y) (hv : RlV M v x) (hw : RlV M w y) (hx : RlIn x) (hy : RlIn y) :
    CallN Tryz.prog 23 [v, w] M (fun r M' => ∃ s a f e k n, r = .tup [.agg [.str s, .slice a k f e], I n] /\ n ≠ 0 /\ Grow M M') := by
  have := zer hv hw hx hy
  have hn := zfw h
  refine this.mono ?_
  rintro r M' ⟨q, rfl, ⟨a, f, e, rfl, h1⟩, h2⟩
  exact ⟨_, a, f, e, _, _, rfl, hn, h2⟩
theorem mg {M : Mem} {v w : LV} {x y : Rl} (hv : RlV M v x) (hw : RlV M w y) (hx : RlIn x) (hy : RlIn y) :
    CallN Tryz.prog 23 [v, w] M (fun r M' => ∃ s a k f e n, r = .tup [.agg [.str s, .slice a k f e], I n] /\ (n = 0 -> mgOk x y /\ s = x.1 /\ k = (jnL x.2 y.2).length /\ FsV1 M' a (jnL x.2 y.2)) /\ Grow M M') := by
  by_cases h : mgOk x y
  · refine (mc h hv hw rfl rfl).mono ?_
    rintro r M' ⟨a, f, e, rfl, h1, h2⟩
    exact ⟨_, a, _, f, e, 0, rfl, fun _ => ⟨h, rfl, rfl, h1⟩, h2⟩
  · refine (mn h hv hw hx hy).mono ?_
    rintro r M' ⟨s, a, f, e, k, n, rfl, h1, h2⟩
    exact ⟨s, a, k, f, e, n, rfl, fun h3 => absurd h3 h1, h2⟩
theorem sr {M : Mem} {s : ByteArray} {L : List Fr} {a b : Option (Nat × Nat)} {f g : Bool} {e u : Nat} (hL : GdL L) (hl : L.length <= 128) (h1 : FsV M a L) (h2 : FsV M b L) :
    CallOk Tryz.prog 25 [.agg [.str s, .slice a L.length f e], .agg [.str s, .slice b L.length g u]] M (fun u M' => u = .bool true /\ Grow M M') :=
  zdc (r := (s, L)) ⟨_, _, _, rfl, h1⟩ ⟨_, _, _, rfl, h2⟩ (by show L.length <= _; omega) (fun z hz => by have := (z4l (hL.b z hz)).2; omega)
end Go.Proofs.YtbfnnllgdioccaaGreatDoor.C
end
