/-
 Part of the proof of TapePacks: what functions of the program and of the statement come to, walked by the rules. No condition beyond those in each theorem.
-/
import Derived.Test.YtlfkmgpngkbhpaaGreatDoorTS
section
open Go PvL Go.Proofs
set_option linter.unusedSimpArgs false
set_option linter.unusedVariables false
namespace Go.Proofs.YtlfkmgpngkbhpaaGreatDoor.C
theorem flat_len {α β : Type} {g : α -> List β} {B : Nat} : ∀ {l : List α}, (∀ c ∈ l, (g c).length <= B) -> (l.flatMap g).length <= B * l.length
 | [], _ => by simp
 | c :: l, h => by
  rw [List.flatMap_cons, List.length_append, List.length_cons, Nat.mul_add, Nat.mul_one]
  have h1 := h c List.mem_cons_self
  have h2 := flat_len (g := g) (B := B) (l := l) (fun c hc => h c (List.mem_cons_of_mem _ hc))
  omega
set_option maxHeartbeats 16000000 in
theorem c_packed {M : Mem} {v : LV} {x : Fr} (hv : FrV M v x) (hx : frB x = true) : CallOk Tryz.prog 67 [v] M (fun w M' => ∃ b, ApB b M' w (pkL x) /\ M.next <= b /\ Grow M M') := by
 obtain ⟨a, f, e, rfl, hs⟩ := hv
 obtain ⟨s, c, l⟩ := x
 have hbd := frB_bd hx
 dsimp only at hbd hs ⊢
 obtain ⟨hs1, hs2, hc1, hc2, hsm⟩ := hbd
 have hln : 1 <= l.length /\ l.length <= 64 /\ l.all smB = true := by
  unfold smsB btB at hsm
  simp only [Bool.and_eq_true, decide_eq_true_eq] at hsm
  exact ⟨by omega, by omega, hsm.2⟩
 obtain ⟨s, rfl⟩ : ∃ n : Nat, s = (n : Int) := ⟨s.toNat, by omega⟩
 obtain ⟨c, rfl⟩ : ∃ n : Nat, c = (n : Int) := ⟨c.toNat, by omega⟩
 have hpk : pkL ((s : Int), (c : Int), l) = chkL ((([165, 90] ++ twoL s) ++ [u8 c, u8 l.length]) ++ cdsL l l.length) := rfl
 rw [hpk]
 refine call_in k67 rfl ?_
 dsimp only [x67, zipE, Nat.reduceAdd]
 (repeat' (first | (with_reducible intro _) | refine sv ?_ | (refine sc ?_ ?_ <;> (intro h; try first | exact h.elim | exact absurd rfl h | (exfalso; omega))) | ((with_reducible first | apply x_mkat | apply d_mkat); exact gd; exact rfl; exact rfl; (first | exact c_two s (by omega) _)) | (refine sg ?_ ?_ <;> (intro h; (fail_if_success (have : True := h)); try first | exact h.elim | exact absurd rfl h | (exfalso; omega))) | assumption | exact xm | exact rfl))
 rename_i m1 M1 hN1 q1 q2 m5 M5 hN5 q3 q4 p8 M8 hA8 l8 l8' hg8 le8
 have ha1 : At M8 m1 (.cells true [I s, I c, .slice a l.length f e] 24) := xm
 have hb8 : ApB m5 M8 (.slice (some (m5, 0)) 2 true 1) [165, 90] := ApB.grow (M := M5) ⟨true, _, rfl, At.new_same hN5, .inl rfl⟩ hg8
 have hgM8 : Grow M M8 := xg
 refine x_apb (l' := twoL s) (by exact gd) hb8 rfl rfl rfl (by simp [twoL]) (by simp [twoL]) rfl (first_bytes (f := true) hA8) ?_
 intro v9 M9 hb9 e9 hk9
 have hgM9 : Grow M M9 := Keep.to_grow' hgM8 hk9 (fun i hi => by omega)
 have ha9 := ha1.keep hk9 (by omega)
 obtain ⟨f9, ty9, rfl, ht9⟩ := id hb9
 (repeat' (first | (with_reducible intro _) | refine sv ?_ | (refine sc ?_ ?_ <;> (intro h; try first | exact h.elim | exact absurd rfl h | (exfalso; omega))) | (refine sg ?_ ?_ <;> (intro h; (fail_if_success (have : True := h)); try first | exact h.elim | exact absurd rfl h | (exfalso; omega))) | assumption | exact xm | exact rfl))
 rename_i m3 M10 hN10 u1 u2 M11 hU11 u3 hA11 n12 M12 hN12 u4 u5
 have hg912 : Grow M9 M12 := xg
 have hb12 := hb9.grow hg912
 have ha12 := At.grow hg912 ha9
 have hm12 : At M12 m3 (.cells true [.slice (some (M8.next, 0)) ([165, 90] ++ twoL s).length f9 1] 75) := xm
 rw [show [LV.int .u8 (c : Int), LV.int .u8 (l.length : Int)] = bytesC [u8 c, u8 l.length] from by show _ = [byteL (u8 c), byteL (u8 l.length)]; rw [byte_u8 (by omega), byte_u8 (by omega)]] at hN12
 have hgM12 := hgM9.trans hg912
 have l8m := hb9.lt
 refine x_apb (l' := [u8 c, u8 l.length]) (by exact gd) hb12 rfl rfl rfl (by simp) (by simp [twoL]) rfl (first_bytes (f := true) (At.new_same hN12)) ?_
 intro v13 M13 hb13 e13 hk13
 have hgM13 : Grow M M13 := Keep.to_grow' hgM12 hk13 (fun i hi => by have := hgM8.le; omega)
 have ha13 := ha12.keep hk13 (by omega)
 have hm13 := hm12.keep hk13 (by omega)
 generalize hHd : ([165, 90] ++ twoL s) ++ [u8 c, u8 l.length] = hd at *
 have hhl : hd.length = 6 := by rw [<- hHd]; simp [twoL]
 generalize hb0 : M12.next = b0 at *
 have hM8 := hgM8.le
 clear hN1 hN5 hA8 hg8 hk9 hN10 hU11 hA11 hN12 hk13 hb12 ht9 hb9 hg912 ha12 hm12 hb8 ha1 ha9
 obtain ⟨f13, ty13, rfl, ht13⟩ := id hb13
 (repeat' (first | (with_reducible intro _) | refine sv ?_ | (refine sc ?_ ?_ <;> (intro h; try first | exact h.elim | exact absurd rfl h | (exfalso; omega))) | ((with_reducible first | apply x_mkat | apply d_mkat); exact gd; exact rfl; exact rfl; (first | exact c_codes _)) | (refine sg ?_ ?_ <;> (intro h; (fail_if_success (have : True := h)); try first | exact h.elim | exact absurd rfl h | (exfalso; omega))) | assumption | exact xm | exact rfl))
 rename_i M14 hU14 e14 hA14 p15 M15 hA15 l15 l15' hg15 le15
 have hb14 : ApB b0 M14 (.slice (some (b0, 0)) hd.length f13 1) hd := by
  obtain ⟨f, ty, h1, h2, h3⟩ := hb13
  exact ⟨f, ty, h1, At.upd_ne hU14 (by omega) h2, h3⟩
 have hb15 := hb14.grow hg15
 have hm15 := At.grow hg15 hA14
 have hgM14 : Grow M M14 := hgM13.upd hU14 (by omega)
 have hgM15 := hgM14.trans hg15
 have hlb0 := hb13.lt
 clear hU14 hA14 hg15 hb14 hb13 ht13 ha13 hm13 hgM14
 apply w_rfun
 exact rfl
 intro lb d0 ly M16 M17 hlb hd0 e16 e16' hly e17 e17'
 have hg1517 : Grow M15 M17 := hd0.grow.trans hly.grow
 have hgM17 := hgM15.trans hg1517
 have hs17 := hs.grow hgM17
 have hy := y_codes (At.grow hg1517 hA15) hs17 hln.2.1 hln.2.2
 have hd17 : At M17 d0 .defr := At.new_old hly (At.new_same hd0)
 refine (hy ly (fun i => i = m3 ∨ i = b0 ∨ i = ly) (fun dn T M' => ∃ v b, At M' m3 (.cells true [v] 75) /\ ApB b M' v (hd ++ dn.flatMap fun c => cdN c.toNat) /\ (b = b0 ∨ T b) /\ At M' ly (lb .ready none) /\ At M' d0 .defr /\ Keep (fun i => i = m3 ∨ i = b0 ∨ i = ly) M17 M' /\ dn.length <= 64) (fun _ _ => False) ⟨?_, ?_, fun T M M' h => h.elim, ?_⟩ ?_ ⟨_, b0, At.grow hg1517 hm15, by rw [List.flatMap_nil, List.append_nil]; exact hb15.grow hg1517, .inl rfl, At.new_same hly, hd17, Keep.refl _ _, Nat.zero_le _⟩).mono ?_
 ·rintro i (rfl | rfl | rfl) <;> omega
 ·rintro dn T Mx My ⟨v, b, h1, h2, h3, h4, h5, h6, h7⟩ hle hg
  have hgo : ∀ i, i < M17.next -> My.get i = Mx.get i := fun i hi => hg i (.inl ⟨hi, id⟩)
  refine ⟨v, b, h1.same hle (hgo _ (by omega)), h2.same hle ?_, h3, h4.same hle (hgo _ (by omega)), h5.same hle (hgo _ (by omega)), ⟨Nat.le_trans h6.le hle, fun i hi hf => by rw [hgo i hi]; exact h6.old i hi hf⟩, h7⟩
  rcases h3 with rfl | h3
  ·exact hgo _ (by omega)
  ·exact hg _ (.inr h3)
 ·rintro dn c' rest v' U T Mx hits ⟨rfl, hU⟩ hN0 hT hUd ⟨v, b, h1, h2, h3, h4, h5, h6, h7⟩
  have hcm : c' ∈ cdItems l l.length := by rw [hits]; simp
  have hcb : 0 <= c' /\ c' <= 131070 := by
   unfold cdItems at hcm
   obtain ⟨k, _, rfl⟩ := List.mem_map.1 hcm
   exact cdA_bd l k
  have hdl : dn.length + 1 <= 64 := by
   have := congrArg List.length hits
   rw [List.length_append, List.length_cons] at this
   unfold cdItems at this
   rw [List.length_map, List.length_range] at this
   omega
  obtain ⟨N, rfl⟩ : ∃ N : Nat, c' = (N : Int) := ⟨c'.toNat, by omega⟩
  have hbl : (dn.flatMap fun c => cdN c.toNat).length <= 1100 * dn.length := flat_len (fun c hc => by
   have hcm2 : c ∈ cdItems l l.length := by rw [hits]; exact List.mem_append_left _ hc
   unfold cdItems at hcm2
   obtain ⟨k, _, rfl⟩ := List.mem_map.1 hcm2
   have := cdA_bd l k
   have := cdN_len (cdA l k).toNat
   omega)
  have hfold : (dn ++ [(N : Int)]).flatMap (fun c => cdN c.toNat) = (dn.flatMap fun c => cdN c.toNat) ++ cdN N := by rw [List.flatMap_append]; simp
  rw [hfold]
  have hcdl := cdN_len N
  generalize hbase : hd ++ (dn.flatMap fun c => cdN c.toNat) = base at *
  have hbasel : base.length <= 100000 := by rw [<- hbase, List.length_append]; omega
  have hbM := h2.lt
  have hlyM := h4.2
  refine round_in hlb h4 rfl ?_
  dsimp only [zipP]
  (repeat' (first | (with_reducible intro _) | refine sv ?_ | (refine sc ?_ ?_ <;> (intro h; try first | exact h.elim | exact absurd rfl h | (exfalso; omega))) | (refine sg ?_ ?_ <;> (intro h; (fail_if_success (have : True := h)); try first | exact h.elim | exact absurd rfl h | (exfalso; omega))) | assumption | exact xm | exact rfl))
  rename_i MB hUB eB hlyB
  have hbl2 : b ≠ ly /\ (b = b0 ∨ M17.next <= b) := by
   rcases h3 with rfl | h3
   ·exact ⟨by omega, .inl rfl⟩
   ·have := (hT b h3).1
    exact ⟨by omega, .inr this⟩
  have k1 := At.upd_ne hUB (show m3 ≠ ly by omega) h1
  have k2 : ApB b MB v base := by
   obtain ⟨f, ty, g1, g2, g3⟩ := h2
   exact ⟨f, ty, g1, At.upd_ne hUB hbl2.1 g2, g3⟩
  have k5 := At.upd_ne hUB (show d0 ≠ ly by omega) h5
  have hKB : Keep (fun i => i = m3 ∨ i = b0 ∨ i = ly ∨ T i) Mx MB := (Keep.refl _ _).upd hUB (.inl (.inr (.inr (.inl rfl))))
  have hle6 := h6.le
  clear hUB
  refine w_loop_ind (fun z E ms M' => ∃ (m : Nat) (pre : List UInt8) (v2 : LV) (b2 : Nat), z = m /\ m <= N /\ ms = [] /\ Has E [(3, .ptr (some (m3, 0))), (4, I m)] /\ At M' m3 (.cells true [v2] 75) /\ ApB b2 M' v2 (base ++ pre) /\ pre ++ cdN m = cdN N /\ (b2 = b0 ∨ T b2 ∨ Mx.next <= b2) /\ (b2 = b0 ∨ M17.next <= b2) /\ At M' ly (lb .busy none) /\ At M' d0 .defr /\ Keep (fun i => i = m3 ∨ i = b0 ∨ i = ly ∨ T i) Mx M')
   ?_ N _ _ _ ⟨N, [], v, b, rfl, Nat.le_refl _, rfl, .cons rfl (.cons rfl .nil), k1, by rw [List.append_nil]; exact k2, rfl, h3.elim .inl (fun h => .inr (.inl h)), hbl2.2, hlyB, k5, hKB⟩
  rintro z E ms MC ⟨m, pre, v2, b2, hz, hm, rfl, hE, r1, r2, hpre, hb2, hb2', rly, rd0, hKC⟩
  refine w_has hE ?_
  obtain ⟨f2, ty2, rfl, hat2⟩ := id r2
  have hprel : pre.length <= 2000 := by
   have := congrArg List.length hpre
   rw [List.length_append] at this
   omega
  have hb2l := r2.lt
  have hleC := hKC.le
  have hFb : b2 = m3 ∨ b2 = b0 ∨ b2 = ly ∨ T b2 ∨ Mx.next <= b2 := hb2.elim (fun h => .inr (.inl h)) (fun h => .inr (.inr (.inr h)))
  by_cases h128 : 128 <= m
  ·have hd1 : (m : Int) / 128 = ((m / 128 : Nat) : Int) := by omega
   have hd2 : (m : Int) % 128 + 128 = ((m % 128 + 128 : Nat) : Int) := by omega
   have hge := cdN_ge h128
   (repeat' (first | (with_reducible intro _) | refine sv ?_ | (refine sc ?_ ?_ <;> (intro h; try first | exact h.elim | exact absurd rfl h | (exfalso; omega))) | (refine sg ?_ ?_ <;> (intro h; (fail_if_success (have : True := h)); try first | exact h.elim | exact absurd rfl h | (exfalso; omega))) | assumption | exact xm | exact rfl))
   rename_i nD MD hND eD eD'
   rw [hd2, bytes_u8 (by omega)] at hND
   have r2D := r2.grow hND.grow
   refine x_apb (l' := [u8 (m % 128 + 128)]) (by exact gd) r2D rfl rfl rfl (by simp) (by simp; omega) rfl (first_bytes (f := true) (At.new_same hND)) ?_
   intro v3 ME hbE eE hkE
   have hKE : Keep (fun i => i = m3 ∨ i = b0 ∨ i = ly ∨ T i) Mx ME := (hKC.new hND).trans hkE (fun i hi => by
    subst hi
    rcases hb2 with h | h | h
    ·exact .inl (.inr (.inl h))
    ·exact .inl (.inr (.inr (.inr h)))
    ·exact .inr h)
   have gm3 := (At.new_old hND r1).keep hkE (show ¬ m3 = b2 by omega)
   have gly := (At.new_old hND rly).keep hkE (show ¬ ly = b2 by omega)
   have gd0 := (At.new_old hND rd0).keep hkE (show ¬ d0 = b2 by omega)
   clear hkE
   obtain ⟨f3, ty3, rfl, ht3, ht3'⟩ := id hbE
   (repeat' (first | (with_reducible intro _) | refine sv ?_ | (refine sc ?_ ?_ <;> (intro h; try first | exact h.elim | exact absurd rfl h | (exfalso; omega))) | (refine sg ?_ ?_ <;> (intro h; (fail_if_success (have : True := h)); try first | exact h.elim | exact absurd rfl h | (exfalso; omega))) | assumption | exact xm | exact rfl))
   rename_i MF hUF eF hmF
   exact k_step (m / 128) (by omega) ⟨m / 128, pre ++ [u8 (m % 128 + 128)], _, MD.next, rfl, by omega, rfl, .cons rfl (.cons (by rw [<- hd1]; rfl) .nil), hmF, by rw [<- List.append_assoc]; exact ⟨_, _, rfl, At.upd_ne hUF (by omega) ht3, ht3'⟩, by rw [List.append_assoc, <- hpre, hge]; rfl, .inr (.inr (by omega)), .inr (by omega), At.upd_ne hUF (by omega) gly, At.upd_ne hUF (by omega) gd0, hKE.upd hUF (.inl (.inl rfl))⟩
  ·have hlt := cdN_lt (show m < 128 by omega)
   (repeat' (first | (with_reducible intro _) | refine sv ?_ | (refine sc ?_ ?_ <;> (intro h; try first | exact h.elim | exact absurd rfl h | (exfalso; omega))) | (refine sg ?_ ?_ <;> (intro h; (fail_if_success (have : True := h)); try first | exact h.elim | exact absurd rfl h | (exfalso; omega))) | assumption | exact xm | exact rfl))
   rename_i nD MD hND eD eD'
   rw [bytes_u8 (by omega)] at hND
   have r2D := r2.grow hND.grow
   refine x_apb (l' := [u8 m]) (by exact gd) r2D rfl rfl rfl (by simp) (by simp; omega) rfl (first_bytes (f := true) (At.new_same hND)) ?_
   intro v3 ME hbE eE hkE
   have hKE : Keep (fun i => i = m3 ∨ i = b0 ∨ i = ly ∨ T i) Mx ME := (hKC.new hND).trans hkE (fun i hi => by
    subst hi
    rcases hb2 with h | h | h
    ·exact .inl (.inr (.inl h))
    ·exact .inl (.inr (.inr (.inr h)))
    ·exact .inr h)
   have gm3 := (At.new_old hND r1).keep hkE (show ¬ m3 = b2 by omega)
   have gly := (At.new_old hND rly).keep hkE (show ¬ ly = b2 by omega)
   have gd0 := (At.new_old hND rd0).keep hkE (show ¬ d0 = b2 by omega)
   clear hkE
   obtain ⟨f3, ty3, rfl, ht3, ht3'⟩ := id hbE
   (repeat' (first | (with_reducible intro _) | refine sv ?_ | (refine sc ?_ ?_ <;> (intro h; try first | exact h.elim | exact absurd rfl h | (exfalso; omega))) | (refine sg ?_ ?_ <;> (intro h; (fail_if_success (have : True := h)); try first | exact h.elim | exact absurd rfl h | (exfalso; omega))) | assumption | exact xm | exact rfl))
   rename_i MF hUF eF hmF MG hUG eG hlyG
   refine ⟨((hKE.upd hUF (.inl (.inl rfl))).upd hUG (.inl (.inr (.inr (.inl rfl))))).weaken (fun i hi => ?_), fun i => i = MD.next, fun i hi => ⟨.inr (.inr (by omega)), by omega⟩, .inl ⟨rfl, _, MD.next, At.upd_ne hUG (by omega) hmF, ?_, .inr rfl, hlyG, At.upd_ne hUG (by omega) (At.upd_ne hUF (by omega) gd0), ?_, ?_⟩⟩
   ·rcases hi with h | h | h | h
    ·exact .inl (.inl h)
    ·exact .inl (.inr (.inl h))
    ·exact .inl (.inr (.inr h))
    ·exact .inr (.inl h)
   ·have e1 : hd ++ ((dn.flatMap fun c => cdN c.toNat) ++ cdN N) = base ++ pre ++ [u8 m] := by rw [<- hbase, <- hpre, hlt]; simp
    rw [e1]
    exact ⟨_, _, rfl, At.upd_ne hUG (by omega) (At.upd_ne hUF (by omega) ht3), ht3'⟩
   ·refine h6.trans ((hKE.upd hUF (.inl (.inl rfl))).upd hUG (.inl (.inr (.inr (.inl rfl))))) (fun i hi => ?_)
    rcases hi with h | h | h | h
    ·exact .inl (.inl h)
    ·exact .inl (.inr (.inl h))
    ·exact .inl (.inr (.inr h))
    ·exact .inr (hT i h).1
   ·rw [List.length_append]; exact hdl
 ·rintro i (rfl | ⟨o, hi⟩)
  ·rintro (h | h | h) <;> omega
  ·obtain ⟨i', o', he, hr⟩ := hs.rd (k := 0) (by omega)
   rw [hi] at he
   obtain ⟨rfl, rfl⟩ : i = i' /\ o = o' := by injection he with q; injection q with q1 q2; exact ⟨q1, q2⟩
   have := hr.2
   rintro (h | h | h) <;> omega
 ·rintro w18 M18 ⟨hk18, _, T', hT', ⟨v, b, h1, h2, h3, h4, h5, h6, h7⟩ | h⟩
  ·rw [cdItems_L] at h2
   have hbl2 : b ≠ ly /\ (b = b0 ∨ M17.next <= b) /\ M.next <= b := by
    have := hgM17.le
    rcases h3 with rfl | h3
    ·exact ⟨by omega, .inl rfl, by omega⟩
    ·have := (hT' b h3).1
     exact ⟨by omega, .inr this, by omega⟩
   have hcl := cdsL_len l l.length
   generalize hBy : hd ++ cdsL l l.length = By at *
   have hByl : By.length <= 100000 := by rw [<- hBy, List.length_append]; omega
   have hg18 : Grow M M18 := Keep.to_grow' hgM17 h6 (fun i hi => by rcases hi with h | h | h <;> omega)
   have le18 := h6.le
   clear hk18 h6
   refine k_iter h4 (by simp) fun M19 hu19 e19 a19 => ?_
   have hb19 : ApB b M19 v By := by
    obtain ⟨f, ty, g1, g2, g3⟩ := h2
    exact ⟨f, ty, g1, At.upd_ne hu19 hbl2.1 g2, g3⟩
   have hm19 := At.upd_ne hu19 (show m3 ≠ ly by omega) h1
   have hd19 := At.upd_ne hu19 (show d0 ≠ ly by omega) h5
   have hg19 : Grow M M19 := hg18.upd hu19 (by have := hgM15.le; omega)
   have hcr := crcK_bd (strL By) By.length
   obtain ⟨n, hn⟩ : ∃ n : Nat, crcK (strL By) By.length = (n : Int) := ⟨(crcK (strL By) By.length).toNat, by omega⟩
   have hck : chkL By = By ++ twoL n := by unfold chkL; rw [hn]; rfl
   rw [hck]
   have cc := c_Crc (strL By) (by rw [strL_size]; omega)
   rw [strL_size, hn] at cc
   have hbl := hb19.lt
   clear hu19 h1 h2 h5 a19 h4
   obtain ⟨f9', ty9', rfl, hat9⟩ := id hb19
   (repeat' (first | (with_reducible intro _) | refine sv ?_ | (refine sc ?_ ?_ <;> (intro h; try first | exact h.elim | exact absurd rfl h | (exfalso; omega))) | (refine sg ?_ ?_ <;> (intro h; (fail_if_success (have : True := h)); try first | exact h.elim | exact absurd rfl h | (exfalso; omega))) | assumption | exact xm | exact rfl))
   refine xd_read (by exact gd) (ApB.bstr hb19 rfl) (fun m => ApB b m (.slice (some (b, 0)) By.length f9' 1) By) (fun m hm => ApB.bstr hm rfl) ?_
   (repeat' (first | (with_reducible intro _) | refine sv ?_ | (refine sc ?_ ?_ <;> (intro h; try first | exact h.elim | exact absurd rfl h | (exfalso; omega))) | ((with_reducible first | apply x_same | apply d_same | apply d_same0); exact gd; exact rfl; exact rfl; (first | exact cc _)) | ((with_reducible first | apply x_mkat | apply d_mkat); exact gd; exact rfl; exact rfl; (first | exact c_two n (by omega) _)) | (refine sg ?_ ?_ <;> (intro h; (fail_if_success (have : True := h)); try first | exact h.elim | exact absurd rfl h | (exfalso; omega))) | assumption | exact xm | exact rfl))
   rename_i p20 M20 hA20 l20 l20' hg20 le20
   have hb20 := hb19.grow hg20
   have hm20 := At.grow hg20 hm19
   have hd20 := At.grow hg20 hd19
   refine d_apb (l' := twoL n) (by exact gd) hb20 rfl rfl rfl (by simp [twoL]) (by simp [twoL]; omega) rfl (first_bytes (f := true) hA20) ?_
   intro v21 M21 hb21 e21 hk21
   have hd21 := hd20.keep hk21 (by omega)
   have hg21 : Grow M M21 := Keep.to_grow' (hg19.trans hg20) hk21 (fun i hi => by omega)
   clear hk21
   (repeat' (first | (with_reducible intro _) | refine sv ?_ | (refine sc ?_ ?_ <;> (intro h; try first | exact h.elim | exact absurd rfl h | (exfalso; omega))) | (refine sg ?_ ?_ <;> (intro h; (fail_if_success (have : True := h)); try first | exact h.elim | exact absurd rfl h | (exfalso; omega))) | assumption | exact xm | exact rfl))
   refine k_fun_end (.inr rfl) (by simp [dnat]) (fun d hd => by simp [dnat] at hd; subst hd; exact hd21) fun M22 hm => ⟨_, .tmp rfl .nil, M20.next, ?_, ?_, ?_⟩
   ·obtain ⟨f, ty, rfl, g2, g3⟩ := hb21
    exact ⟨f, ty, rfl, g2.unmark hm (by simp [dnat]; omega), g3⟩
   ·have := (hg19.trans hg20).le
    omega
   ·exact hg21.unmark hm (fun d hd => by simp [dnat] at hd; subst hd; have := hgM15.le; omega)
  ·exact h.elim
theorem c_codeI (c : Int) (h : 0 <= c /\ c <= 131070) (M : Mem) : CallOk Tryz.prog 124 [I c] M (fun w M' => w = .str (strL (cdN c.toNat)) /\ Grow M M') := by
 obtain ⟨n, rfl⟩ : ∃ n : Nat, c = (n : Int) := ⟨c.toNat, by omega⟩
 exact c_code n (by omega) M
set_option maxHeartbeats 8000000 in
theorem c_packedR {M : Mem} {v : LV} {x : Fr} (hv : FrV M v x) (hx : frB x = true) : CallOk Tryz.prog 88 [v] M (fun w M' => w = .str (strL (pkL x)) /\ Grow M M') := by
 obtain ⟨a, f, e, rfl, hs⟩ := hv
 obtain ⟨s, c, l⟩ := x
 have hbd := frB_bd hx
 dsimp only at hbd hs ⊢
 obtain ⟨hs1, hs2, hc1, hc2, hsm⟩ := hbd
 have hln : 1 <= l.length /\ l.length <= 64 /\ l.all smB = true := by
  unfold smsB btB at hsm
  simp only [Bool.and_eq_true, decide_eq_true_eq] at hsm
  exact ⟨by omega, by omega, hsm.2⟩
 obtain ⟨s, rfl⟩ : ∃ n : Nat, s = (n : Int) := ⟨s.toNat, by omega⟩
 obtain ⟨c, rfl⟩ : ∃ n : Nat, c = (n : Int) := ⟨c.toNat, by omega⟩
 have hpk : pkL ((s : Int), (c : Int), l) = chkL ((([165, 90] ++ twoL s) ++ [u8 c, u8 l.length]) ++ cdsL l l.length) := rfl
 rw [hpk]
 refine call_in k88 rfl ?_
 dsimp only [x88, zipE, Nat.reduceAdd]
 have co1 := c_octet c (by omega)
 have co2 := c_octet l.length (by omega)
 rw [show c % 256 = c from by omega] at co1
 rw [show l.length % 256 = l.length from by omega] at co2
 (repeat' (first | (with_reducible intro _) | refine sv ?_ | (refine sc ?_ ?_ <;> (intro h; try first | exact h.elim | exact absurd rfl h | (exfalso; omega))) | ((with_reducible first | apply x_pure | apply d_pure | apply d_pure0); exact gd; exact rfl; exact rfl; (first | exact c_twoR s (by omega) _)) | (refine sg ?_ ?_ <;> (intro h; (fail_if_success (have : True := h)); try first | exact h.elim | exact absurd rfl h | (exfalso; omega))) | assumption | exact xm | exact rfl))
 refine d_val (by exact gd) (xs_adds (s := strL [165, 90]) rfl rfl (by rw [strL_size, strL_size]; simp [twoL])) ?_
 rw [strL_app]
 (repeat' (first | (with_reducible intro _) | refine sv ?_ | (refine sc ?_ ?_ <;> (intro h; try first | exact h.elim | exact absurd rfl h | (exfalso; omega))) | ((with_reducible first | apply x_pure | apply d_pure | apply d_pure0); exact gd; exact rfl; exact rfl; (first | exact co1 _)) | (refine sg ?_ ?_ <;> (intro h; (fail_if_success (have : True := h)); try first | exact h.elim | exact absurd rfl h | (exfalso; omega))) | assumption | exact xm | exact rfl))
 refine d_val (by exact gd) (xs_adds rfl rfl (by rw [strL_size, strL_size]; simp [twoL])) ?_
 rw [strL_app]
 (repeat' (first | (with_reducible intro _) | refine sv ?_ | (refine sc ?_ ?_ <;> (intro h; try first | exact h.elim | exact absurd rfl h | (exfalso; omega))) | ((with_reducible first | apply x_pure | apply d_pure | apply d_pure0); exact gd; exact rfl; exact rfl; (first | exact co2 _)) | (refine sg ?_ ?_ <;> (intro h; (fail_if_success (have : True := h)); try first | exact h.elim | exact absurd rfl h | (exfalso; omega))) | assumption | exact xm | exact rfl))
 refine d_val (by exact gd) (xs_adds rfl rfl (by rw [strL_size, strL_size]; simp [twoL])) ?_
 rw [strL_app, show (([165, 90] ++ twoL s) ++ [u8 c]) ++ [u8 l.length] = ([165, 90] ++ twoL s) ++ [u8 c, u8 l.length] from by simp]
 generalize hHd : ([165, 90] ++ twoL s) ++ [u8 c, u8 l.length] = hd at *
 have hhl : hd.length = 6 := by rw [<- hHd]; simp [twoL]
 (repeat' (first | (with_reducible intro _) | refine sv ?_ | (refine sc ?_ ?_ <;> (intro h; try first | exact h.elim | exact absurd rfl h | (exfalso; omega))) | (refine sg ?_ ?_ <;> (intro h; (fail_if_success (have : True := h)); try first | exact h.elim | exact absurd rfl h | (exfalso; omega))) | assumption | exact xm | exact rfl))
 rename_i m1 N1 hN1 q1 q2 N2 hg2 l2 N3 hg3 l3 N4 hg4 l4
 have hA1 : At N4 m1 (.cells true [I s, I c, .slice a l.length f e] 24) := xm
 have hgN : Grow M N4 := xg
 clear hN1 hg2 hg3 hg4
 refine w_loop_ind (fun z E ms M' => ∃ k : Nat, z = l.length - k /\ k <= l.length /\ ms = [] /\ Has E [(1, .ptr (some (m1, 0))), (3, .str (strL (hd ++ cdsL l k))), (4, I (lsA l k)), (5, I k)] /\ Grow M M' /\ At M' m1 (.cells true [I s, I c, .slice a l.length f e] 24))
  ?_ l.length _ _ _ ⟨0, by omega, by omega, rfl, .cons rfl (.cons (by rw [show cdsL l 0 = [] from rfl, List.append_nil]; rfl) (.cons rfl (.cons rfl .nil))), hgN, hA1⟩
 rintro z E ms M1 ⟨k, rfl, hk, rfl, hE, hg1, hA⟩
 refine w_has hE ?_
 have hcl := cdsL_len l k
 by_cases hlast : k = l.length
 ·subst hlast
  have cch := c_checked (hd ++ cdsL l l.length) (by rw [List.length_append]; omega)
  (repeat' (first | (with_reducible intro _) | refine sv ?_ | (refine sc ?_ ?_ <;> (intro h; try first | exact h.elim | exact absurd rfl h | (exfalso; omega))) | ((with_reducible first | apply x_pure | apply d_pure | apply d_pure0); exact gd; exact rfl; exact rfl; (first | exact cch _)) | (refine sg ?_ ?_ <;> (intro h; (fail_if_success (have : True := h)); try first | exact h.elim | exact absurd rfl h | (exfalso; omega))) | assumption | exact xm | exact rfl))
  ((with_reducible first | apply k_fun | apply k_fun_norm); exact rx)
  exact ⟨rfl, xg⟩
 have hlt : k < l.length := by omega
 obtain ⟨i, o, rfl, hr⟩ := (hs.grow hg1).rd hlt
 rw [<- getG_lt hlt] at hr
 have hb := lsA_bd l k
 have hcd := cdA_bd l k
 have hsi : smB (getG l k) = true := by
  have := hln.2.2
  rw [List.all_eq_true] at this
  rw [getG_lt hlt]
  exact this _ (List.getElem_mem hlt)
 have hcA : cdA l k = (cdS (getG l k) (lsA l k)).1 := rfl
 have hlA : lsA l (k + 1) = (cdS (getG l k) (lsA l k)).2 := rfl
 have hbl : (hd ++ cdsL l k).length <= 100000 := by rw [List.length_append]; omega
 generalize hv : getG l k = v at *
 generalize hla : lsA l k = la at *
 generalize hcc : cdA l k = cc at *
 have ccd := c_codeI cc hcd
 have hgt : Grow M M1 /\ True := ⟨hg1, trivial⟩
 unfold cdS at hcA hlA
 unfold smB at hsi
 by_cases h0 : v = 40000
 ·have hk0 : knB v = false := by subst h0; rfl
  rw [if_neg (by omega), hk0, if_neg (by decide)] at hcA hlA
  dsimp only at hcA hlA
  subst hcA
  (have hrd0 := hr; repeat' (first | (with_reducible intro _) | refine sv ?_ | (refine sc ?_ ?_ <;> (intro h; try first | exact h.elim | exact absurd rfl h | (exfalso; omega))) | ((with_reducible first | apply x_pure | apply d_pure | apply d_pure0); exact gd; exact rfl; exact rfl; (first | exact ccd _)) | (refine sg ?_ ?_ <;> (intro h; (fail_if_success (have : True := h)); try first | exact h.elim | exact absurd rfl h | (exfalso; omega))) | assumption | exact xm | exact rfl))
  refine x_val (by exact gd) (xs_adds rfl rfl (by rw [strL_size, strL_size]; have := cdN_len (0 : Int).toNat; omega)) ?_
  rw [strL_app]
  (repeat' (first | (with_reducible intro _) | refine sv ?_ | (refine sc ?_ ?_ <;> (intro h; try first | exact h.elim | exact absurd rfl h | (exfalso; omega))) | (refine sg ?_ ?_ <;> (intro h; (fail_if_success (have : True := h)); try first | exact h.elim | exact absurd rfl h | (exfalso; omega))) | assumption | exact xm | exact rfl))
  exact k_step (l.length - (k + 1)) (by omega) ⟨k + 1, rfl, by omega, rfl, .cons rfl (.cons (by rw [cdsL_s, hcc, <- List.append_assoc]; rfl) (.cons (by rw [hlA]; rfl) (.cons rfl .nil))), xg, xm⟩
 ·by_cases h1 : v = 40001
  ·rw [if_pos h1] at hcA hlA
   dsimp only at hcA hlA
   subst hcA
   (have hrd0 := hr; repeat' (first | (with_reducible intro _) | refine sv ?_ | (refine sc ?_ ?_ <;> (intro h; try first | exact h.elim | exact absurd rfl h | (exfalso; omega))) | ((with_reducible first | apply x_pure | apply d_pure | apply d_pure0); exact gd; exact rfl; exact rfl; (first | exact ccd _)) | (refine sg ?_ ?_ <;> (intro h; (fail_if_success (have : True := h)); try first | exact h.elim | exact absurd rfl h | (exfalso; omega))) | assumption | exact xm | exact rfl))
   refine x_val (by exact gd) (xs_adds rfl rfl (by rw [strL_size, strL_size]; have := cdN_len (1 : Int).toNat; omega)) ?_
   rw [strL_app]
   (repeat' (first | (with_reducible intro _) | refine sv ?_ | (refine sc ?_ ?_ <;> (intro h; try first | exact h.elim | exact absurd rfl h | (exfalso; omega))) | (refine sg ?_ ?_ <;> (intro h; (fail_if_success (have : True := h)); try first | exact h.elim | exact absurd rfl h | (exfalso; omega))) | assumption | exact xm | exact rfl))
   exact k_step (l.length - (k + 1)) (by omega) ⟨k + 1, rfl, by omega, rfl, .cons rfl (.cons (by rw [cdsL_s, hcc, <- List.append_assoc]; rfl) (.cons (by rw [hlA]; rfl) (.cons rfl .nil))), xg, xm⟩
  ·have hkn : knB v = true := by
    rw [decide_eq_false h0, decide_eq_false h1] at hsi
    simpa using hsi
   have hvb : -32767 <= v /\ v <= 32767 := of_decide_eq_true hkn
   rw [if_neg h1, hkn, if_pos rfl] at hcA hlA
   dsimp only at hcA hlA
   by_cases h2 : v - la < 0
   ·rw [if_pos h2] at hcA
    subst hcA
    (have hrd0 := hr; repeat' (first | (with_reducible intro _) | refine sv ?_ | (refine sc ?_ ?_ <;> (intro h; try first | exact h.elim | exact absurd rfl h | (exfalso; omega))) | ((with_reducible first | apply x_pure | apply d_pure | apply d_pure0); exact gd; exact rfl; exact rfl; (first | exact ccd _)) | (refine sg ?_ ?_ <;> (intro h; (fail_if_success (have : True := h)); try first | exact h.elim | exact absurd rfl h | (exfalso; omega))) | assumption | exact xm | exact rfl))
    all_goals try (exfalso; omega)
    refine x_val (by exact gd) (xs_adds rfl rfl (by rw [strL_size, strL_size]; have := cdN_len (1 - 2 * (v - la)).toNat; omega)) ?_
    rw [strL_app]
    (repeat' (first | (with_reducible intro _) | refine sv ?_ | (refine sc ?_ ?_ <;> (intro h; try first | exact h.elim | exact absurd rfl h | (exfalso; omega))) | (refine sg ?_ ?_ <;> (intro h; (fail_if_success (have : True := h)); try first | exact h.elim | exact absurd rfl h | (exfalso; omega))) | assumption | exact xm | exact rfl))
    exact k_step (l.length - (k + 1)) (by omega) ⟨k + 1, rfl, by omega, rfl, .cons rfl (.cons (by rw [cdsL_s, hcc, <- List.append_assoc]; rfl) (.cons (by rw [hlA]; rfl) (.cons rfl .nil))), xg, xm⟩
   ·rw [if_neg h2] at hcA
    subst hcA
    (have hrd0 := hr; repeat' (first | (with_reducible intro _) | refine sv ?_ | (refine sc ?_ ?_ <;> (intro h; try first | exact h.elim | exact absurd rfl h | (exfalso; omega))) | ((with_reducible first | apply x_pure | apply d_pure | apply d_pure0); exact gd; exact rfl; exact rfl; (first | exact ccd _)) | (refine sg ?_ ?_ <;> (intro h; (fail_if_success (have : True := h)); try first | exact h.elim | exact absurd rfl h | (exfalso; omega))) | assumption | exact xm | exact rfl))
    all_goals try (exfalso; omega)
    refine x_val (by exact gd) (xs_adds rfl rfl (by rw [strL_size, strL_size]; have := cdN_len (2 * (v - la) + 2).toNat; omega)) ?_
    rw [strL_app]
    (repeat' (first | (with_reducible intro _) | refine sv ?_ | (refine sc ?_ ?_ <;> (intro h; try first | exact h.elim | exact absurd rfl h | (exfalso; omega))) | (refine sg ?_ ?_ <;> (intro h; (fail_if_success (have : True := h)); try first | exact h.elim | exact absurd rfl h | (exfalso; omega))) | assumption | exact xm | exact rfl))
    exact k_step (l.length - (k + 1)) (by omega) ⟨k + 1, rfl, by omega, rfl, .cons rfl (.cons (by rw [cdsL_s, hcc, <- List.append_assoc]; rfl) (.cons (by rw [hlA]; rfl) (.cons rfl .nil))), xg, xm⟩
def pfF (x : Fr) : List UInt8 × Int := if frB x then (pkL x, 0) else ([], 80)
def rpF (r : Rl) : List UInt8 × Int := if rlB r then (rpL r, 0) else ([], 81)
theorem xs_cvs {E : Env} {M : Mem} {x : XO} {b n : Nat} {f : Bool} {e : Nat} {cs : List LV} {ty : TypeId} (hx : xval E x = some (.slice (some (b, 0)) n f e)) (h : At M b (.cells true cs ty)) (hn : 1 <= n) : xstep Tryz.prog (.cvs x) E M = some (.val (.slice (some (b, 0)) n f e) M) := by
 show ob (xval E x) _ = _
 rw [hx, ob_some]
 show guard' (ownAt M (some (b, 0)) && Nat.ble 1 n) _ = _
 have ho : ownAt M (some (b, 0)) = true := by
  show oe (M.get b) false _ = true
  rw [h.1]; rfl
 rw [ho, Nat.ble_eq_true_of_le hn]; rfl
theorem first_str (s : ByteArray) (M : Mem) : firstL 1 s.data.toList.length (.str s) M = some (bytesC s.data.toList) := by
 show guard' (Nat.beq 1 1 && Nat.ble s.data.toList.length s.size) (some ((s.extract 0 s.data.toList.length).data.toList.map byteL)) = _
 have hl : s.data.toList.length = s.size := by simp
 rw [hl, Nat.ble_eq_true_of_le (Nat.le_refl _)]
 have he : (s.extract 0 s.size) = s := by
  simp
 rw [he]; rfl
set_option maxHeartbeats 4000000 in
theorem c_PackFrame {M : Mem} {v : LV} {x : Fr} (hv : FrV M v x) (hin : FrIn x) : CallOk Tryz.prog 37 [v] M (fun w M' => w = .tup [.str (strL (pfF x).1), I (pfF x).2] /\ Grow M M') := by
 have hv0 := hv
 obtain ⟨a, f, e, rfl, hs⟩ := hv0
 refine call_in k37 rfl ?_
 dsimp only [x37, zipE, Nat.reduceAdd]
 have cc := fun M' (hg : Grow M M') => c_CheckFrame (hv.grow hg) hin
 cases hfb : frB x with
 | false =>
  rw [show errF x = 80 from by unfold errF; rw [hfb]; rfl] at cc
  rw [show pfF x = ([], 80) from by unfold pfF; rw [hfb]; rfl]
  (repeat' (first | (with_reducible intro _) | refine sv ?_ | (refine sc ?_ ?_ <;> (intro h; try first | exact h.elim | exact absurd rfl h | (exfalso; omega))) | ((with_reducible first | apply x_pure | apply d_pure | apply d_pure0); exact gd; exact rfl; exact rfl; (first | exact cc _ (xg))) | (refine sg ?_ ?_ <;> (intro h; (fail_if_success (have : True := h)); try first | exact h.elim | exact absurd rfl h | (exfalso; omega))) | assumption | exact xm | exact rfl))
  ((with_reducible first | apply k_fun | apply k_fun_norm); exact rx)
  exact ⟨rfl, xg⟩
 | true =>
  rw [show errF x = 0 from by unfold errF; rw [hfb]; rfl] at cc
  rw [show pfF x = (pkL x, 0) from by unfold pfF; rw [hfb]; rfl]
  have cp := fun M' (hg : Grow M M') => c_packed (hv.grow hg) hfb
  (repeat' (first | (with_reducible intro _) | refine sv ?_ | (refine sc ?_ ?_ <;> (intro h; try first | exact h.elim | exact absurd rfl h | (exfalso; omega))) | ((with_reducible first | apply x_pure | apply d_pure | apply d_pure0); exact gd; exact rfl; exact rfl; (first | exact cc _ (xg))) | ((with_reducible first | apply x_call | apply d_call | apply x_call0); exact gd; exact rfl; exact rfl; (first | exact cp _ (xg))) | (refine sg ?_ ?_ <;> (intro h; (fail_if_success (have : True := h)); try first | exact h.elim | exact absurd rfl h | (exfalso; omega))) | assumption | exact xm | exact rfl))
  rename_i hq
  obtain ⟨b, hb, hb2, hg⟩ := hq
  refine x_val (by exact gd) (ApB.bstr hb rfl) ?_
  have hl := hg.le
  (repeat' (first | (with_reducible intro _) | refine sv ?_ | (refine sc ?_ ?_ <;> (intro h; try first | exact h.elim | exact absurd rfl h | (exfalso; omega))) | (refine sg ?_ ?_ <;> (intro h; (fail_if_success (have : True := h)); try first | exact h.elim | exact absurd rfl h | (exfalso; omega))) | assumption | exact xm | exact rfl))
  ((with_reducible first | apply k_fun | apply k_fun_norm); exact rx)
  exact ⟨rfl, xg⟩
set_option maxHeartbeats 4000000 in
theorem c_PackFrameR {M : Mem} {v : LV} {x : Fr} (hv : FrV M v x) (hin : FrIn x) : CallOk Tryz.prog 38 [v] M (fun w M' => w = .tup [.str (strL (pfF x).1), I (pfF x).2] /\ Grow M M') := by
 have hv0 := hv
 obtain ⟨a, f, e, rfl, hs⟩ := hv0
 refine call_in k38 rfl ?_
 dsimp only [x38, zipE, Nat.reduceAdd]
 have cc := fun M' (hg : Grow M M') => c_CheckFrameR (hv.grow hg) hin
 cases hfb : frB x with
 | false =>
  rw [show errF x = 80 from by unfold errF; rw [hfb]; rfl] at cc
  rw [show pfF x = ([], 80) from by unfold pfF; rw [hfb]; rfl]
  (repeat' (first | (with_reducible intro _) | refine sv ?_ | (refine sc ?_ ?_ <;> (intro h; try first | exact h.elim | exact absurd rfl h | (exfalso; omega))) | ((with_reducible first | apply x_pure | apply d_pure | apply d_pure0); exact gd; exact rfl; exact rfl; (first | exact cc _ (xg))) | (refine sg ?_ ?_ <;> (intro h; (fail_if_success (have : True := h)); try first | exact h.elim | exact absurd rfl h | (exfalso; omega))) | assumption | exact xm | exact rfl))
  ((with_reducible first | apply k_fun | apply k_fun_norm); exact rx)
  exact ⟨rfl, xg⟩
 | true =>
  rw [show errF x = 0 from by unfold errF; rw [hfb]; rfl] at cc
  rw [show pfF x = (pkL x, 0) from by unfold pfF; rw [hfb]; rfl]
  have cp := fun M' (hg : Grow M M') => c_packedR (hv.grow hg) hfb
  (repeat' (first | (with_reducible intro _) | refine sv ?_ | (refine sc ?_ ?_ <;> (intro h; try first | exact h.elim | exact absurd rfl h | (exfalso; omega))) | ((with_reducible first | apply x_pure | apply d_pure | apply d_pure0); exact gd; exact rfl; exact rfl; (first | exact cc _ (xg) | exact cp _ (xg))) | (refine sg ?_ ?_ <;> (intro h; (fail_if_success (have : True := h)); try first | exact h.elim | exact absurd rfl h | (exfalso; omega))) | assumption | exact xm | exact rfl))
  ((with_reducible first | apply k_fun | apply k_fun_norm); exact rx)
  exact ⟨rfl, xg⟩
def rbL (r : Rl) (k : Nat) : List UInt8 := chkL (rhL r) ++ (r.2.take k).flatMap pkL
theorem rbL_s {r : Rl} {k : Nat} (h : k < r.2.length) : rbL r (k + 1) = rbL r k ++ pkL (fe r.2 k) := by
 unfold rbL
 rw [List.take_succ_eq_append_getElem h, List.flatMap_append, List.append_assoc, fe_lt h]
 simp
theorem rlB_p {r : Rl} (h : rlB r = true) : 1 <= r.1.size /\ r.1.size <= 16 /\ r.2.length <= 128 /\ ∀ k, k < r.2.length -> frB (fe r.2 k) = true := by
 unfold rlB at h
 rw [Bool.and_eq_true, Bool.and_eq_true] at h
 obtain ⟨⟨h1, h2⟩, h3⟩ := h
 unfold nmB at h1
 rw [Bool.and_eq_true] at h1
 have h4 : 1 <= (r.1.size : Int) /\ (r.1.size : Int) <= 16 := of_decide_eq_true h1.2
 exact ⟨by omega, by omega, of_decide_eq_true h2, fun k hk => rlK_fr h3 hk⟩
theorem frB_len {x : Fr} (h : frB x = true) : x.2.2.length <= 64 := by
 have := (frB_bd h).2.2.2.2
 unfold smsB btB at this
 simp only [Bool.and_eq_true, decide_eq_true_eq] at this
 omega
theorem rbL_len {r : Rl} (h : rlB r = true) : ∀ k, k <= r.2.length -> (rbL r k).length <= 100 + 100000 * k
 | 0, _ => by
  obtain ⟨h1, h2, h3, _⟩ := rlB_p h
  unfold rbL chkL rhL twoL
  simp
  omega
 | k + 1, hk => by
  have h1 := rbL_len h k (by omega)
  have h2 := pkL_len (frB_len ((rlB_p h).2.2.2 k (by omega)))
  rw [rbL_s (by omega), List.length_append]
  omega
set_option maxHeartbeats 8000000 in
theorem c_Pack {M : Mem} {v : LV} {r : Rl} (hv : RlV M v r) (hin : RlIn r) : CallOk Tryz.prog 18 [v] M (fun w M' => w = .tup [.str (strL (rpF r).1), I (rpF r).2] /\ Grow M M') := by
 have hv0 := hv
 obtain ⟨a, f, e, rfl, hs⟩ := hv0
 refine call_in k18 rfl ?_
 dsimp only [x18, zipE, Nat.reduceAdd]
 have cc := fun M' (hg : Grow M M') => c_CheckReel (hv.grow hg) hin
 cases hfb : rlB r with
 | false =>
  rw [show errRl r = 81 from by unfold errRl; rw [hfb]; rfl] at cc
  rw [show rpF r = ([], 81) from by unfold rpF; rw [hfb]; rfl]
  (repeat' (first | (with_reducible intro _) | refine sv ?_ | (refine sc ?_ ?_ <;> (intro h; try first | exact h.elim | exact absurd rfl h | (exfalso; omega))) | ((with_reducible first | apply x_pure | apply d_pure | apply d_pure0); exact gd; exact rfl; exact rfl; (first | exact cc _ (xg))) | (refine sg ?_ ?_ <;> (intro h; (fail_if_success (have : True := h)); try first | exact h.elim | exact absurd rfl h | (exfalso; omega))) | assumption | exact xm | exact rfl))
  ((with_reducible first | apply k_fun | apply k_fun_norm); exact rx)
  exact ⟨rfl, xg⟩
 | true =>
 rw [show errRl r = 0 from by unfold errRl; rw [hfb]; rfl] at cc
 rw [show rpF r = (rpL r, 0) from by unfold rpF; rw [hfb]; rfl]
 obtain ⟨hn1, hn2, hl, hfr⟩ := rlB_p hfb
 have hrb := rbL_len hfb
 have hr0 : rbL r 0 = chkL (rhL r) := by unfold rbL; rw [List.take_zero, List.flatMap_nil, List.append_nil]
 have hre : rbL r r.2.length = rpL r := by unfold rbL rpL; rw [List.take_length]
 have hrs := fun k (hk : k < r.2.length) => rbL_s (r := r) hk
 have hrh : rhL r = (([80, 65, 82, 65, 86, 65, 78, 69] ++ [u8 r.1.size]) ++ r.1.data.toList) ++ [u8 r.2.length] := rfl
 rw [<- hre]
 have hdl : r.1.data.toList.length = r.1.size := by simp
 clear hv
 (repeat' (first | (with_reducible intro _) | refine sv ?_ | (refine sc ?_ ?_ <;> (intro h; try first | exact h.elim | exact absurd rfl h | (exfalso; omega))) | ((with_reducible first | apply x_pure | apply d_pure | apply d_pure0); exact gd; exact rfl; exact rfl; (first | exact cc _ (xg))) | (refine sg ?_ ?_ <;> (intro h; (fail_if_success (have : True := h)); try first | exact h.elim | exact absurd rfl h | (exfalso; omega))) | assumption | exact xm | exact rfl))
 rename_i m1 M1 hN1 q1 q2 M2 hg2 l2 n4 M4 hN4 q3 q4
 clear h
 have hA4 : At M4 m1 (.cells true [.str r.1, .slice a r.2.length f e] 30) := xm
 have hgM4 : Grow M M4 := xg
 refine x_val (by exact gd) (xs_cvs rfl (At.new_same hN4) (by omega)) ?_
 have hb4 : ApB n4 M4 (.slice (some (n4, 0)) 8 true 1) [80, 65, 82, 65, 86, 65, 78, 69] := ⟨true, _, rfl, At.new_same hN4, .inl rfl⟩
 clear hN1 hg2 hN4
 (repeat' (first | (with_reducible intro _) | refine sv ?_ | (refine sc ?_ ?_ <;> (intro h; try first | exact h.elim | exact absurd rfl h | (exfalso; omega))) | (refine sg ?_ ?_ <;> (intro h; (fail_if_success (have : True := h)); try first | exact h.elim | exact absurd rfl h | (exfalso; omega))) | assumption | exact xm | exact rfl))
 rename_i n5 M5 hN5 q5 q6
 rw [bytes_u8 (by omega)] at hN5
 have hg45 := hN5.grow
 refine x_apb (l' := [u8 r.1.size]) (by exact gd) (hb4.grow hg45) rfl rfl rfl (by simp) (by simp) rfl (first_bytes (f := true) (At.new_same hN5)) ?_
 intro v6 M6 hb6 e6 hk6
 have hA6 := (At.grow hg45 hA4).keep hk6 (by omega)
 have hgM6 : Grow M M6 := Keep.to_grow' (hgM4.trans hg45) hk6 (fun i hi => by omega)
 have lb6 := hb6.lt
 clear hk6 hN5 hb4
 obtain ⟨f6, ty6, rfl, ht6⟩ := id hb6
 (repeat' (first | (with_reducible intro _) | refine sv ?_ | (refine sc ?_ ?_ <;> (intro h; try first | exact h.elim | exact absurd rfl h | (exfalso; omega))) | (refine sg ?_ ?_ <;> (intro h; (fail_if_success (have : True := h)); try first | exact h.elim | exact absurd rfl h | (exfalso; omega))) | assumption | exact xm | exact rfl))
 refine d_apb (l' := r.1.data.toList) (by exact gd) hb6 rfl rfl (by rw [hdl]; rfl) (by omega) (by simp; omega) rfl (first_str r.1 _) ?_
 intro v7 M7 hb7 e7 hk7
 have hA7 := hA6.keep hk7 (by omega)
 have hgM7 : Grow M M7 := Keep.to_grow' hgM6 hk7 (fun i hi => by have := hgM4.le; omega)
 have lb7 := hb7.lt
 clear hk7
 obtain ⟨f7, ty7, rfl, ht7⟩ := id hb7
 (repeat' (first | (with_reducible intro _) | refine sv ?_ | (refine sc ?_ ?_ <;> (intro h; try first | exact h.elim | exact absurd rfl h | (exfalso; omega))) | (refine sg ?_ ?_ <;> (intro h; (fail_if_success (have : True := h)); try first | exact h.elim | exact absurd rfl h | (exfalso; omega))) | assumption | exact xm | exact rfl))
 rename_i n8 M8 hN8 q7 q8
 rw [bytes_u8 (by omega)] at hN8
 have hg78 := hN8.grow
 have hA8 := At.grow hg78 hA7
 refine d_apb (l' := [u8 r.2.length]) (by exact gd) (hb7.grow hg78) rfl rfl rfl (by simp) (by simp; omega) rfl (first_bytes (f := true) (At.new_same hN8)) ?_
 intro v9 M9 hb9 e9 hk9
 have hA9 := hA8.keep hk9 (by omega)
 have hgM9 : Grow M M9 := Keep.to_grow' (hgM7.trans hg78) hk9 (fun i hi => by have := hgM6.le; omega)
 have lb9 := hb9.lt
 clear hk9 hN8
 rw [<- hrh] at hb9
 have hrl : (rhL r).length <= 100 := by rw [hrh]; simp; omega
 obtain ⟨f9, ty9, rfl, ht9⟩ := id hb9
 have hcr := crcK_bd (strL (rhL r)) (rhL r).length
 obtain ⟨n, hn⟩ : ∃ n : Nat, crcK (strL (rhL r)) (rhL r).length = (n : Int) := ⟨(crcK (strL (rhL r)) (rhL r).length).toNat, by omega⟩
 have hck : chkL (rhL r) = rhL r ++ twoL n := by unfold chkL; rw [hn]; rfl
 have cr := c_Crc (strL (rhL r)) (by rw [strL_size]; omega)
 rw [strL_size, hn] at cr
 (repeat' (first | (with_reducible intro _) | refine sv ?_ | (refine sc ?_ ?_ <;> (intro h; try first | exact h.elim | exact absurd rfl h | (exfalso; omega))) | (refine sg ?_ ?_ <;> (intro h; (fail_if_success (have : True := h)); try first | exact h.elim | exact absurd rfl h | (exfalso; omega))) | assumption | exact xm | exact rfl))
 refine x_val (by exact gd) (ApB.bstr hb9 rfl) ?_
 (repeat' (first | (with_reducible intro _) | refine sv ?_ | (refine sc ?_ ?_ <;> (intro h; try first | exact h.elim | exact absurd rfl h | (exfalso; omega))) | ((with_reducible first | apply x_same | apply d_same | apply d_same0); exact gd; exact rfl; exact rfl; (first | exact cr _)) | ((with_reducible first | apply x_mkat | apply d_mkat); exact gd; exact rfl; exact rfl; (first | exact c_two n (by omega) _)) | (refine sg ?_ ?_ <;> (intro h; (fail_if_success (have : True := h)); try first | exact h.elim | exact absurd rfl h | (exfalso; omega))) | assumption | exact xm | exact rfl))
 rename_i p10 M10 hA10 l10 l10' hg10 le10
 have hb10 := hb9.grow hg10
 have hA10m := At.grow hg10 hA9
 refine x_apb (l' := twoL n) (by exact gd) hb10 rfl rfl rfl (by simp [twoL]) (by simp [twoL]; omega) rfl (first_bytes (f := true) hA10) ?_
 intro v11 M11 hb11 e11 hk11
 have hA11 := hA10m.keep hk11 (by omega)
 have hgM11 : Grow M M11 := Keep.to_grow' (hgM9.trans hg10) hk11 (fun i hi => by have := hgM7.le; omega)
 rw [<- hck, <- hr0] at hb11
 have hM10 : M.next <= M10.next := by have := hgM11.le; have := (hgM9.trans hg10).le; omega
 clear hk11 hA10 hb9 ht9 hb7 ht7 hb6 ht6 hA4 hA6 hA7 hA8 hA9 hg45 hg78 hgM4 hgM6 hgM7 hgM9 hb10 hg10 hA10m
 (repeat' (first | (with_reducible intro _) | refine sv ?_ | (refine sc ?_ ?_ <;> (intro h; try first | exact h.elim | exact absurd rfl h | (exfalso; omega))) | (refine sg ?_ ?_ <;> (intro h; (fail_if_success (have : True := h)); try first | exact h.elim | exact absurd rfl h | (exfalso; omega))) | assumption | exact xm | exact rfl))
 refine w_loop_ind (fun z E ms M' => ∃ (k : Nat) (v : LV) (b : Nat), z = r.2.length - k /\ k <= r.2.length /\ ms = [] /\ Has E [(5, v), (38, .slice a r.2.length f e), (39, I r.2.length), (40, I k)] /\ Grow M M' /\ ApB b M' v (rbL r k) /\ M.next <= b)
  ?_ r.2.length _ _ _ ⟨0, _, _, by omega, by omega, rfl, .cons rfl (.cons rfl (.cons rfl (.cons rfl .nil))), hgM11, hb11, hM10⟩
 rintro z E ms M12 ⟨k, v, b, rfl, hk, rfl, hE, hg12, hb12, hbM⟩
 refine w_has hE ?_
 have hrk := hrb k hk
 have lb12 := hb12.lt
 obtain ⟨f12, ty12, rfl, ht12⟩ := id hb12
 by_cases hlast : k = r.2.length
 ·subst hlast
  (repeat' (first | (with_reducible intro _) | refine sv ?_ | (refine sc ?_ ?_ <;> (intro h; try first | exact h.elim | exact absurd rfl h | (exfalso; omega))) | (refine sg ?_ ?_ <;> (intro h; (fail_if_success (have : True := h)); try first | exact h.elim | exact absurd rfl h | (exfalso; omega))) | assumption | exact xm | exact rfl))
  refine x_val (by exact gd) (ApB.bstr hb12 rfl) ?_
  (repeat' (first | (with_reducible intro _) | refine sv ?_ | (refine sc ?_ ?_ <;> (intro h; try first | exact h.elim | exact absurd rfl h | (exfalso; omega))) | (refine sg ?_ ?_ <;> (intro h; (fail_if_success (have : True := h)); try first | exact h.elim | exact absurd rfl h | (exfalso; omega))) | assumption | exact xm | exact rfl))
  ((with_reducible first | apply k_fun | apply k_fun_norm); exact rx)
  exact ⟨rfl, hg12⟩
 have hlt : k < r.2.length := by omega
 obtain ⟨i, o, b2, g2, u2, rfl, hr2, hfv⟩ := (hs.grow hg12).rd hlt
 have hfb2 := hfr k hlt
 have hpl := pkL_len (frB_len hfb2)
 have cp := fun M' (hg : Grow M12 M') => c_packed (hfv.grow hg) hfb2
 have hrs2 := hrs k hlt
 have hg12t : Grow M M12 /\ True := ⟨hg12, trivial⟩
 clear hg12
 (have hrd0 := hr2; repeat' (first | (with_reducible intro _) | refine sv ?_ | (refine sc ?_ ?_ <;> (intro h; try first | exact h.elim | exact absurd rfl h | (exfalso; omega))) | ((with_reducible first | apply x_call | apply d_call | apply x_call0); exact gd; exact rfl; exact rfl; (first | exact cp _ (xg))) | (refine sg ?_ ?_ <;> (intro h; (fail_if_success (have : True := h)); try first | exact h.elim | exact absurd rfl h | (exfalso; omega))) | assumption | exact xm | exact rfl))
 rename_i n13 M13 hN13 q9 q10 M14 hU14 q11 hA14 w15 M15 hq15
 obtain ⟨b15, hb15, hb15M, hg15⟩ := hq15
 obtain ⟨f15, ty15, rfl, ht15, _⟩ := id hb15
 have hg1215 : Grow M12 M15 := xg
 have hb12b := hb12.grow hg1215
 have hpp : 0 < (pkL (fe r.2 k)).length := by unfold pkL chkL twoL; simp
 refine x_apb (l' := pkL (fe r.2 k)) (by exact gd) hb12b rfl rfl rfl hpp (by omega) rfl (first_bytes ht15) ?_
 intro v16 M16 hb16 e16 hk16
 rw [<- hrs2] at hb16
 have hg16 : Grow M M16 := Keep.to_grow' (hg12t.1.trans hg1215) hk16 (fun i hi => by omega)
 have l15 := hg1215.le
 clear hk16
 (repeat' (first | (with_reducible intro _) | refine sv ?_ | (refine sc ?_ ?_ <;> (intro h; try first | exact h.elim | exact absurd rfl h | (exfalso; omega))) | (refine sg ?_ ?_ <;> (intro h; (fail_if_success (have : True := h)); try first | exact h.elim | exact absurd rfl h | (exfalso; omega))) | assumption | exact xm | exact rfl))
 exact k_step (r.2.length - (k + 1)) (by omega) ⟨k + 1, v16, M15.next, rfl, by omega, rfl, .cons rfl (.cons rfl (.cons rfl (.cons rfl .nil))), hg16, hb16, by omega⟩
set_option maxHeartbeats 8000000 in
theorem c_PackR {M : Mem} {v : LV} {r : Rl} (hv : RlV M v r) (hin : RlIn r) : CallOk Tryz.prog 39 [v] M (fun w M' => w = .tup [.str (strL (rpF r).1), I (rpF r).2] /\ Grow M M') := by
 have hv0 := hv
 obtain ⟨a, f, e, rfl, hs⟩ := hv0
 refine call_in k39 rfl ?_
 dsimp only [x39, zipE, Nat.reduceAdd]
 have cc := fun M' (hg : Grow M M') => c_CheckReelR (hv.grow hg) hin
 cases hfb : rlB r with
 | false =>
  rw [show errRl r = 81 from by unfold errRl; rw [hfb]; rfl] at cc
  rw [show rpF r = ([], 81) from by unfold rpF; rw [hfb]; rfl]
  (repeat' (first | (with_reducible intro _) | refine sv ?_ | (refine sc ?_ ?_ <;> (intro h; try first | exact h.elim | exact absurd rfl h | (exfalso; omega))) | ((with_reducible first | apply x_pure | apply d_pure | apply d_pure0); exact gd; exact rfl; exact rfl; (first | exact cc _ (xg))) | (refine sg ?_ ?_ <;> (intro h; (fail_if_success (have : True := h)); try first | exact h.elim | exact absurd rfl h | (exfalso; omega))) | assumption | exact xm | exact rfl))
  ((with_reducible first | apply k_fun | apply k_fun_norm); exact rx)
  exact ⟨rfl, xg⟩
 | true =>
 rw [show errRl r = 0 from by unfold errRl; rw [hfb]; rfl] at cc
 rw [show rpF r = (rpL r, 0) from by unfold rpF; rw [hfb]; rfl]
 obtain ⟨hn1, hn2, hl, hfr⟩ := rlB_p hfb
 have hrb := rbL_len hfb
 have hr0 : rbL r 0 = chkL (rhL r) := by unfold rbL; rw [List.take_zero, List.flatMap_nil, List.append_nil]
 have hre : rbL r r.2.length = rpL r := by unfold rbL rpL; rw [List.take_length]
 have hrs := fun k (hk : k < r.2.length) => rbL_s (r := r) hk
 have hrh : rhL r = (([80, 65, 82, 65, 86, 65, 78, 69] ++ [u8 r.1.size]) ++ r.1.data.toList) ++ [u8 r.2.length] := rfl
 rw [<- hre]
 have hdl : r.1.data.toList.length = r.1.size := by simp
 have hnm : r.1 = strL r.1.data.toList := rfl
 have co1 := c_octet r.1.size (by omega)
 have co2 := c_octet r.2.length (by omega)
 rw [show r.1.size % 256 = r.1.size from by omega] at co1
 rw [show r.2.length % 256 = r.2.length from by omega] at co2
 have hrl : (rhL r).length <= 100 := by rw [hrh]; simp; omega
 clear hv
 (repeat' (first | (with_reducible intro _) | refine sv ?_ | (refine sc ?_ ?_ <;> (intro h; try first | exact h.elim | exact absurd rfl h | (exfalso; omega))) | ((with_reducible first | apply x_pure | apply d_pure | apply d_pure0); exact gd; exact rfl; exact rfl; (first | exact cc _ (xg) | exact co1 _)) | (refine sg ?_ ?_ <;> (intro h; (fail_if_success (have : True := h)); try first | exact h.elim | exact absurd rfl h | (exfalso; omega))) | assumption | exact xm | exact rfl))
 refine d_val (by exact gd) (xs_adds (s := strL [80, 65, 82, 65, 86, 65, 78, 69]) rfl rfl (by rw [strL_size, strL_size]; simp)) ?_
 rw [strL_app]
 (repeat' (first | (with_reducible intro _) | refine sv ?_ | (refine sc ?_ ?_ <;> (intro h; try first | exact h.elim | exact absurd rfl h | (exfalso; omega))) | (refine sg ?_ ?_ <;> (intro h; (fail_if_success (have : True := h)); try first | exact h.elim | exact absurd rfl h | (exfalso; omega))) | assumption | exact xm | exact rfl))
 refine d_val (by exact gd) (xs_adds (t := strL r.1.data.toList) rfl rfl (by rw [strL_size, strL_size]; simp; omega)) ?_
 rw [strL_app]
 (repeat' (first | (with_reducible intro _) | refine sv ?_ | (refine sc ?_ ?_ <;> (intro h; try first | exact h.elim | exact absurd rfl h | (exfalso; omega))) | ((with_reducible first | apply x_pure | apply d_pure | apply d_pure0); exact gd; exact rfl; exact rfl; (first | exact co2 _)) | (refine sg ?_ ?_ <;> (intro h; (fail_if_success (have : True := h)); try first | exact h.elim | exact absurd rfl h | (exfalso; omega))) | assumption | exact xm | exact rfl))
 refine d_val (by exact gd) (xs_adds rfl rfl (by rw [strL_size, strL_size]; simp; omega)) ?_
 rw [strL_app, <- hrh]
 (repeat' (first | (with_reducible intro _) | refine sv ?_ | (refine sc ?_ ?_ <;> (intro h; try first | exact h.elim | exact absurd rfl h | (exfalso; omega))) | ((with_reducible first | apply x_pure | apply d_pure | apply d_pure0); exact gd; exact rfl; exact rfl; (first | exact c_checked (rhL r) (by omega) _)) | (refine sg ?_ ?_ <;> (intro h; (fail_if_success (have : True := h)); try first | exact h.elim | exact absurd rfl h | (exfalso; omega))) | assumption | exact xm | exact rfl))
 rename_i m1 N1 hN1 q1 q2 N2 hg2 l2 N3 hg3 l3 N4 hg4 l4 N5 hg5 l5
 clear h
 have hA1 : At N5 m1 (.cells true [.str r.1, .slice a r.2.length f e] 30) := xm
 have hgN : Grow M N5 := xg
 clear hN1 hg2 hg3 hg4 hg5
 refine w_loop_ind (fun z E ms M' => ∃ (k : Nat), z = r.2.length - k /\ k <= r.2.length /\ ms = [] /\ Has E [(1, .ptr (some (m1, 0))), (5, .str (strL (rbL r k))), (6, I k)] /\ Grow M M' /\ At M' m1 (.cells true [.str r.1, .slice a r.2.length f e] 30))
  ?_ r.2.length _ _ _ ⟨0, by omega, by omega, rfl, .cons rfl (.cons (by rw [hr0]; rfl) (.cons rfl .nil)), hgN, hA1⟩
 rintro z E ms M12 ⟨k, rfl, hk, rfl, hE, hg12, hA⟩
 refine w_has hE ?_
 have hrk := hrb k hk
 by_cases hlast : k = r.2.length
 ·subst hlast
  (repeat' (first | (with_reducible intro _) | refine sv ?_ | (refine sc ?_ ?_ <;> (intro h; try first | exact h.elim | exact absurd rfl h | (exfalso; omega))) | (refine sg ?_ ?_ <;> (intro h; (fail_if_success (have : True := h)); try first | exact h.elim | exact absurd rfl h | (exfalso; omega))) | assumption | exact xm | exact rfl))
  ((with_reducible first | apply k_fun | apply k_fun_norm); exact rx)
  exact ⟨rfl, hg12⟩
 have hlt : k < r.2.length := by omega
 obtain ⟨i, o, b2, g2, u2, rfl, hr2, hfv⟩ := (hs.grow hg12).rd hlt
 have hfb2 := hfr k hlt
 have hpl := pkL_len (frB_len hfb2)
 have cp := c_packedR hfv hfb2
 have hrs2 := hrs k hlt
 (have hrd0 := hr2; repeat' (first | (with_reducible intro _) | refine sv ?_ | (refine sc ?_ ?_ <;> (intro h; try first | exact h.elim | exact absurd rfl h | (exfalso; omega))) | ((with_reducible first | apply x_pure | apply d_pure | apply d_pure0); exact gd; exact rfl; exact rfl; (first | exact cp)) | (refine sg ?_ ?_ <;> (intro h; (fail_if_success (have : True := h)); try first | exact h.elim | exact absurd rfl h | (exfalso; omega))) | assumption | exact xm | exact rfl))
 refine x_val (by exact gd) (xs_adds rfl rfl (by rw [strL_size, strL_size]; omega)) ?_
 rw [strL_app, <- hrs2]
 (repeat' (first | (with_reducible intro _) | refine sv ?_ | (refine sc ?_ ?_ <;> (intro h; try first | exact h.elim | exact absurd rfl h | (exfalso; omega))) | (refine sg ?_ ?_ <;> (intro h; (fail_if_success (have : True := h)); try first | exact h.elim | exact absurd rfl h | (exfalso; omega))) | assumption | exact xm | exact rfl))
 exact k_step (r.2.length - (k + 1)) (by omega) ⟨k + 1, rfl, by omega, rfl, .cons rfl (.cons rfl (.cons rfl .nil)), xg, xm⟩
theorem beq_ba (s : ByteArray) : (s == s) = true := by
 obtain ⟨d⟩ := s
 show (d == d) = true
 simp
set_option maxHeartbeats 8000000 in
theorem c_TapePacks {M : Mem} {v w : LV} {x : Fr} {r : Rl} {s : ByteArray} (hv : FrV M v x) (hvi : FrIn x) (hw : RlV M w r) (hwi : RlIn r) (hs : s.size <= 140737488355328) (hB : Base M) (hq : preOk M tabs = true) :
  CallOk Tryz.prog 4 [v, w, .str s] M (fun r _ => r = .bool true) := by
 have hv0 := hv
 have hw0 := hw
 obtain ⟨a, f, e, rfl, _⟩ := hv0
 obtain ⟨b, g, u, rfl, _⟩ := hw0
 refine call_in k4 rfl ?_
 dsimp only [x4, zipE, Nat.reduceAdd]
 have c1 := fun M' (hg : Grow M M') => c_CheckFrame (hv.grow hg) hvi
 have c2 := fun M' (hg : Grow M M') => c_CheckFrameR (hv.grow hg) hvi
 have c3 := fun M' (hg : Grow M M') => c_CheckReel (hw.grow hg) hwi
 have c4 := fun M' (hg : Grow M M') => c_CheckReelR (hw.grow hg) hwi
 have c5 := fun M' => c_Crc s hs M'
 have c6 := fun M' => c_CrcR s hs M'
 have c7 := fun M' (hg : Grow M M') => c_PackFrame (hv.grow hg) hvi
 have c8 := fun M' (hg : Grow M M') => c_PackFrameR (hv.grow hg) hvi
 have c9 := fun M' (hg : Grow M M') => c_Pack (hw.grow hg) hwi
 have c10 := fun M' (hg : Grow M M') => c_PackR (hw.grow hg) hwi
 generalize errF x = E1 at *
 generalize errRl r = E2 at *
 generalize crcK s s.size = E3 at *
 generalize pfF x = E4 at *
 generalize rpF r = E5 at *
 obtain ⟨p1, p2⟩ := E4
 obtain ⟨p3, p4⟩ := E5
 dsimp only at c7 c8 c9 c10
 (repeat' (first | (with_reducible intro _) | refine sv ?_ | (refine sc ?_ ?_ <;> (intro h; try first | exact h.elim | exact absurd rfl h | (exfalso; omega))) | ((with_reducible first | apply x_same | apply d_same | apply d_same0); exact gd; exact rfl; exact rfl; (first | exact c5 _ | exact c6 _)) | ((with_reducible first | apply x_pure | apply d_pure | apply d_pure0); exact gd; exact rfl; exact rfl; (first | exact c1 _ (xg) | exact c2 _ (xg) | exact c3 _ (xg) | exact c4 _ (xg) | exact c7 _ (xg) | exact c8 _ (xg))) | (refine sg ?_ ?_ <;> (intro h; (fail_if_success (have : True := h)); try first | exact h.elim | exact absurd rfl h | (exfalso; omega))) | assumption | exact xm | exact rfl))
 all_goals try (exfalso; simp [beq_ba] at *; done)
 (repeat' (first | (with_reducible intro _) | refine sv ?_ | (refine sc ?_ ?_ <;> (intro h; try first | exact h.elim | exact absurd rfl h | (exfalso; omega))) | ((with_reducible first | apply x_same | apply d_same | apply d_same0); exact gd; exact rfl; exact rfl; (first | exact c_works (preOk_ext (Ext.of_grow (xg) hB) hq))) | ((with_reducible first | apply x_pure | apply d_pure | apply d_pure0); exact gd; exact rfl; exact rfl; (first | exact c9 _ (xg) | exact c10 _ (xg))) | (refine sg ?_ ?_ <;> (intro h; (fail_if_success (have : True := h)); try first | exact h.elim | exact absurd rfl h | (exfalso; omega))) | assumption | exact xm | exact rfl))
 all_goals try (exfalso; simp [beq_ba] at *; done)
 all_goals (((with_reducible first | apply k_fun | apply k_fun_norm); exact rx); rfl)
end Go.Proofs.YtlfkmgpngkbhpaaGreatDoor.C
end
