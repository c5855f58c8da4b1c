/- Part 2 of the proof of ProgressChecks. -/
import Derived.Test.YtbkfnmgkcgnifaaGreatV1
import Derived.RangeFuncNested
import Derived.RangeFuncBound
import Derived.RangeFuncCalls
import Derived.RangeFuncLeaves
import Derived.Shelf.RegionOpen
import Derived.OwnWalkIn
import Derived.TacticsInMore
import Derived.LoopNIn
import Derived.LoopIn
import Derived.Deep.DeepMust
set_option linter.all false
namespace Go.Proofs.YtbkfnmgkcgnifaaGreat
open Go.RowKit Go.Shelf Go.Proofs.YtbkfnmgkcgnifaaGreatW.PrintWords Go.Proofs.YtbkfnmgkcgnifaaGreatW.PrintLast Mdl
set_option maxRecDepth 8000 in
set_option maxHeartbeats 4000000 in
theorem symT_any (g N cap base : Nat) (ok : Nat → Prop) (hN : N ≤ 10000000000000) : ∀ (f : Nat) (P X Y S : List Tm) (w : World) (a m b : Nat), X.length + Y.length ≤ f → 0 < X.length → 0 < Y.length → Aside0 (SortedBy cmpT X ∧ SortedBy cmpT Y ∧ kT.R 99 w base ok (.slice (some ⟨g, 0, none⟩) N cap) (P ++ X ++ Y ++ S)) → a = P.length → m = P.length + X.length → b = P.length + X.length + Y.length →
  Calls Tryz.prog 123 #[.slice (some ⟨g, 0, none⟩) N cap, .int .i64 a, .int .i64 m, .int .i64 b, .func (.func 115) #[] #[]] w (MergePost g N cap base ok P X Y S w) := by
 intro f
 induction f with
 | zero => intro P X Y S w a m b hf hX; omega
 | succ f ih =>
  intro P X Y S w a m b hf hX hY hR ha hm hb
  by_cases hX1 : X.length = 1
  ·obtain ⟨x, rfl⟩ := List.length_eq_one_iff.1 hX1
   exact sym_one g N cap base ok P Y S x w (by simpa using hR.out.2.2) hY hR.out.2.1 hN a m b ha (by simpa using hm) (by simpa using hb)
  by_cases hY1 : Y.length = 1
  ·obtain ⟨y, rfl⟩ := List.length_eq_one_iff.1 hY1
   exact sym_last g N cap base ok P X S y w (by simpa using hR.out.2.2) (by omega) hR.out.1 hN a m b ha hm (by simpa using hb)
  have HR := hR
  have hl := (Kd.R_reads' hR.out.2.2).1
  simp only [List.length_append] at hl
  obtain ⟨n1, hn1⟩ : ∃ n1, n1 = X.length := ⟨_, rfl⟩
  obtain ⟨n2, hn2⟩ : ∃ n2, n2 = Y.length := ⟨_, rfl⟩
  obtain ⟨d, hd⟩ : ∃ d, d = (a + b) / 2 := ⟨_, rfl⟩
  have wi : IntKind.i64.wrap ((m : Int) - a) = (n1 : Int) := by rw [IntKind.wrap_i64]; omega
  have wj : IntKind.i64.wrap ((b : Int) - m) = (n2 : Int) := by rw [IntKind.wrap_i64]; omega
  have e1 : ((n1 : Int) == 1) = false := by simp; omega
  have e2 : ((n2 : Int) == 1) = false := by simp; omega
  have w1 : IntKind.i64.wrap ((a : Int) + (b : Int)) = (a : Int) + (b : Int) := by rw [IntKind.wrap_i64]; omega
  have w2 : IntKind.u64.wrap ((a : Int) + (b : Int)) = (a : Int) + (b : Int) := by simp only [IntKind.wrap]; simp [IntKind.bits, IntKind.signed]; omega
  have w3 : IntKind.i64.wrap (((a : Int) + (b : Int)) / 2) = (d : Int) := by rw [IntKind.wrap_i64]; omega
  obtain ⟨nn, hnn⟩ : ∃ nn, nn = d + m := ⟨_, rfl⟩
  have w4 : IntKind.i64.wrap ((d : Int) + (m : Int)) = (nn : Int) := by rw [IntKind.wrap_i64]; omega
  obtain ⟨pp, hpp⟩ : ∃ pp, nn = pp + 1 := ⟨nn - 1, by omega⟩
  have w5 : IntKind.i64.wrap ((nn : Int) - 1) = (pp : Int) := by rw [IntKind.wrap_i64]; omega
  have HM := Lib.hid (And.intro ha (And.intro hm (And.intro hb (And.intro hl (And.intro hn1 (And.intro hn2 (And.intro hd (And.intro hnn hpp))))))))
  have HS := Lib.hid (And.intro hf (And.intro hX (And.intro hY (And.intro hX1 hY1))))
  have IH := Lib.hid ih
  obtain ⟨s0, hs0⟩ : ∃ s0, s0 = if d < m then nn - b else a := ⟨_, rfl⟩
  obtain ⟨r0, hr0⟩ : ∃ r0, r0 = if d < m then d else m := ⟨_, rfl⟩
  have HT := Lib.hid (show s0 ≤ r0 ∧ a ≤ s0 ∧ r0 ≤ m ∧ r0 ≤ d ∧ nn - b ≤ s0 ∧ (s0 = a ∨ s0 = nn - b) ∧ (r0 = d ∨ r0 = m) from by
   by_cases hmd : d < m
   ·rw [if_pos hmd] at hs0 hr0; omega
   ·rw [if_neg hmd] at hs0 hr0; omega)
  have HSR := Lib.hid (And.intro hs0 hr0)
  have w6 : d < m → IntKind.i64.wrap ((nn : Int) - (b : Int)) = ((nn - b : Nat) : Int) := fun h => by rw [IntKind.wrap_i64]; omega
  have W6 := Lib.hid w6
  clear ha hm hb hl hn1 hn2 hd hnn hpp hf hX hY hX1 hY1 ih hs0 hr0 hR w6
  go_enter Tryz.func123, Tryz.ntmps123
  go_upto_if 140 with fail
  go_cut [20, 21] from 138 to 146 (fun s20 s21 wx => s20 = .int .i64 s0 ∧ s21 = .int .i64 r0 ∧ w = wx)
  case first =>
   by_cases hmd : d < m
   ·have hmdI : (d : Int) < (m : Int) := by omega
    have w6 := W6.out hmd
    go_wp2_with fail
    go_meet
    have h := HSR.out
    rw [if_pos hmd, if_pos hmd] at h
    exact ⟨by rw [h.1], by rw [h.2], rfl⟩
   ·have hmdI : ¬ ((d : Int) < (m : Int)) := by omega
    have hmdI2 : (m : Int) ≤ (d : Int) := by omega
    go_wp2_with fail
    go_meet
    have h := HSR.out
    rw [if_neg hmd, if_neg hmd] at h
    exact ⟨by rw [h.1], by rw [h.2], rfl⟩
  case rest =>
   obtain ⟨rfl, rfl, rfl⟩ := hcut
   go_wp2_with fail
   go_loopw [20, 21] (fun i j wr => ∃ p q : Nat, i = .int .i64 p ∧ j = .int .i64 q ∧ s0 ≤ p ∧ p ≤ q ∧ q ≤ r0 ∧ Aside0 (kT.R 99 wr base ok (.slice (some ⟨g, 0, none⟩) N cap) (P ++ X ++ Y ++ S) ∧ w.grownBy wr (some g) ∧ (∀ c, s0 ≤ c → c < p → ¬ cmpT (Y.getD (pp - c - m) tz) (X.getD (c - a) tz) < 0) ∧ (∀ c, q ≤ c → c < r0 → cmpT (Y.getD (pp - c - m) tz) (X.getD (c - a) tz) < 0))) (fun i j _ => (intOf j).toNat - (intOf i).toNat)
   case atStart => exact ⟨s0, r0, rfl, rfl, Nat.le_refl _, by have := HM.out; have := HT.out; omega, Nat.le_refl _, HR.out.2.2, ⟨rfl, rfl, rfl, Nat.le_refl _, fun _ _ _ => rfl⟩, fun k h1 h2 => by omega, fun k h1 h2 => by omega⟩
   case round =>
    obtain ⟨p, q, rfl, rfl, hap, hpq, hqm, hI⟩ := hrel
    by_cases hlt : p < q
    ·have hltI : (p : Int) < (q : Int) := by omega
     have hM := HM.out
     have hT := HT.out
     have hSS := HS.out
     obtain ⟨h, hh⟩ : ∃ h, h = (p + q) / 2 := ⟨_, rfl⟩
     obtain ⟨u, hu⟩ : ∃ u, u = pp - h := ⟨_, rfl⟩
     have w7 : IntKind.i64.wrap ((p : Int) + (q : Int)) = (p : Int) + (q : Int) := by rw [IntKind.wrap_i64]; omega
     have w8 : IntKind.u64.wrap ((p : Int) + (q : Int)) = (p : Int) + (q : Int) := by simp only [IntKind.wrap]; simp [IntKind.bits, IntKind.signed]; omega
     have w9 : IntKind.i64.wrap (((p : Int) + (q : Int)) / 2) = (h : Int) := by rw [IntKind.wrap_i64]; omega
     have w10 : IntKind.i64.wrap ((h : Int) + 1) = (h : Int) + 1 := by rw [IntKind.wrap_i64]; omega
     have w11 : IntKind.i64.wrap ((pp : Int) - (h : Int)) = (u : Int) := by rw [IntKind.wrap_i64]; omega
     have gx : (P ++ X ++ Y ++ S).getD h tz = X.getD (h - a) tz := by
      rw [List.getD_eq_getElem?_getD, List.append_assoc, List.append_assoc, List.getElem?_append_right (by omega), show h - P.length = h - a by omega, List.getElem?_append_left (by omega), List.getD_eq_getElem?_getD]
     have gy : (P ++ X ++ Y ++ S).getD u tz = Y.getD (u - m) tz := by
      rw [List.getD_eq_getElem?_getD, List.append_assoc, List.getElem?_append_right (by simp; omega), List.length_append, show u - (P.length + X.length) = u - m by omega, List.getElem?_append_left (by omega), List.getD_eq_getElem?_getD]
     obtain ⟨⟨c0, c1, c2⟩, _, _⟩ := row_time hI.out.1 (i := h) (by omega)
     obtain ⟨⟨d0, d1, d2⟩, _, _⟩ := row_time hI.out.1 (i := u) (by omega)
     rw [gx] at c0 c1 c2
     rw [gy] at d0 d1 d2
     have hh0 : (0 : Int) ≤ (h : Int) := by omega
     have hhN : (h : Int) < (N : Int) := by omega
     have hu0 : (0 : Int) ≤ (u : Int) := by omega
     have huN : (u : Int) < (N : Int) := by omega
     have hyu : Y.getD (pp - h - m) tz = Y.getD (u - m) tz := by rw [hu]
     generalize hy : Y.getD (u - m) tz = y at *
     generalize hx : X.getD (h - a) tz = x at *
     have HY := Lib.hid (And.intro hh (And.intro hu (And.intro hy (And.intro hx hyu))))
     clear gy gx hM hT hSS hh hu hy hx hyu
     go_upto_region 35 with fail
     refine start_ (n := 14) (S := fun w' => w'.cell? ⟨g, h * 3, none⟩ = some (.int .i64 x.1) ∧ w'.cell? ⟨g, h * 3 + 1, none⟩ = some (.int .i64 x.2.1) ∧ w'.cell? ⟨g, h * 3 + 2, none⟩ = some (.int .i64 x.2.2) ∧ w'.cell? ⟨g, u * 3, none⟩ = some (.int .i64 y.1) ∧ w'.cell? ⟨g, u * 3 + 1, none⟩ = some (.int .i64 y.2.1) ∧ w'.cell? ⟨g, u * 3 + 2, none⟩ = some (.int .i64 y.2.2)) (ds := []) (bs 14 0) (by kernel_rfl) rfl (by kernel_rfl) ⟨c0, c1, c2, d0, d1, d2⟩ (fun hHeld => ?_)
     have HD := Aside0.mk (And.intro (Kd.R_drew hI.out.1) (hI.out.2.1.both (grownBy_below (below_drew1 (Below.refl wr.heap.size wr)))))
     clear c0 c1 c2 d0 d1 d2
     generalize wr.drew = wd at *
     refine pu 0 158 (bs 14 1) ?_
     refine pu 1 159 (bs 14 3) ?_
     refine pu 2 160 (bs 14 7) ?_
     refine pu 3 161 (bs 14 15) ?_
     refine pu 4 162 (bs 14 31) ?_
     refine pu 5 163 (bs 14 63) ?_
     refine tk6 6 164 (bs 14 127) hHeld ?_
     refine pu 7 165 (bs 14 255) ?_
     refine pu 8 166 (bs 14 511) ?_
     refine pu 9 167 (bs 14 1023) ?_
     refine tk6 10 168 (bs 14 2047) hHeld ?_
     refine on0 11 169 (bs 14 4095) fun K hK => ?_
     have CM := byTime1_any y x wd
     simp only [tmV] at CM
     refine goesV_ Tryz.func115 (by kernel_rfl) rfl #[.agg #[.int .i64 y.1, .int .i64 y.2.1, .int .i64 y.2.2], .agg #[.int .i64 x.1, .int .i64 x.2.1, .int .i64 x.2.2]] (by rfl) rfl rfl rfl (by (try simp only [List.map_toArray, List.map_cons, List.map_nil]); first | done | rfl) ?_
     refine CM.mono ?_
     clear CM
     rintro e w5 ⟨rfl, hb5⟩
     have HS5 := Aside0.mk (And.intro (Kd.R_below HD.out.1 hb5) (HD.out.2.both (grownBy_below hb5)))
     refine ⟨_, rfl, hK.out _ _ ⟨pw_cell_below hb5 hHeld.1, pw_cell_below hb5 hHeld.2.1, pw_cell_below hb5 hHeld.2.2.1, pw_cell_below hb5 hHeld.2.2.2.1, pw_cell_below hb5 hHeld.2.2.2.2.1, pw_cell_below hb5 hHeld.2.2.2.2.2⟩ (fun hHeld => ?_)⟩
     clear hb5 HD
     by_cases hcx : cmpT y x < 0
     ·have hcd : decide (cmpT y x < 0) = true := decide_eq_true hcx
      clear hK K
      refine nm0 (some 169) ?_
      refine pu 12 170 (bs 14 8191) ?_
      refine pu 13 171 (bs 14 16383) ?_
      refine dn0 ?_
      clear hHeld
      have HX := Lib.hid hcx
      go_wp2_with fail
      have hY2 := HY.out
      have hM := HM.out
      have hT := HT.out
      refine ⟨⟨p, h, rfl, rfl, hap, by omega, by omega, HS5.out.1, HS5.out.2, hI.out.2.2.1, fun k hk1 hk2 => ?_⟩, by simp [intOf]; omega⟩
      refine cmpT_le_lt (b := y) ?_ (cmpT_lt_le (b := x) HX.out ?_)
      ·rw [← hY2.2.2.2.2]
       exact sorted_getD HR.out.2.1 (show pp - k - m ≤ pp - h - m by omega) (by omega)
      ·rw [← hY2.2.2.2.1]
       exact sorted_getD HR.out.1 (show h - a ≤ k - a by omega) (by omega)
     ·skip
      have hcd : decide (cmpT y x < 0) = false := decide_eq_false hcx
      clear hK K
      refine nm0 (some 169) ?_
      refine pu 12 170 (bs 14 8191) ?_
      refine pu 13 171 (bs 14 16383) ?_
      refine dn0 ?_
      clear hHeld
      have HX := Lib.hid hcx
      go_wp2_with fail
      have hY2 := HY.out
      have hM := HM.out
      have hT := HT.out
      refine ⟨⟨h + 1, q, by go_num, rfl, by omega, by omega, hqm, HS5.out.1, HS5.out.2, fun k hk1 hk2 hk3 => ?_, hI.out.2.2.2⟩, by simp [intOf]; omega⟩
      refine HX.out (cmpT_le_lt (b := Y.getD (pp - k - m) tz) ?_ (cmpT_lt_le (b := X.getD (k - a) tz) hk3 ?_))
      ·rw [← hY2.2.2.2.2]
       exact sorted_getD HR.out.2.1 (show pp - h - m ≤ pp - k - m by omega) (by omega)
      ·rw [← hY2.2.2.2.1]
       exact sorted_getD HR.out.1 (show k - a ≤ h - a by omega) (by omega)
    ·have hpe : p = q := by omega
     subst hpe
     have hltI : ¬ (p : Int) < (p : Int) := by omega
     obtain ⟨e, he⟩ : ∃ e, e = nn - p := ⟨_, rfl⟩
     have w7 : IntKind.i64.wrap ((nn : Int) - (p : Int)) = (e : Int) := by
      have hM := HM.out
      have hT := HT.out
      rw [IntKind.wrap_i64]; omega
     have hM := HM.out
     have hT := HT.out
     obtain ⟨X1, X2, Y1, Y2, eX, eY, l1, l2, sX1, sX2, sY1, sY2, hle⟩ := sym_parts ordT (fun _ _ => trivial) HR.out.1 HR.out.2.1 (p - a) (e - m) (by omega) (by omega) tz
      (fun h1 h2 => by
       have := hI.out.2.2.1 (p - 1) (by omega) (by omega)
       rwa [show pp - (p - 1) - m = e - m by omega, show p - 1 - a = p - a - 1 by omega] at this)
      (fun h1 h2 => by
       have := hI.out.2.2.2 p (by omega) (by omega)
       rwa [show pp - p - m = e - m - 1 by omega] at this)
     have hlX : X.length = X1.length + X2.length := by rw [eX]; simp
     have hlY : Y.length = Y1.length + Y2.length := by rw [eY]; simp
     have hRp : kT.R 99 wr base ok (.slice (some ⟨g, 0, none⟩) N cap) (P ++ X1 ++ X2 ++ (Y1 ++ Y2) ++ S) := by
      have := hI.out.1
      rw [eX, eY] at this
      simpa only [List.append_assoc] using this
     have HP := Aside0.mk (And.intro hRp hI.out.2.1)
     have HN := Lib.hid (show a = P.length ∧ p = P.length + X1.length ∧ m = P.length + X1.length + X2.length ∧ e = m + Y1.length ∧ b = m + Y1.length + Y2.length ∧ d = P.length + X1.length + Y1.length ∧ m ≤ N ∧ b ≤ N ∧ X1.length + Y1.length ≤ f ∧ X2.length + Y2.length ≤ f from by
      have := HS.out
      omega)
     have HQ := Aside0.mk (And.intro sX1 (And.intro sX2 (And.intro sY1 (And.intro sY2 (And.intro hle (And.intro eX eY))))))
     clear hM hT l1 l2 sX1 sX2 sY1 sY2 hle hlX hlY hRp he hI eX eY
     obtain ⟨c1, hc1⟩ : ∃ c1, c1 = decide (p < m ∧ m < e) := ⟨_, rfl⟩
     obtain ⟨c2, hc2⟩ : ∃ c2, c2 = decide (a < p ∧ p < d) := ⟨_, rfl⟩
     obtain ⟨c3, hc3⟩ : ∃ c3, c3 = decide (d < e ∧ e < b) := ⟨_, rfl⟩
     have HC1 := Lib.hid hc1
     have HC2 := Lib.hid hc2
     have HC3 := Lib.hid hc3
     clear hc1 hc2 hc3
     go_upto_region 39 with fail
     go_cut [185] from 178 to 184 (fun s wx => s = .bool c1 ∧ wr = wx)
     case first =>
      by_cases h1 : p < m
      ·have h1I : (p : Int) < (m : Int) := by omega
       by_cases h2 : m < e
       ·have h2I : (m : Int) < (e : Int) := by omega
        go_wp2_with fail
        go_meet
        exact ⟨by rw [HC1.out, decide_eq_true ⟨h1, h2⟩], rfl⟩
       ·have h2I : ¬ ((m : Int) < (e : Int)) := by omega
        have h2J : (e : Int) ≤ (m : Int) := by omega
        go_wp2_with fail
        go_meet
        exact ⟨by rw [HC1.out, decide_eq_false (fun h => h2 h.2)], rfl⟩
      ·have h1I : ¬ ((p : Int) < (m : Int)) := by omega
       have h1J : (m : Int) ≤ (p : Int) := by omega
       go_wp2_with fail
       go_meet
       exact ⟨by rw [HC1.out, decide_eq_false (fun h => h1 h.1)], rfl⟩
     case rest =>
      obtain ⟨rfl, rfl⟩ := hcut
      go_upto_if 185 with fail
      go_cut [] from 186 to 191 (fun wx => Aside0 (kT.R 99 wx base ok (.slice (some ⟨g, 0, none⟩) N cap) (P ++ (X1 ++ Y1) ++ (X2 ++ Y2) ++ S) ∧ w.grownBy wx (some g)))
      case first =>
       cases c1 with
       | true =>
        have HD := Aside0.mk (show Calls Tryz.prog 126 #[.slice (some ⟨g, 0, none⟩) N cap, .int .i64 p, .int .i64 m, .int .i64 e, .func (.func 115) #[] #[]] wr _ from by
         have hn := HN.out
         have hc : p < m ∧ m < e := of_decide_eq_true HC1.out.symm
         exact rotT_any g N cap base ok (P ++ X1) X2 Y1 (Y2 ++ S) (.func (.func 115) #[] #[]) wr (by have := HP.out.1; simpa only [List.append_assoc] using this) (by omega) (by omega) hN p m e (by simp; omega) (by simp; omega) (by simp; omega))
        go_wp2_with fail
        refine HD.out.mono ?_
        rintro e w5 ⟨rfl, hR5, hg5⟩
        have H5 := Aside0.mk (And.intro hR5 hg5)
        clear hR5 hg5
        go_wp2_with fail
        go_meet
        exact ⟨by have := H5.out.1; simpa only [List.append_assoc] using this, HP.out.2.both H5.out.2⟩
       | false =>
        have hz : X2 = [] ∨ Y1 = [] := by
         have hn := HN.out
         have hc : ¬ (p < m ∧ m < e) := of_decide_eq_false HC1.out.symm
         rcases Nat.eq_zero_or_pos X2.length with h | h
         ·exact .inl (List.eq_nil_of_length_eq_zero h)
         ·exact .inr (List.eq_nil_of_length_eq_zero (by omega))
        have HZ := Lib.hid hz
        clear hz
        go_wp2_with fail
        go_meet
        refine ⟨?_, HP.out.2⟩
        have := HP.out.1
        rcases HZ.out with h | h <;> (rw [h] at this ⊢; simpa only [List.append_assoc, List.append_nil, List.nil_append] using this)
      case rest =>
       have HA := hcut
       clear hcut
       go_upto_region 41 with fail
       go_cut [199] from 192 to 198 (fun s w' => s = .bool c2 ∧ wc = w')
       case first =>
        by_cases h1 : a < p
        ·have h1I : (a : Int) < (p : Int) := by omega
         by_cases h2 : p < d
         ·have h2I : (p : Int) < (d : Int) := by omega
          go_wp2_with fail
          go_meet
          exact ⟨by rw [HC2.out, decide_eq_true ⟨h1, h2⟩], rfl⟩
         ·have h2I : ¬ ((p : Int) < (d : Int)) := by omega
          have h2J : (d : Int) ≤ (p : Int) := by omega
          go_wp2_with fail
          go_meet
          exact ⟨by rw [HC2.out, decide_eq_false (fun h => h2 h.2)], rfl⟩
        ·have h1I : ¬ ((a : Int) < (p : Int)) := by omega
         have h1J : (p : Int) ≤ (a : Int) := by omega
         go_wp2_with fail
         go_meet
         exact ⟨by rw [HC2.out, decide_eq_false (fun h => h1 h.1)], rfl⟩
       case rest =>
        obtain ⟨rfl, rfl⟩ := hcut
        go_upto_if 199 with fail
        go_cut [] from 200 to 205 (fun wx => ∃ Z1 : List Tm, Aside0 (Z1.Perm (X1 ++ Y1) ∧ SortedBy cmpT Z1 ∧ kT.R 99 wx base ok (.slice (some ⟨g, 0, none⟩) N cap) (P ++ Z1 ++ (X2 ++ Y2) ++ S) ∧ w.grownBy wx (some g)))
        case first =>
         cases c2 with
         | true =>
          have HD := Aside0.mk (show Calls Tryz.prog 123 #[.slice (some ⟨g, 0, none⟩) N cap, .int .i64 a, .int .i64 p, .int .i64 d, .func (.func 115) #[] #[]] wc _ from by
           have hn := HN.out
           have hc : a < p ∧ p < d := of_decide_eq_true HC2.out.symm
           exact IH.out P X1 Y1 (X2 ++ Y2 ++ S) wc a p d (by omega) (by omega) (by omega) ⟨HQ.out.1, HQ.out.2.2.1, by have := HA.out.1; simpa only [List.append_assoc] using this⟩ hn.1 hn.2.1 (by omega))
          go_wp2_with fail
          refine HD.out.mono ?_
          rintro e w5 ⟨rfl, Z1, hz1, hz2, hR5, hg5⟩
          have H5 := Aside0.mk (And.intro hz1 (And.intro hz2 (And.intro hR5 hg5)))
          clear hz1 hz2 hR5 hg5
          go_wp2_with fail
          go_meet
          exact ⟨Z1, H5.out.1, H5.out.2.1, by have := H5.out.2.2.1; simpa only [List.append_assoc] using this, HA.out.2.both H5.out.2.2.2⟩
         | false =>
          have hz : X1 = [] ∨ Y1 = [] := by
           have hn := HN.out
           have hc : ¬ (a < p ∧ p < d) := of_decide_eq_false HC2.out.symm
           rcases Nat.eq_zero_or_pos X1.length with h | h
           ·exact .inl (List.eq_nil_of_length_eq_zero h)
           ·exact .inr (List.eq_nil_of_length_eq_zero (by omega))
          have HZ := Lib.hid hz
          clear hz
          go_wp2_with fail
          go_meet
          refine ⟨X1 ++ Y1, List.Perm.refl _, ?_, HA.out.1, HA.out.2⟩
          rcases HZ.out with h | h
          ·rw [h, List.nil_append]; exact HQ.out.2.2.1
          ·rw [h, List.append_nil]; exact HQ.out.1
        case rest =>
         obtain ⟨Z1, HB⟩ := hcut
         clear HA HC1 HC2
         go_upto_region 43 with fail
         go_cut [213] from 206 to 212 (fun s w' => s = .bool c3 ∧ wc = w')
         case first =>
          by_cases h1 : d < e
          ·have h1I : (d : Int) < (e : Int) := by omega
           by_cases h2 : e < b
           ·have h2I : (e : Int) < (b : Int) := by omega
            go_wp2_with fail
            go_meet
            exact ⟨by rw [HC3.out, decide_eq_true ⟨h1, h2⟩], rfl⟩
           ·have h2I : ¬ ((e : Int) < (b : Int)) := by omega
            have h2J : (b : Int) ≤ (e : Int) := by omega
            go_wp2_with fail
            go_meet
            exact ⟨by rw [HC3.out, decide_eq_false (fun h => h2 h.2)], rfl⟩
          ·have h1I : ¬ ((d : Int) < (e : Int)) := by omega
           have h1J : (e : Int) ≤ (d : Int) := by omega
           go_wp2_with fail
           go_meet
           exact ⟨by rw [HC3.out, decide_eq_false (fun h => h1 h.1)], rfl⟩
         case rest =>
          obtain ⟨rfl, rfl⟩ := hcut
          have FIN := Lib.hid (fun (Z2 : List Tm) (V : World) (hp : Z2.Perm (X2 ++ Y2)) (hs : SortedBy cmpT Z2) (hr : kT.R 99 V base ok (.slice (some ⟨g, 0, none⟩) N cap) (P ++ Z1 ++ Z2 ++ S)) (hg : w.grownBy V (some g)) =>
           show MergePost g N cap base ok P X Y S w (.returned (.tuple #[])) V from by
            have hq := HQ.out
            refine ⟨rfl, Z1 ++ Z2, ?_, sorted_join HB.out.2.1 hs (fun u hu v hv => hq.2.2.2.2.1 u (HB.out.1.mem_iff.1 hu) v (hp.mem_iff.1 hv)), by simpa only [List.append_assoc] using hr, hg⟩
            rw [hq.2.2.2.2.2.1, hq.2.2.2.2.2.2]
            refine (HB.out.1.append hp).trans ?_
            simp only [List.append_assoc]
            refine List.Perm.append_left _ ?_
            simp only [← List.append_assoc]
            exact List.Perm.append_right _ List.perm_append_comm)
          cases c3 with
          | true =>
           have HD := Aside0.mk (show Calls Tryz.prog 123 #[.slice (some ⟨g, 0, none⟩) N cap, .int .i64 d, .int .i64 e, .int .i64 b, .func (.func 115) #[] #[]] wc _ from by
            have hn := HN.out
            have hl := HB.out.1.length_eq
            rw [List.length_append] at hl
            have hc : d < e ∧ e < b := of_decide_eq_true HC3.out.symm
            exact IH.out (P ++ Z1) X2 Y2 S wc d e b (by omega) (by omega) (by omega) ⟨HQ.out.2.1, HQ.out.2.2.2.1, by have := HB.out.2.2.1; simpa only [List.append_assoc] using this⟩ (by simp; omega) (by simp; omega) (by simp; omega))
           go_wp2_with fail
           refine HD.out.mono ?_
           rintro e w5 ⟨rfl, Z2, hz1, hz2, hR5, hg5⟩
           have H5 := Aside0.mk (And.intro hz1 (And.intro hz2 (And.intro hR5 hg5)))
           clear hz1 hz2 hR5 hg5
           go_wp2_with fail
           exact bodyPost_ret (results_none rfl _ _ _) rfl (FIN.out Z2 w5 H5.out.1 H5.out.2.1 (by simpa only [List.append_assoc] using H5.out.2.2.1) (HB.out.2.2.2.both H5.out.2.2.2))
          | false =>
           have hz : X2 = [] ∨ Y2 = [] := by
            have hn := HN.out
            have hc : ¬ (d < e ∧ e < b) := of_decide_eq_false HC3.out.symm
            rcases Nat.eq_zero_or_pos X2.length with h | h
            ·exact .inl (List.eq_nil_of_length_eq_zero h)
            ·exact .inr (List.eq_nil_of_length_eq_zero (by omega))
           have HZ := Lib.hid hz
           clear hz
           go_wp2_with fail
           refine bodyPost_ret (results_none rfl _ _ _) rfl (FIN.out (X2 ++ Y2) wc (List.Perm.refl _) ?_ HB.out.2.2.1 HB.out.2.2.2)
           rcases HZ.out with h | h
           ·rw [h, List.nil_append]; exact HQ.out.2.2.2.1
           ·rw [h, List.append_nil]; exact HQ.out.2.1
end Go.Proofs.YtbkfnmgkcgnifaaGreat
namespace Go.Proofs.YtbkfnmgkcgnifaaGreat
open Go.RowKit Go.Shelf Go.Proofs.YtbkfnmgkcgnifaaGreatW.PrintWords Go.Proofs.YtbkfnmgkcgnifaaGreatW.PrintLast Mdl
def BlkT (s : Nat) (Ls : List (List Tm)) : Prop := ∀ L ∈ Ls, L.length = s ∧ SortedBy cmpT L
set_option maxRecDepth 8000 in
set_option maxHeartbeats 4000000 in
theorem stableT_any (g N cap base : Nat) (ok : Nat → Prop) (l : List Tm) (w : World) (hR : kT.R 99 w base ok (.slice (some ⟨g, 0, none⟩) N cap) l) (hok : ok g) (hN : N ≤ 10000000000000) :
  Calls Tryz.prog 118 #[.slice (some ⟨g, 0, none⟩) N cap, .int .i64 N, .func (.func 115) #[] #[]] w fun e w' => e = .returned (.tuple #[]) ∧ kT.R 99 w' base ok (.slice (some ⟨g, 0, none⟩) N cap) (sortT l) ∧ w.grownBy w' (some g) := by
 have HR := Aside0.mk hR
 have hl := (Kd.R_reads' hR).1
 have HL := Lib.hid hl
 clear hR hl
 go_enter Tryz.func118, Tryz.ntmps118
 go_wp2
 go_loopw [7, 8] (fun i j wr => ∃ (p q : Nat) (Ls : List (List Tm)) (T : List Tm), i = .int .i64 p ∧ j = .int .i64 q ∧ q = p + 20 ∧ p ≤ N ∧ Aside0 (p = Ls.flatten.length ∧ BlkT 20 Ls ∧ (Ls.flatten ++ T).Perm l ∧ kT.R 99 wr base ok (.slice (some ⟨g, 0, none⟩) N cap) (Ls.flatten ++ T) ∧ w.grownBy wr (some g))) (fun _ j _ => N + 1 - (intOf j).toNat)
 case atStart => exact ⟨0, 20, [], l, rfl, rfl, rfl, Nat.zero_le _, rfl, by intro L hL; simp at hL, List.Perm.refl _, HR.out, ⟨rfl, rfl, rfl, Nat.le_refl _, fun _ _ _ => rfl⟩⟩
 case round =>
  obtain ⟨p, q, Ls, T, rfl, rfl, hq, hpN, hI⟩ := hrel
  have hlen : p + T.length = N := by
   have h1 := hI.out.1
   have h2 := (Kd.R_reads' hI.out.2.2.2.1).1
   rw [List.length_append] at h2
   omega
  by_cases hqn : q ≤ N
  ·have hqnI : (q : Int) ≤ (N : Int) := by omega
   have wq : IntKind.i64.wrap ((q : Int) + 20) = (q : Int) + 20 := by rw [IntKind.wrap_i64]; omega
   have hRT : kT.R 99 wr base ok (.slice (some ⟨g, 0, none⟩) N cap) (Ls.flatten ++ T.take 20 ++ T.drop 20) := by
    rw [List.append_assoc, List.take_append_drop]; exact hI.out.2.2.2.1
   have hlT : (T.take 20).length = 20 := by rw [List.length_take]; omega
   have HC := Aside0.mk (insT_any g N cap base ok Ls.flatten (T.take 20) (T.drop 20) wr hRT hok hN p q hI.out.1 (by rw [hlT]; have := hI.out.1; omega))
   have HH := Lib.hid (And.intro hlen (And.intro hlT hq))
   clear hRT hlT hlen hq
   go_wp2_with fail
   refine HC.out.mono ?_
   rintro e w5 ⟨rfl, X', hp, hs, hR5, hg5⟩
   have H5 := Aside0.mk (And.intro hp (And.intro hs (And.intro hR5 hg5)))
   clear hp hs hR5 hg5 HC
   go_wp2_with fail
   have hh := HH.out
   have hx := H5.out.1.length_eq
   refine ⟨⟨q, q + 20, Ls ++ [X'], T.drop 20, rfl, by go_num, rfl, hqn, ?_, ?_, ?_, ?_, hI.out.2.2.2.2.both H5.out.2.2.2⟩, by simp [intOf]; omega⟩
   ·have := hI.out.1
    simp only [List.flatten_append, List.flatten_cons, List.flatten_nil, List.append_nil, List.length_append]; omega
   ·intro L hL
    rcases List.mem_append.1 hL with hL | hL
    ·exact hI.out.2.1 L hL
    ·rw [List.mem_singleton.1 hL]; exact ⟨by omega, H5.out.2.1⟩
   ·refine List.Perm.trans ?_ hI.out.2.2.1
    simp only [List.flatten_append, List.flatten_cons, List.flatten_nil, List.append_nil, List.append_assoc]
    refine List.Perm.append_left _ ?_
    have := H5.out.1.append_right (T.drop 20)
    rwa [List.take_append_drop] at this
   ·have := H5.out.2.2.1
    simpa only [List.flatten_append, List.flatten_cons, List.flatten_nil, List.append_nil, List.append_assoc] using this
  ·have hqnI : ¬ ((q : Int) ≤ (N : Int)) := by omega
   have hqnJ : (N : Int) < (q : Int) := by omega
   have hRT : kT.R 99 wr base ok (.slice (some ⟨g, 0, none⟩) N cap) (Ls.flatten ++ T ++ []) := by
    rw [List.append_nil]; exact hI.out.2.2.2.1
   have HC := Aside0.mk (insT_any g N cap base ok Ls.flatten T [] wr hRT hok hN p N hI.out.1 (by have := hI.out.1; omega))
   have HH := Lib.hid (show T.length < 20 from by omega)
   clear hRT hlen hq
   go_wp2_with fail
   refine HC.out.mono ?_
   rintro e w5 ⟨rfl, X', hp, hs, hR5, hg5⟩
   have H5 := Aside0.mk (show (Ls.flatten ++ X').Perm l ∧ BlkT 20 Ls ∧ SortedBy cmpT X' ∧ X'.length < 20 ∧ kT.R 99 w5 base ok (.slice (some ⟨g, 0, none⟩) N cap) (Ls.flatten ++ X') ∧ w.grownBy w5 (some g) from
    ⟨(hp.append_left _).trans hI.out.2.2.1, hI.out.2.1, hs, by have := hp.length_eq; have := HH.out; omega, by rwa [List.append_nil] at hR5, hI.out.2.2.2.2.both hg5⟩)
   clear hp hs hR5 hg5 HC HH hI
   go_wp2_with fail
   go_loopw [6] (fun i wr => ∃ (s : Nat) (Ls : List (List Tm)) (T : List Tm), i = .int .i64 s ∧ 20 ≤ s ∧ s ≤ 20000000000000 ∧ Aside0 (BlkT s Ls ∧ SortedBy cmpT T ∧ T.length < s ∧ (Ls.flatten ++ T).Perm l ∧ kT.R 99 wr base ok (.slice (some ⟨g, 0, none⟩) N cap) (Ls.flatten ++ T) ∧ w.grownBy wr (some g))) (fun i _ => N - (intOf i).toNat)
   case atStart => exact ⟨20, Ls, X', rfl, Nat.le_refl _, by omega, H5.out.2.1, H5.out.2.2.1, H5.out.2.2.2.1, H5.out.1, H5.out.2.2.2.2.1, H5.out.2.2.2.2.2⟩
   case round =>
    clear H5
    obtain ⟨s, Ls, T, rfl, hs20, hsm, hI⟩ := hrel
    have hlen : Ls.flatten.length + T.length = N := by
     have h2 := (Kd.R_reads' hI.out.2.2.2.2.1).1
     rw [List.length_append] at h2
     omega
    by_cases hsn : s < N
    ·have hsnI : (s : Int) < (N : Int) := by omega
     have ws : IntKind.i64.wrap (2 * (s : Int)) = ((2 * s : Nat) : Int) := by rw [IntKind.wrap_i64]; omega
     have ws2 : IntKind.i64.wrap ((s : Int) * 2) = ((2 * s : Nat) : Int) := by rw [IntKind.wrap_i64]; omega
     have HS := Lib.hid ws2
     clear ws2
     go_wp2_with fail
     go_loopw [7, 8] (fun i j wr => ∃ (p q : Nat) (Ms Ks : List (List Tm)), i = .int .i64 p ∧ j = .int .i64 q ∧ q = p + 2 * s ∧ p ≤ N ∧ Aside0 (p = Ms.flatten.length ∧ BlkT (2 * s) Ms ∧ BlkT s Ks ∧ (Ms.flatten ++ Ks.flatten ++ T).Perm l ∧ kT.R 99 wr base ok (.slice (some ⟨g, 0, none⟩) N cap) (Ms.flatten ++ Ks.flatten ++ T) ∧ w.grownBy wr (some g))) (fun _ j _ => N + 1 - (intOf j).toNat)
     case atStart => exact ⟨0, 2 * s, [], Ls, rfl, rfl, by omega, Nat.zero_le _, rfl, by intro L hL; simp at hL, hI.out.1, by simpa using hI.out.2.2.2.1, by simpa using hI.out.2.2.2.2.1, hI.out.2.2.2.2.2⟩
     case round =>
      obtain ⟨p, q, Ms, Ks, rfl, rfl, hq, hpN, hJ⟩ := hrel
      have hlen2 : p + Ks.flatten.length + T.length = N := by
       have h1 := hJ.out.1
       have h2 := (Kd.R_reads' hJ.out.2.2.2.2.1).1
       rw [List.length_append, List.length_append] at h2
       omega
      have HTS := Lib.hid (And.intro hI.out.2.1 hI.out.2.2.1)
      by_cases hqn : q ≤ N
      ·have hqnI : (q : Int) ≤ (N : Int) := by omega
       match Ks, hJ, hlen2 with
       | [], hJ, hlen2 => exact absurd hlen2 (by have := HTS.out.2; simp; omega)
       | [K1], hJ, hlen2 => exact absurd hlen2 (by have := HTS.out.2; have := (hJ.out.2.2.1 K1 List.mem_cons_self).1; simp; omega)
       | K1 :: K2 :: Ks, hJ, hlen2 =>
        have h1 := hJ.out.2.2.1 K1 List.mem_cons_self
        have h2 := hJ.out.2.2.1 K2 (List.mem_cons_of_mem _ List.mem_cons_self)
        have h3 : BlkT s Ks := fun L hL => hJ.out.2.2.1 L (List.mem_cons_of_mem _ (List.mem_cons_of_mem _ hL))
        have hrow : Ms.flatten ++ (K1 :: K2 :: Ks).flatten ++ T = Ms.flatten ++ K1 ++ K2 ++ (Ks.flatten ++ T) := by simp
        have hrw := hJ.out.2.2.2.2.1
        have hpm := hJ.out.2.2.2.1
        rw [hrow] at hrw hpm
        have wps : IntKind.i64.wrap ((p : Int) + (s : Int)) = ((p + s : Nat) : Int) := by rw [IntKind.wrap_i64]; omega
        have wqs : IntKind.i64.wrap ((q : Int) + ((2 * s : Nat) : Int)) = ((q + 2 * s : Nat) : Int) := by rw [IntKind.wrap_i64]; omega
        have HC := Aside0.mk (symT_any g N cap base ok hN (K1.length + K2.length) Ms.flatten K1 K2 (Ks.flatten ++ T) wr p (p + s) q (Nat.le_refl _) (by omega) (by omega) ⟨h1.2, h2.2, hrw⟩ hJ.out.1 (by have := hJ.out.1; omega) (by have := hJ.out.1; omega))
        have HH := Aside0.mk (And.intro hq (And.intro hJ.out (And.intro h1 (And.intro h2 (And.intro h3 (And.intro hpm hlen2))))))
        clear h1 h2 h3 hrow hrw hpm hq hlen2 hJ
        go_wp2_with fail
        refine HC.out.mono ?_
        rintro e w5 ⟨rfl, Z, hz1, hz2, hR5, hg5⟩
        have H5 := Aside0.mk (And.intro hz1 (And.intro hz2 (And.intro hR5 hg5)))
        clear hz1 hz2 hR5 hg5 HC
        go_wp2_with fail
        have hh := HH.out
        have hzl := H5.out.1.length_eq
        rw [List.length_append] at hzl
        refine ⟨⟨q, q + 2 * s, Ms ++ [Z], Ks, rfl, by go_num, rfl, hqn, ?_, ?_, hh.2.2.2.2.1, ?_, ?_, hh.2.1.2.2.2.2.2.both H5.out.2.2.2⟩, by simp [intOf]; omega⟩
        ·have h1 := hh.1
         have h2 := hh.2.1.1
         have h3 := hh.2.2.1.1
         have h4 := hh.2.2.2.1.1
         simp only [List.flatten_append, List.flatten_cons, List.flatten_nil, List.append_nil, List.length_append]; omega
        ·intro L hL
         rcases List.mem_append.1 hL with hL | hL
         ·exact hh.2.1.2.1 L hL
         ·rw [List.mem_singleton.1 hL]
          exact ⟨by have h3 := hh.2.2.1.1; have h4 := hh.2.2.2.1.1; omega, H5.out.2.1⟩
        ·refine List.Perm.trans ?_ hh.2.2.2.2.2.1
         simp only [List.flatten_append, List.flatten_cons, List.flatten_nil, List.append_nil, List.append_assoc]
         refine List.Perm.append_left _ ?_
         simp only [← List.append_assoc]
         exact (H5.out.1.append_right _).append_right _
        ·have := H5.out.2.2.1
         simpa only [List.flatten_append, List.flatten_cons, List.flatten_nil, List.append_nil, List.append_assoc] using this
      ·have hqnI : ¬ ((q : Int) ≤ (N : Int)) := by omega
       have hqnJ : (N : Int) < (q : Int) := by omega
       have wps : IntKind.i64.wrap ((p : Int) + (s : Int)) = ((p + s : Nat) : Int) := by rw [IntKind.wrap_i64]; omega
       have wsx := HS.out
       have FIN := Lib.hid (fun (Z : List Tm) (V : World) (h1 : SortedBy cmpT Z) (h2 : Z.length < 2 * s) (h3 : (Ms.flatten ++ Z).Perm l) (h4 : kT.R 99 V base ok (.slice (some ⟨g, 0, none⟩) N cap) (Ms.flatten ++ Z)) (h5 : w.grownBy V (some g)) =>
        show ∃ (s1 : Nat) (Ls : List (List Tm)) (T : List Tm), Value.int .i64 ((2 * s : Nat) : Int) = .int .i64 s1 ∧ 20 ≤ s1 ∧ s1 ≤ 20000000000000 ∧ Aside0 (BlkT s1 Ls ∧ SortedBy cmpT T ∧ T.length < s1 ∧ (Ls.flatten ++ T).Perm l ∧ kT.R 99 V base ok (.slice (some ⟨g, 0, none⟩) N cap) (Ls.flatten ++ T) ∧ w.grownBy V (some g)) from
        ⟨2 * s, Ms, Z, rfl, by omega, by omega, hJ.out.2.1, h1, h2, h3, h4, h5⟩)
       by_cases hm : p + s < N
       ·have hmI : ((p + s : Nat) : Int) < (N : Int) := by omega
        match Ks, hJ, hlen2 with
        | [], hJ, hlen2 => exact absurd hlen2 (by have := HTS.out.2; simp; omega)
        | K1 :: K2 :: Ks, hJ, hlen2 => exact absurd hlen2 (by have := (hJ.out.2.2.1 K1 List.mem_cons_self).1; have := (hJ.out.2.2.1 K2 (List.mem_cons_of_mem _ List.mem_cons_self)).1; simp only [List.flatten_cons, List.length_append]; omega)
        | [K1], hJ, hlen2 =>
         have h1 := hJ.out.2.2.1 K1 List.mem_cons_self
         have hrow : Ms.flatten ++ [K1].flatten ++ T = Ms.flatten ++ K1 ++ T ++ [] := by simp
         have hrw := hJ.out.2.2.2.2.1
         have hpm := hJ.out.2.2.2.1
         rw [hrow] at hrw hpm
         have hl1 : p + K1.length + T.length = N := by simpa using hlen2
         have HC := Aside0.mk (symT_any g N cap base ok hN (K1.length + T.length) Ms.flatten K1 T [] wr p (p + s) N (Nat.le_refl _) (by omega) (by omega) ⟨h1.2, HTS.out.1, hrw⟩ hJ.out.1 (by have := hJ.out.1; omega) (by have := hJ.out.1; omega))
         have HH := Aside0.mk (And.intro hJ.out (And.intro h1 (And.intro hpm hl1)))
         clear h1 hrow hrw hpm hq hlen2 hJ hl1
         go_wp2_with fail
         refine HC.out.mono ?_
         rintro e w5 ⟨rfl, Z, hz1, hz2, hR5, hg5⟩
         have H5 := Aside0.mk (And.intro hz1 (And.intro hz2 (And.intro hR5 hg5)))
         clear hz1 hz2 hR5 hg5 HC
         go_wp2_with fail
         have hzl := H5.out.1.length_eq
         rw [List.length_append] at hzl
         have h3 := HH.out.2.1.1
         refine ⟨FIN.out Z w5 H5.out.2.1 (by have := HTS.out.2; omega) ?_ (by simpa only [List.append_nil, List.append_assoc] using H5.out.2.2.1) (HH.out.1.2.2.2.2.2.both H5.out.2.2.2), by simp [intOf]; omega⟩
         refine List.Perm.trans (List.Perm.append_left _ H5.out.1) ?_
         have := HH.out.2.2.1
         simpa only [List.append_nil, List.append_assoc] using this
       ·have hmI : ¬ (((p + s : Nat) : Int) < (N : Int)) := by omega
        have hmJ : (N : Int) ≤ ((p + s : Nat) : Int) := by omega
        have hz : ∃ Z, SortedBy cmpT Z ∧ Z.length < 2 * s ∧ Ms.flatten ++ Ks.flatten ++ T = Ms.flatten ++ Z := by
         match Ks, hJ, hlen2 with
         | [], hJ, hlen2 => exact ⟨T, HTS.out.1, by have := HTS.out.2; omega, by simp⟩
         | K1 :: K2 :: Ks, hJ, hlen2 => exact absurd hlen2 (by have := (hJ.out.2.2.1 K1 List.mem_cons_self).1; have := (hJ.out.2.2.1 K2 (List.mem_cons_of_mem _ List.mem_cons_self)).1; simp only [List.flatten_cons, List.length_append]; omega)
         | [K1], hJ, hlen2 =>
          have h1 := hJ.out.2.2.1 K1 List.mem_cons_self
          have hl1 : p + K1.length + T.length = N := by simpa using hlen2
          have h3 : T = [] := List.eq_nil_of_length_eq_zero (by omega)
          exact ⟨K1, h1.2, by omega, by rw [h3]; simp⟩
        have HZ := Aside0.mk hz
        clear hz hlen2 hq
        go_wp2_with fail
        obtain ⟨Z, hz1, hz2, hz3⟩ := HZ.out
        have h3 := hJ.out.2.2.2
        rw [hz3] at h3
        exact ⟨FIN.out Z wr hz1 hz2 h3.1 h3.2.1 h3.2.2, by simp [intOf]; omega⟩
    ·have hsnI : ¬ ((s : Int) < (N : Int)) := by omega
     have hsnJ : (N : Int) ≤ (s : Int) := by omega
     go_wp2_with fail
     go_end0
     refine ⟨rfl, ?_, hI.out.2.2.2.2.2⟩
     have he : Ls.flatten ++ T = sortT l := sortL_eq ordT (fun _ _ => trivial) hI.out.2.2.2.1 (by
      cases Ls with
      | nil => simpa using hI.out.2.1
      | cons L Ls =>
       have h1 := hI.out.1 L List.mem_cons_self
       simp only [List.flatten_cons, List.length_append] at hlen
       have h2 : Ls.flatten = [] := List.eq_nil_of_length_eq_zero (by omega)
       have h3 : T = [] := List.eq_nil_of_length_eq_zero (by omega)
       rw [List.flatten_cons, h2, h3]
       simpa using h1.2)
     rw [← he]
     exact hI.out.2.2.2.2.1
theorem copy_all {α : Type} {P : Program} (d : Kd α) {W : World} {base e : Nat} {ok : Nat → Prop} {g N cap c : Nat} {A : Option Addr} {xs ys : List α} (t t' ty : TypeId) (ht : P.underlying t = some (.slice e)) (hinfo : (P.info? e).map (·.size) = some d.sz)
  (HO : d.R e W base ok (.slice (some ⟨g, 0, none⟩) N cap) xs) (HR : d.C W A N ys) (KM : ∀ w w' x cs, d.K w x cs → d.M w' base (fun _ => False) x cs) (hs0 : 0 < d.sz) :
  ∃ w1, (Builtin.copy_ #[t, t'] ty #[.slice (some ⟨g, 0, none⟩) N cap, .slice A N c]).run P W = .ok (.int .i64 (N : Int)) w1 ∧ d.R e w1 base ok (.slice (some ⟨g, 0, none⟩) N cap) ys ∧ W.grownBy w1 (some g) := by
 obtain ⟨i0, hi, hi0⟩ := Option.map_eq_some_iff.1 hinfo
 obtain rfl := (Kd.R_reads' HO).1
 have hy : ys.length = xs.length := HR.1
 obtain ⟨hok, inner, hown, _⟩ := HO
 obtain ⟨hil, hv | ⟨g', cap', cur, hv, hbg, hg, hNc, hcm, hcs, hct⟩⟩ := hown
 ·cases hv.1
 ·cases hv
  have hsz : ∀ w, (sizeOf e).run P w = .ok d.sz w := fun w => by simp [sizeOf, typeInfo, hi, hi0]
  rcases Nat.eq_zero_or_pos xs.length with h0 | hN
  ·have hxe := List.eq_nil_of_length_eq_zero h0
   subst hxe
   obtain rfl : ys = [] := List.eq_nil_of_length_eq_zero hy
   refine ⟨W, ?_, ⟨hok, [], ⟨by simp, .inr ⟨g, cap, cur, rfl, hbg, hg, Nat.zero_le _, hcm, hcs, by simp⟩⟩, Reps.none _ _⟩, World.grownBy.refl W _⟩
   have hf : ∀ w, (Builtin.firstCells d.sz 0 (.slice A 0 c)).run P w = .ok #[] w := fun w => by
    cases A with
    | none => simp [Builtin.firstCells]
    | some ad => exact run_firstCells_some (P := P) w d.sz 0 ad 0 c [] (by simp) (by simp)
   simp only [Builtin.copy_, Sem.run_bind, List.getElem?_toArray, List.getElem?_cons_zero, List.getElem?_cons_succ, run_underlying ht, Result.andThen_ok, Builtin.lenOf, Sem.run_pure, hsz]
   simp [hf, storeCells, goInt]
  ·obtain ⟨ad, rfl, _⟩ := HR.2.2 hN
   obtain ⟨news, hnr, hnc⟩ := ReadsRow.inner_ HR
   have hnl : news.length = xs.length * d.sz := by rw [hnr.1, hy]
   have hone : ∀ u ∈ news, u.oneCell' = true := by
    intro u hu
    obtain ⟨q, hq, rfl⟩ := List.mem_iff_getElem.1 hu
    have hql : q / d.sz < ys.length := by
     rw [Nat.div_lt_iff_lt_mul hs0, ← hnr.1]; exact hq
    refine d.K_one (hnr.2 (q / d.sz) _ (List.getElem?_eq_getElem hql)) _ ?_
    rw [List.mem_iff_getElem?]
    refine ⟨q % d.sz, ?_⟩
    rw [List.getElem?_take, if_pos (Nat.mod_lt _ hs0), List.getElem?_drop, Nat.mul_comm, Nat.div_add_mod, List.getElem?_eq_getElem hq]
   have hfit : news.length ≤ cur.size := by rw [hnl, hcs]; exact Nat.mul_le_mul_right _ hNc
   have hf := run_firstCells_some (P := P) W d.sz xs.length ad xs.length c news hnl hnc
   have hst := run_storeCells_at P g 0 e news 0 cur W hg (by simpa using hfit) hone
   simp only [Nat.add_zero, Nat.zero_add, List.take_zero, List.nil_append] at hst
   refine ⟨W.setRow g (news ++ List.drop news.length cur.toList).toArray, ?_, ⟨hok, news, ⟨by rw [hnl, hy], .inr ⟨g, cap, (news ++ List.drop news.length cur.toList).toArray, by rw [hy], hbg, setRow_heap W g cur _ e (0, 0) hg, by rw [hy]; exact hNc, hcm, ?_, ?_⟩⟩, hnr.imp_ (fun x cs hk => d.M_mono (fun _ h => h.elim) (KM W _ x cs hk))⟩, ⟨rfl, rfl, rfl, by simp [World.setRow], fun k _ hk => setRow_other W g k _ (fun e => hk (by rw [e]))⟩⟩
   ·simp only [Builtin.copy_, Sem.run_bind, List.getElem?_toArray, List.getElem?_cons_zero, List.getElem?_cons_succ, run_underlying ht, Result.andThen_ok, Builtin.lenOf, Sem.run_pure, hsz]
    simp [hf, hst, goInt]
   ·simp only [List.size_toArray, List.length_append, List.length_drop, Array.length_toList]
    omega
   ·rw [hy, ← hnl]
    exact List.take_left
theorem copy_event {P : Program} {ops : Array Oper} {rest : List Oper} {o : Oper} {a : Act} {Q : Exit → Act → World → Prop} {W w1 : World} (hgd : o.guard = none) (s x : Operand) (t t' : TypeId)
  (ho : o.op = .call { callee := .builtin .copy, args := #[s, x], argTypes := #[t, t'] }) (v u r : Value) (hs : a.eval s = v) (hx : a.eval x = u) (hrun : (Builtin.copy_ #[t, t'] o.type #[v, u]).run P W = .ok r w1) (h : wpList P ops Q rest (a.put o.dst r) w1) :
  wpList P ops Q (o :: rest) a W := by
 refine wpList_plain hgd fun K hK => ?_
 unfold Oper.wp execOp
 simp only [ho, resolve, invoke, builtin, Sem.run_bind, Sem.run_pure, Result.andThen_ok, List.map_toArray, List.map_cons, List.map_nil, hs, hx, hrun]
 exact hK _ _ h
theorem kT_KM (base : Nat) (w w' : World) (x : Tm) (cs : List Value) (h : kT.K w x cs) : kT.M w' base (fun _ => False) x cs := by
 rw [kT_K.1 h]; exact kT_M x
set_option maxRecDepth 8000 in
theorem sortT_any (g N cap base : Nat) (ok : Nat → Prop) (l : List Tm) (w : World) (hR : kT.R 99 w base ok (.slice (some ⟨g, 0, none⟩) N cap) l) (hok : ok g) (hN : N ≤ 10000000000000) :
  Calls Tryz.prog 114 #[.slice (some ⟨g, 0, none⟩) N cap, .func (.func 115) #[] #[]] w fun e w' => e = .returned (.tuple #[]) ∧ kT.R 99 w' base ok (.slice (some ⟨g, 0, none⟩) N cap) (sortT l) ∧ w.grownBy w' (some g) := by
 have HC := Aside0.mk (stableT_any g N cap base ok l w hR hok hN)
 clear hR
 go_enter Tryz.func114, Tryz.ntmps114
 go_wp2_with fail
 refine HC.out.mono ?_
 rintro e w5 ⟨rfl, hR5, hg5⟩
 go_wp2_with fail
 go_end0
 exact ⟨rfl, hR5, hg5⟩
set_option maxRecDepth 8000 in
set_option maxHeartbeats 1000000 in
theorem sortedT_any (A : Option Addr) (c : Nat) (l : List Tm) (w : World) (hl : kT.C w A l.length l) (hn : l.length * 24 ≤ 140737488355328) :
  Calls Tryz.prog 99 #[.slice A l.length c, .agg #[.func (.func 115) #[] #[]]] w fun e w' =>
   ∃ v, e = .returned v ∧ kT.R 99 w' w.heap.size (fun _ => True) v (sortT l) ∧ Below w.heap.size w w' := by
 have HL := Aside0.mk hl
 have HLL := Aside0.mk (rfl : l.length = l.length)
 have hmf : ∀ (w : World) , (Instr.field 173 (.agg #[.func (.func 115) #[] #[]]) 0).run Tryz.prog w = .ok (.func (.func 115) #[] #[]) w := fun _ => by kernel_rfl
 have HB1 := Aside0.mk (below_new w (.cells #[.func (.func 115) #[] #[]] 173))
 clear hl
 go_enter Tryz.func99, Tryz.ntmps99
 go_upto_region 2 with (at_make; go_must (refine Kd.R_make kT (w0 := w) w.heap.size 99 rfl (N := 8) rfl _ _ _ rfl l.length rfl rfl Tryz.underlying68 _ 24 Tryz.infoTime rfl (by decide) (by decide) ((0, 0, 0) : Tm) (ok := fun _ => True) (okp := fun _ => False) (kT_M _) (fun _ h => h.elim) trivial (by omega) (by omega) HB1.out HB1.out.size ?_); intro v1 w3 hR3 hb3 hg3 hown3)
 obtain ⟨b, hvb, hbw⟩ := hown3
 obtain ⟨_, hown⟩ := Kd.R_own hR3
 obtain ⟨g, cap, rfl⟩ : ∃ g cap, v1 = .slice (some ⟨g, 0, none⟩) l.length cap := by
  rcases hown.2 with ⟨rfl, _⟩ | ⟨g, cap, cur, hv, _⟩
  ·cases hvb
  ·exact ⟨g, cap, by simpa using hv⟩
 have hcp : ∃ w4, (Builtin.copy_ #[68, 68] 3 #[.slice (some ⟨g, 0, none⟩) l.length cap, .slice A l.length c]).run Tryz.prog w3 = .ok (.int .i64 (l.length : Int)) w4 ∧ kT.R 99 w4 w.heap.size (fun _ => True) (.slice (some ⟨g, 0, none⟩) l.length cap) l ∧ w3.grownBy w4 (some g) :=
  copy_all (P := Tryz.prog) kT 68 68 3 rfl (by kernel_rfl) hR3 (Kd.C_below HL.out hb3) (kT_KM _) (by decide)
 obtain ⟨w4, hrun, hR4, hg4⟩ := hcp
 have hz : (w.alloc (.cells #[.func (.func 115) #[] #[]] 173)).heap.size = w.heap.size + 1 := by simp
 have hgb : g = b := by injection hvb
 have hc0 : w4.cell? ⟨w.heap.size, 0, none⟩ = some (.func (.func 115) #[] #[]) := by
  refine cell_grown hg4 (cell_grown hg3 (new_cell w _ _ 0) (by simp)) (fun he => ?_)
  injection he with he
  have : w.heap.size = g := he
  omega
 have HB4 := Aside0.mk (And.intro hR4 (hb3.grown hg4 hb3.size (fun k hk => by injection hk with hk; omega)))
 have HRUN := Lib.hid hrun
 clear hb3 hg3 hbw hR4 hg4 hz hgb hrun hvb hR3 hown
 go_wp2_with (with_reducible refine copy_event rfl (.tmp 9) (.tmp 10) _ _ rfl (.slice (some ⟨g, 0, none⟩) l.length cap) (.slice A l.length c) _ rfl rfl HRUN.out ?_)
 refine (sortT_any g l.length cap w.heap.size (fun _ => True) l w4 HB4.out.1 trivial (by omega)).mono ?_
 rintro e w5 ⟨rfl, hR5, hg5⟩
 have H5 := Aside0.mk (And.intro hR5 (HB4.out.2.grown hg5 HB4.out.2.size (fun k hk => by injection hk with hk; subst hk; exact Kd.R_base HB4.out.1 g rfl)))
 clear hR5 hg5
 go_wp2_with fail
 go_ret
 exact ⟨_, rfl, H5.out.1, H5.out.2⟩
end Go.Proofs.YtbkfnmgkcgnifaaGreat
namespace Go.Proofs.YtbkfnmgkcgnifaaGreat
open Go.RowKit Go.Shelf Go.Proofs.YtbkfnmgkcgnifaaGreatW.PrintWords Go.Proofs.YtbkfnmgkcgnifaaGreatW.PrintLast Mdl
namespace Mdl
theorem dedup_cons_ne {x y : Tm} {r : List Tm} (h : x ≠ y) : dedup (x :: y :: r) = x :: dedup (y :: r) := by simp [dedup, h]
theorem dedup_cons_eq {x : Tm} {r : List Tm} : dedup (x :: x :: r) = dedup (x :: r) := by simp [dedup]
theorem dedup_snoc (x : Tm) : ∀ (l : List Tm) (y : Tm), dedup (l ++ [y, x]) = if y = x then dedup (l ++ [y]) else dedup (l ++ [y]) ++ [x]
 | [], y => by
  by_cases h : y = x
  ·subst h; simp [dedup]
  ·simp [dedup, h]
 | [a], y => by
  have ih := dedup_snoc x [] y
  by_cases h : a = y
  ·subst h
   simp only [List.cons_append, List.nil_append] at ih ⊢
   rw [dedup_cons_eq, ih, dedup_cons_eq]
  ·simp only [List.cons_append, List.nil_append] at ih ⊢
   rw [dedup_cons_ne h, ih, dedup_cons_ne h]
   split <;> simp
 | a :: b :: l, y => by
  have ih := dedup_snoc x (b :: l) y
  by_cases h : a = b
  ·subst h
   simp only [List.cons_append] at ih ⊢
   rw [dedup_cons_eq, ih, dedup_cons_eq]
  ·simp only [List.cons_append] at ih ⊢
   rw [dedup_cons_ne h, ih, dedup_cons_ne h]
   split <;> simp
theorem dedup_take {l : List Tm} {k : Nat} (h1 : 1 ≤ k) (hk : k < l.length) : dedup (l.take (k + 1)) = if l.getD (k - 1) (0, 0, 0) = l.getD k (0, 0, 0) then dedup (l.take k) else dedup (l.take k) ++ [l.getD k (0, 0, 0)] := by
 obtain ⟨j, rfl⟩ : ∃ j, k = j + 1 := ⟨k - 1, by omega⟩
 have e1 : l.take (j + 1 + 1) = l.take j ++ [l.getD j (0, 0, 0), l.getD (j + 1) (0, 0, 0)] := by
  rw [List.take_succ_eq_append_getElem hk, List.take_succ_eq_append_getElem (by omega), List.append_assoc, List.getD_eq_getElem?_getD, List.getElem?_eq_getElem (by omega), List.getD_eq_getElem?_getD, List.getElem?_eq_getElem hk]; rfl
 have e2 : l.take (j + 1) = l.take j ++ [l.getD j (0, 0, 0)] := by
  rw [List.take_succ_eq_append_getElem (by omega), List.getD_eq_getElem?_getD, List.getElem?_eq_getElem (by omega)]; rfl
 rw [e1, dedup_snoc, ← e2]; rfl
end Mdl
theorem zero_cells (z : Array Value) (n : Nat) : ∀ u ∈ (Builtin.zeroCells z n).toList, u ∈ z.toList := by
 intro u hu
 unfold Builtin.zeroCells at hu
 rw [Array.toList_map, List.mem_map] at hu
 obtain ⟨i, hi, rfl⟩ := hu
 have hi : i < n * z.size := by simpa using hi
 have hz : 0 < z.size := by
  rcases Nat.eq_zero_or_pos z.size with h | h
  ·rw [h] at hi; omega
  ·exact h
 have hm : i % z.size < z.size := Nat.mod_lt _ hz
 rw [getElem!_pos z _ hm]
 exact Array.getElem_mem_toList hm
theorem setCells_grown (g : Nat) : ∀ (vs : List Value) (o : Nat) (W : World), W.grownBy (W.setCells g o vs) (some g)
 | [], _, W => World.grownBy.refl W _
 | v :: r, o, W => World.grownBy.both (b := W.setCell ⟨g, o, none⟩ v) ⟨rfl, rfl, rfl, by simp [World.setCell], fun k _ hn => Below.heap_setCell W ⟨g, o, none⟩ v k (fun he => hn (by rw [he]))⟩ (setCells_grown g r (o + 1) _)
theorem clear_tail {α : Type} {P : Program} (d : Kd α) {W : World} {base e : Nat} {ok : Nat → Prop} {g N cap c k : Nat} {xs : List α} (t ty : TypeId) (ht : P.underlying t = some (.slice e)) (z : Value) (hz : ∀ w, (zeroValue e).run P w = .ok z w) (hzs : z.cells.size = d.sz) (hz1 : ∀ u ∈ z.cells.toList, u.oneCell' = true)
  (HO : d.R e W base ok (.slice (some ⟨g, 0, none⟩) N cap) xs) (hk : k < N) :
  ∃ w1, (Builtin.clear_ #[t] ty #[.slice (some ⟨g, k * d.sz, none⟩) (N - k) c]).run P W = .ok (.tuple #[]) w1 ∧ W.grownBy w1 (some g) ∧ ∀ i, i < k * d.sz → w1.cell? ⟨g, i, none⟩ = W.cell? ⟨g, i, none⟩ := by
 obtain rfl := (Kd.R_reads' HO).1
 obtain ⟨hok, inner, ⟨hil, hv | ⟨g', cap', cur, hv, hbg, hg, hNc, hcm, hcs, hct⟩⟩, _⟩ := HO
 ·cases hv.1
 ·cases hv
  have hl : (Builtin.zeroCells z.cells (xs.length - k)).toList.length = (xs.length - k) * d.sz := by
   rw [Array.length_toList, size_zeroCells, hzs]
  have hfit : k * d.sz + (xs.length - k) * d.sz ≤ cur.size := by
   rw [← Nat.add_mul, hcs]; exact Nat.mul_le_mul_right _ (by omega)
  have hst := run_storeCells_cells (P := P) g (k * d.sz) (Builtin.zeroCells z.cells (xs.length - k)).toList 0 W
   (fun j hj => by rw [hl] at hj; simp only [World.cell?, hg]; simp; omega) (fun j hj => blk_frozen hg _)
   (fun u hu => hz1 u (zero_cells _ _ u hu))
  simp only [Nat.add_zero] at hst
  obtain ⟨m, hm⟩ : ∃ m, xs.length - k = m + 1 := ⟨xs.length - k - 1, by omega⟩
  refine ⟨W.setCells g (k * d.sz) (Builtin.zeroCells z.cells (xs.length - k)).toList, ?_, ?_, fun i hi => World.cell?_setCells_out _ _ _ _ _ (fun _ _ => .inl hi)⟩
  ·rw [hm] at hst ⊢
   simp [Builtin.clear_, run_underlying ht, hz, hst]
  ·exact setCells_grown _ _ _ _
def CompPost (l : List Tm) (v : Value) (w : World) (e : Ending) (w' : World) : Prop := ∃ A c, e = .returned (.slice A (dedup l).length c) ∧ (dedup l).length ≤ c ∧ kT.C w' A (dedup l).length (dedup l) ∧ w.grownBy w' v.ownBlock
theorem comp_same {l : List Tm} {v : Value} {base e : Nat} {ok : Nat → Prop} {w w' : World} (h : kT.R e w' base ok v l) (hd : dedup l = l) (hg : w.grownBy w' v.ownBlock) : CompPost l v w (.returned v) w' := by
 obtain ⟨A, c, rfl, hc, hC⟩ := Kd.R_reads h
 refine ⟨A, c, by rw [hd], by rw [hd]; exact hc, by rw [hd]; exact hC, hg⟩
theorem getD_of {l : List Tm} {k : Nat} (hk : k < l.length) : l.getD k tz = l[k] := by
 rw [List.getD_eq_getElem?_getD, List.getElem?_eq_getElem hk]; rfl
set_option maxRecDepth 8000 in
set_option maxHeartbeats 4000000 in
theorem compactT_any (v : Value) (l : List Tm) (w : World) (base : Nat) (ok : Nat → Prop) (hl : kT.R 99 w base ok v l) (hn : l.length ≤ 10000000000000) :
  Calls Tryz.prog 98 #[v] w (CompPost l v w) := by
 by_cases h2 : l.length < 2
 ·have hd : dedup l = l := by
   match l, h2 with
   | [], _ => rfl
   | [x], _ => rfl
  have HP := Lib.hid (comp_same hl hd (World.grownBy.refl w _))
  obtain ⟨A, c, rfl, _, _⟩ := Kd.R_reads hl
  have h2I : (l.length : Int) < 2 := by omega
  clear hl hd
  go_enter Tryz.func98, Tryz.ntmps98
  go_wp2_with fail
  go_ret
  exact HP.out
 ·obtain ⟨g, cap, rfl, _, _, _⟩ := Kd.R_form hl (by omega)
  have HR := Aside0.mk hl
  have hcap := (Kd.R_reads' hl).2.1
  obtain ⟨N, hN⟩ : ∃ N, N = l.length := ⟨_, rfl⟩
  rw [← hN] at hl h2 HR hn hcap ⊢
  have HN := Lib.hid hN
  have h2I : ¬ ((N : Int) < 2) := by omega
  have h2J : (2 : Int) ≤ (N : Int) := by omega
  clear hl hN
  go_enter Tryz.func98, Tryz.ntmps98
  go_wp2_with fail
  go_loopw [3] (fun i wr => ∃ k : Nat, i = .int .i64 k ∧ 1 ≤ k ∧ k ≤ N ∧ Aside0 (kT.R 99 wr base ok (.slice (some ⟨g, 0, none⟩) N cap) l ∧ w.grownBy wr (some g) ∧ dedup (l.take k) = l.take k)) (fun i _ => N - (intOf i).toNat)
  case atStart =>
   refine ⟨1, rfl, Nat.le_refl _, by omega, HR.out, World.grownBy.refl w _, ?_⟩
   match l with
   | [] => rfl
   | x :: r => rfl
  case round =>
   obtain ⟨k, rfl, hk1, hkN, hI⟩ := hrel
   by_cases hlt : k < N
   ·have hltI : (k : Int) < (N : Int) := by omega
    obtain ⟨j, hj⟩ : ∃ j, j = k - 1 := ⟨_, rfl⟩
    obtain ⟨⟨c0, c1, c2⟩, _, _⟩ := row_time hI.out.1 (i := k) (by omega)
    obtain ⟨⟨d0, d1, d2⟩, _, _⟩ := row_time hI.out.1 (i := j) (by omega)
    have hdt := dedup_take (l := l) hk1 (by have := HN.out; omega)
    rw [← hj, hI.out.2.2] at hdt
    have wj : IntKind.i64.wrap ((k : Int) - 1) = (j : Int) := by rw [IntKind.wrap_i64]; omega
    have hk0 : (0 : Int) ≤ (k : Int) := by omega
    have hj0 : (0 : Int) ≤ (j : Int) := by omega
    have hjN : (j : Int) < (N : Int) := by omega
    have HX := Lib.hid (show l.getD k tz = l[k]'(by have := HN.out; omega) from getD_of _)
    generalize hx : l.getD k tz = x at *
    generalize hy : l.getD j tz = y at *
    have hnew : (x == y) = false → dedup (l.take (k + 1)) = l.take (k + 1) := fun h => by
     have h : x ≠ y := by simpa using h
     have hdt : dedup (l.take (k + 1)) = if y = x then l.take k else l.take k ++ [x] := hdt
     rw [hdt, if_neg (Ne.symm h), List.take_succ_eq_append_getElem (by have := HN.out; omega), ← HX.out]
    have hsame : (x == y) = true → dedup (l.take (k + 1)) = l.take k := fun h => by
     have h : x = y := by simpa using h
     have hdt : dedup (l.take (k + 1)) = if y = x then l.take k else l.take k ++ [x] := hdt
     rw [hdt, if_pos h.symm]
    have HNEW := Lib.hid (And.intro hnew hsame)
    have HJ := Lib.hid hj
    have heq : ∀ w, (binOp .eql 99 (.agg #[.int .i64 x.1, .int .i64 x.2.1, .int .i64 x.2.2]) (.agg #[.int .i64 y.1, .int .i64 y.2.1, .int .i64 y.2.2])).run Tryz.prog w = .ok (.bool (x == y)) w := fun w => run_eq_time x y w
    clear hdt hnew hsame hx hy hj HX
    go_upto_region 6 with fail
    refine start_ (n := 10) (S := fun w' => w'.cell? ⟨g, k * 3, none⟩ = some (.int .i64 x.1) ∧ w'.cell? ⟨g, k * 3 + 1, none⟩ = some (.int .i64 x.2.1) ∧ w'.cell? ⟨g, k * 3 + 2, none⟩ = some (.int .i64 x.2.2) ∧ w'.cell? ⟨g, j * 3, none⟩ = some (.int .i64 y.1) ∧ w'.cell? ⟨g, j * 3 + 1, none⟩ = some (.int .i64 y.2.1) ∧ w'.cell? ⟨g, j * 3 + 2, none⟩ = some (.int .i64 y.2.2)) (ds := []) (bs 10 0) (by kernel_rfl) rfl (by kernel_rfl) ⟨c0, c1, c2, d0, d1, d2⟩ (fun hHeld => ?_)
    have HD := Aside0.mk (And.intro (Kd.R_drew hI.out.1) (hI.out.2.1.both (grownBy_below (below_drew1 (Below.refl wr.heap.size wr)))))
    clear c0 c1 c2 d0 d1 d2
    generalize wr.drew = wd at *
    refine pu 0 16 (bs 10 1) ?_
    refine pu 1 17 (bs 10 3) ?_
    refine pu 2 18 (bs 10 7) ?_
    refine tk6 3 19 (bs 10 15) hHeld ?_
    refine pu 4 20 (bs 10 31) ?_
    refine pu 5 21 (bs 10 63) ?_
    refine pu 6 22 (bs 10 127) ?_
    refine pu 7 23 (bs 10 255) ?_
    refine tk6 8 24 (bs 10 511) hHeld ?_
    refine pu 9 25 (bs 10 1023) ?_
    refine dn0 ?_
    clear heq hHeld
    cases hxy : (x == y) with
    | false =>
     have HXY := Lib.hid hxy
     go_wp2_with fail
     exact ⟨⟨k + 1, by go_num, by omega, by omega, HD.out.1, HD.out.2, HNEW.out.1 HXY.out⟩, by simp [intOf]; omega⟩
    | true =>
     have HXY := Lib.hid hxy
     clear hxy
     have hcm := (Kd.R_reads' HD.out.1).2.1
     have hkc : (cap == k) = false := by simp; omega
     have hck : ¬ cap = k := by omega
     have HK := Lib.hid (show dedup (l.take (k + 1)) = l.take k from HNEW.out.2 HXY.out)
     clear hcm
     go_wp2_with fail
     generalize hM : N - k = M
     generalize hCm : cap - k = Cm
     have HM := Lib.hid (show M = N - k ∧ Cm = cap - k ∧ k < N ∧ N ≤ cap from ⟨hM.symm, hCm.symm, hlt, hcap⟩)
     have hMm : M ≤ 10000000000000 := by omega
     clear hM hCm
     go_loopw [3, 5] (fun q i wr => ∃ (p t : Nat) (D : List Tm), q = .int .i64 p ∧ i = .int .i64 t ∧ 1 ≤ t ∧ t ≤ M ∧ k ≤ p ∧ p + 1 ≤ k + t ∧ Aside0 (kT.R 99 wr base ok (.slice (some ⟨g, 0, none⟩) N cap) D ∧ w.grownBy wr (some g) ∧ D.take p = dedup (l.take (k + t)) ∧ ∀ u, k + t ≤ u + 1 → D.getD u tz = l.getD u tz)) (fun _ i _ => M - (intOf i).toNat)
     case atStart => exact ⟨k, 1, l, rfl, rfl, Nat.le_refl _, by have := HM.out; omega, Nat.le_refl _, Nat.le_refl _, HD.out.1, HD.out.2, HK.out.symm, fun _ _ => rfl⟩
     case round =>
      clear HD
      obtain ⟨p, t, D, rfl, rfl, ht1, htM, hkp, hpt, hJ⟩ := hrel
      have hDl := (Kd.R_reads' hJ.out.1).1
      by_cases htlt : t < M
      ·have htI : (t : Int) < (M : Int) := by omega
       obtain ⟨j, hj⟩ : ∃ j, j = t - 1 := ⟨_, rfl⟩
       obtain ⟨⟨c0, c1, c2⟩, _, _⟩ := row_time hJ.out.1 (i := k + t) (by have := HM.out; omega)
       obtain ⟨⟨d0, d1, d2⟩, _, _⟩ := row_time hJ.out.1 (i := k + j) (by have := HM.out; omega)
       rw [hJ.out.2.2.2 (k + t) (by omega), Nat.add_mul] at c0 c1 c2
       rw [hJ.out.2.2.2 (k + j) (by omega), Nat.add_mul] at d0 d1 d2
       have hdt := dedup_take (l := l) (k := k + t) (by omega) (by have := HN.out; have := HM.out; omega)
       rw [show k + t - 1 = k + j by omega] at hdt
       have wj : IntKind.i64.wrap ((t : Int) - 1) = (j : Int) := by rw [IntKind.wrap_i64]; omega
       have ht0 : (0 : Int) ≤ (t : Int) := by omega
       have hj0 : (0 : Int) ≤ (j : Int) := by omega
       have hjM : (j : Int) < (M : Int) := by omega
       generalize hx : l.getD (k + t) tz = x at *
       generalize hy : l.getD (k + j) tz = y at *
       have hdt : dedup (l.take (k + t + 1)) = if y = x then dedup (l.take (k + t)) else dedup (l.take (k + t)) ++ [x] := hdt
       have HDT := Lib.hid hdt
       have hne : ∀ w, (binOp .neq 99 (.agg #[.int .i64 x.1, .int .i64 x.2.1, .int .i64 x.2.2]) (.agg #[.int .i64 y.1, .int .i64 y.2.1, .int .i64 y.2.2])).run Tryz.prog w = .ok (.bool (!(x == y))) w := fun w => run_ne_time x y w
       have HDL := Lib.hid hDl
       clear hdt hx hy hj hDl
       go_upto_region 11 with fail
       refine start_ (n := 10) (S := fun w' => w'.cell? ⟨g, k * 3 + t * 3, none⟩ = some (.int .i64 x.1) ∧ w'.cell? ⟨g, k * 3 + t * 3 + 1, none⟩ = some (.int .i64 x.2.1) ∧ w'.cell? ⟨g, k * 3 + t * 3 + 2, none⟩ = some (.int .i64 x.2.2) ∧ w'.cell? ⟨g, k * 3 + j * 3, none⟩ = some (.int .i64 y.1) ∧ w'.cell? ⟨g, k * 3 + j * 3 + 1, none⟩ = some (.int .i64 y.2.1) ∧ w'.cell? ⟨g, k * 3 + j * 3 + 2, none⟩ = some (.int .i64 y.2.2)) (ds := []) (bs 10 0) (by kernel_rfl) rfl (by kernel_rfl) ⟨c0, c1, c2, d0, d1, d2⟩ (fun hHeld => ?_)
       have HE := Aside0.mk (And.intro (Kd.R_drew hJ.out.1) (hJ.out.2.1.both (grownBy_below (below_drew1 (Below.refl wr.heap.size wr)))))
       clear c0 c1 c2 d0 d1 d2
       generalize wr.drew = wd at *
       refine pu 0 35 (bs 10 1) ?_
       refine pu 1 36 (bs 10 3) ?_
       refine pu 2 37 (bs 10 7) ?_
       refine tk6 3 38 (bs 10 15) hHeld ?_
       refine pu 4 39 (bs 10 31) ?_
       refine pu 5 40 (bs 10 63) ?_
       refine pu 6 41 (bs 10 127) ?_
       refine pu 7 42 (bs 10 255) ?_
       refine tk6 8 43 (bs 10 511) hHeld ?_
       cases hxy : (x == y) with
       | true =>
        have HXY := Lib.hid (show x = y by simpa using hxy)
        rw [hxy] at hne
        clear hxy
        refine pu 9 44 (bs 10 1023) ?_
        refine dn0 ?_
        clear hne hHeld
        go_wp2_with fail
        exact ⟨⟨p, t + 1, D, rfl, by go_num, by omega, by omega, hkp, by omega, HE.out.1, HE.out.2, by rw [show k + (t + 1) = k + t + 1 by omega, HDT.out, if_pos HXY.out.symm]; exact hJ.out.2.2.1, fun u hu => hJ.out.2.2.2 u (by omega)⟩, by simp [intOf]; omega⟩
       | false =>
        have HXY := Lib.hid (show x ≠ y by simpa using hxy)
        rw [hxy] at hne
        clear hxy
        refine pu 9 44 (bs 10 1023) ?_
        refine dn0 ?_
        clear hne
        obtain ⟨e0, e1, e2, _⟩ := hHeld
        obtain ⟨_, xf, hst⟩ := row_time HE.out.1 (i := p) (by have := HM.out; omega)
        have HST := Aside0.mk (hst x)
        have f0 : wd.frozen? ⟨g, p * 3, none⟩ = false := xf 0
        have f1 : wd.frozen? ⟨g, p * 3 + 1, none⟩ = false := xf 1
        have f2 : wd.frozen? ⟨g, p * 3 + 2, none⟩ = false := xf 2
        have hp0 : (0 : Int) ≤ (p : Int) := by omega
        have hpN : (p : Int) < (N : Int) := by have := HM.out; omega
        clear hst xf
        go_wp2_with fail
        refine ⟨⟨p + 1, t + 1, D.set p x, by go_num, by go_num, by omega, by omega, by omega, by omega, HST.out.1, HE.out.2.both HST.out.2, ?_, fun u hu => ?_⟩, by simp [intOf]; omega⟩
        ·rw [show k + (t + 1) = k + t + 1 by omega, HDT.out, if_neg (Ne.symm HXY.out), ← hJ.out.2.2.1]
         have hpl : p < (D.set p x).length := by rw [List.length_set]; have := HM.out; have := HDL.out; omega
         rw [List.take_succ_eq_append_getElem hpl, List.take_set_of_le (Nat.le_refl _), List.getElem_set_self]
        ·rw [List.getD_eq_getElem?_getD, List.getElem?_set_ne (by omega), ← List.getD_eq_getElem?_getD]
         exact hJ.out.2.2.2 u (by omega)
      ·have htI : ¬ ((t : Int) < (M : Int)) := by omega
       have htJ : (M : Int) ≤ (t : Int) := by omega
       have hpN : p < N := by have := HM.out; omega
       have hcl : ∃ w1, (∀ ty, (Builtin.clear_ #[68] ty #[.slice (some ⟨g, p * 3, none⟩) (N - p) (cap - p)]).run Tryz.prog wr = .ok (.tuple #[]) w1) ∧ wr.grownBy w1 (some g) ∧ ∀ i, i < p * 3 → w1.cell? ⟨g, i, none⟩ = wr.cell? ⟨g, i, none⟩ := by
        obtain ⟨w1, h1, h2⟩ := clear_tail (P := Tryz.prog) kT (c := cap - p) 68 0 rfl (.agg #[.int .i64 0, .int .i64 0, .int .i64 0]) (fun _ => by kernel_rfl) rfl (by intro u hu; simp [Value.cells] at hu; rcases hu with rfl | rfl | rfl <;> rfl) hJ.out.1 hpN
        exact ⟨w1, fun _ => h1, h2⟩
       obtain ⟨w1, hrun, hg1, hkeep⟩ := hcl
       have HG := Aside0.mk (And.intro hg1 hkeep)
       have hkc2 : (cap == p) = false := by simp; omega
       have hck2 : ¬ cap = p := by omega
       have hp0 : (0 : Int) ≤ (p : Int) := by omega
       have hpNI : (p : Int) ≤ (N : Int) := by omega
       have hpc : (p : Int) ≤ (cap : Int) := by omega
       clear hg1 hkeep
       have HDL := Lib.hid hDl
       clear hDl
       go_wp2_with fail
       go_ret
       have hDl := HDL.out
       have hdl : dedup l = D.take p := by
        have h := hJ.out.2.2.1
        rw [List.take_of_length_le (show l.length ≤ k + t by have := HN.out; have := HM.out; omega)] at h
        exact h.symm
       have hlp : (D.take p).length = p := by rw [List.length_take]; omega
       refine ⟨some ⟨g, 0, none⟩, cap, show Ending.returned (Value.slice (some ⟨g, 0, none⟩) p cap) = _ by rw [hdl, hlp], by rw [hdl, hlp]; omega, ?_, hJ.out.2.1.both HG.out.1⟩
       have hC := Kd.C_take (xs := D) (m := p) (by rw [hDl] at *; exact (Kd.R_reads' hJ.out.1).2.2) (by omega)
       rw [hdl]
       refine ⟨rfl, hC.2.1, fun hp => ?_⟩
       obtain ⟨ad, had, hcc⟩ := hC.2.2 hp
       refine ⟨ad, had, fun u q hu => ?_⟩
       obtain ⟨cs, hl, hK, hcell⟩ := hcc u q hu
       injection had with had
       subst had
       refine ⟨cs, hl, kT_K.2 (kT_K.1 hK), fun i v hv => ?_⟩
       have := hcell i v hv
       rw [add_plain] at this ⊢
       have hi : i < 3 := by
        have h1 := (List.getElem?_eq_some_iff.1 hv).1
        rw [hl] at h1; exact h1
       have hu2 : u < p := by
        have h1 := (List.getElem?_eq_some_iff.1 hu).1
        omega
       rw [HG.out.2 _ (by show u * 3 + i < p * 3; omega)]
       exact this
   ·have hltI : ¬ ((k : Int) < (N : Int)) := by omega
    have hltJ : (N : Int) ≤ (k : Int) := by omega
    go_wp2_with fail
    go_ret
    refine comp_same hI.out.1 ?_ hI.out.2.1
    have h := hI.out.2.2
    have hn := HN.out
    rwa [List.take_of_length_le (by omega)] at h
end Go.Proofs.YtbkfnmgkcgnifaaGreat
namespace Go.Proofs.YtbkfnmgkcgnifaaGreat
open Go.RowKit Go.Shelf Go.Proofs.YtbkfnmgkcgnifaaGreatW.PrintWords Mdl
set_option maxHeartbeats 1600000 in
theorem firsts_any (A : Option Addr) (c : Nat) (l : List Tm) (w : World) (hl : kT.C w A l.length l) (hn : l.length * 24 ≤ 140737488355328) :
  Calls Tryz.prog 76 #[.slice A l.length c] w fun e w' => ∃ v, e = .returned v ∧ kT.R 99 w' w.heap.size (fun _ => True) v (firstsT l) ∧ Below w.heap.size w w' := by
 have HL := Aside0.mk hl
 have hmf : ∀ (fn : Fn) (first cap : Array Value) (w : World), (Instr.makeFunc fn first cap).run Tryz.prog w = .ok (.func fn first cap) w := fun _ _ _ _ => rfl
 have HS := fun w' hb => Lib.hid (sortedT_any A c l w' (Kd.C_below HL.out hb) hn)
 have LE := Lib.hid (show (dedup (sortT l)).length ≤ l.length by have := length_dedup (sortT l); rw [length_sortT] at this; exact this)
 clear hl
 go_enter Tryz.func76, Tryz.ntmps76
 go_wp2_with fail
 refine (byTime_any _).mono ?_
 rintro e w1 ⟨rfl, hb1⟩
 go_wp2_with fail
 refine (HS _ hb1).out.mono ?_
 rintro e w2 ⟨v2, rfl, hR2, hb2⟩
 go_wp2_with fail
 refine (compactT_any v2 _ w2 _ _ hR2 (by rw [length_sortT]; omega)).mono ?_
 rintro e w3 ⟨A3, c3, rfl, hc3, hC3, hg3⟩
 have HB3 : Hid (Below w.heap.size w w3) := Lib.hid ((below_then hb1 hb1.size hb2).grown hg3 (below_then hb1 hb1.size hb2).size (fun k hk => by have := Kd.R_base hR2 k hk; have := hb1.size; omega))
 clear hb1 hb2 hR2 hg3
 generalize hL : dedup (sortT l) = L at *
 have HL := Lib.hid hL
 clear hL
 have HC3 := Aside0.mk hC3
 clear hC3
 have hm := LE.out
 go_wp2
 go_loopw [2, 11] (fun o i wr => ∃ k : Nat, k ≤ L.length ∧ i = .int .i64 k ∧ kT.R 99 wr w3.heap.size (fun _ => True) o ((L.take k).foldl stepF []) ∧ Below w3.heap.size w3 wr) (fun _ i _ => L.length - (intOf i).toNat)
 case atStart => exact ⟨0, Nat.zero_le _, rfl, Kd.R_nil _ _ _ _ _, Below.refl _ _⟩
 case round =>
  obtain ⟨k, hk, rfl, hR, hb⟩ := hrel
  by_cases hlt : k < L.length
  ·obtain ⟨ad, rfl, hc0, hc1, hc2⟩ := at_time (Kd.C_below HC3.out hb) hlt
   have hs := foldl_take_succ stepF [] L hlt
   have hlen := length_foldl_stepF (L.take k) []
   rw [List.length_nil, List.length_take, Nat.min_eq_left hk, Nat.zero_add] at hlen
   generalize hX : (L.take k).foldl stepF [] = X at *
   obtain ⟨AX, cX, rfl, hcX, hCX⟩ := Kd.R_reads hR
   have hbo := below_new wr (.cells #[.int .i64 L[k].1, .int .i64 L[k].2.1, .int .i64 L[k].2.2] 99)
   have HP : Hid (PredOk 101 #[.pointer (some ⟨wr.heap.size, 0, none⟩)] tmV (fun o => leT o L[k]) (wr.alloc (.cells #[.int .i64 L[k].1, .int .i64 L[k].2.1, .int .i64 L[k].2.2] 99))) := Lib.hid (fun x w' hb' =>
    firsts1_any x L[k] _ w' (pw_cell_below hb' (new_cell wr _ _ 0)) (pw_cell_below hb' (new_cell wr _ _ 1)) (pw_cell_below hb' (new_cell wr _ _ 2)))
   have HCA := containsT_any AX cX X 101 #[.pointer (some ⟨wr.heap.size, 0, none⟩)] (fun o => leT o L[k]) _ (Kd.C_below hCX hbo) HP.out (enters_of Tryz.func101 (by kernel_rfl) rfl)
   have HX := Lib.hid hX
   have HRX := Aside0.mk hR
   clear hX hCX hR
   cases hany : X.any (fun o => leT o L[k])
   ·rw [hany] at HCA
    have HCB := Lib.hid HCA
    have HN := Lib.hid (hs.trans (stepF_no hany))
    clear HCA hany hs
    go_wp2_with fail
    refine HCB.out.mono ?_
    rintro e w4 ⟨rfl, hb4⟩
    have d0 := pw_cell_below hb4 (new_cell wr #[.int .i64 L[k].1, .int .i64 L[k].2.1, .int .i64 L[k].2.2] 99 0)
    have d1 := pw_cell_below hb4 (new_cell wr #[.int .i64 L[k].1, .int .i64 L[k].2.1, .int .i64 L[k].2.2] 99 1)
    have d2 := pw_cell_below hb4 (new_cell wr #[.int .i64 L[k].1, .int .i64 L[k].2.1, .int .i64 L[k].2.2] 99 2)
    have hR4 := Kd.R_below (Kd.R_below HRX.out hbo) hb4
    have hb5 := below_then (below_then hb hb.size hbo) (below_then hb hb.size hbo).size hb4
    have HR4 := Aside0.mk hR4
    clear hR4
    go_wp2_with (at_builtin; refine Kd.R_append kT (w0 := w3) w3.heap.size rfl (.tmp 19) (.tmp 21) _ 99 _ 24 rfl Tryz.underlying68 Tryz.infoTime rfl (by decide) (by decide) _ X L[k] _ (fun _ => True) (fun _ => False) rfl rfl (kT_M _) (fun _ h => h.elim) (fun _ _ => trivial) HR4.out hb5 hb5.size (by omega) ?_; intro v6 w6 hR6 hb6 hg6 hat6)
    refine ⟨⟨k + 1, by omega, by go_num, ?_, hb6⟩, by simp [intOf]; omega⟩
    rw [HN.out]
    exact hR6
   ·rw [hany] at HCA
    have HCB := Lib.hid HCA
    have HN := Lib.hid (hs.trans (stepF_yes hany))
    clear HCA hany hs
    go_wp2_with fail
    refine HCB.out.mono ?_
    rintro e w4 ⟨rfl, hb4⟩
    have hR4 := Aside0.mk (Kd.R_below (Kd.R_below HRX.out hbo) hb4)
    have hb5 := below_then (below_then hb hb.size hbo) (below_then hb hb.size hbo).size hb4
    go_wp2_with fail
    go_roundw
    case rel =>
     refine ⟨k + 1, by omega, by go_num, ?_, hb5⟩
     rw [HN.out]
     exact hR4.out
    case measure => simp [intOf]; omega
  ·have HR := Aside0.mk hR
   clear hR
   go_wp2
   go_ret
   refine ⟨_, rfl, ?_, below_then HB3.out HB3.out.size hb⟩
   have hkl : k = L.length := by omega
   subst hkl
   have := HR.out
   rw [List.take_length, ← HL.out] at this
   exact Kd.R_lower this HB3.out.size
end Go.Proofs.YtbkfnmgkcgnifaaGreat
namespace Go.Proofs.YtbkfnmgkcgnifaaGreat
open Go.RowKit Go.Shelf Go.Proofs.YtbkfnmgkcgnifaaGreatW.PrintWords Go.Proofs.YtbkfnmgkcgnifaaGreatW.PrintLast Mdl Go.ChangeMaps
namespace Mdl
abbrev Note := List (Mk × Int)
def readL (L : Led) (note : Note) : Led := note.foldl (fun L x => enterL L x.1 x.2) L
theorem readL_succ (L : Led) {note : Note} {k : Nat} (h : k < note.length) : readL L (note.take (k + 1)) = enterL (readL L (note.take k)) note[k].1 note[k].2 := by
 unfold readL
 rw [List.take_succ_eq_append_getElem h, List.foldl_append, List.foldl_cons, List.foldl_nil]
end Mdl
def kEn : Kd (Mk × Int) := Kd.pair kM kI
theorem kEn_K {w : World} {t : Mk × Int} {cs : List Value} : kEn.K w t cs ↔ cs = [.int .i64 t.1.1, .int .i64 t.1.2.1, .int .i64 t.1.2.2.1, .int .i64 t.1.2.2.2, .int .i64 t.2] := by
 constructor
 ·rintro ⟨c0, c1, rfl, h0, h1⟩
  rw [kM_K.1 h0]; cases h1; rfl
 ·rintro rfl
  exact ⟨[_, _, _, _], [_], rfl, kM_K.2 rfl, rfl⟩
theorem kEn_M {w : World} {base : Nat} {ok : Nat → Prop} (t : Mk × Int) : kEn.M w base ok t [.int .i64 t.1.1, .int .i64 t.1.2.1, .int .i64 t.1.2.2.1, .int .i64 t.1.2.2.2, .int .i64 t.2] := ⟨[_, _, _, _], [_], rfl, ⟨[_], [_, _, _], rfl, rfl, [_], [_, _], rfl, rfl, [_], [_], rfl, rfl, rfl⟩, rfl⟩
theorem at_ent {w : World} {A : Option Addr} {l : List (Mk × Int)} (h : kEn.C w A l.length l) {k : Nat} (hk : k < l.length) :
  ∃ ad, A = some ad ∧ w.cell? (ad.add (k * 5)) = some (.int .i64 l[k].1.1) ∧ w.cell? ⟨(ad.add (k * 5)).block, (ad.add (k * 5)).off + 1, none⟩ = some (.int .i64 l[k].1.2.1) ∧ w.cell? ⟨(ad.add (k * 5)).block, (ad.add (k * 5)).off + 2, none⟩ = some (.int .i64 l[k].1.2.2.1) ∧
   w.cell? ⟨(ad.add (k * 5)).block, (ad.add (k * 5)).off + 3, none⟩ = some (.int .i64 l[k].1.2.2.2) ∧ w.cell? ⟨(ad.add (k * 5)).block, (ad.add (k * 5)).off + 4, none⟩ = some (.int .i64 l[k].2) := by
 obtain ⟨ad, c, e, hl, hK, hc⟩ := Kd.C_get h ((0, 0, 0, 0), 0) (k : Int) (by omega) (by omega)
 rw [Int.toNat_natCast, List.getD_eq_getElem?_getD, List.getElem?_eq_getElem hk] at hK
 rw [Int.toNat_natCast] at hc
 rw [kEn_K.1 hK] at hc
 refine ⟨ad, e, ?_, ?_, ?_, ?_, ?_⟩
 ·have := hc 0 _ rfl
  rwa [show kEn.sz = 5 from rfl, Nat.add_zero] at this
 ·have := hc 1 _ rfl
  rwa [show kEn.sz = 5 from rfl, add_field _ _ _ (by omega)] at this
 ·have := hc 2 _ rfl
  rwa [show kEn.sz = 5 from rfl, add_field _ _ _ (by omega)] at this
 ·have := hc 3 _ rfl
  rwa [show kEn.sz = 5 from rfl, add_field _ _ _ (by omega)] at this
 ·have := hc 4 _ rfl
  rwa [show kEn.sz = 5 from rfl, add_field _ _ _ (by omega)] at this
theorem LedAt.ne_cell {w : World} {b : Nat} {L : Led} (h : LedAt w b L) {a : Addr} {v : Value} (hc : w.cell? a = some v) : some a.block ≠ some b := by
 obtain ⟨es, clock, hb, _⟩ := h
 intro he
 injection he with he
 subst he
 simp [World.cell?, hb] at hc
set_option maxRecDepth 8000 in
set_option maxHeartbeats 4000000 in
theorem read_any (wb lb : Nat) (L : Led) (A : Option Addr) (c : Nat) (note : Note) (w : World) (hw : w.cell? ⟨wb, 0, none⟩ = some (.map (some lb))) (hL : LedAt w lb L) (hC : kEn.C w A note.length note) :
  Calls Tryz.prog 145 #[.pointer (some ⟨wb, 0, none⟩), .slice A note.length c] w fun e w' => e = .returned (.tuple #[]) ∧ w.grownBy w' (some lb) ∧ LedAt w' lb (readL L note) := by
 have HL := Aside0.mk hL
 have HC := Aside0.mk hC
 have hm := Kd.C_max hC
 clear hL hC
 go_enter Tryz.func145, Tryz.ntmps145
 go_wp2
 go_loopw [8] (fun i wr => ∃ k : Nat, k ≤ note.length ∧ i = .int .i64 k ∧ Aside0 (w.grownBy wr (some lb) ∧ LedAt wr lb (readL L (note.take k)))) (fun i _ => note.length - (intOf i).toNat)
 case atStart => exact ⟨0, Nat.zero_le _, rfl, ⟨⟨rfl, rfl, rfl, Nat.le_refl _, fun _ _ _ => rfl⟩, HL.out⟩⟩
 case round =>
  obtain ⟨k, hk, rfl, hX⟩ := hrel
  by_cases hlt : k < note.length
  ·obtain ⟨ad, rfl, h0, h1, h2, h3, h4⟩ := at_ent HC.out hlt
   have r0 := cell_grown hX.out.1 h0 (HL.out.ne_cell h0)
   have r1 := cell_grown hX.out.1 h1 (HL.out.ne_cell h1)
   have r2 := cell_grown hX.out.1 h2 (HL.out.ne_cell h2)
   have r3 := cell_grown hX.out.1 h3 (HL.out.ne_cell h3)
   have r4 := cell_grown hX.out.1 h4 (HL.out.ne_cell h4)
   have rw0 := cell_grown hX.out.1 hw (HL.out.ne_cell hw)
   have hk0 : (0 : Int) ≤ k := by omega
   have hkn : (k : Int) < note.length := by omega
   have HTK := Lib.hid (readL_succ L hlt)
   generalize note[k] = en at *
   clear h0 h1 h2 h3 h4
   go_upto_region 3 with fail
   have b4 := below_new wr (.cells #[.int .i64 en.1.1, .int .i64 en.1.2.1, .int .i64 en.1.2.2.1, .int .i64 en.1.2.2.2, .int .i64 en.2] 213)
   have s0 : (wr.alloc (.cells #[.int .i64 en.1.1, .int .i64 en.1.2.1, .int .i64 en.1.2.2.1, .int .i64 en.1.2.2.2, .int .i64 en.2] 213)).cell? ⟨wr.heap.size, 0, none⟩ = some (.int .i64 en.1.1) := new_cell wr _ _ 0
   have s1 : (wr.alloc (.cells #[.int .i64 en.1.1, .int .i64 en.1.2.1, .int .i64 en.1.2.2.1, .int .i64 en.1.2.2.2, .int .i64 en.2] 213)).cell? ⟨wr.heap.size, 1, none⟩ = some (.int .i64 en.1.2.1) := new_cell wr _ _ 1
   have s2 : (wr.alloc (.cells #[.int .i64 en.1.1, .int .i64 en.1.2.1, .int .i64 en.1.2.2.1, .int .i64 en.1.2.2.2, .int .i64 en.2] 213)).cell? ⟨wr.heap.size, 2, none⟩ = some (.int .i64 en.1.2.2.1) := new_cell wr _ _ 2
   have s3 : (wr.alloc (.cells #[.int .i64 en.1.1, .int .i64 en.1.2.1, .int .i64 en.1.2.2.1, .int .i64 en.1.2.2.2, .int .i64 en.2] 213)).cell? ⟨wr.heap.size, 3, none⟩ = some (.int .i64 en.1.2.2.2) := new_cell wr _ _ 3
   have s4 : (wr.alloc (.cells #[.int .i64 en.1.1, .int .i64 en.1.2.1, .int .i64 en.1.2.2.1, .int .i64 en.1.2.2.2, .int .i64 en.2] 213)).cell? ⟨wr.heap.size, 4, none⟩ = some (.int .i64 en.2) := new_cell wr _ _ 4
   have sw := pw_cell_below b4 rw0
   have H4 := Aside0.mk (And.intro (hX.out.1.both (grownBy_below b4)) (hX.out.2.below b4))
   refine start_ (n := 9) (S := fun w' => w'.cell? ⟨wb, 0, none⟩ = some (.map (some lb)) ∧ w'.cell? ⟨wr.heap.size, 0, none⟩ = some (.int .i64 en.1.1) ∧ w'.cell? ⟨wr.heap.size, 1, none⟩ = some (.int .i64 en.1.2.1) ∧ w'.cell? ⟨wr.heap.size, 2, none⟩ = some (.int .i64 en.1.2.2.1) ∧ w'.cell? ⟨wr.heap.size, 3, none⟩ = some (.int .i64 en.1.2.2.2) ∧ w'.cell? ⟨wr.heap.size, 4, none⟩ = some (.int .i64 en.2)) (ds := [8]) (bs 9 0) (by kernel_rfl) rfl (by kernel_rfl) ⟨sw, s0, s1, s2, s3, s4⟩ (fun hHeld => ?_)
   have HD := Aside0.mk (And.intro (H4.out.1.both (grownBy_below (below_drew1 (Below.refl _ _)))) (H4.out.2.below (below_drew1 (Below.refl _ _))))
   clear s0 s1 s2 s3 s4 sw b4 r0 r1 r2 r3 r4 rw0 H4
   generalize (wr.alloc (.cells #[.int .i64 en.1.1, .int .i64 en.1.2.1, .int .i64 en.1.2.2.1, .int .i64 en.1.2.2.2, .int .i64 en.2] 213)).drew = wd at *
   refine pu 0 12 (bs 9 1) ?_
   refine pu 1 13 (bs 9 3) ?_
   refine pu 2 14 (bs 9 7) ?_
   refine tk6 3 15 (bs 9 15) hHeld ?_
   refine pu 4 16 (bs 9 31) ?_
   refine tk6 5 17 (bs 9 63) hHeld ?_
   refine pu 6 18 (bs 9 127) ?_
   refine tk6 7 19 (bs 9 255) hHeld ?_
   refine la0 8 (bs 9 511) (N := (some 20)) fun K hK => ?_
   refine gs0 Tryz.func46 #[.agg #[.map (some lb)], .agg #[.int .i64 en.1.1, .int .i64 en.1.2.1, .int .i64 en.1.2.2.1, .int .i64 en.1.2.2.2], .int .i64 en.2] ?_
   have EN := enter_any lb (readL L (note.take k)) en.1 en.2 wd HD.out.2
   simp only [mkV] at EN
   refine EN.mono ?_
   clear EN
   rintro e w7 ⟨rfl, hg7, hL7⟩
   refine ⟨_, rfl, hK.out _ _ ?_⟩
   clear hK K
   refine dn0 ?_
   have HX7 := Aside0.mk (show w.grownBy w7 (some lb) ∧ LedAt w7 lb (readL L (note.take (k + 1))) from ⟨HD.out.1.both hg7, by rw [HTK.out]; exact hL7⟩)
   clear hg7 hL7
   go_wp2_with fail
   exact ⟨⟨k + 1, by omega, by go_num, HX7⟩, by simp [intOf]; omega⟩
  ·go_wp2_with fail
   go_end0
   have hkn : k = note.length := by omega
   subst hkn
   have h := hX.out.2
   rw [List.take_length] at h
   exact ⟨rfl, hX.out.1, h⟩
def Mdl.numP (script : List Int) (many : Int) : Int := match script with
 | [] => 0
 | s :: _ => if s.tmod many < 0 then s.tmod many + many else s.tmod many
theorem add_none (ad : Addr) : ad.add 0 = ad := by
 unfold Addr.add
 cases ad
 split <;> simp_all
def runCells (x y z : Int) (gb : Nat) (wsl scr : Value) : Array Value := #[.int .i64 x, .int .i64 y, .int .i64 z, .pointer (some ⟨gb, 0, none⟩), wsl, scr]
set_option maxRecDepth 8000 in
set_option maxHeartbeats 4000000 in
theorem number_any (rb : Nat) (x y z : Int) (gb : Nat) (wsl : Value) (A : Option Addr) (c : Nat) (script : List Int) (many : Int) (w0 w : World) (hbw : Below w0.heap.size w0 w) (h1 : 1 ≤ many) (h2 : many ≤ 1000000)
  (hw : w.heap[rb]? = some (.cells (runCells x y z gb wsl (.slice A script.length c)) 92 (0, 0))) (hC : kI.C w0 A script.length script) (hc : script.length ≤ c) :
  Calls Tryz.prog 81 #[.pointer (some ⟨rb, 0, none⟩), .int .i64 many] w fun e w' => e = .returned (.int .i64 (numP script many)) ∧
   ∃ A' c', w'.heap[rb]? = some (.cells (runCells x y z gb wsl (.slice A' script.tail.length c')) 92 (0, 0)) ∧ w.grownBy w' (some rb) ∧ w'.heap.size = w.heap.size ∧ kI.C w0 A' script.tail.length script.tail ∧ script.tail.length ≤ c' := by
 have HC := Aside0.mk hC
 have hm := Kd.C_max hC
 have k5 : w.cell? ⟨rb, 5, none⟩ = some (.slice A script.length c) := (blk_cell hw 5).trans rfl
 have f5 := blk_frozen hw 5
 have HW := Lib.hid hw
 clear hC hw
 cases script with
 | nil =>
  simp only [List.length_nil] at k5 HC hm
  go_enter Tryz.func81, Tryz.ntmps81
  go_wp2
  go_ret
  exact ⟨rfl, A, c, HW.out, ⟨rfl, rfl, rfl, Nat.le_refl _, fun _ _ _ => rfl⟩, rfl, HC.out, hc⟩
 | cons s r =>
  simp only [List.length_cons] at k5 HC hm hc
  obtain ⟨ad, rfl, hs⟩ := at_num (Kd.C_below (show kI.C w0 A (s :: r).length (s :: r) from HC.out) hbw) (k := 0) (by simp)
  rw [show ad.add 0 = ad from add_none ad] at hs
  have hs : w.cell? ad = some (.int .i64 s) := hs
  have hmod := Int.tmod_lt_of_pos s (show 0 < many by omega)
  have hdr := Kd.C_drop (k := kI) (m := 1) (c := c) (xs := s :: r) HC.out (by simp) hc
  simp only [List.drop_succ_cons, List.drop_zero, Option.map_some] at hdr
  have hadd : ad.add (1 * kI.sz) = ⟨ad.block, ad.off + 1, none⟩ := by
   have := add_field ad 0 1 (by omega)
   rw [add_none] at this
   exact this
  rw [hadd] at hdr
  have HDR := Lib.hid hdr
  have hlow : -many < s.tmod many := by
   have := Int.lt_tmod_of_pos s (show 0 < many by omega)
   omega
  have HLOW := Lib.hid hlow
  have HMOD := Lib.hid hmod
  clear hdr hadd hlow hmod
  have fin : ∀ (b : Bool) (v : Value), (w.setCell ⟨rb, 5, none⟩ v).heap[rb]? = some (.cells (runCells x y z gb wsl v) 92 (0, 0)) ∧ w.grownBy (w.setCell ⟨rb, 5, none⟩ v) (some rb) ∧ (w.setCell ⟨rb, 5, none⟩ v).heap.size = w.heap.size := fun _ v =>
   ⟨blk_put HW.out 5 v rfl, ⟨rfl, rfl, rfl, by simp [World.setCell], fun k _ hn => Below.heap_setCell w ⟨rb, 5, none⟩ v k (fun he => hn (by rw [he]))⟩, by simp [World.setCell]⟩
  have FIN := Lib.hid fin
  clear fin
  go_enter Tryz.func81, Tryz.ntmps81
  go_wp2
  all_goals go_ret
  ·refine ⟨ret_int ?_, _, _, (FIN.out true _).1, (FIN.out true _).2.1, (FIN.out true _).2.2, by have hc1 : c = 1 := (by assumption); have h := HDR.out; rw [if_pos hc1] at h; exact h, by omega⟩
   rw [w64_eq, w64_in (by have := HLOW.out; omega) (by have := HMOD.out; omega)]
   simp only [numP]
   rw [if_pos (show s.tmod many < 0 by assumption)]
  ·refine ⟨ret_int ?_, _, _, (FIN.out true _).1, (FIN.out true _).2.1, (FIN.out true _).2.2, by have hc1 : ¬ c = 1 := (by assumption); have h := HDR.out; rw [if_neg hc1] at h; exact h, by omega⟩
   rw [w64_eq, w64_in (by have := HLOW.out; omega) (by have := HMOD.out; omega)]
   simp only [numP]
   rw [if_pos (show s.tmod many < 0 by assumption)]
  ·refine ⟨ret_int ?_, _, _, (FIN.out true _).1, (FIN.out true _).2.1, (FIN.out true _).2.2, by have hc1 : c = 1 := (by assumption); have h := HDR.out; rw [if_pos hc1] at h; exact h, by omega⟩
   simp only [numP]
   rw [if_neg (by omega)]
  ·refine ⟨ret_int ?_, _, _, (FIN.out true _).1, (FIN.out true _).2.1, (FIN.out true _).2.2, by have hc1 : ¬ c = 1 := (by assumption); have h := HDR.out; rw [if_neg hc1] at h; exact h, by omega⟩
   simp only [numP]
   rw [if_neg (by omega)]
end Go.Proofs.YtbkfnmgkcgnifaaGreat
namespace Go.Proofs.YtbkfnmgkcgnifaaGreat
open Go.RowKit Go.Shelf Go.Proofs.YtbkfnmgkcgnifaaGreatW.PrintWords Go.Proofs.YtbkfnmgkcgnifaaGreatW.PrintLast Mdl
namespace Mdl
def okM (m : Mk) : Prop := 0 ≤ m.1 ∧ m.1 ≤ 1000
theorem cmpM_ok {a b : Mk} (ha : okM a) (hb : okM b) : cmpM a b = cmpN a b := by
 unfold cmpM cmpN
 unfold okM at ha hb
 rw [w64_in (by omega) (by omega)]
theorem cmpN_neg (a b : Mk) : cmpN b a = - cmpN a b := by
 unfold cmpN
 by_cases h : a.1 = b.1
 ·rw [if_neg (by simpa using h.symm), if_neg (by simpa using h), cmpT_neg]
 ·rw [if_pos (Ne.symm h), if_pos h]; omega
theorem cmpN_zero {a b : Mk} : cmpN a b = 0 ↔ a = b := by
 unfold cmpN
 obtain ⟨n, t⟩ := a
 obtain ⟨m, u⟩ := b
 by_cases h : n = m
 ·subst h
  simp [cmpT_zero]
 ·simp only [ne_eq, h, not_false_eq_true, if_true, Prod.mk.injEq, false_and, iff_false]
  omega
theorem cmpN_trans {a b c : Mk} (h : cmpN a b ≤ 0) (k : cmpN b c ≤ 0) : cmpN a c ≤ 0 := by
 unfold cmpN at *
 by_cases h1 : a.1 = b.1 <;> by_cases h2 : b.1 = c.1
 ·rw [if_neg (by simpa using h1)] at h
  rw [if_neg (by simpa using h2)] at k
  rw [if_neg (by simpa using h1.trans h2)]
  exact cmpT_trans h k
 ·rw [if_pos h2] at k
  rw [if_pos (by rw [h1]; exact h2)]; omega
 ·rw [if_pos h1] at h
  rw [if_pos (by rw [← h2]; exact h1)]; omega
 ·rw [if_pos h1] at h
  rw [if_pos h2] at k
  rw [if_pos (by omega)]; omega
theorem ordN : Ord cmpN (fun _ => True) where
 neg := fun a b _ _ => by rw [cmpN_neg a b]; omega
 trans := fun _ _ _ _ _ _ => cmpN_trans
 zero := fun a b _ _ h1 h2 => cmpN_zero.1 (by rw [cmpN_neg a b] at h2; omega)
end Mdl
def Kd.sub {α : Type} (d : Kd α) (p : α → Prop) : Kd α where
 sz := d.sz
 E := d.E
 K := fun w x cs => d.K w x cs ∧ p x
 M := fun w base ok x cs => d.M w base ok x cs ∧ p x
 K_len := fun h => d.K_len h.1
 K_one := fun h => d.K_one h.1
 K_below := fun hb h => ⟨d.K_below hb h.1, h.2⟩
 K_of_M := fun h => ⟨d.K_of_M h.1, h.2⟩
 M_mono := fun hk h => ⟨d.M_mono hk h.1, h.2⟩
 M_bound := fun h => ⟨d.M_bound h.1, h.2⟩
 M_move := fun hm h => ⟨d.M_move hm h.1, h.2⟩
 M_lower := fun hb h => ⟨d.M_lower hb h.1, h.2⟩
def kN : Kd Mk := Kd.sub kM okM
theorem kM_M {w : World} {base : Nat} {ok : Nat → Prop} (t : Mk) : kM.M w base ok t [.int .i64 t.1, .int .i64 t.2.1, .int .i64 t.2.2.1, .int .i64 t.2.2.2] := ⟨[_], [_, _, _], rfl, rfl, [_], [_, _], rfl, rfl, [_], [_], rfl, rfl, rfl⟩
theorem kN_K {w : World} {t : Mk} {cs : List Value} : kN.K w t cs ↔ cs = [.int .i64 t.1, .int .i64 t.2.1, .int .i64 t.2.2.1, .int .i64 t.2.2.2] ∧ okM t := and_congr_left' kM_K
theorem kN_M {w : World} {base : Nat} {ok : Nat → Prop} (t : Mk) (h : okM t) : kN.M w base ok t [.int .i64 t.1, .int .i64 t.2.1, .int .i64 t.2.2.1, .int .i64 t.2.2.2] := ⟨kM_M t, h⟩
theorem kN_KM (base : Nat) (w w' : World) (x : Mk) (cs : List Value) (h : kN.K w x cs) : kN.M w' base (fun _ => False) x cs := by
 obtain ⟨h1, h2⟩ := kN_K.1 h
 rw [h1]; exact kN_M x h2
theorem Tryz.infoMark : (Tryz.prog.info? 101).map (fun i => (i.zero, i.size, i.bytes)) = some (some (.agg #[.int .i64 0, .int .i64 0, .int .i64 0, .int .i64 0]), 4, 32) := by kernel_rfl
theorem kN_R {w : World} {e base : Nat} {ok : Nat → Prop} {v : Value} {l : List Mk} (h : kN.R e w base ok v l) : kM.R e w base ok v l := by
 obtain ⟨h0, inner, ho, hr⟩ := h
 exact ⟨h0, inner, ho, hr.imp_ (fun _ _ hp => hp.1)⟩
theorem kN_C {w : World} {A : Option Addr} {n : Nat} {l : List Mk} (h : kM.C w A n l) (hl : ∀ m ∈ l, okM m) : kN.C w A n l := by
 refine ⟨h.1, h.2.1, fun hn => ?_⟩
 obtain ⟨ad, e, hc⟩ := h.2.2 hn
 refine ⟨ad, e, fun j p hj => ?_⟩
 obtain ⟨cs, h1, h2, h3⟩ := hc j p hj
 exact ⟨cs, h1, ⟨h2, hl p (List.mem_of_getElem? hj)⟩, h3⟩
theorem byMarkN_any (m n : Mk) (hm : okM m) (hn : okM n) (w : World) : Calls Tryz.prog 103 #[mkV m, mkV n] w fun e w' => e = .returned (.int .i64 (cmpN m n)) ∧ Below w.heap.size w w' := by
 rw [← cmpM_ok hm hn]; exact byMark1_any m n w
namespace Tw
abbrev mz : Mk := (0, 0, 0, 0)
theorem row_mark {w : World} {base g n cap : Nat} {ok : Nat → Prop} {l : List Mk} (h : kN.R 101 w base ok (.slice (some ⟨g, 0, none⟩) n cap) l) {i : Nat} (hi : i < n) :
  (w.cell? ⟨g, i * 4, none⟩ = some (.int .i64 (l.getD i mz).1) ∧ w.cell? ⟨g, i * 4 + 1, none⟩ = some (.int .i64 (l.getD i mz).2.1) ∧ w.cell? ⟨g, i * 4 + 2, none⟩ = some (.int .i64 (l.getD i mz).2.2.1) ∧ w.cell? ⟨g, i * 4 + 3, none⟩ = some (.int .i64 (l.getD i mz).2.2.2) ∧ okM (l.getD i mz)) ∧ (∀ j, w.frozen? ⟨g, i * 4 + j, none⟩ = false) ∧
   ∀ t : Mk, okM t → kN.R 101 (w.setCells g (i * 4) [.int .i64 t.1, .int .i64 t.2.1, .int .i64 t.2.2.1, .int .i64 t.2.2.2]) base ok (.slice (some ⟨g, 0, none⟩) n cap) (l.set i t) ∧ w.grownBy (w.setCells g (i * 4) [.int .i64 t.1, .int .i64 t.2.1, .int .i64 t.2.2.1, .int .i64 t.2.2.2]) (some g) := by
 obtain ⟨c, hcl, hM, hcc, hfr⟩ := Kd.R_elem h mz (i : Int) (by omega) (by omega)
 obtain ⟨hK, hO⟩ := kN_K.1 (kN.K_of_M hM)
 subst hK
 have e0 := hcc 0 _ rfl
 have e1 := hcc 1 _ rfl
 have e2 := hcc 2 _ rfl
 have e3 := hcc 3 _ rfl
 rw [Int.toNat_natCast] at e0 e1 e2 e3 hO
 refine ⟨⟨e0, e1, e2, e3, hO⟩, fun j => by have := hfr j; rwa [Int.toNat_natCast] at this, fun t ht => ?_⟩
 have := Kd.R_seg h (i : Int) (by omega) (by omega) hcl hcc (seg := [.int .i64 t.1, .int .i64 t.2.1, .int .i64 t.2.2.1, .int .i64 t.2.2.2]) (j := 0) (x' := t) (okp := fun _ => False) (Nat.le_refl 4) (kN_M t ht) (fun _ h => h.elim)
 rwa [Int.toNat_natCast] at this
end Tw
end Go.Proofs.YtbkfnmgkcgnifaaGreat
namespace Go.Proofs.YtbkfnmgkcgnifaaGreat.Tw
open Go.RowKit Go.Shelf Go.Proofs.YtbkfnmgkcgnifaaGreatW.PrintWords Go.Proofs.YtbkfnmgkcgnifaaGreatW.PrintLast Mdl
set_option maxRecDepth 8000 in
set_option maxHeartbeats 4000000 in
theorem swapT_any (g N cap a b n base : Nat) (ok : Nat → Prop) (l : List Mk) (cmp : Value) (w : World) (hR : kN.R 101 w base ok (.slice (some ⟨g, 0, none⟩) N cap) l) (ha : a + n ≤ N) (hb : b + n ≤ N) (hN : N ≤ 10000000000000) :
  Calls Tryz.prog 127 #[.slice (some ⟨g, 0, none⟩) N cap, .int .i64 a, .int .i64 b, .int .i64 n, cmp] w fun e w' => e = .returned (.tuple #[]) ∧ kN.R 101 w' base ok (.slice (some ⟨g, 0, none⟩) N cap) (swapR mz a b n l) ∧ w.grownBy w' (some g) := by
 have HR := Aside0.mk hR
 clear hR
 go_enter Tryz.func127, Tryz.ntmps127
 go_wp2
 go_loopw [10] (fun i wr => ∃ k : Nat, k ≤ n ∧ i = .int .i64 k ∧ Aside0 (kN.R 101 wr base ok (.slice (some ⟨g, 0, none⟩) N cap) (swapR mz a b k l) ∧ w.grownBy wr (some g))) (fun i _ => n - (intOf i).toNat)
 case atStart => exact ⟨0, Nat.zero_le _, rfl, ⟨HR.out, ⟨rfl, rfl, rfl, Nat.le_refl _, fun _ _ _ => rfl⟩⟩⟩
 case round =>
  obtain ⟨k, hk, rfl, hX⟩ := hrel
  by_cases hlt : k < n
  ·obtain ⟨⟨x0, x1, x2, x3, xok⟩, xf, hxs⟩ := row_mark hX.out.1 (i := a + k) (by omega)
   obtain ⟨⟨y0, y1, y2, y3, yok⟩, yf, _⟩ := row_mark hX.out.1 (i := b + k) (by omega)
   have hl := hX.out.1
   have hsw : swapR mz a b (k + 1) l = ((swapR mz a b k l).set (a + k) ((swapR mz a b k l).getD (b + k) mz)).set (b + k) ((swapR mz a b k l).getD (a + k) mz) := rfl
   have HSW := Lib.hid hsw
   generalize hp : (swapR mz a b k l).getD (a + k) mz = p at *
   generalize hq : (swapR mz a b k l).getD (b + k) mz = q at *
   have HXS := Aside0.mk (hxs q (by assumption))
   have HXD := Aside0.mk (show kN.R 101 (wr.drew.setCells g ((a + k) * 4) [.int .i64 q.1, .int .i64 q.2.1, .int .i64 q.2.2.1, .int .i64 q.2.2.2]) base ok (.slice (some ⟨g, 0, none⟩) N cap) ((swapR mz a b k l).set (a + k) q) ∧ wr.grownBy (wr.drew.setCells g ((a + k) * 4) [.int .i64 q.1, .int .i64 q.2.1, .int .i64 q.2.2.1, .int .i64 q.2.2.2]) (some g) from by
    obtain ⟨_, _, hd⟩ := row_mark (Kd.R_drew hX.out.1) (i := a + k) (by omega)
    exact ⟨(hd q (by assumption)).1, (grownBy_below (below_drew1 (Below.refl _ _))).both (hd q (by assumption)).2⟩)
   have wa : IntKind.i64.wrap ((a : Int) + k) = ((a + k : Nat) : Int) := by rw [IntKind.wrap_i64]; omega
   have wb : IntKind.i64.wrap ((b : Int) + k) = ((b + k : Nat) : Int) := by rw [IntKind.wrap_i64]; omega
   have ha0 : (0 : Int) ≤ ((a + k : Nat) : Int) := by omega
   have ha1 : ((a + k : Nat) : Int) < N := by omega
   have hb0 : (0 : Int) ≤ ((b + k : Nat) : Int) := by omega
   have hb1 : ((b + k : Nat) : Int) < N := by omega
   have f0 : wr.drew.frozen? ⟨g, (a + k) * 4, none⟩ = false := xf 0
   have f1 : wr.drew.frozen? ⟨g, (a + k) * 4 + 1, none⟩ = false := xf 1
   have f2 : wr.drew.frozen? ⟨g, (a + k) * 4 + 2, none⟩ = false := xf 2
   have f3 : wr.drew.frozen? ⟨g, (a + k) * 4 + 3, none⟩ = false := xf 3
   clear hxs hsw hp hq hl
   generalize hak : a + k = ak at *
   generalize hbk : b + k = bk at *
   go_upto_region 3 with fail
   refine start_ (n := 24) (S := fun w' => w'.cell? ⟨g, ak * 4, none⟩ = some (.int .i64 p.1) ∧ w'.cell? ⟨g, ak * 4 + 1, none⟩ = some (.int .i64 p.2.1) ∧ w'.cell? ⟨g, ak * 4 + 2, none⟩ = some (.int .i64 p.2.2.1) ∧ w'.cell? ⟨g, ak * 4 + 3, none⟩ = some (.int .i64 p.2.2.2) ∧ w'.cell? ⟨g, bk * 4, none⟩ = some (.int .i64 q.1) ∧ w'.cell? ⟨g, bk * 4 + 1, none⟩ = some (.int .i64 q.2.1) ∧ w'.cell? ⟨g, bk * 4 + 2, none⟩ = some (.int .i64 q.2.2.1) ∧ w'.cell? ⟨g, bk * 4 + 3, none⟩ = some (.int .i64 q.2.2.2)) (ds := [21, 23]) (bs 24 0) (by kernel_rfl) rfl (by kernel_rfl) ⟨x0, x1, x2, x3, y0, y1, y2, y3⟩ (fun hHeld => ?_)
   clear x0 x1 x2 x3 y0 y1 y2 y3 xf yf
   generalize wr.drew = wd at *
   refine pu 0 16 (bs 24 1) ?_
   refine pu 1 17 (bs 24 3) ?_
   refine pu 2 18 (bs 24 7) ?_
   refine pu 3 19 (bs 24 15) ?_
   refine pu 4 20 (bs 24 31) ?_
   refine pu 5 21 (bs 24 63) ?_
   refine pu 6 22 (bs 24 127) ?_
   refine pu 7 23 (bs 24 255) ?_
   refine pu 8 24 (bs 24 511) ?_
   refine pu 9 25 (bs 24 1023) ?_
   refine pu 10 26 (bs 24 2047) ?_
   refine pu 11 27 (bs 24 4095) ?_
   refine pu 12 28 (bs 24 8191) ?_
   refine tk8 13 29 (bs 24 16383) hHeld ?_
   refine pu 14 30 (bs 24 32767) ?_
   refine pu 15 31 (bs 24 65535) ?_
   refine pu 16 32 (bs 24 131071) ?_
   refine pu 17 33 (bs 24 262143) ?_
   refine pu 18 34 (bs 24 524287) ?_
   refine tk8 19 35 (bs 24 1048575) hHeld ?_
   refine pu 20 36 (bs 24 2097151) ?_
   refine la0 21 (bs 24 4194303) (N := none) fun K hK => ?_
   refine sk0 ?_
   refine hK.out _ _ ?_
   clear hK K
   have h6 : kN.R 101 ((((wd.setCell ⟨g, ak * 4, none⟩ (.int .i64 q.1)).setCell ⟨g, ak * 4 + 1, none⟩ (.int .i64 q.2.1)).setCell ⟨g, ak * 4 + 2, none⟩ (.int .i64 q.2.2.1)).setCell ⟨g, ak * 4 + 3, none⟩ (.int .i64 q.2.2.2)) base ok (.slice (some ⟨g, 0, none⟩) N cap) ((swapR mz a b k l).set ak q) ∧ w.grownBy ((((wd.setCell ⟨g, ak * 4, none⟩ (.int .i64 q.1)).setCell ⟨g, ak * 4 + 1, none⟩ (.int .i64 q.2.1)).setCell ⟨g, ak * 4 + 2, none⟩ (.int .i64 q.2.2.1)).setCell ⟨g, ak * 4 + 3, none⟩ (.int .i64 q.2.2.2)) (some g) := ⟨HXD.out.1, hX.out.2.both HXD.out.2⟩
   have H6 := Aside0.mk h6
   clear h6 hHeld f0 f1 f2 f3
   generalize ((((wd.setCell ⟨g, ak * 4, none⟩ (.int .i64 q.1)).setCell ⟨g, ak * 4 + 1, none⟩ (.int .i64 q.2.1)).setCell ⟨g, ak * 4 + 2, none⟩ (.int .i64 q.2.2.1)).setCell ⟨g, ak * 4 + 3, none⟩ (.int .i64 q.2.2.2)) = w6 at *
   have hbN : bk < N := by omega
   obtain ⟨⟨z0, z1, z2, z3, zok⟩, zf, hz⟩ := row_mark H6.out.1 (i := bk) hbN
   have g0 : w6.frozen? ⟨g, bk * 4, none⟩ = false := zf 0
   have g1 : w6.frozen? ⟨g, bk * 4 + 1, none⟩ = false := zf 1
   have g2 : w6.frozen? ⟨g, bk * 4 + 2, none⟩ = false := zf 2
   have g3 : w6.frozen? ⟨g, bk * 4 + 3, none⟩ = false := zf 3
   have HZ := Aside0.mk (hz p (by assumption))
   clear hz zf
   generalize ((swapR mz a b k l).set ak q).getD bk mz = pq at *
   refine pu 22 37 (bs 24 8388607) ?_
   refine la0 23 (bs 24 16777215) (N := none) fun K hK => ?_
   refine sk0 ?_
   refine hK.out _ _ ?_
   clear hK K
   refine dn0 ?_
   have h7 : kN.R 101 ((((w6.setCell ⟨g, bk * 4, none⟩ (.int .i64 p.1)).setCell ⟨g, bk * 4 + 1, none⟩ (.int .i64 p.2.1)).setCell ⟨g, bk * 4 + 2, none⟩ (.int .i64 p.2.2.1)).setCell ⟨g, bk * 4 + 3, none⟩ (.int .i64 p.2.2.2)) base ok (.slice (some ⟨g, 0, none⟩) N cap) (swapR mz a b (k + 1) l) ∧ w.grownBy ((((w6.setCell ⟨g, bk * 4, none⟩ (.int .i64 p.1)).setCell ⟨g, bk * 4 + 1, none⟩ (.int .i64 p.2.1)).setCell ⟨g, bk * 4 + 2, none⟩ (.int .i64 p.2.2.1)).setCell ⟨g, bk * 4 + 3, none⟩ (.int .i64 p.2.2.2)) (some g) := ⟨by rw [HSW.out]; exact HZ.out.1, H6.out.2.both HZ.out.2⟩
   have H7 := Aside0.mk h7
   clear h7
   go_wp2_with fail
   exact ⟨⟨k + 1, by omega, by go_num, H7⟩, by simp [intOf]; omega⟩
  ·go_wp2_with fail
   go_end0
   have hkn : k = n := by omega
   subst hkn
   exact ⟨rfl, hX.out⟩
end Go.Proofs.YtbkfnmgkcgnifaaGreat.Tw
namespace Go.Proofs.YtbkfnmgkcgnifaaGreat.Tw
open Go.RowKit Go.Shelf Go.Proofs.YtbkfnmgkcgnifaaGreatW.PrintWords Go.Proofs.YtbkfnmgkcgnifaaGreatW.PrintLast Mdl
theorem swapT_split (g N cap base : Nat) (ok : Nat → Prop) (P X Q Y S : List Mk) (cmp : Value) (w : World) (h : X.length = Y.length) (hR : kN.R 101 w base ok (.slice (some ⟨g, 0, none⟩) N cap) (P ++ X ++ Q ++ Y ++ S)) (hN : N ≤ 10000000000000) (a b n : Nat) (ha : a = P.length) (hb : b = P.length + X.length + Q.length) (hn : n = X.length) :
  Calls Tryz.prog 127 #[.slice (some ⟨g, 0, none⟩) N cap, .int .i64 a, .int .i64 b, .int .i64 n, cmp] w fun e w' => e = .returned (.tuple #[]) ∧ kN.R 101 w' base ok (.slice (some ⟨g, 0, none⟩) N cap) (P ++ Y ++ Q ++ X ++ S) ∧ w.grownBy w' (some g) := by
 subst ha hb hn
 have hl := (Kd.R_reads' hR).1
 simp only [List.length_append] at hl
 have := swapT_any g N cap P.length (P.length + X.length + Q.length) X.length base ok _ cmp w hR (by omega) (by omega) hN
 rw [swapR_split mz P X Q Y S h] at this
 exact this
set_option maxRecDepth 8000 in
set_option maxHeartbeats 4000000 in
theorem rotT_any (g N cap base : Nat) (ok : Nat → Prop) (P X Y S : List Mk) (cmp : Value) (w : World) (hR : kN.R 101 w base ok (.slice (some ⟨g, 0, none⟩) N cap) (P ++ X ++ Y ++ S)) (hX : 0 < X.length) (hY : 0 < Y.length) (hN : N ≤ 10000000000000) (a m b : Nat) (ha : a = P.length) (hm : m = P.length + X.length) (hb : b = P.length + X.length + Y.length) :
  Calls Tryz.prog 125 #[.slice (some ⟨g, 0, none⟩) N cap, .int .i64 a, .int .i64 m, .int .i64 b, cmp] w fun e w' => e = .returned (.tuple #[]) ∧ kN.R 101 w' base ok (.slice (some ⟨g, 0, none⟩) N cap) (P ++ Y ++ X ++ S) ∧ w.grownBy w' (some g) := by
 have HR := Aside0.mk hR
 have hl := (Kd.R_reads' hR).1
 simp only [List.length_append] at hl
 have wi : IntKind.i64.wrap ((m : Int) - a) = (X.length : Int) := by rw [IntKind.wrap_i64]; omega
 have wj : IntKind.i64.wrap ((b : Int) - m) = (Y.length : Int) := by rw [IntKind.wrap_i64]; omega
 have HM := Lib.hid (And.intro ha (And.intro hm hb))
 have HL := Lib.hid hl
 have hmN : m ≤ N := by omega
 clear hR ha hm hb hl
 go_enter Tryz.func125, Tryz.ntmps125
 go_wp2
 go_loopw [10, 11] (fun i j wr => ∃ A U V B : List Mk, i = .int .i64 U.length ∧ j = .int .i64 V.length ∧ Aside0 (0 < U.length ∧ 0 < V.length ∧ A.length + U.length = m ∧ m + V.length ≤ N ∧ A ++ V ++ U ++ B = P ++ Y ++ X ++ S ∧ kN.R 101 wr base ok (.slice (some ⟨g, 0, none⟩) N cap) (A ++ U ++ V ++ B) ∧ w.grownBy wr (some g))) (fun i j _ => (intOf i).toNat + (intOf j).toNat)
 case atStart => exact ⟨P, X, Y, S, rfl, rfl, ⟨hX, hY, HM.out.2.1.symm, by have := HM.out; have := HL.out; omega, rfl, HR.out, ⟨rfl, rfl, rfl, Nat.le_refl _, fun _ _ _ => rfl⟩⟩⟩
 case round =>
  obtain ⟨A, U, V, B, rfl, rfl, hI⟩ := hrel
  obtain ⟨hU, hV, hAU, hVN, heq, hRr, hgr⟩ := hI.out
  have HI := Aside0.mk (And.intro heq (And.intro hRr hgr))
  generalize hi : U.length = i at *
  generalize hj : V.length = j at *
  generalize hp : A.length = p at *
  have HH := Lib.hid (And.intro hi (And.intro hj (And.intro hp (And.intro hAU hVN))))
  have w1 : IntKind.i64.wrap ((m : Int) - (i : Int)) = (p : Int) := by rw [IntKind.wrap_i64]; omega
  clear hI heq hRr hgr hi hj hp hAU hVN
  by_cases hij : i = j
  ·subst hij
   have hb : ((i : Int) != (i : Int)) = false := by simp
   have HC := Lib.hid (fun w' h => swapT_split g N cap base ok A U [] V B cmp w' (by have := HH.out; omega) h hN p m i (by have := HH.out; omega) (by have := HH.out; simp; omega) (by have := HH.out; omega))
   go_wp2_with fail
   refine (HC.out wr (by simpa using HI.out.2.1)).mono ?_
   rintro e w5 ⟨rfl, hR5, hg5⟩
   go_wp2_with fail
   go_end0
   refine ⟨rfl, ?_, HI.out.2.2.both hg5⟩
   rw [← HI.out.1]
   simpa using hR5
  ·have hb : ((i : Int) != (j : Int)) = true := by simp; omega
   by_cases hgt : j < i
   ·have hgtI : (j : Int) < (i : Int) := by omega
    obtain ⟨dd, hdd⟩ : ∃ dd, dd = i - j := ⟨_, rfl⟩
    have w2 : IntKind.i64.wrap ((i : Int) - (j : Int)) = (dd : Int) := by rw [IntKind.wrap_i64]; have := HH.out; omega
    have HDD := Lib.hid hdd
    clear hdd
    have hX1 : A ++ U ++ V ++ B = A ++ U.take j ++ U.drop j ++ V ++ B := by simp
    have HC := Lib.hid (fun w' h => swapT_split g N cap base ok A (U.take j) (U.drop j) V B cmp w' (by have := HH.out; simp; omega) h hN p m j (by have := HH.out; omega) (by have := HH.out; simp; omega) (by have := HH.out; simp; omega))
    have HX1 := Lib.hid hX1
    clear hX1 hij
    go_wp2_with fail
    refine (HC.out wr (by rw [← HX1.out]; exact HI.out.2.1)).mono ?_
    rintro e w5 ⟨rfl, hR5, hg5⟩
    have HR5 := Aside0.mk (And.intro hR5 hg5)
    clear hR5 hg5
    go_wp2_with fail
    refine ⟨⟨A ++ V, U.drop j, U.take j, B, ?_, ?_, ⟨?_, ?_, ?_, ?_, ?_, HR5.out.1, HI.out.2.2.both HR5.out.2⟩⟩, ?_⟩
    ·have := HH.out; have := HDD.out; rw [List.length_drop]; congr 1; omega
    ·have := HH.out; rw [List.length_take]; congr 1; omega
    ·have := HH.out; rw [List.length_drop]; omega
    ·have := HH.out; rw [List.length_take]; omega
    ·have := HH.out; rw [List.length_append, List.length_drop]; omega
    ·have := HH.out; rw [List.length_take]; omega
    ·rw [← HI.out.1]; simp
    ·have := HH.out; have := HDD.out; simp [intOf]; omega
   ·have hlt : i < j := by omega
    have hltI : ¬ ((j : Int) < (i : Int)) := by omega
    have hltI2 : (i : Int) ≤ (j : Int) := by omega
    obtain ⟨dd, hdd⟩ : ∃ dd, dd = j - i := ⟨_, rfl⟩
    obtain ⟨q, hq⟩ : ∃ q, q = m + j - i := ⟨_, rfl⟩
    have w2 : IntKind.i64.wrap ((j : Int) - (i : Int)) = (dd : Int) := by rw [IntKind.wrap_i64]; have := HH.out; omega
    have w3 : IntKind.i64.wrap ((m : Int) + (j : Int)) = (m : Int) + (j : Int) := by rw [IntKind.wrap_i64]; have := HH.out; omega
    have w4 : IntKind.i64.wrap ((m : Int) + (j : Int) - (i : Int)) = (q : Int) := by rw [IntKind.wrap_i64]; have := HH.out; omega
    have HDD := Lib.hid (And.intro hdd hq)
    have hX1 : A ++ U ++ V ++ B = A ++ U ++ V.take (j - i) ++ V.drop (j - i) ++ B := by simp
    have HC := Lib.hid (fun w' h => swapT_split g N cap base ok A U (V.take (j - i)) (V.drop (j - i)) B cmp w' (by have := HH.out; simp; omega) h hN p q i (by have := HH.out; omega) (by have := HH.out; simp; omega) (by have := HH.out; omega))
    have HX1 := Lib.hid hX1
    clear hX1 hij hgt hdd hq
    go_wp2_with fail
    refine (HC.out wr (by rw [← HX1.out]; exact HI.out.2.1)).mono ?_
    rintro e w5 ⟨rfl, hR5, hg5⟩
    have HR5 := Aside0.mk (And.intro hR5 hg5)
    clear hR5 hg5
    go_wp2_with fail
    refine ⟨⟨A, V.drop (j - i), V.take (j - i), U ++ B, ?_, ?_, ⟨?_, ?_, ?_, ?_, ?_, ?_, HI.out.2.2.both HR5.out.2⟩⟩, ?_⟩
    ·have := HH.out; rw [List.length_drop]; congr 1; omega
    ·have := HH.out; have := HDD.out; rw [List.length_take]; congr 1; omega
    ·have := HH.out; rw [List.length_drop]; omega
    ·have := HH.out; rw [List.length_take]; omega
    ·have := HH.out; rw [List.length_drop]; omega
    ·have := HH.out; rw [List.length_take]; omega
    ·rw [← HI.out.1]; simp
    ·simpa using HR5.out.1
    ·have := HH.out; have := HDD.out; simp [intOf]; omega
end Go.Proofs.YtbkfnmgkcgnifaaGreat.Tw
namespace Go.Proofs.YtbkfnmgkcgnifaaGreat.Tw
open Go.RowKit Go.Shelf Go.Proofs.YtbkfnmgkcgnifaaGreatW.PrintWords Go.Proofs.YtbkfnmgkcgnifaaGreatW.PrintLast Mdl
set_option maxRecDepth 8000 in
set_option maxHeartbeats 4000000 in
theorem insT_any (g N cap base : Nat) (ok : Nat → Prop) (P X S : List Mk) (w : World) (hR : kN.R 101 w base ok (.slice (some ⟨g, 0, none⟩) N cap) (P ++ X ++ S)) (hok : ok g) (hN : N ≤ 10000000000000) (a b : Nat) (ha : a = P.length) (hb : b = P.length + X.length) :
  Calls Tryz.prog 120 #[.slice (some ⟨g, 0, none⟩) N cap, .int .i64 a, .int .i64 b, .func (.func 103) #[] #[]] w fun e w' => e = .returned (.tuple #[]) ∧ ∃ X', X'.Perm X ∧ SortedBy cmpN X' ∧ kN.R 101 w' base ok (.slice (some ⟨g, 0, none⟩) N cap) (P ++ X' ++ S) ∧ w.grownBy w' (some g) := by
 have HR := Aside0.mk hR
 have hl := (Kd.R_reads' hR).1
 simp only [List.length_append] at hl
 have wa : IntKind.i64.wrap ((a : Int) + 1) = ((a + 1 : Nat) : Int) := by rw [IntKind.wrap_i64]; omega
 have HM := Lib.hid (And.intro ha (And.intro hb hl))
 clear hR ha hb hl
 cases X with
 | nil =>
  go_enter Tryz.func120, Tryz.ntmps120
  go_wp2
  go_loopw [8] (fun i wr => i = .int .i64 ((a + 1 : Nat) : Int) ∧ wr = w) (fun i _ => 0)
  case atStart => exact ⟨rfl, rfl⟩
  case round =>
   obtain ⟨rfl, rfl⟩ := hrel
   have hnl : ¬ (((a + 1 : Nat) : Int) < (b : Int)) := by have := HM.out; simp at this; omega
   have hnl2 : (b : Int) ≤ ((a + 1 : Nat) : Int) := by omega
   go_wp2_with fail
   go_end0
   exact ⟨rfl, List.Pairwise.nil, by simpa using HR.out, ⟨rfl, rfl, rfl, Nat.le_refl _, fun _ _ _ => rfl⟩⟩
 | cons x0 X0 =>
  go_enter Tryz.func120, Tryz.ntmps120
  go_wp2
  go_loopw [8] (fun i wr => ∃ (k : Nat) (Z R : List Mk), i = .int .i64 k ∧ Aside0 (k = a + Z.length ∧ 0 < Z.length ∧ (Z ++ R).Perm (x0 :: X0) ∧ SortedBy cmpN Z ∧ kN.R 101 wr base ok (.slice (some ⟨g, 0, none⟩) N cap) (P ++ Z ++ R ++ S) ∧ w.grownBy wr (some g))) (fun i _ => b - (intOf i).toNat)
  case atStart => exact ⟨a + 1, [x0], X0, by go_num, ⟨rfl, by simp, List.Perm.refl _, List.pairwise_singleton _ _, by simpa using HR.out, ⟨rfl, rfl, rfl, Nat.le_refl _, fun _ _ _ => rfl⟩⟩⟩
  case round =>
   obtain ⟨k, Z, R, rfl, hI⟩ := hrel
   by_cases hlt : k < b
   ·have hlt' : (k : Int) < (b : Int) := by omega
    cases R with
    | nil =>
     exfalso
     have h := hI.out.2.2.1.length_eq
     have := HM.out
     have := hI.out.1
     simp at h
     simp only [List.length_cons] at *
     omega
    | cons x R =>
     have wk : IntKind.i64.wrap ((k : Int) + 1) = (k : Int) + 1 := by rw [IntKind.wrap_i64]; have := HM.out; simp only [List.length_cons] at this; omega
     have FIN := Lib.hid (fun (Z1 Z2 : List Mk) (V : World) (hz : Z = Z1 ++ Z2) (h2 : ∀ z ∈ Z2, cmpN x z ≤ 0) (h1 : ∀ y, Z1.getLast? = some y → cmpN y x ≤ 0) (hr : kN.R 101 V base ok (.slice (some ⟨g, 0, none⟩) N cap) (P ++ Z1 ++ x :: Z2 ++ R ++ S)) (hg : w.grownBy V (some g)) =>
      show ∃ (k1 : Nat) (Z' R' : List Mk), Value.int .i64 ((k : Int) + 1) = .int .i64 (k1 : Int) ∧ Aside0 (k1 = a + Z'.length ∧ 0 < Z'.length ∧ (Z' ++ R').Perm (x0 :: X0) ∧ SortedBy cmpN Z' ∧ kN.R 101 V base ok (.slice (some ⟨g, 0, none⟩) N cap) (P ++ Z' ++ R' ++ S) ∧ w.grownBy V (some g)) from
      ⟨k + 1, Z1 ++ x :: Z2, R, by go_num, ⟨by have := hI.out.1; rw [hz] at this; simp at this ⊢; omega, by simp; omega, by
       have hp := hI.out.2.2.1
       rw [hz] at hp
       refine List.Perm.trans ?_ hp
       simp only [List.append_assoc, List.cons_append]
       exact List.Perm.append_left _ (List.perm_middle (l₁ := Z2) (l₂ := R) (a := x)).symm, sorted_put ordN trivial (fun _ _ => trivial) (by rw [← hz]; exact hI.out.2.2.2.1) h2 h1, by simpa using hr, hg⟩⟩)
     go_wp2_with fail
     go_loopw [9] (fun j wr => ∃ (q : Nat) (Z1 Z2 : List Mk), j = .int .i64 q ∧ Aside0 (q = a + Z1.length ∧ Z = Z1 ++ Z2 ∧ (∀ z ∈ Z2, cmpN x z ≤ 0) ∧ kN.R 101 wr base ok (.slice (some ⟨g, 0, none⟩) N cap) (P ++ Z1 ++ x :: Z2 ++ R ++ S) ∧ w.grownBy wr (some g))) (fun j _ => (intOf j).toNat)
     case atStart => exact ⟨k, Z, [], rfl, ⟨hI.out.1, by simp, by simp, by simpa using hI.out.2.2.2.2.1, hI.out.2.2.2.2.2⟩⟩
     case round =>
      obtain ⟨q, Z1, Z2, rfl, hJ⟩ := hrel
      rcases List.eq_nil_or_concat Z1 with rfl | ⟨Z0, y, rfl⟩
      ·have hqa : ¬ ((a : Int) < (q : Int)) := by have := hJ.out.1; simp at this; omega
       have hqa2 : (q : Int) ≤ (a : Int) := by omega
       go_upto_region 4 with fail
       refine start_ (n := 17) (S := fun _ => True) (ds := []) (bs 17 0) (by kernel_rfl) rfl (by kernel_rfl) trivial (fun hHeld => ?_)
       refine pu 0 18 (bs 17 1) ?_
       refine pu 1 19 (bs 17 3) ?_
       refine pu 2 20 (bs 17 7) ?_
       refine pu 3 21 (bs 17 15) ?_
       refine uf0 4 22 (bs 17 31) ?_
       refine uf0 5 23 (bs 17 63) ?_
       refine uf0 6 24 (bs 17 127) ?_
       refine uf0 7 25 (bs 17 255) ?_
       refine uf0 8 26 (bs 17 511) ?_
       refine uf0 9 27 (bs 17 1023) ?_
       refine uf0 10 28 (bs 17 2047) ?_
       refine uf0 11 29 (bs 17 4095) ?_
       refine uf0 12 30 (bs 17 8191) ?_
       refine uf0 13 31 (bs 17 16383) ?_
       refine uf0 14 32 (bs 17 32767) ?_
       refine uf0 15 33 (bs 17 65535) ?_
       refine pu 16 34 (bs 17 131071) ?_
       refine dn0 ?_
       go_wp2_with fail
       refine ⟨FIN.out [] Z2 _ hJ.out.2.1 hJ.out.2.2.1 (by simp) (Kd.R_drew hJ.out.2.2.2.1) (hJ.out.2.2.2.2.both (grownBy_below (below_drew1 (Below.refl _ _)))), by simp [intOf]; omega⟩
      ·obtain ⟨hq, hz, h2, hRr, hgr⟩ := hJ.out
       obtain ⟨r, hr⟩ : ∃ r, r = a + Z0.length := ⟨_, rfl⟩
       have hqr : q = r + 1 := by simp at hq; omega
       have hrow : P ++ Z0.concat y ++ x :: Z2 ++ R ++ S = (P ++ Z0) ++ y :: x :: (Z2 ++ R ++ S) := by simp
       rw [hrow] at hRr
       have hlen := (Kd.R_reads' hRr).1
       simp only [List.length_append, List.length_cons] at hlen
       have hPa := HM.out.1
       have gx : ((P ++ Z0) ++ y :: x :: (Z2 ++ R ++ S)).getD q mz = x := by
        rw [List.getD_eq_getElem?_getD, List.getElem?_append_right (by simp; omega), List.length_append, show q - (P.length + Z0.length) = 1 by omega]; rfl
       have gy : ((P ++ Z0) ++ y :: x :: (Z2 ++ R ++ S)).getD r mz = y := by
        rw [List.getD_eq_getElem?_getD, List.getElem?_append_right (by simp; omega), List.length_append, show r - (P.length + Z0.length) = 0 by omega]; rfl
       obtain ⟨⟨c0, c1, c2, c3, cok⟩, _, _⟩ := row_mark hRr (i := q) (by omega)
       obtain ⟨⟨d0, d1, d2, d3, dok⟩, _, _⟩ := row_mark hRr (i := r) (by omega)
       rw [gx] at c0 c1 c2 c3 cok
       rw [gy] at d0 d1 d2 d3 dok
       have HJ := Aside0.mk (And.intro hz (And.intro h2 (And.intro hRr hgr)))
       have HQ := Lib.hid (And.intro hr (And.intro hqr hlen))
       have haq : (a : Int) < (q : Int) := by omega
       have hq0 : (0 : Int) ≤ (q : Int) := by omega
       have hqN : (q : Int) < (N : Int) := by omega
       have wq : IntKind.i64.wrap ((q : Int) - 1) = (r : Int) := by rw [IntKind.wrap_i64]; omega
       have hr0 : (0 : Int) ≤ (r : Int) := by omega
       have hrN : (r : Int) < (N : Int) := by omega
       clear hq hz h2 hRr hgr hr hqr hrow hlen hPa gx gy hJ
       go_upto_region 4 with fail
       refine start_ (n := 17) (S := fun w' => w'.cell? ⟨g, q * 4, none⟩ = some (.int .i64 x.1) ∧ w'.cell? ⟨g, q * 4 + 1, none⟩ = some (.int .i64 x.2.1) ∧ w'.cell? ⟨g, q * 4 + 2, none⟩ = some (.int .i64 x.2.2.1) ∧ w'.cell? ⟨g, q * 4 + 3, none⟩ = some (.int .i64 x.2.2.2) ∧ w'.cell? ⟨g, r * 4, none⟩ = some (.int .i64 y.1) ∧ w'.cell? ⟨g, r * 4 + 1, none⟩ = some (.int .i64 y.2.1) ∧ w'.cell? ⟨g, r * 4 + 2, none⟩ = some (.int .i64 y.2.2.1) ∧ w'.cell? ⟨g, r * 4 + 3, none⟩ = some (.int .i64 y.2.2.2)) (ds := []) (bs 17 0) (by kernel_rfl) rfl (by kernel_rfl) ⟨c0, c1, c2, c3, d0, d1, d2, d3⟩ (fun hHeld => ?_)
       have HD := Aside0.mk (And.intro (Kd.R_drew HJ.out.2.2.1) (HJ.out.2.2.2.both (grownBy_below (below_drew1 (Below.refl wr.heap.size wr)))))
       clear c0 c1 c2 c3 d0 d1 d2 d3
       generalize wr.drew = wd at *
       refine pu 0 18 (bs 17 1) ?_
       refine pu 1 19 (bs 17 3) ?_
       refine pu 2 20 (bs 17 7) ?_
       refine pu 3 21 (bs 17 15) ?_
       refine pu 4 22 (bs 17 31) ?_
       refine pu 5 23 (bs 17 63) ?_
       refine pu 6 24 (bs 17 127) ?_
       refine pu 7 25 (bs 17 255) ?_
       refine tk8 8 26 (bs 17 511) hHeld ?_
       refine pu 9 27 (bs 17 1023) ?_
       refine pu 10 28 (bs 17 2047) ?_
       refine pu 11 29 (bs 17 4095) ?_
       refine pu 12 30 (bs 17 8191) ?_
       refine tk8 13 31 (bs 17 16383) hHeld ?_
       refine on0 14 32 (bs 17 32767) fun K hK => ?_
       have CM := byMarkN_any x y (by assumption) (by assumption) wd
       simp only [mkV] at CM
       refine goesV_ Tryz.func103 (by kernel_rfl) rfl #[.agg #[.int .i64 x.1, .int .i64 x.2.1, .int .i64 x.2.2.1, .int .i64 x.2.2.2], .agg #[.int .i64 y.1, .int .i64 y.2.1, .int .i64 y.2.2.1, .int .i64 y.2.2.2]] (by rfl) rfl rfl rfl (by (try simp only [List.map_toArray, List.map_cons, List.map_nil]); first | done | rfl) ?_
       refine CM.mono ?_
       clear CM
       rintro e w5 ⟨rfl, hb5⟩
       have HS5 := Aside0.mk (And.intro (Kd.R_below HD.out.1 hb5) (HD.out.2.both (grownBy_below hb5)))
       refine ⟨_, rfl, hK.out _ _ ⟨pw_cell_below hb5 hHeld.1, pw_cell_below hb5 hHeld.2.1, pw_cell_below hb5 hHeld.2.2.1, pw_cell_below hb5 hHeld.2.2.2.1, pw_cell_below hb5 hHeld.2.2.2.2.1, pw_cell_below hb5 hHeld.2.2.2.2.2.1, pw_cell_below hb5 hHeld.2.2.2.2.2.2.1, pw_cell_below hb5 hHeld.2.2.2.2.2.2.2⟩ (fun hHeld => ?_)⟩
       clear hb5 HD
       by_cases hcx : cmpN x y < 0
       ·have hcd : decide (cmpN x y < 0) = true := decide_eq_true hcx
        clear hK K
        refine nm0 (some 32) ?_
        refine pu 15 33 (bs 17 65535) ?_
        refine pu 16 34 (bs 17 131071) ?_
        refine dn0 ?_
        have HCX := Lib.hid hcx
        clear hHeld
        obtain ⟨⟨c0, c1, c2, c3, cok⟩, cf, _⟩ := row_mark (Kd.R_drew HS5.out.1) (i := q) (by have := HQ.out; omega)
        obtain ⟨⟨d0, d1, d2, d3, dok⟩, _, _⟩ := row_mark (Kd.R_drew HS5.out.1) (i := r) (by have := HQ.out; omega)
        have hPa := HM.out.1
        have gx : ((P ++ Z0) ++ y :: x :: (Z2 ++ R ++ S)).getD q mz = x := by
         have := HQ.out
         rw [List.getD_eq_getElem?_getD, List.getElem?_append_right (by simp; omega), List.length_append, show q - (P.length + Z0.length) = 1 by omega]; rfl
        have gy : ((P ++ Z0) ++ y :: x :: (Z2 ++ R ++ S)).getD r mz = y := by
         have := HQ.out
         rw [List.getD_eq_getElem?_getD, List.getElem?_append_right (by simp; omega), List.length_append, show r - (P.length + Z0.length) = 0 by omega]; rfl
        rw [gx] at c0 c1 c2 c3 cok
        rw [gy] at d0 d1 d2 d3 dok
        have f0 : w5.drew.frozen? ⟨g, q * 4, none⟩ = false := cf 0
        have f1 : w5.drew.frozen? ⟨g, q * 4 + 1, none⟩ = false := cf 1
        have f2 : w5.drew.frozen? ⟨g, q * 4 + 2, none⟩ = false := cf 2
        have f3 : w5.drew.frozen? ⟨g, q * 4 + 3, none⟩ = false := cf 3
        clear gx gy hPa cf
        go_upto_region 6 with fail
        refine start_ (n := 18) (S := fun w' => w'.cell? ⟨g, q * 4, none⟩ = some (.int .i64 x.1) ∧ w'.cell? ⟨g, q * 4 + 1, none⟩ = some (.int .i64 x.2.1) ∧ w'.cell? ⟨g, q * 4 + 2, none⟩ = some (.int .i64 x.2.2.1) ∧ w'.cell? ⟨g, q * 4 + 3, none⟩ = some (.int .i64 x.2.2.2) ∧ w'.cell? ⟨g, r * 4, none⟩ = some (.int .i64 y.1) ∧ w'.cell? ⟨g, r * 4 + 1, none⟩ = some (.int .i64 y.2.1) ∧ w'.cell? ⟨g, r * 4 + 2, none⟩ = some (.int .i64 y.2.2.1) ∧ w'.cell? ⟨g, r * 4 + 3, none⟩ = some (.int .i64 y.2.2.2)) (ds := [15, 17]) (bs 18 0) (by kernel_rfl) rfl (by kernel_rfl) ⟨c0, c1, c2, c3, d0, d1, d2, d3⟩ (fun hHeld => ?_)
        have HD := Aside0.mk (And.intro (Kd.R_drew HS5.out.1) (HS5.out.2.both (grownBy_below (below_drew1 (Below.refl w5.heap.size w5)))))
        clear c0 c1 c2 c3 d0 d1 d2 d3
        generalize w5.drew = wd5 at *
        refine pu 0 37 (bs 18 1) ?_
        refine pu 1 38 (bs 18 3) ?_
        refine pu 2 39 (bs 18 7) ?_
        refine pu 3 40 (bs 18 15) ?_
        refine pu 4 41 (bs 18 31) ?_
        refine pu 5 42 (bs 18 63) ?_
        refine pu 6 43 (bs 18 127) ?_
        refine pu 7 44 (bs 18 255) ?_
        refine pu 8 45 (bs 18 511) ?_
        refine tk8 9 46 (bs 18 1023) hHeld ?_
        refine pu 10 47 (bs 18 2047) ?_
        refine pu 11 48 (bs 18 4095) ?_
        refine pu 12 49 (bs 18 8191) ?_
        refine tk8 13 50 (bs 18 16383) hHeld ?_
        refine pu 14 51 (bs 18 32767) ?_
        obtain ⟨_, _, hst⟩ := row_mark HD.out.1 (i := q) (by have := HQ.out; omega)
        have HST := Aside0.mk (hst y (by assumption))
        clear hst
        refine la0 15 (bs 18 65535) (N := none) fun K hK => ?_
        refine sk0 ?_
        refine hK.out _ _ ?_
        clear hK K
        have h6 : kN.R 101 ((((wd5.setCell ⟨g, q * 4, none⟩ (.int .i64 y.1)).setCell ⟨g, q * 4 + 1, none⟩ (.int .i64 y.2.1)).setCell ⟨g, q * 4 + 2, none⟩ (.int .i64 y.2.2.1)).setCell ⟨g, q * 4 + 3, none⟩ (.int .i64 y.2.2.2)) base ok (.slice (some ⟨g, 0, none⟩) N cap) (((P ++ Z0) ++ y :: x :: (Z2 ++ R ++ S)).set q y) ∧ w.grownBy ((((wd5.setCell ⟨g, q * 4, none⟩ (.int .i64 y.1)).setCell ⟨g, q * 4 + 1, none⟩ (.int .i64 y.2.1)).setCell ⟨g, q * 4 + 2, none⟩ (.int .i64 y.2.2.1)).setCell ⟨g, q * 4 + 3, none⟩ (.int .i64 y.2.2.2)) (some g) := ⟨HST.out.1, HD.out.2.both HST.out.2⟩
        have H6 := Aside0.mk h6
        clear h6 hHeld f0 f1 f2 f3
        generalize ((((wd5.setCell ⟨g, q * 4, none⟩ (.int .i64 y.1)).setCell ⟨g, q * 4 + 1, none⟩ (.int .i64 y.2.1)).setCell ⟨g, q * 4 + 2, none⟩ (.int .i64 y.2.2.1)).setCell ⟨g, q * 4 + 3, none⟩ (.int .i64 y.2.2.2)) = w6 at *
        obtain ⟨⟨z0, z1, z2, z3, zok⟩, zf, hz⟩ := row_mark H6.out.1 (i := r) (by have := HQ.out; omega)
        have g0 : w6.frozen? ⟨g, r * 4, none⟩ = false := zf 0
        have g1 : w6.frozen? ⟨g, r * 4 + 1, none⟩ = false := zf 1
        have g2 : w6.frozen? ⟨g, r * 4 + 2, none⟩ = false := zf 2
        have g3 : w6.frozen? ⟨g, r * 4 + 3, none⟩ = false := zf 3
        have HZ := Aside0.mk (hz x (by assumption))
        clear hz zf
        generalize (((P ++ Z0) ++ y :: x :: (Z2 ++ R ++ S)).set q y).getD r mz = pq at *
        refine pu 16 52 (bs 18 131071) ?_
        refine la0 17 (bs 18 262143) (N := none) fun K hK => ?_
        refine sk0 ?_
        refine hK.out _ _ ?_
        clear hK K
        refine dn0 ?_
        have hset : (((P ++ Z0) ++ y :: x :: (Z2 ++ R ++ S)).set q y).set r x = P ++ Z0 ++ x :: (y :: Z2) ++ R ++ S := by
         have h1 := HQ.out
         have h2 := HM.out.1
         rw [List.set_append_right _ _ (by simp; omega), List.length_append, show q - (P.length + Z0.length) = 1 by omega]
         rw [List.set_append_right _ _ (by simp; omega), List.length_append, show r - (P.length + Z0.length) = 0 by omega]
         simp
        have H7 := Aside0.mk (show kN.R 101 ((((w6.setCell ⟨g, r * 4, none⟩ (.int .i64 x.1)).setCell ⟨g, r * 4 + 1, none⟩ (.int .i64 x.2.1)).setCell ⟨g, r * 4 + 2, none⟩ (.int .i64 x.2.2.1)).setCell ⟨g, r * 4 + 3, none⟩ (.int .i64 x.2.2.2)) base ok (.slice (some ⟨g, 0, none⟩) N cap) (P ++ Z0 ++ x :: (y :: Z2) ++ R ++ S) ∧ w.grownBy ((((w6.setCell ⟨g, r * 4, none⟩ (.int .i64 x.1)).setCell ⟨g, r * 4 + 1, none⟩ (.int .i64 x.2.1)).setCell ⟨g, r * 4 + 2, none⟩ (.int .i64 x.2.2.1)).setCell ⟨g, r * 4 + 3, none⟩ (.int .i64 x.2.2.2)) (some g) from ⟨by rw [← hset]; exact HZ.out.1, H6.out.2.both HZ.out.2⟩)
        clear hset
        go_wp2_with fail
        refine ⟨⟨r, Z0, y :: Z2, by first | rfl | (rw [wq]), ⟨HQ.out.1, by rw [HJ.out.1]; simp, fun z hz => ?_, H7.out.1, H7.out.2⟩⟩, by have := HQ.out; simp [intOf]; omega⟩
        rcases List.mem_cons.1 hz with rfl | hz
        ·exact Int.le_of_lt HCX.out
        ·exact HJ.out.2.1 z hz
       ·skip
        have hcd : decide (cmpN x y < 0) = false := decide_eq_false hcx
        have hcg : 0 ≤ cmpN x y := by omega
        clear hK K
        refine nm0 (some 32) ?_
        refine pu 15 33 (bs 17 65535) ?_
        refine pu 16 34 (bs 17 131071) ?_
        refine dn0 ?_
        have HCX := Lib.hid hcx
        go_wp2_with fail
        refine ⟨FIN.out (Z0.concat y) Z2 _ HJ.out.1 HJ.out.2.1 (fun y' hy' => ?_) (by have h := HS5.out.1; simpa using h) HS5.out.2, by simp [intOf]; omega⟩
        simp at hy'
        subst hy'
        exact ordN.le_of_not trivial trivial HCX.out
   ·have hlt' : ¬ ((k : Int) < (b : Int)) := by omega
    have hle' : (b : Int) ≤ (k : Int) := by omega
    go_wp2_with fail
    go_end0
    obtain ⟨h1, h2, h3, h4, h5, h6⟩ := hI.out
    have hR0 : R = [] := by
     have h := h3.length_eq
     have := HM.out
     simp only [List.length_append, List.length_cons] at h this
     exact List.eq_nil_of_length_eq_zero (by omega)
    subst hR0
    exact ⟨rfl, Z, by simpa using h3, h4, by simpa using h5, h6⟩
end Go.Proofs.YtbkfnmgkcgnifaaGreat.Tw
namespace Go.Proofs.YtbkfnmgkcgnifaaGreat.Tw
open Go.RowKit Go.Shelf Go.Proofs.YtbkfnmgkcgnifaaGreatW.PrintWords Go.Proofs.YtbkfnmgkcgnifaaGreatW.PrintLast Mdl
theorem cmpN_le_lt {a b c : Mk} (h : cmpN a b ≤ 0) (k : cmpN b c < 0) : cmpN a c < 0 := by
 have h1 := cmpN_trans h (Int.le_of_lt k)
 by_cases h2 : cmpN a c = 0
 ·have := cmpN_zero.1 h2
  subst this
  have h3 := cmpN_neg a b
  omega
 ·omega
theorem sorted_getD {l : List Mk} (hs : SortedBy cmpN l) {i j : Nat} (h : i ≤ j) (hj : j < l.length) : cmpN (l.getD i mz) (l.getD j mz) ≤ 0 := by
 rw [List.getD_eq_getElem?_getD, List.getD_eq_getElem?_getD, List.getElem?_eq_getElem (by omega), List.getElem?_eq_getElem hj]
 rcases Nat.lt_or_eq_of_le h with h | h
 ·exact List.pairwise_iff_getElem.1 hs i j (by omega) hj h
 ·subst h; exact Int.le_of_eq (cmpN_zero.2 rfl)
def MergePost (g N cap base : Nat) (ok : Nat → Prop) (P X Y S : List Mk) (w : World) (e : Ending) (w' : World) : Prop :=
 e = .returned (.tuple #[]) ∧ ∃ Z, Z.Perm (X ++ Y) ∧ SortedBy cmpN Z ∧ kN.R 101 w' base ok (.slice (some ⟨g, 0, none⟩) N cap) (P ++ Z ++ S) ∧ w.grownBy w' (some g)
set_option maxRecDepth 8000 in
set_option maxHeartbeats 4000000 in
theorem sym_one (g N cap base : Nat) (ok : Nat → Prop) (P Y S : List Mk) (x : Mk) (w : World) (hR : kN.R 101 w base ok (.slice (some ⟨g, 0, none⟩) N cap) (P ++ x :: Y ++ S)) (hY : 0 < Y.length) (hs : SortedBy cmpN Y) (hN : N ≤ 10000000000000) (a m b : Nat) (ha : a = P.length) (hm : m = P.length + 1) (hb : b = P.length + 1 + Y.length) :
  Calls Tryz.prog 121 #[.slice (some ⟨g, 0, none⟩) N cap, .int .i64 a, .int .i64 m, .int .i64 b, .func (.func 103) #[] #[]] w (MergePost g N cap base ok P [x] Y S w) := by
 have HR := Aside0.mk hR
 have hl := (Kd.R_reads' hR).1
 simp only [List.length_append, List.length_cons] at hl
 have wi : IntKind.i64.wrap ((m : Int) - a) = 1 := by rw [IntKind.wrap_i64]; omega
 have HM := Lib.hid (And.intro ha (And.intro hm (And.intro hb hl)))
 clear hR ha hm hb hl
 go_enter Tryz.func121, Tryz.ntmps121
 go_wp2
 go_loopw [10, 11] (fun i j wr => ∃ p q : Nat, i = .int .i64 p ∧ j = .int .i64 q ∧ m ≤ p ∧ p ≤ q ∧ q ≤ b ∧ Aside0 (kN.R 101 wr base ok (.slice (some ⟨g, 0, none⟩) N cap) (P ++ x :: Y ++ S) ∧ w.grownBy wr (some g) ∧ (∀ k, m ≤ k → k < p → cmpN (Y.getD (k - m) mz) x < 0) ∧ (∀ k, q ≤ k → k < b → ¬ cmpN (Y.getD (k - m) mz) x < 0))) (fun i j _ => (intOf j).toNat - (intOf i).toNat)
 case atStart => exact ⟨m, b, rfl, rfl, Nat.le_refl _, by have := HM.out; omega, Nat.le_refl _, HR.out, ⟨rfl, rfl, rfl, Nat.le_refl _, fun _ _ _ => rfl⟩, fun k h1 h2 => by omega, fun k h1 h2 => by omega⟩
 case round =>
  obtain ⟨p, q, rfl, rfl, hmp, hpq, hqb, hI⟩ := hrel
  by_cases hlt : p < q
  ·have hltI : (p : Int) < (q : Int) := by omega
   have hM := HM.out
   obtain ⟨h, hh⟩ : ∃ h, h = (p + q) / 2 := ⟨_, rfl⟩
   have w1 : IntKind.i64.wrap ((p : Int) + (q : Int)) = (p : Int) + (q : Int) := by rw [IntKind.wrap_i64]; omega
   have w2 : IntKind.u64.wrap ((p : Int) + (q : Int)) = (p : Int) + (q : Int) := by simp only [IntKind.wrap]; simp [IntKind.bits, IntKind.signed]; omega
   have w3 : IntKind.i64.wrap (((p : Int) + (q : Int)) / 2) = (h : Int) := by rw [IntKind.wrap_i64]; omega
   have w4 : IntKind.i64.wrap ((h : Int) + 1) = (h : Int) + 1 := by rw [IntKind.wrap_i64]; omega
   have gy : (P ++ x :: Y ++ S).getD h mz = Y.getD (h - m) mz := by
    rw [List.getD_eq_getElem?_getD, List.append_assoc, List.getElem?_append_right (by omega), List.cons_append, show h - P.length = (h - m) + 1 by omega, List.getElem?_cons_succ, List.getElem?_append_left (by omega), List.getD_eq_getElem?_getD]
   have gx : (P ++ x :: Y ++ S).getD a mz = x := by
    rw [List.getD_eq_getElem?_getD, List.append_assoc, List.getElem?_append_right (by omega), show a - P.length = 0 by omega]; rfl
   obtain ⟨⟨c0, c1, c2, c3, cok⟩, _, _⟩ := row_mark hI.out.1 (i := h) (by omega)
   obtain ⟨⟨d0, d1, d2, d3, dok⟩, _, _⟩ := row_mark hI.out.1 (i := a) (by omega)
   rw [gy] at c0 c1 c2 c3 cok
   rw [gx] at d0 d1 d2 d3 dok
   have hh0 : (0 : Int) ≤ (h : Int) := by omega
   have hhN : (h : Int) < (N : Int) := by omega
   have ha0 : (0 : Int) ≤ (a : Int) := by omega
   have haN : (a : Int) < (N : Int) := by omega
   generalize hy : Y.getD (h - m) mz = y at *
   have HY := Lib.hid (And.intro hh hy)
   clear gy gx hM hh hy
   go_upto_region 5 with fail
   refine start_ (n := 11) (S := fun w' => w'.cell? ⟨g, h * 4, none⟩ = some (.int .i64 y.1) ∧ w'.cell? ⟨g, h * 4 + 1, none⟩ = some (.int .i64 y.2.1) ∧ w'.cell? ⟨g, h * 4 + 2, none⟩ = some (.int .i64 y.2.2.1) ∧ w'.cell? ⟨g, h * 4 + 3, none⟩ = some (.int .i64 y.2.2.2) ∧ w'.cell? ⟨g, a * 4, none⟩ = some (.int .i64 x.1) ∧ w'.cell? ⟨g, a * 4 + 1, none⟩ = some (.int .i64 x.2.1) ∧ w'.cell? ⟨g, a * 4 + 2, none⟩ = some (.int .i64 x.2.2.1) ∧ w'.cell? ⟨g, a * 4 + 3, none⟩ = some (.int .i64 x.2.2.2)) (ds := []) (bs 11 0) (by kernel_rfl) rfl (by kernel_rfl) ⟨c0, c1, c2, c3, d0, d1, d2, d3⟩ (fun hHeld => ?_)
   have HD := Aside0.mk (And.intro (Kd.R_drew hI.out.1) (hI.out.2.1.both (grownBy_below (below_drew1 (Below.refl wr.heap.size wr)))))
   clear c0 c1 c2 c3 d0 d1 d2 d3
   generalize wr.drew = wd at *
   refine pu 0 40 (bs 11 1) ?_
   refine pu 1 41 (bs 11 3) ?_
   refine pu 2 42 (bs 11 7) ?_
   refine pu 3 43 (bs 11 15) ?_
   refine tk8 4 44 (bs 11 31) hHeld ?_
   refine pu 5 45 (bs 11 63) ?_
   refine pu 6 46 (bs 11 127) ?_
   refine pu 7 47 (bs 11 255) ?_
   refine tk8 8 48 (bs 11 511) hHeld ?_
   refine on0 9 49 (bs 11 1023) fun K hK => ?_
   have CM := byMarkN_any y x (by assumption) (by assumption) wd
   simp only [mkV] at CM
   refine goesV_ Tryz.func103 (by kernel_rfl) rfl #[.agg #[.int .i64 y.1, .int .i64 y.2.1, .int .i64 y.2.2.1, .int .i64 y.2.2.2], .agg #[.int .i64 x.1, .int .i64 x.2.1, .int .i64 x.2.2.1, .int .i64 x.2.2.2]] (by rfl) rfl rfl rfl (by (try simp only [List.map_toArray, List.map_cons, List.map_nil]); first | done | rfl) ?_
   refine CM.mono ?_
   clear CM
   rintro e w5 ⟨rfl, hb5⟩
   have HS5 := Aside0.mk (And.intro (Kd.R_below HD.out.1 hb5) (HD.out.2.both (grownBy_below hb5)))
   refine ⟨_, rfl, hK.out _ _ ⟨pw_cell_below hb5 hHeld.1, pw_cell_below hb5 hHeld.2.1, pw_cell_below hb5 hHeld.2.2.1, pw_cell_below hb5 hHeld.2.2.2.1, pw_cell_below hb5 hHeld.2.2.2.2.1, pw_cell_below hb5 hHeld.2.2.2.2.2.1, pw_cell_below hb5 hHeld.2.2.2.2.2.2.1, pw_cell_below hb5 hHeld.2.2.2.2.2.2.2⟩ (fun hHeld => ?_)⟩
   clear hb5 HD
   clear hK K
   refine nm0 (some 49) ?_
   refine pu 10 50 (bs 11 2047) ?_
   refine dn0 ?_
   clear hHeld
   have HCX := Lib.hid (Int.lt_or_le (cmpN y x) 0)
   by_cases hcx : cmpN y x < 0
   ·have hcd : decide (cmpN y x < 0) = true := decide_eq_true hcx
    have HX := Lib.hid hcx
    go_wp2_with fail
    have hY2 := HY.out
    have hM := HM.out
    refine ⟨⟨h + 1, q, by go_num, rfl, by omega, by omega, hqb, HS5.out.1, HS5.out.2, fun k hk1 hk2 => ?_, hI.out.2.2.2⟩, by simp [intOf]; omega⟩
    refine cmpN_le_lt (sorted_getD hs (show k - m ≤ h - m by omega) (by omega)) ?_
    rw [hY2.2]; exact HX.out
   ·have hcd : decide (cmpN y x < 0) = false := decide_eq_false hcx
    have hcg : 0 ≤ cmpN y x := by omega
    have HX := Lib.hid hcx
    go_wp2_with fail
    have hY2 := HY.out
    have hM := HM.out
    refine ⟨⟨p, h, rfl, rfl, hmp, by omega, by omega, HS5.out.1, HS5.out.2, hI.out.2.2.1, fun k hk1 hk2 hk3 => ?_⟩, by simp [intOf]; omega⟩
    refine HX.out ?_
    rw [← hY2.2]
    exact cmpN_le_lt (sorted_getD hs (show h - m ≤ k - m by omega) (by omega)) hk3
  ·have hltI : ¬ (p : Int) < (q : Int) := by omega
   have hltI2 : (q : Int) ≤ (p : Int) := by omega
   obtain rfl : p = q := by omega
   obtain ⟨t, ht⟩ : ∃ t, p = t + 1 := ⟨p - 1, by have := HM.out; omega⟩
   have wp1 : IntKind.i64.wrap ((p : Int) - 1) = (t : Int) := by rw [IntKind.wrap_i64]; have := HM.out; omega
   have HT := Lib.hid (And.intro ht (And.intro hmp hqb))
   clear ht
   go_wp2_with fail
   go_loopw [13] (fun i wr => ∃ (k : Nat) (A B : List Mk), i = .int .i64 k ∧ Aside0 (k = a + A.length ∧ k ≤ t ∧ Y = A ++ B ∧ kN.R 101 wr base ok (.slice (some ⟨g, 0, none⟩) N cap) (P ++ A ++ x :: B ++ S) ∧ w.grownBy wr (some g))) (fun i _ => t - (intOf i).toNat)
   case atStart => exact ⟨a, [], Y, rfl, ⟨rfl, by have := HM.out; have := HT.out; omega, rfl, by simpa using hI.out.1, hI.out.2.1⟩⟩
   case round =>
    obtain ⟨k, A, B, rfl, hJ⟩ := hrel
    by_cases hkt : k < t
    ·have hktI : (k : Int) < (t : Int) := by omega
     cases B with
     | nil =>
      exfalso
      have h1 := hJ.out
      have h2 := HM.out
      have h3 := HT.out
      have h4 : Y.length = A.length := by rw [h1.2.2.1]; simp
      omega
     | cons y B =>
      obtain ⟨hk, hkt2, hYe, hRr, hgr⟩ := hJ.out
      obtain ⟨r, hr⟩ : ∃ r, r = k + 1 := ⟨_, rfl⟩
      have hPa := HM.out.1
      have hrow : P ++ A ++ x :: (y :: B) ++ S = (P ++ A) ++ x :: y :: (B ++ S) := by simp
      rw [hrow] at hRr
      have hlen := (Kd.R_reads' hRr).1
      simp only [List.length_append, List.length_cons] at hlen
      have gx : ((P ++ A) ++ x :: y :: (B ++ S)).getD k mz = x := by
       rw [List.getD_eq_getElem?_getD, List.getElem?_append_right (by simp; omega), List.length_append, show k - (P.length + A.length) = 0 by omega]; rfl
      have gy : ((P ++ A) ++ x :: y :: (B ++ S)).getD r mz = y := by
       rw [List.getD_eq_getElem?_getD, List.getElem?_append_right (by simp; omega), List.length_append, show r - (P.length + A.length) = 1 by omega]; rfl
      obtain ⟨⟨c0, c1, c2, c3, cok⟩, cf, _⟩ := row_mark hRr (i := k) (by omega)
      obtain ⟨⟨d0, d1, d2, d3, dok⟩, _, _⟩ := row_mark hRr (i := r) (by omega)
      rw [gx] at c0 c1 c2 c3 cok
      rw [gy] at d0 d1 d2 d3 dok
      have HQ := Lib.hid (And.intro hk (And.intro hr (And.intro hlen (And.intro hPa hYe))))
      have HJ := Aside0.mk (And.intro hRr hgr)
      have f0 : wr.drew.frozen? ⟨g, k * 4, none⟩ = false := cf 0
      have f1 : wr.drew.frozen? ⟨g, k * 4 + 1, none⟩ = false := cf 1
      have f2 : wr.drew.frozen? ⟨g, k * 4 + 2, none⟩ = false := cf 2
      have f3 : wr.drew.frozen? ⟨g, k * 4 + 3, none⟩ = false := cf 3
      have wk : IntKind.i64.wrap ((k : Int) + 1) = (r : Int) := by rw [IntKind.wrap_i64]; omega
      have hk0 : (0 : Int) ≤ (k : Int) := by omega
      have hkN : (k : Int) < (N : Int) := by omega
      have hr0 : (0 : Int) ≤ (r : Int) := by omega
      have hrN : (r : Int) < (N : Int) := by omega
      clear hk hkt2 hYe hRr hgr hr hPa hrow hlen gx gy cf hJ
      go_upto_region 11 with fail
      refine start_ (n := 18) (S := fun w' => w'.cell? ⟨g, r * 4, none⟩ = some (.int .i64 y.1) ∧ w'.cell? ⟨g, r * 4 + 1, none⟩ = some (.int .i64 y.2.1) ∧ w'.cell? ⟨g, r * 4 + 2, none⟩ = some (.int .i64 y.2.2.1) ∧ w'.cell? ⟨g, r * 4 + 3, none⟩ = some (.int .i64 y.2.2.2) ∧ w'.cell? ⟨g, k * 4, none⟩ = some (.int .i64 x.1) ∧ w'.cell? ⟨g, k * 4 + 1, none⟩ = some (.int .i64 x.2.1) ∧ w'.cell? ⟨g, k * 4 + 2, none⟩ = some (.int .i64 x.2.2.1) ∧ w'.cell? ⟨g, k * 4 + 3, none⟩ = some (.int .i64 x.2.2.2)) (ds := [15, 17]) (bs 18 0) (by kernel_rfl) rfl (by kernel_rfl) ⟨d0, d1, d2, d3, c0, c1, c2, c3⟩ (fun hHeld => ?_)
      have HD := Aside0.mk (And.intro (Kd.R_drew HJ.out.1) (HJ.out.2.both (grownBy_below (below_drew1 (Below.refl wr.heap.size wr)))))
      clear c0 c1 c2 c3 d0 d1 d2 d3
      generalize wr.drew = wd5 at *
      refine pu 0 61 (bs 18 1) ?_
      refine pu 1 62 (bs 18 3) ?_
      refine pu 2 63 (bs 18 7) ?_
      refine pu 3 64 (bs 18 15) ?_
      refine pu 4 65 (bs 18 31) ?_
      refine pu 5 66 (bs 18 63) ?_
      refine pu 6 67 (bs 18 127) ?_
      refine pu 7 68 (bs 18 255) ?_
      refine pu 8 69 (bs 18 511) ?_
      refine tk8 9 70 (bs 18 1023) hHeld ?_
      refine pu 10 71 (bs 18 2047) ?_
      refine pu 11 72 (bs 18 4095) ?_
      refine pu 12 73 (bs 18 8191) ?_
      refine tk8 13 74 (bs 18 16383) hHeld ?_
      refine pu 14 75 (bs 18 32767) ?_
      obtain ⟨_, _, hst⟩ := row_mark HD.out.1 (i := k) (by have := HQ.out; omega)
      have HST := Aside0.mk (hst y (by assumption))
      clear hst
      refine la0 15 (bs 18 65535) (N := none) fun K hK => ?_
      refine sk0 ?_
      refine hK.out _ _ ?_
      clear hK K
      have h6 : kN.R 101 ((((wd5.setCell ⟨g, k * 4, none⟩ (.int .i64 y.1)).setCell ⟨g, k * 4 + 1, none⟩ (.int .i64 y.2.1)).setCell ⟨g, k * 4 + 2, none⟩ (.int .i64 y.2.2.1)).setCell ⟨g, k * 4 + 3, none⟩ (.int .i64 y.2.2.2)) base ok (.slice (some ⟨g, 0, none⟩) N cap) (((P ++ A) ++ x :: y :: (B ++ S)).set k y) ∧ w.grownBy ((((wd5.setCell ⟨g, k * 4, none⟩ (.int .i64 y.1)).setCell ⟨g, k * 4 + 1, none⟩ (.int .i64 y.2.1)).setCell ⟨g, k * 4 + 2, none⟩ (.int .i64 y.2.2.1)).setCell ⟨g, k * 4 + 3, none⟩ (.int .i64 y.2.2.2)) (some g) := ⟨HST.out.1, HD.out.2.both HST.out.2⟩
      have H6 := Aside0.mk h6
      clear h6 hHeld f0 f1 f2 f3
      generalize ((((wd5.setCell ⟨g, k * 4, none⟩ (.int .i64 y.1)).setCell ⟨g, k * 4 + 1, none⟩ (.int .i64 y.2.1)).setCell ⟨g, k * 4 + 2, none⟩ (.int .i64 y.2.2.1)).setCell ⟨g, k * 4 + 3, none⟩ (.int .i64 y.2.2.2)) = w6 at *
      obtain ⟨⟨z0, z1, z2, z3, zok⟩, zf, hz⟩ := row_mark H6.out.1 (i := r) (by have := HQ.out; omega)
      have g0 : w6.frozen? ⟨g, r * 4, none⟩ = false := zf 0
      have g1 : w6.frozen? ⟨g, r * 4 + 1, none⟩ = false := zf 1
      have g2 : w6.frozen? ⟨g, r * 4 + 2, none⟩ = false := zf 2
      have g3 : w6.frozen? ⟨g, r * 4 + 3, none⟩ = false := zf 3
      have HZ := Aside0.mk (hz x (by assumption))
      clear hz zf
      generalize (((P ++ A) ++ x :: y :: (B ++ S)).set k y).getD r mz = pq at *
      refine pu 16 76 (bs 18 131071) ?_
      refine la0 17 (bs 18 262143) (N := none) fun K hK => ?_
      refine sk0 ?_
      refine hK.out _ _ ?_
      clear hK K
      refine dn0 ?_
      have hset : (((P ++ A) ++ x :: y :: (B ++ S)).set k y).set r x = P ++ (A ++ [y]) ++ x :: B ++ S := by
       have h1 := HQ.out
       rw [List.set_append_right _ _ (by simp; omega), List.length_append, show k - (P.length + A.length) = 0 by omega]
       rw [List.set_append_right _ _ (by simp; omega), List.length_append, show r - (P.length + A.length) = 1 by omega]
       simp
      have H7 := Aside0.mk (show kN.R 101 ((((w6.setCell ⟨g, r * 4, none⟩ (.int .i64 x.1)).setCell ⟨g, r * 4 + 1, none⟩ (.int .i64 x.2.1)).setCell ⟨g, r * 4 + 2, none⟩ (.int .i64 x.2.2.1)).setCell ⟨g, r * 4 + 3, none⟩ (.int .i64 x.2.2.2)) base ok (.slice (some ⟨g, 0, none⟩) N cap) (P ++ (A ++ [y]) ++ x :: B ++ S) ∧ w.grownBy ((((w6.setCell ⟨g, r * 4, none⟩ (.int .i64 x.1)).setCell ⟨g, r * 4 + 1, none⟩ (.int .i64 x.2.1)).setCell ⟨g, r * 4 + 2, none⟩ (.int .i64 x.2.2.1)).setCell ⟨g, r * 4 + 3, none⟩ (.int .i64 x.2.2.2)) (some g) from ⟨by rw [← hset]; exact HZ.out.1, H6.out.2.both HZ.out.2⟩)
      clear hset
      go_wp2_with fail
      have h1 := HQ.out
      refine ⟨⟨r, A ++ [y], B, rfl, ⟨by rw [List.length_append, List.length_singleton]; omega, by omega, by rw [h1.2.2.2.2]; simp, H7.out.1, H7.out.2⟩⟩, by simp [intOf]; omega⟩
    ·have hktI : ¬ (k : Int) < (t : Int) := by omega
     have hktI2 : (t : Int) ≤ (k : Int) := by omega
     go_wp2_with fail
     refine bodyPost_ret (results_none rfl _ _ _) rfl ⟨rfl, A ++ x :: B, ?_, ?_, by rw [← List.append_assoc]; exact hJ.out.2.2.2.1, hJ.out.2.2.2.2⟩
     ·rw [hJ.out.2.2.1]
      exact List.perm_middle
     ·have h1 := hJ.out
      have h2 := HM.out
      have h3 := HT.out
      have hYe := h1.2.2.1
      refine sorted_put ordN trivial (fun _ _ => trivial) (by rw [← hYe]; exact hs) (fun z hz => ?_) (fun y hy => ?_)
      ·obtain ⟨i, hi, rfl⟩ := List.getElem_of_mem hz
       have hlen : Y.length = A.length + B.length := by rw [hYe]; simp
       have := hI.out.2.2.2 (p + i) (by omega) (by omega)
       have e : Y.getD (p + i - m) mz = B[i] := by
        rw [hYe, List.getD_eq_getElem?_getD, List.getElem?_append_right (by omega), show p + i - m - A.length = i by omega, List.getElem?_eq_getElem hi]; rfl
       rw [e] at this
       exact ordN.le_of_not trivial trivial (Int.not_lt.2 this)
      ·have hne : A ≠ [] := by rintro rfl; simp at hy
       have hlen : Y.length = A.length + B.length := by rw [hYe]; simp
       have hpos : 0 < A.length := List.length_pos_iff.2 hne
       have := hI.out.2.2.1 (p - 1) (by omega) (by omega)
       have e : Y.getD (p - 1 - m) mz = y := by
        rw [hYe, List.getD_eq_getElem?_getD, List.getElem?_append_left (by omega), show p - 1 - m = A.length - 1 by omega, ← List.getLast?_eq_getElem?, hy]; rfl
       rw [e] at this
       exact Int.le_of_lt this
end Go.Proofs.YtbkfnmgkcgnifaaGreat.Tw
namespace Go.Proofs.YtbkfnmgkcgnifaaGreat.Tw
open Go.RowKit Go.Shelf Go.Proofs.YtbkfnmgkcgnifaaGreatW.PrintWords Go.Proofs.YtbkfnmgkcgnifaaGreatW.PrintLast Mdl
theorem cmpN_lt_le {a b c : Mk} (h : cmpN a b < 0) (k : cmpN b c ≤ 0) : cmpN a c < 0 := by
 have h1 := cmpN_trans (Int.le_of_lt h) k
 by_cases h2 : cmpN a c = 0
 ·have := cmpN_zero.1 h2
  subst this
  have h3 := cmpN_neg a b
  omega
 ·omega
set_option maxRecDepth 8000 in
set_option maxHeartbeats 4000000 in
theorem sym_last (g N cap base : Nat) (ok : Nat → Prop) (P X S : List Mk) (y : Mk) (w : World) (hR : kN.R 101 w base ok (.slice (some ⟨g, 0, none⟩) N cap) (P ++ X ++ y :: S)) (hX : 1 < X.length) (hs : SortedBy cmpN X) (hN : N ≤ 10000000000000) (a m b : Nat) (ha : a = P.length) (hm : m = P.length + X.length) (hb : b = P.length + X.length + 1) :
  Calls Tryz.prog 121 #[.slice (some ⟨g, 0, none⟩) N cap, .int .i64 a, .int .i64 m, .int .i64 b, .func (.func 103) #[] #[]] w (MergePost g N cap base ok P X [y] S w) := by
 have HR := Aside0.mk hR
 have hl := (Kd.R_reads' hR).1
 simp only [List.length_append, List.length_cons] at hl
 obtain ⟨n1, hn1⟩ : ∃ n1, n1 = X.length := ⟨_, rfl⟩
 have wi : IntKind.i64.wrap ((m : Int) - a) = (n1 : Int) := by rw [IntKind.wrap_i64]; omega
 have wj : IntKind.i64.wrap ((b : Int) - m) = 1 := by rw [IntKind.wrap_i64]; omega
 have hn2 : ((n1 : Int) == 1) = false := by simp; omega
 have HM := Lib.hid (And.intro ha (And.intro hm (And.intro hb (And.intro hl hX))))
 clear hR ha hm hb hl hX hn1
 go_enter Tryz.func121, Tryz.ntmps121
 go_wp2
 go_loopw [14, 15] (fun i j wr => ∃ p q : Nat, i = .int .i64 p ∧ j = .int .i64 q ∧ a ≤ p ∧ p ≤ q ∧ q ≤ m ∧ Aside0 (kN.R 101 wr base ok (.slice (some ⟨g, 0, none⟩) N cap) (P ++ X ++ y :: S) ∧ w.grownBy wr (some g) ∧ (∀ k, a ≤ k → k < p → ¬ cmpN y (X.getD (k - a) mz) < 0) ∧ (∀ k, q ≤ k → k < m → cmpN y (X.getD (k - a) mz) < 0))) (fun i j _ => (intOf j).toNat - (intOf i).toNat)
 case atStart => exact ⟨a, m, rfl, rfl, Nat.le_refl _, by have := HM.out; omega, Nat.le_refl _, HR.out, ⟨rfl, rfl, rfl, Nat.le_refl _, fun _ _ _ => rfl⟩, fun k h1 h2 => by omega, fun k h1 h2 => by omega⟩
 case round =>
  obtain ⟨p, q, rfl, rfl, hap, hpq, hqm, hI⟩ := hrel
  by_cases hlt : p < q
  ·have hltI : (p : Int) < (q : Int) := by omega
   have hM := HM.out
   obtain ⟨h, hh⟩ : ∃ h, h = (p + q) / 2 := ⟨_, rfl⟩
   have w1 : IntKind.i64.wrap ((p : Int) + (q : Int)) = (p : Int) + (q : Int) := by rw [IntKind.wrap_i64]; omega
   have w2 : IntKind.u64.wrap ((p : Int) + (q : Int)) = (p : Int) + (q : Int) := by simp only [IntKind.wrap]; simp [IntKind.bits, IntKind.signed]; omega
   have w3 : IntKind.i64.wrap (((p : Int) + (q : Int)) / 2) = (h : Int) := by rw [IntKind.wrap_i64]; omega
   have w4 : IntKind.i64.wrap ((h : Int) + 1) = (h : Int) + 1 := by rw [IntKind.wrap_i64]; omega
   have gx : (P ++ X ++ y :: S).getD h mz = X.getD (h - a) mz := by
    rw [List.getD_eq_getElem?_getD, List.append_assoc, List.getElem?_append_right (by omega), show h - P.length = h - a by omega, List.getElem?_append_left (by omega), List.getD_eq_getElem?_getD]
   have gy : (P ++ X ++ y :: S).getD m mz = y := by
    rw [List.getD_eq_getElem?_getD, List.getElem?_append_right (by simp; omega), List.length_append, show m - (P.length + X.length) = 0 by omega]; rfl
   obtain ⟨⟨c0, c1, c2, c3, cok⟩, _, _⟩ := row_mark hI.out.1 (i := h) (by omega)
   obtain ⟨⟨d0, d1, d2, d3, dok⟩, _, _⟩ := row_mark hI.out.1 (i := m) (by omega)
   rw [gx] at c0 c1 c2 c3 cok
   rw [gy] at d0 d1 d2 d3 dok
   have hh0 : (0 : Int) ≤ (h : Int) := by omega
   have hhN : (h : Int) < (N : Int) := by omega
   have hm0 : (0 : Int) ≤ (m : Int) := by omega
   have hmN : (m : Int) < (N : Int) := by omega
   generalize hy : X.getD (h - a) mz = x at *
   have HY := Lib.hid (And.intro hh hy)
   clear gy gx hM hh hy
   go_upto_region 17 with fail
   refine start_ (n := 12) (S := fun w' => w'.cell? ⟨g, m * 4, none⟩ = some (.int .i64 y.1) ∧ w'.cell? ⟨g, m * 4 + 1, none⟩ = some (.int .i64 y.2.1) ∧ w'.cell? ⟨g, m * 4 + 2, none⟩ = some (.int .i64 y.2.2.1) ∧ w'.cell? ⟨g, m * 4 + 3, none⟩ = some (.int .i64 y.2.2.2) ∧ w'.cell? ⟨g, h * 4, none⟩ = some (.int .i64 x.1) ∧ w'.cell? ⟨g, h * 4 + 1, none⟩ = some (.int .i64 x.2.1) ∧ w'.cell? ⟨g, h * 4 + 2, none⟩ = some (.int .i64 x.2.2.1) ∧ w'.cell? ⟨g, h * 4 + 3, none⟩ = some (.int .i64 x.2.2.2)) (ds := []) (bs 12 0) (by kernel_rfl) rfl (by kernel_rfl) ⟨d0, d1, d2, d3, c0, c1, c2, c3⟩ (fun hHeld => ?_)
   have HD := Aside0.mk (And.intro (Kd.R_drew hI.out.1) (hI.out.2.1.both (grownBy_below (below_drew1 (Below.refl wr.heap.size wr)))))
   clear c0 c1 c2 c3 d0 d1 d2 d3
   generalize wr.drew = wd at *
   refine pu 0 92 (bs 12 1) ?_
   refine pu 1 93 (bs 12 3) ?_
   refine pu 2 94 (bs 12 7) ?_
   refine pu 3 95 (bs 12 15) ?_
   refine tk8 4 96 (bs 12 31) hHeld ?_
   refine pu 5 97 (bs 12 63) ?_
   refine pu 6 98 (bs 12 127) ?_
   refine pu 7 99 (bs 12 255) ?_
   refine tk8 8 100 (bs 12 511) hHeld ?_
   refine on0 9 101 (bs 12 1023) fun K hK => ?_
   have CM := byMarkN_any y x (by assumption) (by assumption) wd
   simp only [mkV] at CM
   refine goesV_ Tryz.func103 (by kernel_rfl) rfl #[.agg #[.int .i64 y.1, .int .i64 y.2.1, .int .i64 y.2.2.1, .int .i64 y.2.2.2], .agg #[.int .i64 x.1, .int .i64 x.2.1, .int .i64 x.2.2.1, .int .i64 x.2.2.2]] (by rfl) rfl rfl rfl (by (try simp only [List.map_toArray, List.map_cons, List.map_nil]); first | done | rfl) ?_
   refine CM.mono ?_
   clear CM
   rintro e w5 ⟨rfl, hb5⟩
   have HS5 := Aside0.mk (And.intro (Kd.R_below HD.out.1 hb5) (HD.out.2.both (grownBy_below hb5)))
   refine ⟨_, rfl, hK.out _ _ ⟨pw_cell_below hb5 hHeld.1, pw_cell_below hb5 hHeld.2.1, pw_cell_below hb5 hHeld.2.2.1, pw_cell_below hb5 hHeld.2.2.2.1, pw_cell_below hb5 hHeld.2.2.2.2.1, pw_cell_below hb5 hHeld.2.2.2.2.2.1, pw_cell_below hb5 hHeld.2.2.2.2.2.2.1, pw_cell_below hb5 hHeld.2.2.2.2.2.2.2⟩ (fun hHeld => ?_)⟩
   clear hb5 HD
   by_cases hcx : cmpN y x < 0
   ·have hcd : decide (cmpN y x < 0) = true := decide_eq_true hcx
    clear hK K
    refine nm0 (some 101) ?_
    refine pu 10 102 (bs 12 2047) ?_
    refine pu 11 103 (bs 12 4095) ?_
    refine dn0 ?_
    clear hHeld
    have HX := Lib.hid hcx
    go_wp2_with fail
    have hY2 := HY.out
    have hM := HM.out
    refine ⟨⟨p, h, rfl, rfl, hap, by omega, by omega, HS5.out.1, HS5.out.2, hI.out.2.2.1, fun k hk1 hk2 => ?_⟩, by simp [intOf]; omega⟩
    refine cmpN_lt_le (b := x) HX.out ?_
    rw [← hY2.2]
    exact sorted_getD hs (show h - a ≤ k - a by omega) (by omega)
   ·skip
    have hcd : decide (cmpN y x < 0) = false := decide_eq_false hcx
    have hcg : 0 ≤ cmpN y x := by omega
    clear hK K
    refine nm0 (some 101) ?_
    refine pu 10 102 (bs 12 2047) ?_
    refine pu 11 103 (bs 12 4095) ?_
    refine dn0 ?_
    clear hHeld
    have HX := Lib.hid hcx
    go_wp2_with fail
    have hY2 := HY.out
    have hM := HM.out
    refine ⟨⟨h + 1, q, by go_num, rfl, by omega, by omega, hqm, HS5.out.1, HS5.out.2, fun k hk1 hk2 hk3 => ?_, hI.out.2.2.2⟩, by simp [intOf]; omega⟩
    refine HX.out (cmpN_lt_le hk3 ?_)
    rw [← hY2.2]
    exact sorted_getD hs (show k - a ≤ h - a by omega) (by omega)
  ·have hltI : ¬ (p : Int) < (q : Int) := by omega
   have hltI2 : (q : Int) ≤ (p : Int) := by omega
   obtain rfl : p = q := by omega
   have HT := Lib.hid (And.intro hap hqm)
   go_wp2_with fail
   go_loopw [17] (fun i wr => ∃ (k : Nat) (A B : List Mk), i = .int .i64 k ∧ Aside0 (k = a + A.length ∧ p ≤ k ∧ X = A ++ B ∧ kN.R 101 wr base ok (.slice (some ⟨g, 0, none⟩) N cap) (P ++ A ++ y :: B ++ S) ∧ w.grownBy wr (some g))) (fun i _ => (intOf i).toNat)
   case atStart => exact ⟨m, X, [], rfl, ⟨by have := HM.out; omega, hqm, by simp, by simpa using hI.out.1, hI.out.2.1⟩⟩
   case round =>
    obtain ⟨k, A, B, rfl, hJ⟩ := hrel
    by_cases hkt : p < k
    ·have hktI : (p : Int) < (k : Int) := by omega
     rcases List.eq_nil_or_concat A with rfl | ⟨A, x, rfl⟩
     ·exfalso
      have h1 := hJ.out.1
      simp at h1
      omega
     ·obtain ⟨hk, hkt2, hXe, hRr, hgr⟩ := hJ.out
      obtain ⟨r, hr⟩ : ∃ r, r = a + A.length := ⟨_, rfl⟩
      have hkr : k = r + 1 := by simp at hk; omega
      have hPa := HM.out.1
      have hrow : P ++ A.concat x ++ y :: B ++ S = (P ++ A) ++ x :: y :: (B ++ S) := by simp
      rw [hrow] at hRr
      have hlen := (Kd.R_reads' hRr).1
      simp only [List.length_append, List.length_cons] at hlen
      have gx : ((P ++ A) ++ x :: y :: (B ++ S)).getD r mz = x := by
       rw [List.getD_eq_getElem?_getD, List.getElem?_append_right (by simp; omega), List.length_append, show r - (P.length + A.length) = 0 by omega]; rfl
      have gy : ((P ++ A) ++ x :: y :: (B ++ S)).getD k mz = y := by
       rw [List.getD_eq_getElem?_getD, List.getElem?_append_right (by simp; omega), List.length_append, show k - (P.length + A.length) = 1 by omega]; rfl
      obtain ⟨⟨c0, c1, c2, c3, cok⟩, cf, _⟩ := row_mark hRr (i := k) (by omega)
      obtain ⟨⟨d0, d1, d2, d3, dok⟩, _, _⟩ := row_mark hRr (i := r) (by omega)
      rw [gy] at c0 c1 c2 c3 cok
      rw [gx] at d0 d1 d2 d3 dok
      have HQ := Lib.hid (And.intro hkr (And.intro hr (And.intro hlen (And.intro hPa hXe))))
      have HJ := Aside0.mk (And.intro hRr hgr)
      have f0 : wr.drew.frozen? ⟨g, k * 4, none⟩ = false := cf 0
      have f1 : wr.drew.frozen? ⟨g, k * 4 + 1, none⟩ = false := cf 1
      have f2 : wr.drew.frozen? ⟨g, k * 4 + 2, none⟩ = false := cf 2
      have f3 : wr.drew.frozen? ⟨g, k * 4 + 3, none⟩ = false := cf 3
      have wk : IntKind.i64.wrap ((k : Int) - 1) = (r : Int) := by rw [IntKind.wrap_i64]; omega
      have hk0 : (0 : Int) ≤ (k : Int) := by omega
      have hkN : (k : Int) < (N : Int) := by omega
      have hr0 : (0 : Int) ≤ (r : Int) := by omega
      have hrN : (r : Int) < (N : Int) := by omega
      clear hk hkt2 hXe hRr hgr hr hkr hPa hrow hlen gx gy cf hJ
      go_upto_region 23 with fail
      refine start_ (n := 18) (S := fun w' => w'.cell? ⟨g, r * 4, none⟩ = some (.int .i64 x.1) ∧ w'.cell? ⟨g, r * 4 + 1, none⟩ = some (.int .i64 x.2.1) ∧ w'.cell? ⟨g, r * 4 + 2, none⟩ = some (.int .i64 x.2.2.1) ∧ w'.cell? ⟨g, r * 4 + 3, none⟩ = some (.int .i64 x.2.2.2) ∧ w'.cell? ⟨g, k * 4, none⟩ = some (.int .i64 y.1) ∧ w'.cell? ⟨g, k * 4 + 1, none⟩ = some (.int .i64 y.2.1) ∧ w'.cell? ⟨g, k * 4 + 2, none⟩ = some (.int .i64 y.2.2.1) ∧ w'.cell? ⟨g, k * 4 + 3, none⟩ = some (.int .i64 y.2.2.2)) (ds := [15, 17]) (bs 18 0) (by kernel_rfl) rfl (by kernel_rfl) ⟨d0, d1, d2, d3, c0, c1, c2, c3⟩ (fun hHeld => ?_)
      have HD := Aside0.mk (And.intro (Kd.R_drew HJ.out.1) (HJ.out.2.both (grownBy_below (below_drew1 (Below.refl wr.heap.size wr)))))
      clear c0 c1 c2 c3 d0 d1 d2 d3
      generalize wr.drew = wd5 at *
      refine pu 0 113 (bs 18 1) ?_
      refine pu 1 114 (bs 18 3) ?_
      refine pu 2 115 (bs 18 7) ?_
      refine pu 3 116 (bs 18 15) ?_
      refine pu 4 117 (bs 18 31) ?_
      refine pu 5 118 (bs 18 63) ?_
      refine pu 6 119 (bs 18 127) ?_
      refine pu 7 120 (bs 18 255) ?_
      refine pu 8 121 (bs 18 511) ?_
      refine tk8 9 122 (bs 18 1023) hHeld ?_
      refine pu 10 123 (bs 18 2047) ?_
      refine pu 11 124 (bs 18 4095) ?_
      refine pu 12 125 (bs 18 8191) ?_
      refine tk8 13 126 (bs 18 16383) hHeld ?_
      refine pu 14 127 (bs 18 32767) ?_
      obtain ⟨_, _, hst⟩ := row_mark HD.out.1 (i := k) (by have := HQ.out; omega)
      have HST := Aside0.mk (hst x (by assumption))
      clear hst
      refine la0 15 (bs 18 65535) (N := none) fun K hK => ?_
      refine sk0 ?_
      refine hK.out _ _ ?_
      clear hK K
      have h6 : kN.R 101 ((((wd5.setCell ⟨g, k * 4, none⟩ (.int .i64 x.1)).setCell ⟨g, k * 4 + 1, none⟩ (.int .i64 x.2.1)).setCell ⟨g, k * 4 + 2, none⟩ (.int .i64 x.2.2.1)).setCell ⟨g, k * 4 + 3, none⟩ (.int .i64 x.2.2.2)) base ok (.slice (some ⟨g, 0, none⟩) N cap) (((P ++ A) ++ x :: y :: (B ++ S)).set k x) ∧ w.grownBy ((((wd5.setCell ⟨g, k * 4, none⟩ (.int .i64 x.1)).setCell ⟨g, k * 4 + 1, none⟩ (.int .i64 x.2.1)).setCell ⟨g, k * 4 + 2, none⟩ (.int .i64 x.2.2.1)).setCell ⟨g, k * 4 + 3, none⟩ (.int .i64 x.2.2.2)) (some g) := ⟨HST.out.1, HD.out.2.both HST.out.2⟩
      have H6 := Aside0.mk h6
      clear h6 hHeld f0 f1 f2 f3
      generalize ((((wd5.setCell ⟨g, k * 4, none⟩ (.int .i64 x.1)).setCell ⟨g, k * 4 + 1, none⟩ (.int .i64 x.2.1)).setCell ⟨g, k * 4 + 2, none⟩ (.int .i64 x.2.2.1)).setCell ⟨g, k * 4 + 3, none⟩ (.int .i64 x.2.2.2)) = w6 at *
      obtain ⟨⟨z0, z1, z2, z3, zok⟩, zf, hz⟩ := row_mark H6.out.1 (i := r) (by have := HQ.out; omega)
      have g0 : w6.frozen? ⟨g, r * 4, none⟩ = false := zf 0
      have g1 : w6.frozen? ⟨g, r * 4 + 1, none⟩ = false := zf 1
      have g2 : w6.frozen? ⟨g, r * 4 + 2, none⟩ = false := zf 2
      have g3 : w6.frozen? ⟨g, r * 4 + 3, none⟩ = false := zf 3
      have HZ := Aside0.mk (hz y (by assumption))
      clear hz zf
      generalize (((P ++ A) ++ x :: y :: (B ++ S)).set k x).getD r mz = pq at *
      refine pu 16 128 (bs 18 131071) ?_
      refine la0 17 (bs 18 262143) (N := none) fun K hK => ?_
      refine sk0 ?_
      refine hK.out _ _ ?_
      clear hK K
      refine dn0 ?_
      have hset : (((P ++ A) ++ x :: y :: (B ++ S)).set k x).set r y = P ++ A ++ y :: (x :: B) ++ S := by
       have h1 := HQ.out
       rw [List.set_append_right _ _ (by simp; omega), List.length_append, show k - (P.length + A.length) = 1 by omega]
       rw [List.set_append_right _ _ (by simp; omega), List.length_append, show r - (P.length + A.length) = 0 by omega]
       simp
      have H7 := Aside0.mk (show kN.R 101 ((((w6.setCell ⟨g, r * 4, none⟩ (.int .i64 y.1)).setCell ⟨g, r * 4 + 1, none⟩ (.int .i64 y.2.1)).setCell ⟨g, r * 4 + 2, none⟩ (.int .i64 y.2.2.1)).setCell ⟨g, r * 4 + 3, none⟩ (.int .i64 y.2.2.2)) base ok (.slice (some ⟨g, 0, none⟩) N cap) (P ++ A ++ y :: (x :: B) ++ S) ∧ w.grownBy ((((w6.setCell ⟨g, r * 4, none⟩ (.int .i64 y.1)).setCell ⟨g, r * 4 + 1, none⟩ (.int .i64 y.2.1)).setCell ⟨g, r * 4 + 2, none⟩ (.int .i64 y.2.2.1)).setCell ⟨g, r * 4 + 3, none⟩ (.int .i64 y.2.2.2)) (some g) from ⟨by rw [← hset]; exact HZ.out.1, H6.out.2.both HZ.out.2⟩)
      clear hset
      go_wp2_with fail
      have h1 := HQ.out
      refine ⟨⟨r, A, x :: B, rfl, ⟨h1.2.1, by omega, by rw [h1.2.2.2.2]; simp, H7.out.1, H7.out.2⟩⟩, by simp [intOf]; omega⟩
    ·have hktI : ¬ (p : Int) < (k : Int) := by omega
     have hktI2 : (k : Int) ≤ (p : Int) := by omega
     go_wp2_with fail
     refine bodyPost_ret (results_none rfl _ _ _) rfl ⟨rfl, A ++ y :: B, ?_, ?_, by rw [← List.append_assoc]; exact hJ.out.2.2.2.1, hJ.out.2.2.2.2⟩
     ·rw [hJ.out.2.2.1]
      exact List.perm_middle.trans (List.perm_append_singleton _ _).symm
     ·have h1 := hJ.out
      have h2 := HM.out
      have hXe := h1.2.2.1
      refine sorted_put ordN trivial (fun _ _ => trivial) (by rw [← hXe]; exact hs) (fun z hz => ?_) (fun x hx => ?_)
      ·obtain ⟨i, hi, rfl⟩ := List.getElem_of_mem hz
       have hlen : X.length = A.length + B.length := by rw [hXe]; simp
       have := hI.out.2.2.2 (p + i) (by omega) (by omega)
       have e : X.getD (p + i - a) mz = B[i] := by
        rw [hXe, List.getD_eq_getElem?_getD, List.getElem?_append_right (by omega), show p + i - a - A.length = i by omega, List.getElem?_eq_getElem hi]; rfl
       rw [e] at this
       exact Int.le_of_lt this
      ·have hne : A ≠ [] := by rintro rfl; simp at hx
       have hlen : X.length = A.length + B.length := by rw [hXe]; simp
       have hpos : 0 < A.length := List.length_pos_iff.2 hne
       have := hI.out.2.2.1 (p - 1) (by omega) (by omega)
       have e : X.getD (p - 1 - a) mz = x := by
        rw [hXe, List.getD_eq_getElem?_getD, List.getElem?_append_left (by omega), show p - 1 - a = A.length - 1 by omega, ← List.getLast?_eq_getElem?, hx]; rfl
       rw [e] at this
       exact ordN.le_of_not trivial trivial (by simpa using this)
end Go.Proofs.YtbkfnmgkcgnifaaGreat.Tw
namespace Go.Proofs.YtbkfnmgkcgnifaaGreat.Tw
open Go.RowKit Go.Shelf Go.Proofs.YtbkfnmgkcgnifaaGreatW.PrintWords Go.Proofs.YtbkfnmgkcgnifaaGreatW.PrintLast Mdl
set_option maxRecDepth 8000 in
set_option maxHeartbeats 4000000 in
theorem symT_any (g N cap base : Nat) (ok : Nat → Prop) (hN : N ≤ 10000000000000) : ∀ (f : Nat) (P X Y S : List Mk) (w : World) (a m b : Nat), X.length + Y.length ≤ f → 0 < X.length → 0 < Y.length → Aside0 (SortedBy cmpN X ∧ SortedBy cmpN Y ∧ kN.R 101 w base ok (.slice (some ⟨g, 0, none⟩) N cap) (P ++ X ++ Y ++ S)) → a = P.length → m = P.length + X.length → b = P.length + X.length + Y.length →
  Calls Tryz.prog 121 #[.slice (some ⟨g, 0, none⟩) N cap, .int .i64 a, .int .i64 m, .int .i64 b, .func (.func 103) #[] #[]] w (MergePost g N cap base ok P X Y S w) := by
 intro f
 induction f with
 | zero => intro P X Y S w a m b hf hX; omega
 | succ f ih =>
  intro P X Y S w a m b hf hX hY hR ha hm hb
  by_cases hX1 : X.length = 1
  ·obtain ⟨x, rfl⟩ := List.length_eq_one_iff.1 hX1
   exact sym_one g N cap base ok P Y S x w (by simpa using hR.out.2.2) hY hR.out.2.1 hN a m b ha (by simpa using hm) (by simpa using hb)
  by_cases hY1 : Y.length = 1
  ·obtain ⟨y, rfl⟩ := List.length_eq_one_iff.1 hY1
   exact sym_last g N cap base ok P X S y w (by simpa using hR.out.2.2) (by omega) hR.out.1 hN a m b ha hm (by simpa using hb)
  have HR := hR
  have hl := (Kd.R_reads' hR.out.2.2).1
  simp only [List.length_append] at hl
  obtain ⟨n1, hn1⟩ : ∃ n1, n1 = X.length := ⟨_, rfl⟩
  obtain ⟨n2, hn2⟩ : ∃ n2, n2 = Y.length := ⟨_, rfl⟩
  obtain ⟨d, hd⟩ : ∃ d, d = (a + b) / 2 := ⟨_, rfl⟩
  have wi : IntKind.i64.wrap ((m : Int) - a) = (n1 : Int) := by rw [IntKind.wrap_i64]; omega
  have wj : IntKind.i64.wrap ((b : Int) - m) = (n2 : Int) := by rw [IntKind.wrap_i64]; omega
  have e1 : ((n1 : Int) == 1) = false := by simp; omega
  have e2 : ((n2 : Int) == 1) = false := by simp; omega
  have w1 : IntKind.i64.wrap ((a : Int) + (b : Int)) = (a : Int) + (b : Int) := by rw [IntKind.wrap_i64]; omega
  have w2 : IntKind.u64.wrap ((a : Int) + (b : Int)) = (a : Int) + (b : Int) := by simp only [IntKind.wrap]; simp [IntKind.bits, IntKind.signed]; omega
  have w3 : IntKind.i64.wrap (((a : Int) + (b : Int)) / 2) = (d : Int) := by rw [IntKind.wrap_i64]; omega
  obtain ⟨nn, hnn⟩ : ∃ nn, nn = d + m := ⟨_, rfl⟩
  have w4 : IntKind.i64.wrap ((d : Int) + (m : Int)) = (nn : Int) := by rw [IntKind.wrap_i64]; omega
  obtain ⟨pp, hpp⟩ : ∃ pp, nn = pp + 1 := ⟨nn - 1, by omega⟩
  have w5 : IntKind.i64.wrap ((nn : Int) - 1) = (pp : Int) := by rw [IntKind.wrap_i64]; omega
  have HM := Lib.hid (And.intro ha (And.intro hm (And.intro hb (And.intro hl (And.intro hn1 (And.intro hn2 (And.intro hd (And.intro hnn hpp))))))))
  have HS := Lib.hid (And.intro hf (And.intro hX (And.intro hY (And.intro hX1 hY1))))
  have IH := Lib.hid ih
  obtain ⟨s0, hs0⟩ : ∃ s0, s0 = if d < m then nn - b else a := ⟨_, rfl⟩
  obtain ⟨r0, hr0⟩ : ∃ r0, r0 = if d < m then d else m := ⟨_, rfl⟩
  have HT := Lib.hid (show s0 ≤ r0 ∧ a ≤ s0 ∧ r0 ≤ m ∧ r0 ≤ d ∧ nn - b ≤ s0 ∧ (s0 = a ∨ s0 = nn - b) ∧ (r0 = d ∨ r0 = m) from by
   by_cases hmd : d < m
   ·rw [if_pos hmd] at hs0 hr0; omega
   ·rw [if_neg hmd] at hs0 hr0; omega)
  have HSR := Lib.hid (And.intro hs0 hr0)
  have w6 : d < m → IntKind.i64.wrap ((nn : Int) - (b : Int)) = ((nn - b : Nat) : Int) := fun h => by rw [IntKind.wrap_i64]; omega
  have W6 := Lib.hid w6
  clear ha hm hb hl hn1 hn2 hd hnn hpp hf hX hY hX1 hY1 ih hs0 hr0 hR w6
  go_enter Tryz.func121, Tryz.ntmps121
  go_upto_if 140 with fail
  go_cut [20, 21] from 138 to 146 (fun s20 s21 wx => s20 = .int .i64 s0 ∧ s21 = .int .i64 r0 ∧ w = wx)
  case first =>
   by_cases hmd : d < m
   ·have hmdI : (d : Int) < (m : Int) := by omega
    have w6 := W6.out hmd
    go_wp2_with fail
    go_meet
    have h := HSR.out
    rw [if_pos hmd, if_pos hmd] at h
    exact ⟨by rw [h.1], by rw [h.2], rfl⟩
   ·have hmdI : ¬ ((d : Int) < (m : Int)) := by omega
    have hmdI2 : (m : Int) ≤ (d : Int) := by omega
    go_wp2_with fail
    go_meet
    have h := HSR.out
    rw [if_neg hmd, if_neg hmd] at h
    exact ⟨by rw [h.1], by rw [h.2], rfl⟩
  case rest =>
   obtain ⟨rfl, rfl, rfl⟩ := hcut
   go_wp2_with fail
   go_loopw [20, 21] (fun i j wr => ∃ p q : Nat, i = .int .i64 p ∧ j = .int .i64 q ∧ s0 ≤ p ∧ p ≤ q ∧ q ≤ r0 ∧ Aside0 (kN.R 101 wr base ok (.slice (some ⟨g, 0, none⟩) N cap) (P ++ X ++ Y ++ S) ∧ w.grownBy wr (some g) ∧ (∀ c, s0 ≤ c → c < p → ¬ cmpN (Y.getD (pp - c - m) mz) (X.getD (c - a) mz) < 0) ∧ (∀ c, q ≤ c → c < r0 → cmpN (Y.getD (pp - c - m) mz) (X.getD (c - a) mz) < 0))) (fun i j _ => (intOf j).toNat - (intOf i).toNat)
   case atStart => exact ⟨s0, r0, rfl, rfl, Nat.le_refl _, by have := HM.out; have := HT.out; omega, Nat.le_refl _, HR.out.2.2, ⟨rfl, rfl, rfl, Nat.le_refl _, fun _ _ _ => rfl⟩, fun k h1 h2 => by omega, fun k h1 h2 => by omega⟩
   case round =>
    obtain ⟨p, q, rfl, rfl, hap, hpq, hqm, hI⟩ := hrel
    by_cases hlt : p < q
    ·have hltI : (p : Int) < (q : Int) := by omega
     have hM := HM.out
     have hT := HT.out
     have hSS := HS.out
     obtain ⟨h, hh⟩ : ∃ h, h = (p + q) / 2 := ⟨_, rfl⟩
     obtain ⟨u, hu⟩ : ∃ u, u = pp - h := ⟨_, rfl⟩
     have w7 : IntKind.i64.wrap ((p : Int) + (q : Int)) = (p : Int) + (q : Int) := by rw [IntKind.wrap_i64]; omega
     have w8 : IntKind.u64.wrap ((p : Int) + (q : Int)) = (p : Int) + (q : Int) := by simp only [IntKind.wrap]; simp [IntKind.bits, IntKind.signed]; omega
     have w9 : IntKind.i64.wrap (((p : Int) + (q : Int)) / 2) = (h : Int) := by rw [IntKind.wrap_i64]; omega
     have w10 : IntKind.i64.wrap ((h : Int) + 1) = (h : Int) + 1 := by rw [IntKind.wrap_i64]; omega
     have w11 : IntKind.i64.wrap ((pp : Int) - (h : Int)) = (u : Int) := by rw [IntKind.wrap_i64]; omega
     have gx : (P ++ X ++ Y ++ S).getD h mz = X.getD (h - a) mz := by
      rw [List.getD_eq_getElem?_getD, List.append_assoc, List.append_assoc, List.getElem?_append_right (by omega), show h - P.length = h - a by omega, List.getElem?_append_left (by omega), List.getD_eq_getElem?_getD]
     have gy : (P ++ X ++ Y ++ S).getD u mz = Y.getD (u - m) mz := by
      rw [List.getD_eq_getElem?_getD, List.append_assoc, List.getElem?_append_right (by simp; omega), List.length_append, show u - (P.length + X.length) = u - m by omega, List.getElem?_append_left (by omega), List.getD_eq_getElem?_getD]
     obtain ⟨⟨c0, c1, c2, c3, cok⟩, _, _⟩ := row_mark hI.out.1 (i := h) (by omega)
     obtain ⟨⟨d0, d1, d2, d3, dok⟩, _, _⟩ := row_mark hI.out.1 (i := u) (by omega)
     rw [gx] at c0 c1 c2 c3 cok
     rw [gy] at d0 d1 d2 d3 dok
     have hh0 : (0 : Int) ≤ (h : Int) := by omega
     have hhN : (h : Int) < (N : Int) := by omega
     have hu0 : (0 : Int) ≤ (u : Int) := by omega
     have huN : (u : Int) < (N : Int) := by omega
     have hyu : Y.getD (pp - h - m) mz = Y.getD (u - m) mz := by rw [hu]
     generalize hy : Y.getD (u - m) mz = y at *
     generalize hx : X.getD (h - a) mz = x at *
     have HY := Lib.hid (And.intro hh (And.intro hu (And.intro hy (And.intro hx hyu))))
     clear gy gx hM hT hSS hh hu hy hx hyu
     go_upto_region 35 with fail
     refine start_ (n := 14) (S := fun w' => w'.cell? ⟨g, h * 4, none⟩ = some (.int .i64 x.1) ∧ w'.cell? ⟨g, h * 4 + 1, none⟩ = some (.int .i64 x.2.1) ∧ w'.cell? ⟨g, h * 4 + 2, none⟩ = some (.int .i64 x.2.2.1) ∧ w'.cell? ⟨g, h * 4 + 3, none⟩ = some (.int .i64 x.2.2.2) ∧ w'.cell? ⟨g, u * 4, none⟩ = some (.int .i64 y.1) ∧ w'.cell? ⟨g, u * 4 + 1, none⟩ = some (.int .i64 y.2.1) ∧ w'.cell? ⟨g, u * 4 + 2, none⟩ = some (.int .i64 y.2.2.1) ∧ w'.cell? ⟨g, u * 4 + 3, none⟩ = some (.int .i64 y.2.2.2)) (ds := []) (bs 14 0) (by kernel_rfl) rfl (by kernel_rfl) ⟨c0, c1, c2, c3, d0, d1, d2, d3⟩ (fun hHeld => ?_)
     have HD := Aside0.mk (And.intro (Kd.R_drew hI.out.1) (hI.out.2.1.both (grownBy_below (below_drew1 (Below.refl wr.heap.size wr)))))
     clear c0 c1 c2 c3 d0 d1 d2 d3
     generalize wr.drew = wd at *
     refine pu 0 158 (bs 14 1) ?_
     refine pu 1 159 (bs 14 3) ?_
     refine pu 2 160 (bs 14 7) ?_
     refine pu 3 161 (bs 14 15) ?_
     refine pu 4 162 (bs 14 31) ?_
     refine pu 5 163 (bs 14 63) ?_
     refine tk8 6 164 (bs 14 127) hHeld ?_
     refine pu 7 165 (bs 14 255) ?_
     refine pu 8 166 (bs 14 511) ?_
     refine pu 9 167 (bs 14 1023) ?_
     refine tk8 10 168 (bs 14 2047) hHeld ?_
     refine on0 11 169 (bs 14 4095) fun K hK => ?_
     have CM := byMarkN_any y x (by assumption) (by assumption) wd
     simp only [mkV] at CM
     refine goesV_ Tryz.func103 (by kernel_rfl) rfl #[.agg #[.int .i64 y.1, .int .i64 y.2.1, .int .i64 y.2.2.1, .int .i64 y.2.2.2], .agg #[.int .i64 x.1, .int .i64 x.2.1, .int .i64 x.2.2.1, .int .i64 x.2.2.2]] (by rfl) rfl rfl rfl (by (try simp only [List.map_toArray, List.map_cons, List.map_nil]); first | done | rfl) ?_
     refine CM.mono ?_
     clear CM
     rintro e w5 ⟨rfl, hb5⟩
     have HS5 := Aside0.mk (And.intro (Kd.R_below HD.out.1 hb5) (HD.out.2.both (grownBy_below hb5)))
     refine ⟨_, rfl, hK.out _ _ ⟨pw_cell_below hb5 hHeld.1, pw_cell_below hb5 hHeld.2.1, pw_cell_below hb5 hHeld.2.2.1, pw_cell_below hb5 hHeld.2.2.2.1, pw_cell_below hb5 hHeld.2.2.2.2.1, pw_cell_below hb5 hHeld.2.2.2.2.2.1, pw_cell_below hb5 hHeld.2.2.2.2.2.2.1, pw_cell_below hb5 hHeld.2.2.2.2.2.2.2⟩ (fun hHeld => ?_)⟩
     clear hb5 HD
     by_cases hcx : cmpN y x < 0
     ·have hcd : decide (cmpN y x < 0) = true := decide_eq_true hcx
      clear hK K
      refine nm0 (some 169) ?_
      refine pu 12 170 (bs 14 8191) ?_
      refine pu 13 171 (bs 14 16383) ?_
      refine dn0 ?_
      clear hHeld
      have HX := Lib.hid hcx
      go_wp2_with fail
      have hY2 := HY.out
      have hM := HM.out
      have hT := HT.out
      refine ⟨⟨p, h, rfl, rfl, hap, by omega, by omega, HS5.out.1, HS5.out.2, hI.out.2.2.1, fun k hk1 hk2 => ?_⟩, by simp [intOf]; omega⟩
      refine cmpN_le_lt (b := y) ?_ (cmpN_lt_le (b := x) HX.out ?_)
      ·rw [← hY2.2.2.2.2]
       exact sorted_getD HR.out.2.1 (show pp - k - m ≤ pp - h - m by omega) (by omega)
      ·rw [← hY2.2.2.2.1]
       exact sorted_getD HR.out.1 (show h - a ≤ k - a by omega) (by omega)
     ·skip
      have hcd : decide (cmpN y x < 0) = false := decide_eq_false hcx
      clear hK K
      refine nm0 (some 169) ?_
      refine pu 12 170 (bs 14 8191) ?_
      refine pu 13 171 (bs 14 16383) ?_
      refine dn0 ?_
      clear hHeld
      have HX := Lib.hid hcx
      go_wp2_with fail
      have hY2 := HY.out
      have hM := HM.out
      have hT := HT.out
      refine ⟨⟨h + 1, q, by go_num, rfl, by omega, by omega, hqm, HS5.out.1, HS5.out.2, fun k hk1 hk2 hk3 => ?_, hI.out.2.2.2⟩, by simp [intOf]; omega⟩
      refine HX.out (cmpN_le_lt (b := Y.getD (pp - k - m) mz) ?_ (cmpN_lt_le (b := X.getD (k - a) mz) hk3 ?_))
      ·rw [← hY2.2.2.2.2]
       exact sorted_getD HR.out.2.1 (show pp - h - m ≤ pp - k - m by omega) (by omega)
      ·rw [← hY2.2.2.2.1]
       exact sorted_getD HR.out.1 (show k - a ≤ h - a by omega) (by omega)
    ·have hpe : p = q := by omega
     subst hpe
     have hltI : ¬ (p : Int) < (p : Int) := by omega
     obtain ⟨e, he⟩ : ∃ e, e = nn - p := ⟨_, rfl⟩
     have w7 : IntKind.i64.wrap ((nn : Int) - (p : Int)) = (e : Int) := by
      have hM := HM.out
      have hT := HT.out
      rw [IntKind.wrap_i64]; omega
     have hM := HM.out
     have hT := HT.out
     obtain ⟨X1, X2, Y1, Y2, eX, eY, l1, l2, sX1, sX2, sY1, sY2, hle⟩ := sym_parts ordN (fun _ _ => trivial) HR.out.1 HR.out.2.1 (p - a) (e - m) (by omega) (by omega) mz
      (fun h1 h2 => by
       have := hI.out.2.2.1 (p - 1) (by omega) (by omega)
       rwa [show pp - (p - 1) - m = e - m by omega, show p - 1 - a = p - a - 1 by omega] at this)
      (fun h1 h2 => by
       have := hI.out.2.2.2 p (by omega) (by omega)
       rwa [show pp - p - m = e - m - 1 by omega] at this)
     have hlX : X.length = X1.length + X2.length := by rw [eX]; simp
     have hlY : Y.length = Y1.length + Y2.length := by rw [eY]; simp
     have hRp : kN.R 101 wr base ok (.slice (some ⟨g, 0, none⟩) N cap) (P ++ X1 ++ X2 ++ (Y1 ++ Y2) ++ S) := by
      have := hI.out.1
      rw [eX, eY] at this
      simpa only [List.append_assoc] using this
     have HP := Aside0.mk (And.intro hRp hI.out.2.1)
     have HN := Lib.hid (show a = P.length ∧ p = P.length + X1.length ∧ m = P.length + X1.length + X2.length ∧ e = m + Y1.length ∧ b = m + Y1.length + Y2.length ∧ d = P.length + X1.length + Y1.length ∧ m ≤ N ∧ b ≤ N ∧ X1.length + Y1.length ≤ f ∧ X2.length + Y2.length ≤ f from by
      have := HS.out
      omega)
     have HQ := Aside0.mk (And.intro sX1 (And.intro sX2 (And.intro sY1 (And.intro sY2 (And.intro hle (And.intro eX eY))))))
     clear hM hT l1 l2 sX1 sX2 sY1 sY2 hle hlX hlY hRp he hI eX eY
     obtain ⟨c1, hc1⟩ : ∃ c1, c1 = decide (p < m ∧ m < e) := ⟨_, rfl⟩
     obtain ⟨c2, hc2⟩ : ∃ c2, c2 = decide (a < p ∧ p < d) := ⟨_, rfl⟩
     obtain ⟨c3, hc3⟩ : ∃ c3, c3 = decide (d < e ∧ e < b) := ⟨_, rfl⟩
     have HC1 := Lib.hid hc1
     have HC2 := Lib.hid hc2
     have HC3 := Lib.hid hc3
     clear hc1 hc2 hc3
     go_upto_region 39 with fail
     go_cut [185] from 178 to 184 (fun s wx => s = .bool c1 ∧ wr = wx)
     case first =>
      by_cases h1 : p < m
      ·have h1I : (p : Int) < (m : Int) := by omega
       by_cases h2 : m < e
       ·have h2I : (m : Int) < (e : Int) := by omega
        go_wp2_with fail
        go_meet
        exact ⟨by rw [HC1.out, decide_eq_true ⟨h1, h2⟩], rfl⟩
       ·have h2I : ¬ ((m : Int) < (e : Int)) := by omega
        have h2J : (e : Int) ≤ (m : Int) := by omega
        go_wp2_with fail
        go_meet
        exact ⟨by rw [HC1.out, decide_eq_false (fun h => h2 h.2)], rfl⟩
      ·have h1I : ¬ ((p : Int) < (m : Int)) := by omega
       have h1J : (m : Int) ≤ (p : Int) := by omega
       go_wp2_with fail
       go_meet
       exact ⟨by rw [HC1.out, decide_eq_false (fun h => h1 h.1)], rfl⟩
     case rest =>
      obtain ⟨rfl, rfl⟩ := hcut
      go_upto_if 185 with fail
      go_cut [] from 186 to 191 (fun wx => Aside0 (kN.R 101 wx base ok (.slice (some ⟨g, 0, none⟩) N cap) (P ++ (X1 ++ Y1) ++ (X2 ++ Y2) ++ S) ∧ w.grownBy wx (some g)))
      case first =>
       cases c1 with
       | true =>
        have HD := Aside0.mk (show Calls Tryz.prog 125 #[.slice (some ⟨g, 0, none⟩) N cap, .int .i64 p, .int .i64 m, .int .i64 e, .func (.func 103) #[] #[]] wr _ from by
         have hn := HN.out
         have hc : p < m ∧ m < e := of_decide_eq_true HC1.out.symm
         exact rotT_any g N cap base ok (P ++ X1) X2 Y1 (Y2 ++ S) (.func (.func 103) #[] #[]) wr (by have := HP.out.1; simpa only [List.append_assoc] using this) (by omega) (by omega) hN p m e (by simp; omega) (by simp; omega) (by simp; omega))
        go_wp2_with fail
        refine HD.out.mono ?_
        rintro e w5 ⟨rfl, hR5, hg5⟩
        have H5 := Aside0.mk (And.intro hR5 hg5)
        clear hR5 hg5
        go_wp2_with fail
        go_meet
        exact ⟨by have := H5.out.1; simpa only [List.append_assoc] using this, HP.out.2.both H5.out.2⟩
       | false =>
        have hz : X2 = [] ∨ Y1 = [] := by
         have hn := HN.out
         have hc : ¬ (p < m ∧ m < e) := of_decide_eq_false HC1.out.symm
         rcases Nat.eq_zero_or_pos X2.length with h | h
         ·exact .inl (List.eq_nil_of_length_eq_zero h)
         ·exact .inr (List.eq_nil_of_length_eq_zero (by omega))
        have HZ := Lib.hid hz
        clear hz
        go_wp2_with fail
        go_meet
        refine ⟨?_, HP.out.2⟩
        have := HP.out.1
        rcases HZ.out with h | h <;> (rw [h] at this ⊢; simpa only [List.append_assoc, List.append_nil, List.nil_append] using this)
      case rest =>
       have HA := hcut
       clear hcut
       go_upto_region 41 with fail
       go_cut [199] from 192 to 198 (fun s w' => s = .bool c2 ∧ wc = w')
       case first =>
        by_cases h1 : a < p
        ·have h1I : (a : Int) < (p : Int) := by omega
         by_cases h2 : p < d
         ·have h2I : (p : Int) < (d : Int) := by omega
          go_wp2_with fail
          go_meet
          exact ⟨by rw [HC2.out, decide_eq_true ⟨h1, h2⟩], rfl⟩
         ·have h2I : ¬ ((p : Int) < (d : Int)) := by omega
          have h2J : (d : Int) ≤ (p : Int) := by omega
          go_wp2_with fail
          go_meet
          exact ⟨by rw [HC2.out, decide_eq_false (fun h => h2 h.2)], rfl⟩
        ·have h1I : ¬ ((a : Int) < (p : Int)) := by omega
         have h1J : (p : Int) ≤ (a : Int) := by omega
         go_wp2_with fail
         go_meet
         exact ⟨by rw [HC2.out, decide_eq_false (fun h => h1 h.1)], rfl⟩
       case rest =>
        obtain ⟨rfl, rfl⟩ := hcut
        go_upto_if 199 with fail
        go_cut [] from 200 to 205 (fun wx => ∃ Z1 : List Mk, Aside0 (Z1.Perm (X1 ++ Y1) ∧ SortedBy cmpN Z1 ∧ kN.R 101 wx base ok (.slice (some ⟨g, 0, none⟩) N cap) (P ++ Z1 ++ (X2 ++ Y2) ++ S) ∧ w.grownBy wx (some g)))
        case first =>
         cases c2 with
         | true =>
          have HD := Aside0.mk (show Calls Tryz.prog 121 #[.slice (some ⟨g, 0, none⟩) N cap, .int .i64 a, .int .i64 p, .int .i64 d, .func (.func 103) #[] #[]] wc _ from by
           have hn := HN.out
           have hc : a < p ∧ p < d := of_decide_eq_true HC2.out.symm
           exact IH.out P X1 Y1 (X2 ++ Y2 ++ S) wc a p d (by omega) (by omega) (by omega) ⟨HQ.out.1, HQ.out.2.2.1, by have := HA.out.1; simpa only [List.append_assoc] using this⟩ hn.1 hn.2.1 (by omega))
          go_wp2_with fail
          refine HD.out.mono ?_
          rintro e w5 ⟨rfl, Z1, hz1, hz2, hR5, hg5⟩
          have H5 := Aside0.mk (And.intro hz1 (And.intro hz2 (And.intro hR5 hg5)))
          clear hz1 hz2 hR5 hg5
          go_wp2_with fail
          go_meet
          exact ⟨Z1, H5.out.1, H5.out.2.1, by have := H5.out.2.2.1; simpa only [List.append_assoc] using this, HA.out.2.both H5.out.2.2.2⟩
         | false =>
          have hz : X1 = [] ∨ Y1 = [] := by
           have hn := HN.out
           have hc : ¬ (a < p ∧ p < d) := of_decide_eq_false HC2.out.symm
           rcases Nat.eq_zero_or_pos X1.length with h | h
           ·exact .inl (List.eq_nil_of_length_eq_zero h)
           ·exact .inr (List.eq_nil_of_length_eq_zero (by omega))
          have HZ := Lib.hid hz
          clear hz
          go_wp2_with fail
          go_meet
          refine ⟨X1 ++ Y1, List.Perm.refl _, ?_, HA.out.1, HA.out.2⟩
          rcases HZ.out with h | h
          ·rw [h, List.nil_append]; exact HQ.out.2.2.1
          ·rw [h, List.append_nil]; exact HQ.out.1
        case rest =>
         obtain ⟨Z1, HB⟩ := hcut
         clear HA HC1 HC2
         go_upto_region 43 with fail
         go_cut [213] from 206 to 212 (fun s w' => s = .bool c3 ∧ wc = w')
         case first =>
          by_cases h1 : d < e
          ·have h1I : (d : Int) < (e : Int) := by omega
           by_cases h2 : e < b
           ·have h2I : (e : Int) < (b : Int) := by omega
            go_wp2_with fail
            go_meet
            exact ⟨by rw [HC3.out, decide_eq_true ⟨h1, h2⟩], rfl⟩
           ·have h2I : ¬ ((e : Int) < (b : Int)) := by omega
            have h2J : (b : Int) ≤ (e : Int) := by omega
            go_wp2_with fail
            go_meet
            exact ⟨by rw [HC3.out, decide_eq_false (fun h => h2 h.2)], rfl⟩
          ·have h1I : ¬ ((d : Int) < (e : Int)) := by omega
           have h1J : (e : Int) ≤ (d : Int) := by omega
           go_wp2_with fail
           go_meet
           exact ⟨by rw [HC3.out, decide_eq_false (fun h => h1 h.1)], rfl⟩
         case rest =>
          obtain ⟨rfl, rfl⟩ := hcut
          have FIN := Lib.hid (fun (Z2 : List Mk) (V : World) (hp : Z2.Perm (X2 ++ Y2)) (hs : SortedBy cmpN Z2) (hr : kN.R 101 V base ok (.slice (some ⟨g, 0, none⟩) N cap) (P ++ Z1 ++ Z2 ++ S)) (hg : w.grownBy V (some g)) =>
           show MergePost g N cap base ok P X Y S w (.returned (.tuple #[])) V from by
            have hq := HQ.out
            refine ⟨rfl, Z1 ++ Z2, ?_, sorted_join HB.out.2.1 hs (fun u hu v hv => hq.2.2.2.2.1 u (HB.out.1.mem_iff.1 hu) v (hp.mem_iff.1 hv)), by simpa only [List.append_assoc] using hr, hg⟩
            rw [hq.2.2.2.2.2.1, hq.2.2.2.2.2.2]
            refine (HB.out.1.append hp).trans ?_
            simp only [List.append_assoc]
            refine List.Perm.append_left _ ?_
            simp only [← List.append_assoc]
            exact List.Perm.append_right _ List.perm_append_comm)
          cases c3 with
          | true =>
           have HD := Aside0.mk (show Calls Tryz.prog 121 #[.slice (some ⟨g, 0, none⟩) N cap, .int .i64 d, .int .i64 e, .int .i64 b, .func (.func 103) #[] #[]] wc _ from by
            have hn := HN.out
            have hl := HB.out.1.length_eq
            rw [List.length_append] at hl
            have hc : d < e ∧ e < b := of_decide_eq_true HC3.out.symm
            exact IH.out (P ++ Z1) X2 Y2 S wc d e b (by omega) (by omega) (by omega) ⟨HQ.out.2.1, HQ.out.2.2.2.1, by have := HB.out.2.2.1; simpa only [List.append_assoc] using this⟩ (by simp; omega) (by simp; omega) (by simp; omega))
           go_wp2_with fail
           refine HD.out.mono ?_
           rintro e w5 ⟨rfl, Z2, hz1, hz2, hR5, hg5⟩
           have H5 := Aside0.mk (And.intro hz1 (And.intro hz2 (And.intro hR5 hg5)))
           clear hz1 hz2 hR5 hg5
           go_wp2_with fail
           exact bodyPost_ret (results_none rfl _ _ _) rfl (FIN.out Z2 w5 H5.out.1 H5.out.2.1 (by simpa only [List.append_assoc] using H5.out.2.2.1) (HB.out.2.2.2.both H5.out.2.2.2))
          | false =>
           have hz : X2 = [] ∨ Y2 = [] := by
            have hn := HN.out
            have hc : ¬ (d < e ∧ e < b) := of_decide_eq_false HC3.out.symm
            rcases Nat.eq_zero_or_pos X2.length with h | h
            ·exact .inl (List.eq_nil_of_length_eq_zero h)
            ·exact .inr (List.eq_nil_of_length_eq_zero (by omega))
           have HZ := Lib.hid hz
           clear hz
           go_wp2_with fail
           refine bodyPost_ret (results_none rfl _ _ _) rfl (FIN.out (X2 ++ Y2) wc (List.Perm.refl _) ?_ HB.out.2.2.1 HB.out.2.2.2)
           rcases HZ.out with h | h
           ·rw [h, List.nil_append]; exact HQ.out.2.2.2.1
           ·rw [h, List.append_nil]; exact HQ.out.2.1
end Go.Proofs.YtbkfnmgkcgnifaaGreat.Tw
namespace Go.Proofs.YtbkfnmgkcgnifaaGreat.Tw
open Go.RowKit Go.Shelf Go.Proofs.YtbkfnmgkcgnifaaGreatW.PrintWords Go.Proofs.YtbkfnmgkcgnifaaGreatW.PrintLast Mdl
def BlkT (s : Nat) (Ls : List (List Mk)) : Prop := ∀ L ∈ Ls, L.length = s ∧ SortedBy cmpN L
set_option maxRecDepth 8000 in
set_option maxHeartbeats 4000000 in
theorem stableT_any (g N cap base : Nat) (ok : Nat → Prop) (l : List Mk) (w : World) (hR : kN.R 101 w base ok (.slice (some ⟨g, 0, none⟩) N cap) l) (hok : ok g) (hN : N ≤ 10000000000000) :
  Calls Tryz.prog 117 #[.slice (some ⟨g, 0, none⟩) N cap, .int .i64 N, .func (.func 103) #[] #[]] w fun e w' => e = .returned (.tuple #[]) ∧ kN.R 101 w' base ok (.slice (some ⟨g, 0, none⟩) N cap) (sortM l) ∧ w.grownBy w' (some g) := by
 have HR := Aside0.mk hR
 have hl := (Kd.R_reads' hR).1
 have HL := Lib.hid hl
 clear hR hl
 go_enter Tryz.func117, Tryz.ntmps117
 go_wp2
 go_loopw [7, 8] (fun i j wr => ∃ (p q : Nat) (Ls : List (List Mk)) (T : List Mk), i = .int .i64 p ∧ j = .int .i64 q ∧ q = p + 20 ∧ p ≤ N ∧ Aside0 (p = Ls.flatten.length ∧ BlkT 20 Ls ∧ (Ls.flatten ++ T).Perm l ∧ kN.R 101 wr base ok (.slice (some ⟨g, 0, none⟩) N cap) (Ls.flatten ++ T) ∧ w.grownBy wr (some g))) (fun _ j _ => N + 1 - (intOf j).toNat)
 case atStart => exact ⟨0, 20, [], l, rfl, rfl, rfl, Nat.zero_le _, rfl, by intro L hL; simp at hL, List.Perm.refl _, HR.out, ⟨rfl, rfl, rfl, Nat.le_refl _, fun _ _ _ => rfl⟩⟩
 case round =>
  obtain ⟨p, q, Ls, T, rfl, rfl, hq, hpN, hI⟩ := hrel
  have hlen : p + T.length = N := by
   have h1 := hI.out.1
   have h2 := (Kd.R_reads' hI.out.2.2.2.1).1
   rw [List.length_append] at h2
   omega
  by_cases hqn : q ≤ N
  ·have hqnI : (q : Int) ≤ (N : Int) := by omega
   have wq : IntKind.i64.wrap ((q : Int) + 20) = (q : Int) + 20 := by rw [IntKind.wrap_i64]; omega
   have hRT : kN.R 101 wr base ok (.slice (some ⟨g, 0, none⟩) N cap) (Ls.flatten ++ T.take 20 ++ T.drop 20) := by
    rw [List.append_assoc, List.take_append_drop]; exact hI.out.2.2.2.1
   have hlT : (T.take 20).length = 20 := by rw [List.length_take]; omega
   have HC := Aside0.mk (insT_any g N cap base ok Ls.flatten (T.take 20) (T.drop 20) wr hRT hok hN p q hI.out.1 (by rw [hlT]; have := hI.out.1; omega))
   have HH := Lib.hid (And.intro hlen (And.intro hlT hq))
   clear hRT hlT hlen hq
   go_wp2_with fail
   refine HC.out.mono ?_
   rintro e w5 ⟨rfl, X', hp, hs, hR5, hg5⟩
   have H5 := Aside0.mk (And.intro hp (And.intro hs (And.intro hR5 hg5)))
   clear hp hs hR5 hg5 HC
   go_wp2_with fail
   have hh := HH.out
   have hx := H5.out.1.length_eq
   refine ⟨⟨q, q + 20, Ls ++ [X'], T.drop 20, rfl, by go_num, rfl, hqn, ?_, ?_, ?_, ?_, hI.out.2.2.2.2.both H5.out.2.2.2⟩, by simp [intOf]; omega⟩
   ·have := hI.out.1
    simp only [List.flatten_append, List.flatten_cons, List.flatten_nil, List.append_nil, List.length_append]; omega
   ·intro L hL
    rcases List.mem_append.1 hL with hL | hL
    ·exact hI.out.2.1 L hL
    ·rw [List.mem_singleton.1 hL]; exact ⟨by omega, H5.out.2.1⟩
   ·refine List.Perm.trans ?_ hI.out.2.2.1
    simp only [List.flatten_append, List.flatten_cons, List.flatten_nil, List.append_nil, List.append_assoc]
    refine List.Perm.append_left _ ?_
    have := H5.out.1.append_right (T.drop 20)
    rwa [List.take_append_drop] at this
   ·have := H5.out.2.2.1
    simpa only [List.flatten_append, List.flatten_cons, List.flatten_nil, List.append_nil, List.append_assoc] using this
  ·have hqnI : ¬ ((q : Int) ≤ (N : Int)) := by omega
   have hqnJ : (N : Int) < (q : Int) := by omega
   have hRT : kN.R 101 wr base ok (.slice (some ⟨g, 0, none⟩) N cap) (Ls.flatten ++ T ++ []) := by
    rw [List.append_nil]; exact hI.out.2.2.2.1
   have HC := Aside0.mk (insT_any g N cap base ok Ls.flatten T [] wr hRT hok hN p N hI.out.1 (by have := hI.out.1; omega))
   have HH := Lib.hid (show T.length < 20 from by omega)
   clear hRT hlen hq
   go_wp2_with fail
   refine HC.out.mono ?_
   rintro e w5 ⟨rfl, X', hp, hs, hR5, hg5⟩
   have H5 := Aside0.mk (show (Ls.flatten ++ X').Perm l ∧ BlkT 20 Ls ∧ SortedBy cmpN X' ∧ X'.length < 20 ∧ kN.R 101 w5 base ok (.slice (some ⟨g, 0, none⟩) N cap) (Ls.flatten ++ X') ∧ w.grownBy w5 (some g) from
    ⟨(hp.append_left _).trans hI.out.2.2.1, hI.out.2.1, hs, by have := hp.length_eq; have := HH.out; omega, by rwa [List.append_nil] at hR5, hI.out.2.2.2.2.both hg5⟩)
   clear hp hs hR5 hg5 HC HH hI
   go_wp2_with fail
   go_loopw [6] (fun i wr => ∃ (s : Nat) (Ls : List (List Mk)) (T : List Mk), i = .int .i64 s ∧ 20 ≤ s ∧ s ≤ 20000000000000 ∧ Aside0 (BlkT s Ls ∧ SortedBy cmpN T ∧ T.length < s ∧ (Ls.flatten ++ T).Perm l ∧ kN.R 101 wr base ok (.slice (some ⟨g, 0, none⟩) N cap) (Ls.flatten ++ T) ∧ w.grownBy wr (some g))) (fun i _ => N - (intOf i).toNat)
   case atStart => exact ⟨20, Ls, X', rfl, Nat.le_refl _, by omega, H5.out.2.1, H5.out.2.2.1, H5.out.2.2.2.1, H5.out.1, H5.out.2.2.2.2.1, H5.out.2.2.2.2.2⟩
   case round =>
    clear H5
    obtain ⟨s, Ls, T, rfl, hs20, hsm, hI⟩ := hrel
    have hlen : Ls.flatten.length + T.length = N := by
     have h2 := (Kd.R_reads' hI.out.2.2.2.2.1).1
     rw [List.length_append] at h2
     omega
    by_cases hsn : s < N
    ·have hsnI : (s : Int) < (N : Int) := by omega
     have ws : IntKind.i64.wrap (2 * (s : Int)) = ((2 * s : Nat) : Int) := by rw [IntKind.wrap_i64]; omega
     have ws2 : IntKind.i64.wrap ((s : Int) * 2) = ((2 * s : Nat) : Int) := by rw [IntKind.wrap_i64]; omega
     have HS := Lib.hid ws2
     clear ws2
     go_wp2_with fail
     go_loopw [7, 8] (fun i j wr => ∃ (p q : Nat) (Ms Ks : List (List Mk)), i = .int .i64 p ∧ j = .int .i64 q ∧ q = p + 2 * s ∧ p ≤ N ∧ Aside0 (p = Ms.flatten.length ∧ BlkT (2 * s) Ms ∧ BlkT s Ks ∧ (Ms.flatten ++ Ks.flatten ++ T).Perm l ∧ kN.R 101 wr base ok (.slice (some ⟨g, 0, none⟩) N cap) (Ms.flatten ++ Ks.flatten ++ T) ∧ w.grownBy wr (some g))) (fun _ j _ => N + 1 - (intOf j).toNat)
     case atStart => exact ⟨0, 2 * s, [], Ls, rfl, rfl, by omega, Nat.zero_le _, rfl, by intro L hL; simp at hL, hI.out.1, by simpa using hI.out.2.2.2.1, by simpa using hI.out.2.2.2.2.1, hI.out.2.2.2.2.2⟩
     case round =>
      obtain ⟨p, q, Ms, Ks, rfl, rfl, hq, hpN, hJ⟩ := hrel
      have hlen2 : p + Ks.flatten.length + T.length = N := by
       have h1 := hJ.out.1
       have h2 := (Kd.R_reads' hJ.out.2.2.2.2.1).1
       rw [List.length_append, List.length_append] at h2
       omega
      have HTS := Lib.hid (And.intro hI.out.2.1 hI.out.2.2.1)
      by_cases hqn : q ≤ N
      ·have hqnI : (q : Int) ≤ (N : Int) := by omega
       match Ks, hJ, hlen2 with
       | [], hJ, hlen2 => exact absurd hlen2 (by have := HTS.out.2; simp; omega)
       | [K1], hJ, hlen2 => exact absurd hlen2 (by have := HTS.out.2; have := (hJ.out.2.2.1 K1 List.mem_cons_self).1; simp; omega)
       | K1 :: K2 :: Ks, hJ, hlen2 =>
        have h1 := hJ.out.2.2.1 K1 List.mem_cons_self
        have h2 := hJ.out.2.2.1 K2 (List.mem_cons_of_mem _ List.mem_cons_self)
        have h3 : BlkT s Ks := fun L hL => hJ.out.2.2.1 L (List.mem_cons_of_mem _ (List.mem_cons_of_mem _ hL))
        have hrow : Ms.flatten ++ (K1 :: K2 :: Ks).flatten ++ T = Ms.flatten ++ K1 ++ K2 ++ (Ks.flatten ++ T) := by simp
        have hrw := hJ.out.2.2.2.2.1
        have hpm := hJ.out.2.2.2.1
        rw [hrow] at hrw hpm
        have wps : IntKind.i64.wrap ((p : Int) + (s : Int)) = ((p + s : Nat) : Int) := by rw [IntKind.wrap_i64]; omega
        have wqs : IntKind.i64.wrap ((q : Int) + ((2 * s : Nat) : Int)) = ((q + 2 * s : Nat) : Int) := by rw [IntKind.wrap_i64]; omega
        have HC := Aside0.mk (symT_any g N cap base ok hN (K1.length + K2.length) Ms.flatten K1 K2 (Ks.flatten ++ T) wr p (p + s) q (Nat.le_refl _) (by omega) (by omega) ⟨h1.2, h2.2, hrw⟩ hJ.out.1 (by have := hJ.out.1; omega) (by have := hJ.out.1; omega))
        have HH := Aside0.mk (And.intro hq (And.intro hJ.out (And.intro h1 (And.intro h2 (And.intro h3 (And.intro hpm hlen2))))))
        clear h1 h2 h3 hrow hrw hpm hq hlen2 hJ
        go_wp2_with fail
        refine HC.out.mono ?_
        rintro e w5 ⟨rfl, Z, hz1, hz2, hR5, hg5⟩
        have H5 := Aside0.mk (And.intro hz1 (And.intro hz2 (And.intro hR5 hg5)))
        clear hz1 hz2 hR5 hg5 HC
        go_wp2_with fail
        have hh := HH.out
        have hzl := H5.out.1.length_eq
        rw [List.length_append] at hzl
        refine ⟨⟨q, q + 2 * s, Ms ++ [Z], Ks, rfl, by go_num, rfl, hqn, ?_, ?_, hh.2.2.2.2.1, ?_, ?_, hh.2.1.2.2.2.2.2.both H5.out.2.2.2⟩, by simp [intOf]; omega⟩
        ·have h1 := hh.1
         have h2 := hh.2.1.1
         have h3 := hh.2.2.1.1
         have h4 := hh.2.2.2.1.1
         simp only [List.flatten_append, List.flatten_cons, List.flatten_nil, List.append_nil, List.length_append]; omega
        ·intro L hL
         rcases List.mem_append.1 hL with hL | hL
         ·exact hh.2.1.2.1 L hL
         ·rw [List.mem_singleton.1 hL]
          exact ⟨by have h3 := hh.2.2.1.1; have h4 := hh.2.2.2.1.1; omega, H5.out.2.1⟩
        ·refine List.Perm.trans ?_ hh.2.2.2.2.2.1
         simp only [List.flatten_append, List.flatten_cons, List.flatten_nil, List.append_nil, List.append_assoc]
         refine List.Perm.append_left _ ?_
         simp only [← List.append_assoc]
         exact (H5.out.1.append_right _).append_right _
        ·have := H5.out.2.2.1
         simpa only [List.flatten_append, List.flatten_cons, List.flatten_nil, List.append_nil, List.append_assoc] using this
      ·have hqnI : ¬ ((q : Int) ≤ (N : Int)) := by omega
       have hqnJ : (N : Int) < (q : Int) := by omega
       have wps : IntKind.i64.wrap ((p : Int) + (s : Int)) = ((p + s : Nat) : Int) := by rw [IntKind.wrap_i64]; omega
       have wsx := HS.out
       have FIN := Lib.hid (fun (Z : List Mk) (V : World) (h1 : SortedBy cmpN Z) (h2 : Z.length < 2 * s) (h3 : (Ms.flatten ++ Z).Perm l) (h4 : kN.R 101 V base ok (.slice (some ⟨g, 0, none⟩) N cap) (Ms.flatten ++ Z)) (h5 : w.grownBy V (some g)) =>
        show ∃ (s1 : Nat) (Ls : List (List Mk)) (T : List Mk), Value.int .i64 ((2 * s : Nat) : Int) = .int .i64 s1 ∧ 20 ≤ s1 ∧ s1 ≤ 20000000000000 ∧ Aside0 (BlkT s1 Ls ∧ SortedBy cmpN T ∧ T.length < s1 ∧ (Ls.flatten ++ T).Perm l ∧ kN.R 101 V base ok (.slice (some ⟨g, 0, none⟩) N cap) (Ls.flatten ++ T) ∧ w.grownBy V (some g)) from
        ⟨2 * s, Ms, Z, rfl, by omega, by omega, hJ.out.2.1, h1, h2, h3, h4, h5⟩)
       by_cases hm : p + s < N
       ·have hmI : ((p + s : Nat) : Int) < (N : Int) := by omega
        match Ks, hJ, hlen2 with
        | [], hJ, hlen2 => exact absurd hlen2 (by have := HTS.out.2; simp; omega)
        | K1 :: K2 :: Ks, hJ, hlen2 => exact absurd hlen2 (by have := (hJ.out.2.2.1 K1 List.mem_cons_self).1; have := (hJ.out.2.2.1 K2 (List.mem_cons_of_mem _ List.mem_cons_self)).1; simp only [List.flatten_cons, List.length_append]; omega)
        | [K1], hJ, hlen2 =>
         have h1 := hJ.out.2.2.1 K1 List.mem_cons_self
         have hrow : Ms.flatten ++ [K1].flatten ++ T = Ms.flatten ++ K1 ++ T ++ [] := by simp
         have hrw := hJ.out.2.2.2.2.1
         have hpm := hJ.out.2.2.2.1
         rw [hrow] at hrw hpm
         have hl1 : p + K1.length + T.length = N := by simpa using hlen2
         have HC := Aside0.mk (symT_any g N cap base ok hN (K1.length + T.length) Ms.flatten K1 T [] wr p (p + s) N (Nat.le_refl _) (by omega) (by omega) ⟨h1.2, HTS.out.1, hrw⟩ hJ.out.1 (by have := hJ.out.1; omega) (by have := hJ.out.1; omega))
         have HH := Aside0.mk (And.intro hJ.out (And.intro h1 (And.intro hpm hl1)))
         clear h1 hrow hrw hpm hq hlen2 hJ hl1
         go_wp2_with fail
         refine HC.out.mono ?_
         rintro e w5 ⟨rfl, Z, hz1, hz2, hR5, hg5⟩
         have H5 := Aside0.mk (And.intro hz1 (And.intro hz2 (And.intro hR5 hg5)))
         clear hz1 hz2 hR5 hg5 HC
         go_wp2_with fail
         have hzl := H5.out.1.length_eq
         rw [List.length_append] at hzl
         have h3 := HH.out.2.1.1
         refine ⟨FIN.out Z w5 H5.out.2.1 (by have := HTS.out.2; omega) ?_ (by simpa only [List.append_nil, List.append_assoc] using H5.out.2.2.1) (HH.out.1.2.2.2.2.2.both H5.out.2.2.2), by simp [intOf]; omega⟩
         refine List.Perm.trans (List.Perm.append_left _ H5.out.1) ?_
         have := HH.out.2.2.1
         simpa only [List.append_nil, List.append_assoc] using this
       ·have hmI : ¬ (((p + s : Nat) : Int) < (N : Int)) := by omega
        have hmJ : (N : Int) ≤ ((p + s : Nat) : Int) := by omega
        have hz : ∃ Z, SortedBy cmpN Z ∧ Z.length < 2 * s ∧ Ms.flatten ++ Ks.flatten ++ T = Ms.flatten ++ Z := by
         match Ks, hJ, hlen2 with
         | [], hJ, hlen2 => exact ⟨T, HTS.out.1, by have := HTS.out.2; omega, by simp⟩
         | K1 :: K2 :: Ks, hJ, hlen2 => exact absurd hlen2 (by have := (hJ.out.2.2.1 K1 List.mem_cons_self).1; have := (hJ.out.2.2.1 K2 (List.mem_cons_of_mem _ List.mem_cons_self)).1; simp only [List.flatten_cons, List.length_append]; omega)
         | [K1], hJ, hlen2 =>
          have h1 := hJ.out.2.2.1 K1 List.mem_cons_self
          have hl1 : p + K1.length + T.length = N := by simpa using hlen2
          have h3 : T = [] := List.eq_nil_of_length_eq_zero (by omega)
          exact ⟨K1, h1.2, by omega, by rw [h3]; simp⟩
        have HZ := Aside0.mk hz
        clear hz hlen2 hq
        go_wp2_with fail
        obtain ⟨Z, hz1, hz2, hz3⟩ := HZ.out
        have h3 := hJ.out.2.2.2
        rw [hz3] at h3
        exact ⟨FIN.out Z wr hz1 hz2 h3.1 h3.2.1 h3.2.2, by simp [intOf]; omega⟩
    ·have hsnI : ¬ ((s : Int) < (N : Int)) := by omega
     have hsnJ : (N : Int) ≤ (s : Int) := by omega
     go_wp2_with fail
     go_end0
     refine ⟨rfl, ?_, hI.out.2.2.2.2.2⟩
     have he : Ls.flatten ++ T = sortM l := sortL_eq ordN (fun _ _ => trivial) hI.out.2.2.2.1 (by
      cases Ls with
      | nil => simpa using hI.out.2.1
      | cons L Ls =>
       have h1 := hI.out.1 L List.mem_cons_self
       simp only [List.flatten_cons, List.length_append] at hlen
       have h2 : Ls.flatten = [] := List.eq_nil_of_length_eq_zero (by omega)
       have h3 : T = [] := List.eq_nil_of_length_eq_zero (by omega)
       rw [List.flatten_cons, h2, h3]
       simpa using h1.2)
     rw [← he]
     exact hI.out.2.2.2.2.1
set_option maxRecDepth 8000 in
theorem sortT_any (g N cap base : Nat) (ok : Nat → Prop) (l : List Mk) (w : World) (hR : kN.R 101 w base ok (.slice (some ⟨g, 0, none⟩) N cap) l) (hok : ok g) (hN : N ≤ 10000000000000) :
  Calls Tryz.prog 102 #[.slice (some ⟨g, 0, none⟩) N cap, .func (.func 103) #[] #[]] w fun e w' => e = .returned (.tuple #[]) ∧ kN.R 101 w' base ok (.slice (some ⟨g, 0, none⟩) N cap) (sortM l) ∧ w.grownBy w' (some g) := by
 have HC := Aside0.mk (stableT_any g N cap base ok l w hR hok hN)
 clear hR
 go_enter Tryz.func102, Tryz.ntmps102
 go_wp2_with fail
 refine HC.out.mono ?_
 rintro e w5 ⟨rfl, hR5, hg5⟩
 go_wp2_with fail
 go_end0
 exact ⟨rfl, hR5, hg5⟩
set_option maxRecDepth 8000 in
set_option maxHeartbeats 1000000 in
theorem sortedT_any (A : Option Addr) (c : Nat) (l : List Mk) (w : World) (hl : kN.C w A l.length l) (hn : l.length * 32 ≤ 140737488355328) :
  Calls Tryz.prog 77 #[.slice A l.length c, .agg #[.func (.func 103) #[] #[]]] w fun e w' =>
   ∃ v, e = .returned v ∧ kN.R 101 w' w.heap.size (fun _ => True) v (sortM l) ∧ Below w.heap.size w w' := by
 have HL := Aside0.mk hl
 have HLL := Aside0.mk (rfl : l.length = l.length)
 have hmf : ∀ (w : World) , (Instr.field 142 (.agg #[.func (.func 103) #[] #[]]) 0).run Tryz.prog w = .ok (.func (.func 103) #[] #[]) w := fun _ => by kernel_rfl
 have HB1 := Aside0.mk (below_new w (.cells #[.func (.func 103) #[] #[]] 142))
 clear hl
 go_enter Tryz.func77, Tryz.ntmps77
 go_upto_region 2 with (at_make; go_must (refine Kd.R_make kN (w0 := w) w.heap.size 101 rfl (N := 8) rfl _ _ _ rfl l.length rfl rfl Tryz.underlying115 _ 32 Tryz.infoMark rfl (by decide) (by decide) ((0, 0, 0, 0) : Mk) (ok := fun _ => True) (okp := fun _ => False) (kN_M _ ⟨by decide, by decide⟩) (fun _ h => h.elim) trivial (by omega) (by omega) HB1.out HB1.out.size ?_); intro v1 w3 hR3 hb3 hg3 hown3)
 obtain ⟨b, hvb, hbw⟩ := hown3
 obtain ⟨_, hown⟩ := Kd.R_own hR3
 obtain ⟨g, cap, rfl⟩ : ∃ g cap, v1 = .slice (some ⟨g, 0, none⟩) l.length cap := by
  rcases hown.2 with ⟨rfl, _⟩ | ⟨g, cap, cur, hv, _⟩
  ·cases hvb
  ·exact ⟨g, cap, by simpa using hv⟩
 have hcp : ∃ w4, (Builtin.copy_ #[115, 115] 3 #[.slice (some ⟨g, 0, none⟩) l.length cap, .slice A l.length c]).run Tryz.prog w3 = .ok (.int .i64 (l.length : Int)) w4 ∧ kN.R 101 w4 w.heap.size (fun _ => True) (.slice (some ⟨g, 0, none⟩) l.length cap) l ∧ w3.grownBy w4 (some g) :=
  copy_all (P := Tryz.prog) kN 115 115 3 rfl (by kernel_rfl) hR3 (Kd.C_below HL.out hb3) (kN_KM _) (by decide)
 obtain ⟨w4, hrun, hR4, hg4⟩ := hcp
 have hz : (w.alloc (.cells #[.func (.func 103) #[] #[]] 142)).heap.size = w.heap.size + 1 := by simp
 have hgb : g = b := by injection hvb
 have hc0 : w4.cell? ⟨w.heap.size, 0, none⟩ = some (.func (.func 103) #[] #[]) := by
  refine cell_grown hg4 (cell_grown hg3 (new_cell w _ _ 0) (by simp)) (fun he => ?_)
  injection he with he
  have : w.heap.size = g := he
  omega
 have HB4 := Aside0.mk (And.intro hR4 (hb3.grown hg4 hb3.size (fun k hk => by injection hk with hk; omega)))
 have HRUN := Lib.hid hrun
 clear hb3 hg3 hbw hR4 hg4 hz hgb hrun hvb hR3 hown
 go_wp2_with (with_reducible refine copy_event rfl (.tmp 9) (.tmp 10) _ _ rfl (.slice (some ⟨g, 0, none⟩) l.length cap) (.slice A l.length c) _ rfl rfl HRUN.out ?_)
 refine (sortT_any g l.length cap w.heap.size (fun _ => True) l w4 HB4.out.1 trivial (by omega)).mono ?_
 rintro e w5 ⟨rfl, hR5, hg5⟩
 have H5 := Aside0.mk (And.intro hR5 (HB4.out.2.grown hg5 HB4.out.2.size (fun k hk => by injection hk with hk; subst hk; exact Kd.R_base HB4.out.1 g rfl)))
 clear hR5 hg5
 go_wp2_with fail
 go_ret
 exact ⟨_, rfl, H5.out.1, H5.out.2⟩
end Go.Proofs.YtbkfnmgkcgnifaaGreat.Tw
namespace Go.Proofs.YtbkfnmgkcgnifaaGreat
open Go.RowKit Go.Shelf Go.Proofs.YtbkfnmgkcgnifaaGreatW.PrintWords Go.Proofs.YtbkfnmgkcgnifaaGreatW.PrintLast Mdl Go.ChangeMaps
theorem sortM_perm {l m : List Mk} (h : l.Perm m) : sortM l = sortM m := by
 obtain ⟨h1, h2⟩ := sortL_spec ordN (l := l) (fun _ _ => trivial)
 exact sortL_eq ordN (fun _ _ => trivial) (h2.trans h) h1
theorem nodup_of_map {α β : Type} (f : α → β) : ∀ {l : List α}, (l.map f).Nodup → l.Nodup
 | [], _ => List.nodup_nil
 | a :: l, h => by
  rw [List.map_cons, List.nodup_cons] at h
  exact List.nodup_cons.2 ⟨fun hm => h.1 (List.mem_map.2 ⟨a, hm, rfl⟩), nodup_of_map f h.2⟩
theorem inj_of_map {α β : Type} (f : α → β) : ∀ {l : List α}, (l.map f).Nodup → ∀ {x y}, x ∈ l → y ∈ l → f x = f y → x = y
 | a :: l, h, x, y, hx, hy, he => by
  rw [List.map_cons, List.nodup_cons] at h
  rcases List.mem_cons.1 hx with rfl | hx1 <;> rcases List.mem_cons.1 hy with rfl | hy1
  ·rfl
  ·exact absurd (List.mem_map.2 ⟨y, hy1, he.symm⟩) h.1
  ·exact absurd (List.mem_map.2 ⟨x, hx1, he⟩) h.1
  ·exact inj_of_map f h.2 hx1 hy1 he
theorem sub_len {α : Type} [DecidableEq α] : ∀ {T es : List α}, T.Nodup → (∀ e ∈ T, e ∈ es) → T.length ≤ es.length
 | [], _, _, _ => Nat.zero_le _
 | a :: T, es, hn, hs => by
  rw [List.nodup_cons] at hn
  have h := sub_len (T := T) (es := es.erase a) hn.2 (fun e he => (List.mem_erase_of_ne (fun h : e = a => hn.1 (h ▸ he))).2 (hs e (List.mem_cons_of_mem _ he)))
  have ha := hs a List.mem_cons_self
  rw [List.length_erase_of_mem ha] at h
  have := List.length_pos_of_mem ha
  rw [List.length_cons]; omega
theorem perm_of_mem {α : Type} [DecidableEq α] : ∀ {T es : List α}, T.Nodup → es.Nodup → (∀ e, e ∈ T ↔ e ∈ es) → T.Perm es
 | [], es, _, _, h => by
  cases es with
  | nil => exact List.Perm.refl _
  | cons a l => exact absurd ((h a).2 List.mem_cons_self) (by simp)
 | a :: T, es, hn, hm, h => by
  rw [List.nodup_cons] at hn
  have ha := (h a).1 List.mem_cons_self
  refine List.Perm.trans (List.Perm.cons a (perm_of_mem (es := es.erase a) hn.2 (hm.erase a) (fun e => ?_))) (List.perm_cons_erase ha).symm
  rw [hm.mem_erase_iff]
  constructor
  ·intro he
   exact ⟨fun h2 => hn.1 (h2 ▸ he), (h e).1 (List.mem_cons_of_mem _ he)⟩
  ·intro he
   rcases List.mem_cons.1 ((h e).2 he.2) with h2 | h2
   ·exact absurd h2 he.1
   ·exact h2
structure IterAt (w : World) (b r : Nat) (es : List Ent) (clock : Nat) (T : List Ent) : Prop where
 hb : w.heap[b]? = some (.map (es.map entV).toArray clock)
 hr : w.heap[r]? = some (.mapIter (some b) clock (T.map (·.2.2)).toArray clock)
 sub : ∀ e ∈ T, e ∈ es
 nd : (T.map (·.2.2)).Nodup
theorem IterAt.len {w : World} {b r : Nat} {es : List Ent} {clock : Nat} {T : List Ent} (h : IterAt w b r es clock T) : T.length ≤ es.length := by
 exact sub_len (nodup_of_map _ h.nd) h.sub
theorem IterAt.move {w w' : World} {b r : Nat} {es : List Ent} {clock : Nat} {T : List Ent} (h : IterAt w b r es clock T) (h1 : w'.heap[b]? = w.heap[b]?) (h2 : w'.heap[r]? = w.heap[r]?) : IterAt w' b r es clock T := ⟨h1.trans h.hb, h2.trans h.hr, h.sub, h.nd⟩
theorem IterAt.next {w : World} {b r : Nat} {es : List Ent} {clock : Nat} {T : List Ent} (h : IterAt w b r es clock T) (hc : ∀ e ∈ es, e.2.2 < clock) (hn : (es.map (·.2.2)).Nodup) (hbr : b ≠ r) (ty : TypeId) :
  (T.Perm es ∧ (Instr.next (.pointer (some ⟨r, 0, none⟩)) false ty).run Tryz.prog w = .ok (.tuple #[.bool false]) w) ∨
  ∃ e w1, e ∈ es ∧ (Instr.next (.pointer (some ⟨r, 0, none⟩)) false ty).run Tryz.prog w = .ok (.tuple #[.bool true, mkV e.1, .int .i64 e.2.1]) w1 ∧ w.grownBy w1 (some r) ∧ w1.heap.size = w.heap.size ∧ IterAt w1 b r es clock (T ++ [e]) ∧
   (Instr.entry (.pointer (some ⟨r, 0, none⟩))).run Tryz.prog w1 = .ok (.tuple #[mkV e.1, .int .i64 e.2.1]) w1 := by
 have hseen : ∀ e ∈ es, ((T.map (·.2.2)).toArray.contains e.2.2 = true ↔ e ∈ T) := by
  intro e he
  rw [List.contains_toArray, List.contains_iff_mem]
  constructor
  ·intro hm
   obtain ⟨x, hx, hxe⟩ := List.mem_map.1 hm
   have : x = e := inj_of_map _ hn (h.sub x hx) he hxe
   exact this ▸ hx
  ·intro hm; exact List.mem_map.2 ⟨e, hm, rfl⟩
 rcases run_next_at (P := Tryz.prog) w ty r b clock clock (T.map (·.2.2)).toArray (es.map entV).toArray clock h.hr h.hb (by
   intro x hx
   rw [List.toList_toArray] at hx
   obtain ⟨e, he, rfl⟩ := List.mem_map.1 hx
   exact hc e he) (Nat.le_refl _) with ⟨h0, hrun⟩ | ⟨x, hx, w1, hw1, hrun⟩
 ·refine .inl ⟨?_, hrun⟩
  have hall : ∀ e ∈ es, e ∈ T := by
   intro e he
   refine (hseen e he).1 ?_
   refine Decidable.byContradiction fun hcn => ?_
   have : entV e ∈ leftOf (es.map entV).toArray (T.map (·.2.2)).toArray := by
    unfold leftOf
    rw [Array.mem_filter]
    refine ⟨by rw [List.mem_toArray]; exact List.mem_map.2 ⟨e, he, rfl⟩, ?_⟩
    show (!(T.map (·.2.2)).toArray.contains e.2.2) = true
    rw [Bool.not_eq_true', ← Bool.not_eq_true]; exact hcn
   have := Array.size_pos_of_mem this
   omega
  exact perm_of_mem (nodup_of_map _ h.nd) (nodup_of_map _ hn) (fun e => ⟨h.sub e, hall e⟩)
 ·have hx := Array.mem_toList_iff.1 hx
  unfold leftOf at hx
  rw [Array.mem_filter, List.mem_toArray] at hx
  obtain ⟨hx1, hx2⟩ := hx
  obtain ⟨e, he, rfl⟩ := List.mem_map.1 hx1
  have hx2 : (!(T.map (·.2.2)).toArray.contains e.2.2) = true := hx2
  have hnt : e ∉ T := fun ht => by
   rw [(hseen e he).2 ht] at hx2
   cases hx2
  have hw1h : w1.heap = w.heap := by rcases hw1 with rfl | rfl <;> rfl
  have hw1g : w.grownBy w1 (some r) := by rcases hw1 with rfl | rfl <;> exact ⟨rfl, rfl, rfl, Nat.le_refl _, fun _ _ _ => rfl⟩
  have e1 : (T.map (·.2.2)).toArray.push e.2.2 = ((T ++ [e]).map (·.2.2)).toArray := by simp
  have hr1 : w1.heap[r]? = some (.mapIter (some b) clock (T.map (·.2.2)).toArray clock) := by rw [hw1h]; exact h.hr
  have hrr : (setBlock w1 r (.mapIter (some b) clock ((T.map (·.2.2)).toArray.push e.2.2) clock)).heap[r]? = some (.mapIter (some b) clock ((T.map (·.2.2)).toArray.push e.2.2) clock) := setBlock_at hr1
  have hbb : (setBlock w1 r (.mapIter (some b) clock ((T.map (·.2.2)).toArray.push e.2.2) clock)).heap[b]? = some (.map (es.map entV).toArray clock) := by
   have := (setBlock_grown w1 r (.mapIter (some b) clock ((T.map (·.2.2)).toArray.push e.2.2) clock)).block b (by rw [hw1h]; exact blk_lt h.hb) (fun he => hbr (by injection he))
   rw [this, hw1h]; exact h.hb
  refine .inr ⟨e, _, he, hrun, hw1g.both (setBlock_grown _ _ _), by simp [setBlock, hw1h], ⟨hbb, by rw [← e1]; exact hrr, fun x hx => ?_, ?_⟩, ?_⟩
  ·rcases List.mem_append.1 hx with hx | hx
   ·exact h.sub x hx
   ·rw [List.mem_singleton.1 hx]; exact he
  ·rw [List.map_append, List.nodup_append]
   refine ⟨h.nd, by simp, fun x hx y hy => ?_⟩
   obtain ⟨z, hz, rfl⟩ := List.mem_map.1 hx
   have hy : y = e.2.2 := by simpa using hy
   subst hy
   intro hze
   exact hnt (inj_of_map _ hn (h.sub z hz) he hze ▸ hz)
  ·exact run_entry_at (P := Tryz.prog) _ r b clock (T.map (fun x : Ent => x.2.2)).toArray (es.map entV).toArray clock (entV e) hrr hbb (by rw [List.toList_toArray]; exact hx1) (by
    rw [List.toList_toArray, List.map_map]; exact hn)
def sliceLen : Value → Nat
 | .slice _ n _ => n
 | _ => 0
theorem run_range_led {w : World} {b : Nat} {es : List Ent} {clock : Nat} (hb : w.heap[b]? = some (.map (es.map entV).toArray clock)) :
  (Instr.range 86 (.map (some b))).run Tryz.prog w = .ok (.pointer (some ⟨w.heap.size, 0, none⟩)) (w.alloc (.mapIter (some b) clock #[] clock)) := by
 have hu : (underlying 86).run Tryz.prog w = .ok (.map 101 3) w := by kernel_rfl
 simp only [Instr.range, Sem.run_bind, hu, Result.andThen_ok, MapKept.run_getObj_map hb]
 rfl
set_option maxRecDepth 8000 in
set_option maxHeartbeats 4000000 in
theorem marks_any (b : Nat) (L : Led) (w : World) (hL : LedAt w b L) (hok : ∀ e ∈ L, okM e.1) (hn : L.length * 32 ≤ 140737488355328) :
  Calls Tryz.prog 56 #[.agg #[.map (some b)]] w fun e w' => ∃ v, e = .returned v ∧ kM.R 101 w' w.heap.size (fun _ => True) v (sortM (L.map (·.1))) ∧ Below w.heap.size w w' := by
 obtain ⟨es, clock, hb, hnd, hck, hpm, hnL⟩ := hL
 have HL := Aside0.mk (And.intro hnd (And.intro hck (And.intro hpm hnL)))
 have hbw := blk_lt hb
 have hlen : es.length = L.length := by have := hpm.length_eq; simpa [prs] using this
 have HLN := Lib.hid (And.intro hlen hn)
 clear hnd hck hpm hnL hlen hn
 have b1 := below_new w (.cells #[.map (some b)] 88)
 have hb1 := blk_below hb b1
 have hrg := run_range_led hb1
 have hz1 : (w.alloc (.cells #[.map (some b)] 88)).heap.size = w.heap.size + 1 := by simp
 rw [hz1] at hrg
 have HW := Lib.hid (show w.heap.size < w.heap.size + 1 from Nat.lt_succ_self _)
 have hi : IterAt ((w.alloc (.cells #[.map (some b)] 88)).alloc (.mapIter (some b) clock #[] clock)) b (w.heap.size + 1) es clock [] :=
  ⟨blk_below hb1 (below_new _ _), by have := heap_alloc_new (w.alloc (.cells #[.map (some b)] 88)) (.mapIter (some b) clock #[] clock); simpa using this, by simp, List.nodup_nil⟩
 have HI := Aside0.mk hi
 clear hi hb1 b1
 go_enter Tryz.func56, Tryz.ntmps56
 go_wp2_with fail
 have HB := Aside0.mk (two_new (w := w) (o := .cells #[.map (some b)] 88) (o' := .mapIter (some b) clock #[] clock))
 clear hrg hz1
 generalize (w.alloc (.cells #[.map (some b)] 88)).alloc (.mapIter (some b) clock #[] clock) = w2 at *
 go_loopw [3] (fun o wr => ∃ (T : List Ent) (A : Option Addr) (c : Nat), Aside0 (IterAt wr b (w.heap.size + 1) es clock T ∧ kM.R 101 wr w.heap.size (fun k => k ≠ w.heap.size + 1) o (T.map (·.1)) ∧ Below w.heap.size w wr) ∧ o = .slice A T.length c) (fun o _ => es.length - sliceLen o)
 case atStart => exact ⟨[], none, 0, ⟨HI.out, Kd.R_nil _ _ _ _ _, HB.out⟩, rfl⟩
 case round =>
  obtain ⟨T, A, c, hX, rfl⟩ := hrel
  have hTl := hX.out.1.len
  rcases hX.out.1.next (ty := 0) HL.out.2.1 HL.out.1 (by omega) with ⟨hperm, hrun⟩ | ⟨e, w3, he, hrun, hg3, hs3, hI3, hen⟩
  ·have HP := Lib.hid hperm
   have HTL := Lib.hid hTl
   clear hperm hTl
   obtain ⟨A', c', he1, hc', hC'⟩ := Kd.R_reads hX.out.2.1
   have hokT : ∀ m ∈ T.map (·.1), okM m := fun m hm => by
    obtain ⟨e, he, rfl⟩ := List.mem_map.1 hm
    have h1 := HL.out.2.2.1.mem_iff.1 (List.mem_map.2 ⟨e, hX.out.1.sub e he, rfl⟩)
    exact hok _ h1
   have HS := Lib.hid (fun w' hb => Tw.sortedT_any A c (T.map (·.1)) w' (show kN.C w' A (T.map (·.1)).length (T.map (·.1)) from by
    refine kN_C ?_ hokT
    have h := (Kd.R_reads' hX.out.2.1).2.2
    exact Kd.C_below h hb) (by have := HLN.out; have := HTL.out; rw [List.length_map]; omega))
   rw [List.length_map] at HS
   clear he1 hc' hC' hokT
   go_wp2_with fail
   refine (byMark_any _).mono ?_
   rintro e w3 ⟨rfl, hb3⟩
   go_wp2_with fail
   refine (HS.out _ hb3).mono ?_
   rintro e w4 ⟨v4, rfl, hR4, hb4⟩
   go_wp2_with fail
   go_ret
   have hb := below_then hX.out.2.2 hX.out.2.2.size hb3
   refine ⟨v4, rfl, ?_, below_then hb hb.size hb4⟩
   rw [← sortM_perm (l := T.map (·.1)) ?_]
   ·exact kN_R (Kd.R_lower hR4 hb.size)
   have h1 := HP.out.map (·.1)
   refine h1.trans ?_
   have h2 := HL.out.2.2.1.map (·.1)
   rw [prs, List.map_map] at h2
   exact h2
  ·have HI3 := Aside0.mk hI3
   have hR3 := Kd.R_grown hX.out.2.1 hg3 (fun k hk he => hk (by injection he))
   have hB3 := hX.out.2.2.grown hg3 hX.out.2.2.size (fun k hk => by injection hk with hk; omega)
   have HX3 := Aside0.mk (And.intro hR3 hB3)
   simp only [mkV] at hrun hen
   clear hR3 hB3 hg3 hI3
   have HT3 := Lib.hid (show T.length + 1 ≤ es.length by have := HI3.out.len; rwa [List.length_append, List.length_singleton] at this)
   have HOB := Lib.hid (show ∀ k, (Value.slice A T.length c).ownBlock = some k → k ≠ w.heap.size + 1 ∧ w.heap.size ≤ k from fun k hk => ⟨HX3.out.1.1 k hk, Kd.R_base HX3.out.1 k hk⟩)
   have HS3 := Lib.hid (And.intro hs3 (show w.heap.size + 1 < w3.heap.size from blk_lt HI3.out.hr))
   clear hs3
   go_upto_region 5 with fail
   have b4 := below_new w3 (.cells #[.int .i64 e.1.1, .int .i64 e.1.2.1, .int .i64 e.1.2.2.1, .int .i64 e.1.2.2.2] 101)
   have t0 : (w3.alloc (.cells #[.int .i64 e.1.1, .int .i64 e.1.2.1, .int .i64 e.1.2.2.1, .int .i64 e.1.2.2.2] 101)).cell? ⟨w3.heap.size, 0, none⟩ = some (.int .i64 e.1.1) := new_cell w3 _ _ 0
   have t1 : (w3.alloc (.cells #[.int .i64 e.1.1, .int .i64 e.1.2.1, .int .i64 e.1.2.2.1, .int .i64 e.1.2.2.2] 101)).cell? ⟨w3.heap.size, 1, none⟩ = some (.int .i64 e.1.2.1) := new_cell w3 _ _ 1
   have t2 : (w3.alloc (.cells #[.int .i64 e.1.1, .int .i64 e.1.2.1, .int .i64 e.1.2.2.1, .int .i64 e.1.2.2.2] 101)).cell? ⟨w3.heap.size, 2, none⟩ = some (.int .i64 e.1.2.2.1) := new_cell w3 _ _ 2
   have t3 : (w3.alloc (.cells #[.int .i64 e.1.1, .int .i64 e.1.2.1, .int .i64 e.1.2.2.1, .int .i64 e.1.2.2.2] 101)).cell? ⟨w3.heap.size, 3, none⟩ = some (.int .i64 e.1.2.2.2) := new_cell w3 _ _ 3
   have HX4 := Aside0.mk (And.intro (Kd.R_below HX3.out.1 b4) (And.intro (below_then HX3.out.2 HX3.out.2.size b4) (And.intro (HI3.out.move (b4.block b (blk_lt HI3.out.hb)) (b4.block _ (blk_lt HI3.out.hr))) b4.size)))
   clear b4
   generalize w3.alloc (.cells #[.int .i64 e.1.1, .int .i64 e.1.2.1, .int .i64 e.1.2.2.1, .int .i64 e.1.2.2.2] 101) = w4 at *
   go_wp2_with (at_builtin; go_must (refine Kd.R_append kM (w0 := w) w.heap.size rfl (.tmp 12) (.tmp 14) _ 101 _ 32 rfl Tryz.underlying115 Tryz.infoMark rfl (by decide) (by decide) (.slice A T.length c) (T.map (·.1)) e.1 _ (fun k => k ≠ w.heap.size + 1) (fun _ => False) rfl rfl (kM_M _) (fun _ h => h.elim) (fun k hk => by have := HS3.out.2; have := HX4.out.2.2.2; omega) HX4.out.1 HX4.out.2.1 HX4.out.2.1.size (by rw [List.length_map]; have := HLN.out; have := HT3.out; omega) ?_); intro v6 w6 hR6 hb6 hg6 hat6)
   have hR6' : kM.R 101 w6 w.heap.size (fun k => k ≠ w.heap.size + 1) v6 ((T ++ [e]).map (·.1)) := by rw [List.map_append]; exact hR6
   obtain ⟨A6, c6, hv6⟩ := Kd.R_slice hR6'
   rw [List.length_map] at hv6
   subst hv6
   have hI6 : IterAt w6 b (w.heap.size + 1) es clock (T ++ [e]) := by
    refine HX4.out.2.2.1.move ?_ ?_
    ·exact hg6.block b (by have := HS3.out.2; have := HX4.out.2.2.2; omega) (fun he => by have := (HOB.out b he.symm).2; omega)
    ·exact hg6.block _ (by have := HS3.out.2; have := HX4.out.2.2.2; omega) (fun he => (HOB.out _ he.symm).1 rfl)
   have hl6 := hI6.len
   rw [List.length_append, List.length_singleton] at hl6
   exact ⟨⟨T ++ [e], A6, c6, ⟨hI6, hR6', hb6⟩, rfl⟩, by simp only [sliceLen, List.length_append, List.length_singleton]; omega⟩
end Go.Proofs.YtbkfnmgkcgnifaaGreat
namespace Go.Proofs.YtbkfnmgkcgnifaaGreat
open Go.RowKit Go.Shelf Go.Proofs.YtbkfnmgkcgnifaaGreatW.PrintWords Go.Proofs.YtbkfnmgkcgnifaaGreatW.PrintLast Mdl
section
variable {P : Program} {Q : Exit → Act → World → Prop} {l n : Nat}
abbrev RF (l : Nat) : Fence := Fence.wide.inRound l
theorem callsIn_RF {f : FuncId} {args : Array Value} {w : World} {R : Ending → World → Prop} (h : Calls P f args w R) : CallsIn (RF l) n P f args w R := CallsIn.inRound l (callsIn_wide.2 h)
theorem rowsIn_RF {row : String} {args : Array Value} {w : World} {R : Value → World → Prop} (h : Rows P row args w R) : RowsIn (RF l) n P row args w R := fun c cs _ => by
 obtain ⟨v, w', r, s⟩ := h c cs
 exact ⟨v, w', r, (stepsIn_wide (P := P)).2 s⟩
def noDefer (o : Oper) : Bool := match o.op with
 | .defer _ => false
 | _ => true
theorem noDefer_spec {o : Oper} (h : noDefer o = true) : ∀ c, o.op ≠ .defer c := fun c hc => by simp [noDefer, hc] at h
theorem operIn_RF {o : Oper} {a : Act} {w : World} {K : Act → World → Prop} (hd : noDefer o = true) (h : o.wp P a w K Q) : o.wpIn (RF l) n P a w K Q := by
 refine ⟨fun _ _ => trivial, ?_⟩
 unfold Oper.wp at h
 rw [show (RF l).round = some l from rfl, Oper.semAt_some l _ _ (noDefer_spec hd)]
 generalize (execOp a.eval o).run P w = r at h
 cases r with
 | ok v w' =>
  cases v with
  | value v => exact h
  | skip => exact h
  | «defer» d => exact h
  | enter f args => exact ⟨fun hc => (by cases hc), callsIn_RF h⟩
  | row r args => exact ⟨fun hc => (by cases hc), rowsIn_RF h⟩
  | round => exact h.elim
  | _ => exact h.elim
 | halt x w' =>
  cases x with
  | panic v => exact h
  | _ => exact h.elim
theorem opIn_RF {ops : Array Oper} {i : Nat} {a : Act} {w : World} {K : Act → World → Prop} (hd : ∀ o ∈ ops, noDefer o = true) (hQ : ¬ LetsOut Q) (h : wpOp P ops Q i K a w) : wpOpIn (RF l) n P ops Q i K a w := by
 unfold wpOp at h
 unfold wpOpIn
 cases ho : ops[i]? with
 | none => rw [ho] at h; exact h
 | some o =>
  rw [ho] at h
  dsimp only at h ⊢
  split
  ·rename_i hw
   rw [if_pos hw] at h
   exact operIn_RF (hd o (Array.mem_of_getElem? ho)) (h.resolve_right (fun h2 => hQ h2.2))
  ·rename_i hw
   rw [if_neg hw] at h
   exact ⟨fun _ _ => trivial, h⟩
theorem anyIn_RF {md : Region.Mode} {ops : Array Oper} (hd : ∀ o ∈ ops, noDefer o = true) (hQ : ¬ LetsOut Q) : ∀ (fuel : Nat) (listed : Array Bool) (a : Act) (w : World), wpAny P md ops Q fuel listed a w → wpAnyIn (RF l) n P md ops Q fuel listed a w
 | 0, _, _, _, h => h
 | fuel + 1, listed, a, w, h => ⟨h.1, fun i hi => opIn_RF hd hQ (wpOp_mono (fun a w hk => anyIn_RF hd hQ fuel _ a w hk) (h.2 i hi))⟩
theorem regionIn_RF {id : Nat} {ops : Array Oper} {a : Act} {w : World} (hm : P.follows .mixedOrders = true) (hd : ops.all noDefer = true) (hQ : ¬ LetsOut Q) (h : wpAny P .any ops Q ops.size (Array.replicate ops.size false) a w.drew) : (Code.region id ops true).wpIn (RF l) n P Q a w :=
 wpIn_region_any hm (anyIn_RF (fun o ho => Array.all_eq_true'.1 hd o ho) hQ _ _ _ _ h)
theorem startIn_ {ops : Array Oper} {S : World → Prop} {ds : List Nat} {id k : Nat} {a : Act} {w : World} (lst : Array Bool) (hd : ops.all noDefer = true) (hQ : ¬ LetsOut Q) (hm : P.follows .mixedOrders = true) (hn : ops.size = k) (hl : Array.replicate k false = lst) (hS : S w.drew)
  (h : S w.drew → wpAnyLast P .any ops Q S ds k lst a w.drew) : (Code.region id ops true).wpIn (RF l) n P Q a w := by
 subst hn
 subst hl
 exact regionIn_RF hm hd hQ (wpAny_of_last _ _ _ _ (h hS))
structure Quiet (B : Nat) (W W' : World) : Prop where
 os : W'.os = W.os
 tape : W'.tape = W.tape
 output : W'.output = W.output
 size : W.heap.size ≤ W'.heap.size
 same : ∀ k o, W.heap[k]? = some o → (k < B ∨ o.isCells = true) → W'.heap[k]? = some o
theorem Quiet.refl (B : Nat) (W : World) : Quiet B W W := ⟨rfl, rfl, rfl, Nat.le_refl _, fun _ _ h _ => h⟩
theorem Quiet.trans {B : Nat} {W W1 W2 : World} (h : Quiet B W W1) (k : Quiet B W1 W2) : Quiet B W W2 :=
 ⟨k.os.trans h.os, k.tape.trans h.tape, k.output.trans h.output, Nat.le_trans h.size k.size, fun i o hi ho => k.same i o (h.same i o hi ho) ho⟩
theorem Quiet.mono {B B' : Nat} {W W' : World} (h : Quiet B W W') (hb : B' ≤ B) : Quiet B' W W' :=
 ⟨h.os, h.tape, h.output, h.size, fun k o hk ho => h.same k o hk (ho.imp (fun h => Nat.lt_of_lt_of_le h hb) id)⟩
theorem Quiet.below {B : Nat} {W W' : World} (h : Below W.heap.size W W') : Quiet B W W' := ⟨h.os, h.tape, h.output, h.size, fun _ _ hk _ => blk_below hk h⟩
theorem Quiet.alloc {B : Nat} {W : World} (o : Obj) : Quiet B W (W.alloc o) := .below (below_new W o)
theorem Quiet.putObj {B : Nat} {W : World} {i : Nat} {o o' : Obj} (hi : W.heap[i]? = some o) (ho : o.isCells = false) (hB : B ≤ i) : Quiet B W (W.putObj i o') :=
 ⟨rfl, rfl, rfl, by simp [World.putObj], fun k x hk hx => by
  have : i ≠ k := fun h => by
   subst h
   rw [hi] at hk
   cases hk
   rcases hx with hx | hx
   ·omega
   ·rw [ho] at hx; cases hx
  rw [World.putObj_heap_other (by omega)]; exact hk⟩
theorem Quiet.toBelow {B : Nat} {W W' : World} (h : Quiet B W W') (hB : B ≤ W.heap.size) : Below B W W' :=
 ⟨h.os, h.tape, h.output, h.size, fun k hk => by
  have hlt : k < W.heap.size := by omega
  rw [Array.getElem?_eq_getElem hlt]
  exact h.same k _ (Array.getElem?_eq_getElem hlt) (.inl hk)⟩
def Stab {β : Type} (B : Nat) (I : β → World → Prop) : Prop := ∀ s W W', B ≤ W.heap.size → I s W → Quiet B W W' → I s W'
def NC (x : Nat → Prop) (W W' : World) : Prop := W.heap.size ≤ W'.heap.size ∧ ∀ k o, W.heap[k]? = some o → o.isCells = false → ¬ x k → W'.heap[k]? = some o
theorem NC.refl (x : Nat → Prop) (W : World) : NC x W W := ⟨Nat.le_refl _, fun _ _ h _ _ => h⟩
theorem NC.trans {x : Nat → Prop} {W W1 W2 : World} (h : NC x W W1) (k : NC x W1 W2) : NC x W W2 := ⟨Nat.le_trans h.1 k.1, fun i o hi ho hx => k.2 i o (h.2 i o hi ho hx) ho hx⟩
theorem NC.below {x : Nat → Prop} {W W' : World} (h : Below W.heap.size W W') : NC x W W' := ⟨h.size, fun _ _ hk _ _ => blk_below hk h⟩
def SeqAll {α : Type} (P : Program) (gf : Nat) (first cap : Array Value) (enc : α → Array Value) (S : List α → Prop) (x : Nat → Prop) (w : World) : Prop :=
 ∀ (l : Nat) (J : List α → World → Prop) (W : World), Below w.heap.size w W → Stab W.heap.size J →
  (∀ pre m W1, J pre W1 → (∃ xs, S xs ∧ (pre ++ [m]) <+: xs) → YieldAt Fence.wide 5 P l (enc m) W1 fun e W' => e = .returned (.bool true) ∧ J (pre ++ [m]) W' ∧ NC x W1 W') → J [] W →
  CallsIn Fence.wide 5 P gf (first ++ #[.func (.yield l) #[] #[]] ++ cap) W fun e W' => (∃ v, e = .returned v) ∧ ∃ xs, S xs ∧ J xs W'
def bodyQ (x : Nat → Prop) (I : World → Prop) (W : World) : Exit → Act → World → Prop
 | .normal, _, W' => NC x W W' ∧ I W'
 | _, _, _ => False
set_option maxHeartbeats 1000000 in
theorem range_all {α : Type} {g : Operand} {ps : Array Tmp} {assign body : Code} {a : Act} {w : World} {gf : Nat} {first cap : Array Value} (hg : a.eval g = .func (.func gf) first cap) (eg : ∀ args w, (callFunc gf args).run P w = .ok (.enter gf args) w)
  {enc : α → Array Value} (hps : ∀ m, (enc m).size = ps.size) {S : List α → Prop} {x : Nat → Prop} (hx : ∀ k, x k → k < w.heap.size) (hseq : SeqAll P gf first cap enc S x w) (I : List α → World → Prop) (hI : Stab w.heap.size I) (h0 : I [] w)
  (A : List α → α → Act → World → Prop) (hA : ∀ pre m a1, Stab w.heap.size (fun (_ : Unit) W => A pre m a1 W))
  (hassign : ∀ l pre m W (K : Act → World → Prop), w.heap.size ≤ W.heap.size → (∃ xs, S xs ∧ (pre ++ [m]) <+: xs) → I pre W → (∀ a1 W1, NC x W W1 → A pre m a1 W1 → K a1 W1) → assign.wpIn (RF l) 5 P (Exit.then K (fun _ _ _ => False)) { tmps := (ps.zip (enc m)).foldl (fun t (p, v) => t.setIfInBounds p v) a.tmps, defers := [] } W)
  (hbody : ∀ l pre m a1 W, w.heap.size ≤ W.heap.size → (∃ xs, S xs ∧ (pre ++ [m]) <+: xs) → A pre m a1 W → body.wpIn (RF l) 5 P (bodyQ x (I (pre ++ [m])) W) a1 W)
  (hdone : ∀ D xs W, w.heap.size ≤ D → S xs → I xs W → W.heap[D]? = some (.deferred (some [])) → Q .normal { a with defers := { target := .collected D, args := #[] } :: a.defers } W) :
  (Code.rangeFunc g ps assign body).wpIn Fence.wide 6 P Q a w := by
 refine wpIn_rangeFunc ?_
 intro fn hfn
 obtain ⟨rec, hrec⟩ : ∃ rec : LoopState → Loop, rec = fun st => { state := st, pending := none, fn, tmps := a.tmps, params := ps, assign, body, defers := w.heap.size } := ⟨_, rfl⟩
 obtain ⟨W1, hW1⟩ : ∃ W1, (w.alloc (.deferred (some []))).alloc (.loop (rec .ready)) = W1 := ⟨_, rfl⟩
 have hL1 : W1.heap[w.heap.size + 1]? = some (.loop (rec .ready)) := by
  rw [← hW1]; have := heap_alloc_new (w.alloc (.deferred (some []))) (.loop (rec .ready)); simpa using this
 have hK1 : W1.heap[w.heap.size]? = some (.deferred (some [])) := by
  rw [← hW1]; exact blk_alloc (heap_alloc_new w _) _
 have hB1 : Below w.heap.size w W1 := by rw [← hW1]; exact two_new
 have hsz1 : W1.heap.size = w.heap.size + 2 := by rw [← hW1]; simp
 have hI1 : I [] W1 := hI _ _ _ (Nat.le_refl _) h0 (.below hB1)
 refine ⟨w.heap.size + 1, [{ target := .collected w.heap.size, args := #[] }], W1, { target := .fn (.func gf) cap, args := first ++ #[.func (.yield (w.heap.size + 1)) #[] #[]] }, W1, gf, first ++ #[.func (.yield (w.heap.size + 1)) #[] #[]] ++ cap, W1, ?_, ?_, fun _ _ => trivial, ?_, fun _ => by omega, ?_⟩
 ·rw [← hW1, hrec]; exact run_enterLoop_outer _ _ _ _ _
 ·simp only [resolve, hg]
  simp [go_sem]
 ·simp [invoke, go_sem, eg]
 ·refine (hseq (w.heap.size + 1) (fun pre W => w.heap.size + 2 ≤ W.heap.size ∧ I pre W ∧ W.heap[w.heap.size + 1]? = some (.loop (rec .ready)) ∧ W.heap[w.heap.size]? = some (.deferred (some []))) W1 hB1 ?_ ?_ ⟨by omega, hI1, hL1, hK1⟩).mono ?_
  ·intro s V V' hV h hq
   exact ⟨Nat.le_trans h.1 hq.size, hI _ _ _ (by omega) h.2.1 (hq.mono (by omega)), hq.same _ _ h.2.2.1 (.inl (by omega)), hq.same _ _ h.2.2.2 (.inl (by omega))⟩
  ·rintro pre m W ⟨hsz, hi, hl, hk⟩ hpx
   have hy := run_yield (P := P) (args := enc m) hl (by rw [hrec]; exact hps m)
   rw [hrec] at hy
   refine ⟨fn, _, assign, body, hy, roundIn_of_wpIn trivial (wpIn_mono (hassign (w.heap.size + 1) pre m W (fun a1 W1 => NC x W W1 ∧ A pre m a1 W1) (by omega) hpx hi (fun a1 W1 h1 h2 => ⟨h1, h2⟩)) ?_)⟩
   rintro e a1 V1 he
   cases e with
   | normal =>
    obtain ⟨hnc, ha⟩ := he
    have hl1 := hnc.2 _ _ hl rfl (fun h => by have := hx _ h; omega)
    have hk1 := hnc.2 _ _ hk rfl (fun h => by have := hx _ h; omega)
    refine ⟨_, run_beginRound hl1 (by rw [hrec]), wpIn_mono (hbody (w.heap.size + 1) pre m a1 _ (by have := hnc.1; rw [World.putObj_size]; omega) hpx (hA pre m a1 () _ _ (by have := hnc.1; omega) ha (.putObj hl1 rfl (by omega)))) ?_⟩
    rintro e a2 V2 he
    cases e with
    | normal =>
     obtain ⟨hnc2, hi2⟩ := he
     have hl2 := hnc2.2 _ _ (World.putObj_heap_same (blk_lt hl1)) rfl (fun h => by have := hx _ h; omega)
     have hk2 := hnc2.2 _ _ ((World.putObj_heap_other (by omega)).trans hk1) rfl (fun h => by have := hx _ h; omega)
     have hr := run_endRound (P := P) none hl2
     have hfin : (V2.putObj (w.heap.size + 1) (.loop { { rec .ready with state := .busy } with state := .ready, pending := none })).heap[w.heap.size + 1]? = some (.loop (rec .ready)) := by
      refine (World.putObj_heap_same (blk_lt hl2)).trans ?_
      rw [hrec]
     refine ⟨_, _, hr, rfl, ⟨?_, hI _ _ _ (by have := hnc.1; have := hnc2.1; rw [World.putObj_size] at this; omega) hi2 (.putObj hl2 rfl (by omega)), ?_, ?_⟩, ?_⟩
     ·have := hnc.1; have := hnc2.1
      rw [World.putObj_size] at this ⊢; omega
     ·exact hfin
     ·exact (World.putObj_heap_other (by omega)).trans hk2
     ·refine ⟨by have := hnc.1; have := hnc2.1; rw [World.putObj_size] at this ⊢; omega, fun k o hko ho hxk => ?_⟩
      by_cases hkl : k = w.heap.size + 1
      ·subst hkl
       rw [hl] at hko
       cases hko
       exact hfin
      ·have h1 := hnc.2 k o hko ho hxk
       have h2 := hnc2.2 k o ((World.putObj_heap_other hkl).trans h1) ho hxk
       exact (World.putObj_heap_other hkl).trans h2
    | _ => exact he.elim
   | _ => exact he.elim
  ·rintro e W2 ⟨⟨v, rfl⟩, xs, hS, hsz, hi, hl, hk⟩
   have he : (Instr.endLoop (w.heap.size + 1)).run P W2 = .ok none (W2.putObj (w.heap.size + 1) (.loop { rec .ready with state := .exhausted })) := by
    have := run_endLoop (P := P) hl (by rw [hrec]; simp)
    rw [hrec] at this ⊢
    exact this
   exact ⟨none, _, he, hdone _ xs _ (Nat.le_refl _) hS (hI _ _ _ (by omega) hi (.putObj hl rfl (by omega))) ((World.putObj_heap_other (by omega)).trans hk)⟩
end
end Go.Proofs.YtbkfnmgkcgnifaaGreat
namespace Go.Proofs.YtbkfnmgkcgnifaaGreat
open Go.RowKit Go.Shelf Go.Proofs.YtbkfnmgkcgnifaaGreatW.PrintWords Go.Proofs.YtbkfnmgkcgnifaaGreatW.PrintLast Mdl Go.ChangeMaps
def Mdl.posL (L : Led) : List Mk := (L.filter (fun e => decide (0 < e.2))).map (·.1)
def seenLen (w : World) (r : Nat) : Nat := match w.heap[r]? with
 | some (.mapIter _ _ seen _) => seen.size
 | _ => 0
def posE (T : List Ent) : List Mk := (T.filter (fun e => decide (0 < e.2.1))).map (·.1)
theorem posE_perm {T es : List Ent} {L : Led} (h : T.Perm es) (hp : (prs es).Perm L) : (posE T).Perm (posL L) := by
 have h1 := (h.filter (fun e => decide (0 < e.2.1))).map (fun e : Ent => e.1)
 refine h1.trans ?_
 have h2 := (hp.filter (fun e => decide (0 < e.2))).map (fun e => e.1)
 refine List.Perm.trans ?_ h2
 rw [prs, List.filter_map, List.map_map]
 exact List.Perm.refl _
theorem seenLen_at {w : World} {b r : Nat} {es : List Ent} {clock : Nat} {T : List Ent} (h : IterAt w b r es clock T) : seenLen w r = T.length := by
 unfold seenLen
 rw [h.hr]; simp
theorem roundIn_wide {n m : Nat} {P : Program} {l : Nat} {f : FuncId} {tmps : Array Value} {assign body : Code} {w : World} {R : Ending → World → Prop} (h : RoundIn Fence.wide n P l f tmps assign body w R) : RoundIn Fence.wide m P l f tmps assign body w R :=
 ⟨h.1, fun c cs _ => h.2 c cs (room_wide _)⟩
theorem quiet_grown {B r : Nat} {W W1 : World} {o : Obj} (h : W.grownBy W1 (some r)) (hr : W.heap[r]? = some o) (ho : o.isCells = false) (hB : B ≤ r) : Quiet B W W1 :=
 ⟨h.os, h.tape, h.output, h.size, fun k o' hk hx => by
  have hne : k ≠ r := fun he => by
   subst he
   rw [hr] at hk
   cases hk
   rcases hx with hx | hx
   ·omega
   ·rw [ho] at hx; cases hx
  exact (h.block k (blk_lt hk) (fun he => hne (by injection he))).trans hk⟩
theorem posE_snoc (T : List Ent) (e : Ent) : posE (T ++ [e]) = if 0 < e.2.1 then posE T ++ [e.1] else posE T := by
 unfold posE
 rw [List.filter_append]
 by_cases h : 0 < e.2.1
 ·simp [h]
 ·simp [h]
theorem posE_append (A B : List Ent) : posE (A ++ B) = posE A ++ posE B := by simp [posE]
theorem rest_of {T es : List Ent} (hT : T.Nodup) (hes : es.Nodup) (hs : ∀ e ∈ T, e ∈ es) : ∃ rest, (T ++ rest).Perm es := by
 refine ⟨es.filter (fun e => !T.contains e), perm_of_mem ?_ hes (fun e => ?_)⟩
 ·rw [List.nodup_append]
  refine ⟨hT, List.filter_sublist.nodup hes, fun a ha b hb he => ?_⟩
  subst he
  have := (List.mem_filter.1 hb).2
  simp [ha] at this
 ·rw [List.mem_append, List.mem_filter]
  constructor
  ·rintro (h | h)
   ·exact hs e h
   ·exact h.1
  ·intro h
   by_cases ht : e ∈ T
   ·exact .inl ht
   ·exact .inr ⟨h, by simp [ht]⟩
set_option maxRecDepth 8000 in
set_option maxHeartbeats 4000000 in
theorem some_seq (b : Nat) (L : Led) (w : World) (x : Nat → Prop) (hL : LedAt w b L) (hx : ∀ k, x k → k < w.heap.size ∧ k ≠ b) :
  SeqAll Tryz.prog 45 #[.agg #[.map (some b)]] #[] (fun m => #[mkV m]) (fun xs => xs.Perm (posL L)) x w := by
 intro l J W hW hJ hY h0
 obtain ⟨es, clock, hb, hnd, hck, hpm, hnL⟩ := hL.below hW
 have HL := Aside0.mk (And.intro hnd (And.intro hck (And.intro hpm hnL)))
 have HY := Lib.hid hY
 have hbw := blk_lt hb
 have hww := hW.size
 have hb1 := blk_below hb (below_new W (.cells #[.map (some b)] 88))
 have hrg := run_range_led hb1
 have hz1 : (W.alloc (.cells #[.map (some b)] 88)).heap.size = W.heap.size + 1 := by simp
 rw [hz1] at hrg
 have hi : IterAt ((W.alloc (.cells #[.map (some b)] 88)).alloc (.mapIter (some b) clock #[] clock)) b (W.heap.size + 1) es clock [] :=
  ⟨blk_below hb1 (below_new _ _), by have := heap_alloc_new (W.alloc (.cells #[.map (some b)] 88)) (.mapIter (some b) clock #[] clock); simpa using this, by simp, List.nodup_nil⟩
 have HI := Aside0.mk hi
 have HJ0 := Lib.hid (show J [] ((W.alloc (.cells #[.map (some b)] 88)).alloc (.mapIter (some b) clock #[] clock)) from hJ _ _ _ (Nat.le_refl _) h0 (.below two_new))
 clear hi hb1 hY hnd hck hpm hnL hb h0
 refine callsIn_of_wp Tryz.func45 rfl trivial ?_ rfl
 simp only [Tryz.ntmps45, List.size_toArray, List.length_cons, List.length_nil, Nat.reduceAdd, Nat.reduceSub, Array.replicate_succ, Array.replicate_zero, List.push_toArray, List.append_toArray, List.nil_append, List.cons_append, List.append_nil]
 gi_wp2
 have HB := Aside0.mk (two_new (w := W) (o := .cells #[.map (some b)] 88) (o' := .mapIter (some b) clock #[] clock))
 clear hrg hz1
 generalize (W.alloc (.cells #[.map (some b)] 88)).alloc (.mapIter (some b) clock #[] clock) = w2 at *
 gi_loopw [5] (fun o wr => ∃ (T : List Ent), Aside0 (IterAt wr b (W.heap.size + 1) es clock T ∧ J (posE T) wr ∧ W.heap.size ≤ wr.heap.size) ∧ o = o) (fun _ wr => es.length - seenLen wr (W.heap.size + 1))
 case atStart => exact ⟨[], ⟨HI.out, HJ0.out, HB.out.size⟩, rfl⟩
 case round =>
  obtain ⟨T, hX, -⟩ := hrel
  have HTL := Lib.hid hX.out.1.len
  have HSL := Lib.hid (seenLen_at hX.out.1)
  rcases hX.out.1.next (ty := 0) HL.out.2.1 HL.out.1 (by omega) with ⟨hperm, hrun⟩ | ⟨e, w3, he, hrun, hg3, hs3, hI3, hen⟩
  ·have HP := Lib.hid hperm
   clear hperm
   gi_wp2
   go_end0
   exact ⟨⟨_, rfl⟩, _, posE_perm HP.out HL.out.2.2.1, hX.out.2.1⟩
  ·have HI3 := Aside0.mk hI3
   have hJ3 := hJ _ _ _ hX.out.2.2 hX.out.2.1 (quiet_grown hg3 hX.out.1.hr rfl (Nat.le_succ _))
   have hj4 : J (posE T) (w3.alloc (.cells #[.int .i64 e.1.1, .int .i64 e.1.2.1, .int .i64 e.1.2.2.1, .int .i64 e.1.2.2.2] 101)) := hJ _ _ _ (by have := hX.out.2.2; omega) hJ3 (.alloc _)
   have hi4 : IterAt (w3.alloc (.cells #[.int .i64 e.1.1, .int .i64 e.1.2.1, .int .i64 e.1.2.2.1, .int .i64 e.1.2.2.2] 101)) b (W.heap.size + 1) es clock (T ++ [e]) := hI3.move (Below.heap_alloc _ _ b (blk_lt hI3.hb)) (Below.heap_alloc _ _ _ (blk_lt hI3.hr))
   have HS4 := Lib.hid (show W.heap.size ≤ w3.heap.size by have := hX.out.2.2; omega)
   have HI4 := Aside0.mk hi4
   simp only [mkV] at hrun hen
   by_cases hp : 0 < e.2.1
   ·obtain ⟨fn, tmps, assign, body, hy, hR⟩ := HY.out _ e.1 _ hj4 (by
     obtain ⟨rest, hrest⟩ := rest_of (nodup_of_map _ hI3.nd) (nodup_of_map _ HL.out.1) hI3.sub
     refine ⟨posE (T ++ [e] ++ rest), posE_perm hrest HL.out.2.2.1, posE rest, ?_⟩
     rw [posE_append, posE_snoc, if_pos hp])
    have HR := Lib.hid hR
    simp only [mkV] at hy
    clear hI3 hJ3 hj4 hi4 hg3 hs3 hR
    gi_wp2
    refine (roundIn_wide HR.out).mono ?_
    rintro e' W' ⟨rfl, hJ', hnc⟩
    have hi5 : IterAt W' b (W.heap.size + 1) es clock (T ++ [e]) := HI4.out.move ((hnc.2 _ _ HI4.out.hb rfl (fun h => (hx _ h).2 rfl)).trans HI4.out.hb.symm) ((hnc.2 _ _ HI4.out.hr rfl (fun h => by have := (hx _ h).1; omega)).trans HI4.out.hr.symm)
    have hsz5 := hnc.1
    rw [World.size_alloc] at hsz5
    have HX5 := Aside0.mk (show IterAt W' b (W.heap.size + 1) es clock (T ++ [e]) ∧ J (posE (T ++ [e])) W' ∧ W.heap.size ≤ W'.heap.size from ⟨hi5, by rw [posE_snoc, if_pos hp]; exact hJ', by have := HS4.out; omega⟩)
    have HM := Lib.hid (show es.length - seenLen W' (W.heap.size + 1) < es.length - seenLen wr (W.heap.size + 1) by
     rw [seenLen_at hi5, HSL.out]
     have := hi5.len
     rw [List.length_append, List.length_singleton] at this ⊢
     omega)
    clear hi5 hsz5 hnc hJ' hy
    gi_wp2
    exact ⟨⟨T ++ [e], HX5, trivial⟩, HM.out⟩
   ·have hp' : e.2.1 ≤ 0 := by omega
    have hpf : decide (0 < e.2.1) = false := by simpa using hp
    have HJ4 := Lib.hid hj4
    have HPN := Lib.hid hp
    clear hI3 hJ3 hj4 hi4 hg3 hs3 hp
    have HX5 := Aside0.mk (show IterAt (w3.alloc (.cells #[.int .i64 e.1.1, .int .i64 e.1.2.1, .int .i64 e.1.2.2.1, .int .i64 e.1.2.2.2] 101)) b (W.heap.size + 1) es clock (T ++ [e]) ∧ J (posE (T ++ [e])) (w3.alloc (.cells #[.int .i64 e.1.1, .int .i64 e.1.2.1, .int .i64 e.1.2.2.1, .int .i64 e.1.2.2.2] 101)) ∧ W.heap.size ≤ (w3.alloc (.cells #[.int .i64 e.1.1, .int .i64 e.1.2.1, .int .i64 e.1.2.2.1, .int .i64 e.1.2.2.2] 101)).heap.size from ⟨HI4.out, by rw [posE_snoc, if_neg HPN.out]; exact HJ4.out, by have := HS4.out; simp; omega⟩)
    have HM := Lib.hid (show es.length - seenLen (w3.alloc (.cells #[.int .i64 e.1.1, .int .i64 e.1.2.1, .int .i64 e.1.2.2.1, .int .i64 e.1.2.2.2] 101)) (W.heap.size + 1) < es.length - seenLen wr (W.heap.size + 1) by
     rw [seenLen_at HI4.out, HSL.out]
     have := HI4.out.len
     rw [List.length_append, List.length_singleton] at this ⊢
     omega)
    gi_wp2
    refine ⟨fun _ h => (by cases h), ?_⟩
    gi_wp2
    exact ⟨⟨T ++ [e], HX5, trivial⟩, HM.out⟩
end Go.Proofs.YtbkfnmgkcgnifaaGreat
namespace Go.Proofs.YtbkfnmgkcgnifaaGreat
open Go.RowKit Go.Shelf Go.Proofs.YtbkfnmgkcgnifaaGreatW.PrintWords Mdl
theorem Tryz.infoInt : (Tryz.prog.info? 3).map (fun i => (i.zero, i.size, i.bytes)) = some (some (.int .i64 0), 1, 8) := by kernel_rfl
theorem Tryz.infoInts : (Tryz.prog.info? 36).map (fun i => (i.zero, i.size, i.bytes)) = some (some (.slice none 0 0), 1, 24) := by kernel_rfl
set_option maxRecDepth 100000 in
set_option maxHeartbeats 800000 in
theorem clone_any (ad : Addr) (c : Nat) (l : List Int) (w : World) (hl : kI.C w (some ad) l.length l) (hn : l.length * 8 ≤ 140737488355328) :
  Calls Tryz.prog 70 #[.slice (some ad) l.length c] w fun e w' => ∃ v, e = .returned v ∧ kI.R 3 w' w.heap.size (fun _ => True) v l ∧ Below w.heap.size w w' := by
 have HL := Aside0.mk hl
 have hnil : ∀ w, (binOp .eql 36 (.slice (some ad) l.length c) (.slice none 0 0)).run Tryz.prog w = .ok (.bool false) w := fun w => Lib.run_eql_slice_nil (P := Tryz.prog) w 36 3 (some ad) l.length c 0 0 Tryz.underlying36
 clear hl
 go_enter Tryz.func70, Tryz.ntmps70
 go_wp2_with (at_builtin; go_must (refine Kd.R_append_rows kI (Rr := kI.K (w.alloc (.cells #[] 3))) (w0 := w) w.heap.size rfl (.tmp 5) (.tmp 6) _ 3 (.int .i64 0) 8 rfl Tryz.underlying36 Tryz.infoInt rfl (by decide) (by decide) _ [] l _ _ _ (fun _ => True) (fun _ => False) rfl rfl ⟨fun _ _ => trivial, [], World.ownsRow_made w #[] 0 (Nat.le_refl _) (Nat.zero_le _) rfl, Reps.none _ _⟩ (Kd.C_below HL.out (below_new w _)) (fun _ _ h => h) (fun _ h => h.elim) (fun _ _ => trivial) (below_new w _) (below_new w _).size (by simpa using hn) ?_); intro v6 w6 hR6 hb6 hg6 hat6)
 go_ret
 exact ⟨_, rfl, hR6, hb6⟩
abbrev kLI : Kd (List Int) := Kd.slice 3 kI
theorem box_C {w : World} {g : Nat} {t : Tm} (h0 : w.cell? ⟨g, 0, none⟩ = some (.int .i64 t.1)) (h1 : w.cell? ⟨g, 1, none⟩ = some (.int .i64 t.2.1)) (h2 : w.cell? ⟨g, 2, none⟩ = some (.int .i64 t.2.2)) {wide : Nat} (hw : wide ≤ 3) :
  kI.C w (some ⟨g, 0, none⟩) (numsT wide t).length (numsT wide t) := by
 refine ⟨rfl, by rw [length_numsT t hw]; omega, fun _ => ⟨_, rfl, fun j p hj => ⟨[.int .i64 p], rfl, rfl, fun i u hu => ?_⟩⟩⟩
 cases i with
 | succ i => simp at hu
 | zero =>
  have hu : Value.int .i64 p = u := by simpa using hu
  subst hu
  rw [add_plain]
  have hj3 : j < 3 := by
   have := (List.getElem?_eq_some_iff.1 hj).1
   rw [length_numsT t hw] at this; omega
  simp only [numsT, List.getElem?_take] at hj
  split at hj
  ·match j, hj3 with
   | 0, _ => simp at hj; subst hj; exact h0
   | 1, _ => simp at hj; subst hj; exact h1
   | 2, _ => simp at hj; subst hj; exact h2
  ·cases hj
set_option maxRecDepth 4000 in
set_option maxHeartbeats 1600000 in
theorem numbers_any (gb wide : Nat) (A : Option Addr) (c : Nat) (l : List Tm) (w : World) (hg : w.cell? ⟨gb, 1, none⟩ = some (.int .i64 wide)) (h1 : 1 ≤ wide) (h3 : wide ≤ 3) (hl : kT.C w A l.length l) (hn : l.length * 24 ≤ 140737488355328) :
  Calls Tryz.prog 33 #[.pointer (some ⟨gb, 0, none⟩), .slice A l.length c] w fun e w' => ∃ v, e = .returned v ∧ kLI.R 36 w' w.heap.size (fun _ => True) v (l.map (numsT wide)) ∧ Below w.heap.size w w' := by
 have HL := Aside0.mk hl
 have hm := Kd.C_max hl
 have hsl : ∀ a w, (Instr.sliceAt 99 (.pointer (some a)) none (some (.int .i64 wide)) none).run Tryz.prog w = .ok (.slice (some a) wide 3) w := by
  obtain rfl | rfl | rfl : wide = 1 ∨ wide = 2 ∨ wide = 3 := by omega
  ·exact fun _ _ => by kernel_rfl
  ·exact fun _ _ => by kernel_rfl
  ·exact fun _ _ => by kernel_rfl
 clear hl
 go_enter Tryz.func33, Tryz.ntmps33
 go_wp2
 go_loopw [4, 9] (fun o i wr => ∃ k : Nat, k ≤ l.length ∧ i = .int .i64 k ∧ kLI.R 36 wr w.heap.size (fun _ => True) o ((l.take k).map (numsT wide)) ∧ Below w.heap.size w wr) (fun _ i _ => l.length - (intOf i).toNat)
 case atStart => exact ⟨0, Nat.zero_le _, rfl, Kd.R_nil _ _ _ _ _, Below.refl _ _⟩
 case round =>
  obtain ⟨k, hk, rfl, hR, hb⟩ := hrel
  by_cases hlt : k < l.length
  ·obtain ⟨ad, rfl, hc0, hc1, hc2⟩ := at_time (Kd.C_below HL.out hb) hlt
   have HR := Aside0.mk hR
   clear hR
   have hwc := pw_cell_below (below_new wr (.cells #[.int .i64 l[k].1, .int .i64 l[k].2.1, .int .i64 l[k].2.2] 99)) (pw_cell_below hb hg)
   have hbo := below_new wr (.cells #[.int .i64 l[k].1, .int .i64 l[k].2.1, .int .i64 l[k].2.2] 99)
   have hbx := box_C (w := wr.alloc (.cells #[.int .i64 l[k].1, .int .i64 l[k].2.1, .int .i64 l[k].2.2] 99)) (g := wr.heap.size) (t := l[k]) (new_cell wr _ _ 0) (new_cell wr _ _ 1) (new_cell wr _ _ 2) h3
   have hln := length_numsT l[k] h3
   have HCL := clone_any ⟨wr.heap.size, 0, none⟩ 3 (numsT wide l[k]) _ hbx (by rw [hln]; omega)
   rw [hln] at HCL
   have HC := Lib.hid HCL
   have HLN := Lib.hid hln
   clear HCL hbx hln
   have hlm : ((l.take k).map (numsT wide)).length = k := by simp; omega
   have HLM := Lib.hid hlm
   have HX := Lib.hid (show (l.take (k + 1)).map (numsT wide) = (l.take k).map (numsT wide) ++ [numsT wide l[k]] by rw [List.take_succ_eq_append_getElem hlt, List.map_append]; rfl)
   clear hlm
   go_wp2_with fail
   refine HC.out.mono ?_
   rintro e w4 ⟨v4, rfl, hR4, hb4⟩
   obtain ⟨A4, c4, rfl⟩ := Kd.R_slice hR4
   have hRX := Kd.R_below (Kd.R_below HR.out hbo) hb4
   have hb5 := below_then (below_then hb hb.size hbo) (below_then hb hb.size hbo).size hb4
   have HRX := Aside0.mk hRX
   have HMn := Aside0.mk (Kd.R_lower (Kd.R_mono (Kd.R_newR hR4 (Kd.R_below HR.out hbo)) (fun _ h => h.2)) (base' := w.heap.size) (below_then hb hb.size hbo).size)
   clear hRX hR4
   go_wp2_with (at_builtin; go_must (refine Kd.R_append kLI (w0 := w) w.heap.size rfl (.tmp 13) (.tmp 21) _ 36 _ 24 rfl Tryz.underlying28 Tryz.infoInts rfl (by decide) (by decide) _ ((l.take k).map (numsT wide)) (numsT wide l[k]) _ (fun _ => True) (fun k => some k ≠ u4.ownBlock) rfl rfl ⟨_, rfl, HMn.out⟩ (fun _ h => ⟨trivial, h⟩) (fun _ _ => trivial) HRX.out hb5 hb5.size (by rw [HLM.out]; omega) ?_); intro v6 w6 hR6 hb6 hg6 hat6)
   refine ⟨⟨k + 1, by omega, by go_num, ?_, hb6⟩, by simp [intOf]; omega⟩
   rw [HX.out]
   exact hR6
  ·have HR := Aside0.mk hR
   clear hR
   go_wp2
   go_ret
   have hkl : k = l.length := by omega
   subst hkl
   have h := HR.out
   rw [List.take_length] at h
   exact ⟨_, rfl, h, hb⟩
end Go.Proofs.YtbkfnmgkcgnifaaGreat
namespace Go.Proofs.YtbkfnmgkcgnifaaGreat
open Go.RowKit Go.Shelf Go.Proofs.YtbkfnmgkcgnifaaGreatW.PrintWords Go.Proofs.YtbkfnmgkcgnifaaGreatW.PrintLast Mdl
namespace Mdl
abbrev Ed := Int × Int × List Int
def edgeS (start : Int) (n : Nat) (sum : Tm) (on1 : List Bool) (rec : Nat → Tm → List (List Tm) → List Bool → Option (List (List Tm))) (acc : Option (List (List Tm))) (e : Ed) : Option (List (List Tm)) :=
 acc.bind fun rows =>
  if e.1 ≠ (n : Int) ∨ on1.getD e.2.1.toNat false = true then
   if e.1 = (n : Int) ∧ e.2.1 = start ∧ plusT sum (tmOf e.2.2) = (0, 0, 0) then none else some rows
  else rec e.2.1.toNat (plusT sum (tmOf e.2.2)) rows on1
def walkP (E : List Ed) (start : Int) : Nat → Nat → Tm → List (List Tm) → List Bool → Option (List (List Tm))
 | 0, _, _, rows, _ => some rows
 | f + 1, n, sum, rows, on => E.foldl (edgeS start n sum (on.set n true) (walkP E start f)) (some (rows.set n (rows.getD n [] ++ [sum])))
def Len (L : Nat) (rows : List (List Tm)) : Prop := ∀ r ∈ rows, r.length ≤ L
def wT : Nat → Nat
 | 0 => 0
 | f + 1 => 1 + 16 * wT f
theorem foldl_none (start : Int) (n : Nat) (sum : Tm) (on1 : List Bool) (rec) : ∀ E : List Ed, E.foldl (edgeS start n sum on1 rec) none = none
 | [] => rfl
 | e :: E => by rw [List.foldl_cons]; exact foldl_none start n sum on1 rec E
theorem foldl_take_none {start : Int} {n : Nat} {sum : Tm} {on1 : List Bool} {rec} {a} (E : List Ed) (k : Nat) (h : (E.take k).foldl (edgeS start n sum on1 rec) a = none) : E.foldl (edgeS start n sum on1 rec) a = none := by
 conv => lhs; rw [← List.take_append_drop k E]
 rw [List.foldl_append, h, foldl_none]
theorem Len_mono {L L' : Nat} {rows : List (List Tm)} (h : Len L rows) (hl : L ≤ L') : Len L' rows := fun r hr => Nat.le_trans (h r hr) hl
theorem Len_set {L n : Nat} {rows : List (List Tm)} {sum : Tm} (h : Len L rows) (hn : n < rows.length) : Len (L + 1) (rows.set n (rows.getD n [] ++ [sum])) := by
 intro r hr
 rcases List.mem_or_eq_of_mem_set hr with hr | rfl
 ·exact Nat.le_succ_of_le (h r hr)
 ·rw [List.length_append, List.getD_eq_getElem?_getD, List.getElem?_eq_getElem hn]
  exact Nat.succ_le_succ (h _ (List.getElem_mem hn))
theorem fold_len {start : Int} {n : Nat} {sum : Tm} {on1 : List Bool} {rec} {K W : Nat} (hrec : ∀ m s r x L, m < K → r.length = K → Len L r → rec m s r on1 = some x → x.length = K ∧ Len (L + W) x) :
  ∀ (F : List Ed) (r r' : List (List Tm)) (M : Nat), (∀ e ∈ F, e.2.1.toNat < K) → r.length = K → Len M r → F.foldl (edgeS start n sum on1 rec) (some r) = some r' → r'.length = K ∧ Len (M + F.length * W) r' := by
 intro F
 induction F with
 | nil => intro r r' M _ hr hM he; cases he; exact ⟨hr, by simpa using hM⟩
 | cons e F ih =>
  intro r r' M hF hr hM he
  rw [List.foldl_cons] at he
  have hgo : ∀ x, edgeS start n sum on1 rec (some r) e = some x → x.length = K ∧ Len (M + W) x := by
   intro x hx
   simp only [edgeS, Option.bind_some] at hx
   split at hx
   ·split at hx
    ·cases hx
    ·cases hx; exact ⟨hr, Len_mono hM (by omega)⟩
   ·exact hrec _ _ r x M (hF e List.mem_cons_self) hr hM hx
  cases hx : edgeS start n sum on1 rec (some r) e with
  | none => rw [hx, foldl_none] at he; cases he
  | some x =>
   rw [hx] at he
   obtain ⟨h1, h2⟩ := hgo x hx
   obtain ⟨h3, h4⟩ := ih x r' (M + W) (fun e he => hF e (List.mem_cons_of_mem _ he)) h1 h2 he
   refine ⟨h3, Len_mono h4 ?_⟩
   rw [List.length_cons, Nat.succ_mul]; omega
theorem walkP_len (E : List Ed) (start : Int) (hE : E.length ≤ 16) : ∀ f n sum rows on rows' L, (∀ e ∈ E, e.2.1.toNat < rows.length) → n < rows.length → Len L rows → walkP E start f n sum rows on = some rows' → rows'.length = rows.length ∧ Len (L + wT f) rows'
 | 0, n, sum, rows, on, rows', L, _, _, h, he => by
  simp only [walkP] at he; cases he; exact ⟨rfl, h⟩
 | f + 1, n, sum, rows, on, rows', L, hto, hn, h, he => by
  simp only [walkP] at he
  obtain ⟨h1, h2⟩ := fold_len (K := rows.length) (W := wT f) (fun m s r x L hm hr hL hx => by
   have := walkP_len E start hE f m s r _ x L (fun e he => by rw [hr]; exact hto e he) (by rw [hr]; exact hm) hL hx
   exact ⟨this.1.trans hr, this.2⟩) E _ rows' (L + 1) hto (by rw [List.length_set]) (Len_set h hn) he
  refine ⟨h1, Len_mono h2 ?_⟩
  have : E.length * wT f ≤ 16 * wT f := Nat.mul_le_mul_right _ hE
  simp only [wT]; omega
theorem count_set {on : List Bool} {n : Nat} (hn : n < on.length) (h : on.getD n true = false) : (on.set n true).count false + 1 = on.count false := by
 rw [List.getD_eq_getElem?_getD, List.getElem?_eq_getElem hn] at h
 have h : on[n] = false := h
 have h2 : 0 < on.count false := List.count_pos_iff.2 (h ▸ List.getElem_mem hn)
 rw [List.count_set hn, h]; simp; omega
end Mdl
structure WB where
 (ba bo bg bs bw gb ga go ac oc : Nat)
def kE : Kd Ed := Kd.pair kI (Kd.pair kI kLI)
def WB.caps (B : WB) : Array Value := #[.pointer (some ⟨B.ba, 0, none⟩), .pointer (some ⟨B.bo, 0, none⟩), .pointer (some ⟨B.bg, 0, none⟩), .pointer (some ⟨B.bs, 0, none⟩), .pointer (some ⟨B.bw, 0, none⟩)]
def WB.okW (B : WB) (base k : Nat) : Prop := base ≤ k ∧ k ≠ B.ba ∧ k ≠ B.bo ∧ k ≠ B.bg ∧ k ≠ B.bs ∧ k ≠ B.bw ∧ k ≠ B.go
structure WI (B : WB) (w0 : World) (E : List Ed) (eA : Option Addr) (eC : Nat) (N : Nat) (start : Int) (w : World) : Prop where
 below : Below w0.heap.size w0 w
 ca : w.cell? ⟨B.ba, 0, none⟩ = some (.slice (some ⟨B.ga, 0, none⟩) N B.ac)
 co : w.cell? ⟨B.bo, 0, none⟩ = some (.slice (some ⟨B.go, 0, none⟩) N B.oc)
 cg : w.cell? ⟨B.bg, 0, none⟩ = some (.pointer (some ⟨B.gb, 0, none⟩))
 cs : w.cell? ⟨B.bs, 0, none⟩ = some (.int .i64 start)
 cw : w.cell? ⟨B.bw, 0, none⟩ = some (.func (.func 94) #[] B.caps)
 ge : w.cell? ⟨B.gb, 2, none⟩ = some (.slice eA E.length eC)
structure WF (B : WB) (w0 : World) (E : List Ed) (eA : Option Addr) (N : Nat) : Prop where
 hE : kE.C w0 eA E.length E
 e16 : E.length ≤ 16
 edges : ∀ e ∈ E, 0 ≤ e.1 ∧ e.1 < N ∧ 0 ≤ e.2.1 ∧ e.2.1 < N
 dif : B.go ≠ B.ba ∧ B.go ≠ B.bo ∧ B.go ≠ B.bg ∧ B.go ≠ B.bs ∧ B.go ≠ B.bw
 gnew : w0.heap.size ≤ B.go
 gold : B.gb < w0.heap.size
theorem WI.kept {B w0 E eA eC N start w w'} {S : Nat → Prop} (h : WI B w0 E eA eC N start w) (hf : WF B w0 E eA N) (hk : Kept w w' S) (hb : Below w0.heap.size w0 w') (hS : ∀ k, S k → B.okW w0.heap.size k ∨ k = B.go) : WI B w0 E eA eC N start w' := by
 obtain ⟨d1, d2, d3, d4, d5⟩ := hf.dif
 have hn : ∀ b, (b = B.ba ∨ b = B.bo ∨ b = B.bg ∨ b = B.bs ∨ b = B.bw ∨ b < w0.heap.size) → ¬ S b := by
  intro b hb hs
  have g1 := hf.gnew
  rcases hS b hs with ⟨h0, h1, h2, h3, h4, h5, h6⟩ | h0
  ·rcases hb with h | h | h | h | h | h <;> first | contradiction | omega
  ·subst h0
   rcases hb with h | h | h | h | h | h <;> first | contradiction | omega
 exact ⟨hb, cellKept h.ca hk (hn _ (by simp)), cellKept h.co hk (hn _ (by simp)), cellKept h.cg hk (hn _ (by simp)), cellKept h.cs hk (hn _ (by simp)), cellKept h.cw hk (hn _ (by simp)), cellKept h.ge hk (hn _ (by simp [hf.gold]))⟩
end Go.Proofs.YtbkfnmgkcgnifaaGreat
namespace Go.Proofs.YtbkfnmgkcgnifaaGreat
open Go.RowKit Go.Shelf Go.Proofs.YtbkfnmgkcgnifaaGreatW.PrintWords Go.Proofs.YtbkfnmgkcgnifaaGreatW.PrintLast Mdl
abbrev kRows : Kd (List Tm) := Kd.slice 99 kT
def WalkPost (B : WB) (w0 : World) (N : Nat) (ok : Nat → Prop) (w : World) (on : List Bool) (r : Option (List (List Tm))) (e : Ending) (w' : World) : Prop :=
 Below w0.heap.size w0 w' ∧ Kept w w' (fun k => ok k ∨ k = B.go) ∧
 match r with
 | some rows' => e = .returned (.tuple #[]) ∧ Kd.S kRows 68 w' w0.heap.size ok (.slice (some ⟨B.ga, 0, none⟩) N B.ac) rows' ∧ Kd.bool.R 4 w' w0.heap.size (fun k => k = B.go) (.slice (some ⟨B.go, 0, none⟩) N B.oc) on
 | none => e = .panicked (stopE 1)
theorem edge_off {start : Int} {n : Nat} {sum : Tm} {on1 : List Bool} {rec} {rk : List (List Tm)} {e : Ed} (h : (e.1 != (n : Int)) = true) : edgeS start n sum on1 rec (some rk) e = some rk := by
 have h : e.1 ≠ (n : Int) := by simpa using h
 simp [edgeS, h]
theorem edge_to {start : Int} {n : Nat} {sum : Tm} {on1 : List Bool} {rec} {rk : List (List Tm)} {e : Ed} (ho : on1.getD e.2.1.toNat false = true) (h : (e.2.1 != start) = true) : edgeS start n sum on1 rec (some rk) e = some rk := by
 have h : e.2.1 ≠ start := by simpa using h
 simp only [edgeS, Option.bind_some, ho, or_true, if_true, h, false_and, and_false, if_false]
theorem edge_more {start : Int} {n : Nat} {sum : Tm} {on1 : List Bool} {rec} {rk : List (List Tm)} {e : Ed} (ho : on1.getD e.2.1.toNat false = true) (h : (plusT sum (tmOf e.2.2) == (0, 0, 0)) = false) : edgeS start n sum on1 rec (some rk) e = some rk := by
 have h : plusT sum (tmOf e.2.2) ≠ (0, 0, 0) := by simpa using h
 simp only [edgeS, Option.bind_some, ho, or_true, if_true, h, and_false, if_false]
theorem edge_bad {start : Int} {n : Nat} {sum : Tm} {on1 : List Bool} {rec} {rk : List (List Tm)} {e : Ed} (h0 : e.1 = (n : Int)) (ho : on1.getD e.2.1.toNat false = true) (h : (e.2.1 != start) = false) (hz : (plusT sum (tmOf e.2.2) == (0, 0, 0)) = true) : edgeS start n sum on1 rec (some rk) e = none := by
 have h : e.2.1 = start := by simpa using h
 have hz : plusT sum (tmOf e.2.2) = (0, 0, 0) := by simpa using hz
 simp only [edgeS, Option.bind_some]
 rw [if_pos (Or.inr ho), if_pos ⟨h0, h, hz⟩]
theorem edge_go {start : Int} {n : Nat} {sum : Tm} {on1 : List Bool} {rec} {rk : List (List Tm)} {e : Ed} (h0 : e.1 = (n : Int)) (ho : on1.getD e.2.1.toNat false = false) : edgeS start n sum on1 rec (some rk) e = rec e.2.1.toNat (plusT sum (tmOf e.2.2)) rk on1 := by
 simp only [edgeS, Option.bind_some, ho, h0, ne_eq, not_true_eq_false, false_or, Bool.false_eq_true, if_false]
theorem at_edge {w : World} {A : Option Addr} {l : List Ed} (h : kE.C w A l.length l) {k : Nat} (hk : k < l.length) :
  ∃ ad sA sC, A = some ad ∧ w.cell? (ad.add (k * 3)) = some (.int .i64 l[k].1) ∧ w.cell? ⟨(ad.add (k * 3)).block, (ad.add (k * 3)).off + 1, none⟩ = some (.int .i64 l[k].2.1) ∧ w.cell? ⟨(ad.add (k * 3)).block, (ad.add (k * 3)).off + 2, none⟩ = some (.slice sA l[k].2.2.length sC) ∧ kI.C w sA l[k].2.2.length l[k].2.2 ∧ l[k].2.2.length ≤ sC := by
 obtain ⟨ad, c, e, hl, hK, hc⟩ := Kd.C_get h (0, 0, []) (k : Int) (by omega) (by omega)
 rw [Int.toNat_natCast, List.getD_eq_getElem?_getD, List.getElem?_eq_getElem hk] at hK
 rw [Int.toNat_natCast] at hc
 obtain ⟨c0, c1, rfl, h0, c2, c3, rfl, h2, h3⟩ := hK
 cases h0; cases h2
 obtain ⟨sA, sC, rfl, hle, hC⟩ := h3
 refine ⟨ad, sA, sC, e, ?_, ?_, ?_, hC, hle⟩
 ·have := hc 0 _ rfl
  rwa [show kE.sz = 3 from rfl, Nat.add_zero] at this
 ·have := hc 1 _ rfl
  rwa [show kE.sz = 3 from rfl, add_field _ _ _ (by omega)] at this
 ·have := hc 2 _ rfl
  rwa [show kE.sz = 3 from rfl, add_field _ _ _ (by omega)] at this
set_option maxRecDepth 8000 in
set_option maxHeartbeats 4000000 in
theorem walk_any (B : WB) (w0 : World) (E : List Ed) (eA : Option Addr) (eC N : Nat) (start : Int) (hf : WF B w0 E eA N) (M : Nat) (hM : M * 24 ≤ 140737488355328) :
  ∀ (f n : Nat) (sum : Tm) (rows : List (List Tm)) (on : List Bool) (ok : Nat → Prop) (w : World), n < N → on.length = N → rows.length = N → on.getD n true = false → on.count false ≤ f →
   (∀ k, ok k → B.okW w0.heap.size k) → (∀ k, w.heap.size ≤ k → ok k) → Aside0 (∃ L, Len L rows ∧ L + wT f ≤ M) → Aside0 (WI B w0 E eA eC N start w) →
   Aside0 (Kd.S kRows 68 w w0.heap.size ok (.slice (some ⟨B.ga, 0, none⟩) N B.ac) rows) → Aside0 (Kd.bool.R 4 w w0.heap.size (fun k => k = B.go) (.slice (some ⟨B.go, 0, none⟩) N B.oc) on) →
   Calls Tryz.prog 94 (#[.int .i64 n, tmV sum] ++ B.caps) w (WalkPost B w0 N ok w on (walkP E start f n sum rows on)) := by
 intro f
 induction f with
 | zero =>
  intro n sum rows on ok w hn hon hrows hon0 hcount
  exfalso
  have : 0 < on.count false := by
   rw [List.count_pos_iff]
   rw [List.getD_eq_getElem?_getD, List.getElem?_eq_getElem (by omega)] at hon0
   exact hon0 ▸ List.getElem_mem _
  omega
 | succ f ih =>
  intro n sum rows on ok w hn hon hrows hon0 hcount hok hfresh HL HI HS HO
  have IH := Lib.hid ih
  clear ih
  simp only [tmV, WB.caps]
  have hn0 : (0 : Int) ≤ n := by omega
  have hnN : (n : Int) < N := by omega
  have HC := Aside0.mk (show on.length = N ∧ rows.length = N ∧ on.getD n true = false ∧ on.count false ≤ f + 1 from ⟨hon, hrows, hon0, hcount⟩)
  have HOK := Aside0.mk hok
  have HFR := Aside0.mk hfresh
  clear hon hrows hon0 hcount hok hfresh
  go_enter Tryz.func94, Tryz.ntmps94
  go_wp2
  have hb1 := below_new w (.cells #[.int .i64 sum.1, .int .i64 sum.2.1, .int .i64 sum.2.2] 99)
  have hs1 : (w.alloc (.cells #[.int .i64 sum.1, .int .i64 sum.2.1, .int .i64 sum.2.2] 99)).heap.size = w.heap.size + 1 := by simp
  have c0 : (w.alloc (.cells #[.int .i64 sum.1, .int .i64 sum.2.1, .int .i64 sum.2.2] 99)).cell? ⟨w.heap.size, 0, none⟩ = some (.int .i64 sum.1) := new_cell w #[.int .i64 sum.1, .int .i64 sum.2.1, .int .i64 sum.2.2] 99 0
  have c1 : (w.alloc (.cells #[.int .i64 sum.1, .int .i64 sum.2.1, .int .i64 sum.2.2] 99)).cell? ⟨w.heap.size, 1, none⟩ = some (.int .i64 sum.2.1) := new_cell w #[.int .i64 sum.1, .int .i64 sum.2.1, .int .i64 sum.2.2] 99 1
  have c2 : (w.alloc (.cells #[.int .i64 sum.1, .int .i64 sum.2.1, .int .i64 sum.2.2] 99)).cell? ⟨w.heap.size, 2, none⟩ = some (.int .i64 sum.2.2) := new_cell w #[.int .i64 sum.1, .int .i64 sum.2.1, .int .i64 sum.2.2] 99 2
  generalize w.alloc (.cells #[.int .i64 sum.1, .int .i64 sum.2.1, .int .i64 sum.2.2] 99) = w1 at *
  have HS1 : Aside0 (Kd.S kRows 68 w1 w0.heap.size (fun k => ok k ∧ k ≠ w.heap.size) (.slice (some ⟨B.ga, 0, none⟩) N B.ac) rows) := ⟨Kd.S_below (Kd.S_elderB HS.out _ (Nat.le_refl _)) hb1⟩
  have HO1 := Aside0.mk (Kd.R_below HO.out hb1)
  have HI1 := Aside0.mk (HI.out.kept hf (Kept.of_below hb1 (fun _ => False)) (below_then HI.out.below HI.out.below.size hb1) (fun _ h => h.elim))
  have HK1 := Aside0.mk (Kept.of_below hb1 (fun k => ok k ∨ k = B.go))
  clear HS HO hb1
  obtain ⟨oki, c, hcl, hM1, hcc, hfr, hoki, hH⟩ := Kd.S_elem HS1.out [] n hn0 hnN
  obtain ⟨rv, rfl, hRv⟩ := hM1
  have hrow := hcc 0 rv rfl
  rw [Int.toNat_natCast, show kRows.sz = 1 from rfl, Nat.mul_one, Nat.add_zero] at hrow
  rw [Int.toNat_natCast] at hRv
  have ca := HI1.out.ca
  have HRV := Aside0.mk (Kd.R_drew hRv)
  have HH := Aside0.mk (Kd.H_drew hH)
  have HOI := Aside0.mk hoki
  have HO := Aside0.mk (Kd.R_drew HO1.out)
  have HK := Aside0.mk HK1.out.drew
  have HI := Aside0.mk (HI1.out.kept hf (Kept.refl w1 (fun _ => False)).drew (below_drew1 HI1.out.below) (fun _ h => h.elim))
  clear HO1 HK1 HS1
  clear hRv hH hoki hcc hfr HI1 hcl
  refine start_ (n := 11) (S := fun w' => w'.cell? ⟨B.ba, 0, none⟩ = some (.slice (some ⟨B.ga, 0, none⟩) N B.ac) ∧ w'.cell? ⟨B.ga, n, none⟩ = some rv ∧ w'.cell? ⟨w.heap.size, 0, none⟩ = some (.int .i64 sum.1) ∧ w'.cell? ⟨w.heap.size, 1, none⟩ = some (.int .i64 sum.2.1) ∧ w'.cell? ⟨w.heap.size, 2, none⟩ = some (.int .i64 sum.2.2)) (ds := [10]) (bs 11 0) (by kernel_rfl) rfl (by kernel_rfl) ⟨ca, hrow, c0, c1, c2⟩ (fun hHeld => ?_)
  have HS2 := Lib.hid (show w1.drew.heap.size = w.heap.size + 1 from hs1)
  clear c0 c1 c2 ca hrow hs1
  generalize w1.drew = w2 at *
  refine pu 1 13 (bs 11 2) ?_
  refine pu 3 15 (bs 11 10) ?_
  refine tk5 0 12 (bs 11 11) hHeld ?_
  refine tk5 2 14 (bs 11 15) hHeld ?_
  refine pu 4 16 (bs 11 31) ?_
  refine tk5 5 17 (bs 11 63) hHeld ?_
  refine tk5 6 18 (bs 11 127) hHeld ?_
  refine on0 7 19 (bs 11 255) fun K hK => ?_
  refine va0 ?_
  have b0 := below_new w2 (.cells #[.int .i64 sum.1, .int .i64 sum.2.1, .int .i64 sum.2.2] 99)
  have HD := Aside0.mk hHeld
  refine hK.out _ _ ⟨pw_cell_below b0 hHeld.1, pw_cell_below b0 hHeld.2.1, pw_cell_below b0 hHeld.2.2.1, pw_cell_below b0 hHeld.2.2.2.1, pw_cell_below b0 hHeld.2.2.2.2⟩ (fun hHeld => ?_)
  clear hK K
  refine nm0 (some 19) ?_
  clear hHeld b0
  refine on0 8 20 (bs 11 511) fun K hK => ?_
  obtain ⟨L, hL1, hL2⟩ := HL.out
  have hlen : (rows.getD n []).length ≤ L := by
   have := HC.out.2.1
   rw [List.getD_eq_getElem?_getD, List.getElem?_eq_getElem (by omega)]
   exact hL1 _ (List.getElem_mem _)
  refine Kd.R_append_step kT (w0 := w0) w0.heap.size (by rfl) (.tmp 17) (.tmp 19) 68 99 _ 24 rfl Tryz.underlying68 Tryz.infoTime rfl (by decide) (by decide) rv (rows.getD n []) sum [.int .i64 sum.1, .int .i64 sum.2.1, .int .i64 sum.2.2] (fun k => oki k ∨ (ok k ∧ k ≠ w.heap.size) ∧ w2.heap.size ≤ k) (fun _ => False) rfl rfl (kT_M _) (fun _ hk => hk.elim) ?aF ?aO ?aB ?aS ?aL ?_
  case aF => exact fun k hk => .inr ⟨⟨HFR.out k (by have := HS2.out; omega), by have := HS2.out; omega⟩, hk⟩
  case aO => exact Kd.R_mono HRV.out (fun _ hk => .inl hk)
  case aB => exact HI.out.below
  case aS => exact HI.out.below.size
  case aL => simp only [wT] at hL2; omega
  intro v1 w3 hR2 hb2 hg2 hat2
  obtain ⟨A1, c1, hv1⟩ := Kd.R_slice hR2
  generalize (rows.getD n [] ++ [sum]).length = ln at hv1
  subst hv1
  have hrow2 : ∀ k, rv.ownBlock = some k → oki k := fun k hk => HRV.out.1 k hk
  have hH3 := Kd.H_grown (Kd.H_widen HH.out) hg2 (fun k hk => .inl (hrow2 k hk))
  have nk : ∀ b, ¬ (ok b ∧ b ≠ w.heap.size) ∨ b = B.ga → some b ≠ rv.ownBlock := fun b hb he => by
   have := HOI.out b (hrow2 b he.symm)
   rcases hb with hb | hb
   ·exact hb this.1
   ·exact this.2 hb
  have nba : ¬ ok B.ba := fun h => (HOK.out _ h).2.1 rfl
  obtain ⟨hcc3, hfr3⟩ := Kd.H_at hH3 hn0 hnN
  have hc3 := hcc3 0 rv rfl
  have hf3 := hfr3 0
  rw [Int.toNat_natCast, show kRows.sz = 1 from rfl, Nat.mul_one, Nat.add_zero] at hc3 hf3
  have HH3 := Aside0.mk hH3
  have HR3 := Aside0.mk hR2
  have HB3 := Lib.hid hb2
  have HK3 := Lib.hid (HK.out.of_grown hg2 (fun k hk => .inl (.inl (HOI.out k (hrow2 k hk)).1.1)))
  have HI3 := Aside0.mk (HI.out.kept hf (S := oki) (Kept.of_grown hg2 (Kept.refl w2 _) (fun k hk => .inl (hrow2 k hk))) hb2 (fun k hk => .inl (HOK.out k (HOI.out k hk).1.1)))
  have HO3 := Aside0.mk (Kd.R_grown HO.out hg2 (fun k hk he => by subst hk; exact nk B.go (.inl (fun h => (HOK.out _ h.1).2.2.2.2.2.2 rfl)) he))
  have HS3 := Lib.hid (show w2.heap.size ≤ w3.heap.size from hg2.size)
  refine hK.out _ _ ⟨cell_grown hg2 HD.out.1 (nk _ (.inl (fun h => nba h.1))), hc3, cell_grown hg2 HD.out.2.2.1 (nk _ (.inl (fun h => h.2 rfl))), cell_grown hg2 HD.out.2.2.2.1 (nk _ (.inl (fun h => h.2 rfl))), cell_grown hg2 HD.out.2.2.2.2 (nk _ (.inl (fun h => h.2 rfl)))⟩ (fun hHeld => ?_)
  clear hK K
  refine nm0 (some 20) ?_
  clear hH3 hcc3 hfr3 hR2 hb2 hg2 hat2 HH HRV HO HK HI HD nk
  refine pu 9 21 (bs 11 1023) ?_
  refine la0 10 (bs 11 2047) (N := none) fun K hK => ?_
  refine sk0 ?_
  have h4 := Kd.S_seg0 HH3.out hn0 hnN (seg := [.slice A1 ln c1]) (j := 0) (x' := rows.getD n [] ++ [sum]) (Nat.le_refl 1) ⟨_, rfl, HR3.out⟩ (fun k hk => hk.elim .inl .inr)
  rw [Int.toNat_natCast, show kRows.sz = 1 from rfl, Nat.mul_one, Nat.add_zero] at h4
  refine hK.out _ _ ?_
  clear hK K
  refine dn0 ?_
  have e4 : w3.setCells B.ga n [.slice A1 ln c1] = w3.setCell ⟨B.ga, n, none⟩ (.slice A1 ln c1) := rfl
  rw [e4] at h4
  obtain ⟨hs4, hg4⟩ := h4
  have oga : ok B.ga ∧ B.ga ≠ w.heap.size := (Kd.S_R hs4).1 B.ga rfl
  have nga : ∀ b, b = B.ba ∨ b = B.go ∨ b = w.heap.size → some b ≠ some B.ga := fun b hb he => by
   injection he with he
   subst he
   rcases hb with hb | hb | hb
   ·exact nba (hb ▸ oga.1)
   ·exact (HOK.out _ oga.1).2.2.2.2.2.2 hb
   ·exact oga.2 hb
  have HS := Aside0.mk hs4
  have c0 := cell_grown hg4 hHeld.2.2.1 (nga _ (.inr (.inr rfl)))
  have c1' := cell_grown hg4 hHeld.2.2.2.1 (nga _ (.inr (.inr rfl)))
  have c2 := cell_grown hg4 hHeld.2.2.2.2 (nga _ (.inr (.inr rfl)))
  have HB4 := HI3.out.below.grown hg4 HI3.out.below.size (fun k hk => by injection hk with hk; subst hk; exact (HOK.out _ oga.1).1)
  have HI := Aside0.mk (HI3.out.kept hf (S := fun k => k = B.ga) (Kept.of_grown hg4 (Kept.refl w3 _) (fun k hk => .inl (by injection hk with hk; exact hk.symm))) HB4 (fun k hk => .inl (by subst hk; exact HOK.out _ oga.1)))
  have HO := Aside0.mk (Kd.R_grown HO3.out hg4 (fun k hk => nga k (.inr (.inl hk))))
  have HK := Lib.hid (HK3.out.of_grown hg4 (fun k hk => .inl (.inl (by injection hk with hk; subst hk; exact oga.1))))
  have HS4 := Lib.hid (show w.heap.size < (w3.setCell ⟨B.ga, n, none⟩ (.slice A1 ln c1)).heap.size by have := hg4.size; have := HS3.out; have := HS2.out; omega)
  have HLE := Aside0.mk (show ∃ L, Len L (rows.set n (rows.getD n [] ++ [sum])) ∧ L + 16 * wT f ≤ M from ⟨L + 1, Len_set hL1 (by have := HC.out.2.1; omega), by simp only [wT] at hL2; omega⟩)
  clear hs4 hg4 HB4 HH3 HR3 HB3 HK3 HI3 HO3 HS3 HS2 hc3 hf3 hrow2 oga nga HOI e4 hlen hL1 hL2 nba HL
  generalize w3.setCell ⟨B.ga, n, none⟩ (.slice A1 ln c1) = w4 at *
  clear hHeld
  obtain ⟨co, hcol, hcoM, hcoc, hcof⟩ := Kd.R_elem HO.out true n hn0 hnN
  have ho := hcoc 0 _ (by rw [hcoM]; rfl)
  have hof := hcof 0
  have hseg := Kd.R_seg HO.out n hn0 hnN (c := co) (seg := [.bool true]) (j := 0) (x' := true) (okp := fun _ => False) hcol hcoc (Nat.le_refl 1) (by rw [hcoM]; rfl) (fun _ h => h.elim)
  rw [Int.toNat_natCast, show Kd.bool.sz = 1 from rfl, Nat.mul_one, Nat.add_zero] at ho hof
  rw [Int.toNat_natCast, show Kd.bool.sz = 1 from rfl, Nat.mul_one, Nat.add_zero] at hseg
  rw [HC.out.2.2.1] at ho
  have cco := HI.out.co
  have HSEG := Aside0.mk hseg
  clear hseg hcoM hcoc hcol hcof
  go_upto_region 3 with fail
  have e5 : w4.setCells B.go n [.bool true] = w4.setCell ⟨B.go, n, none⟩ (.bool true) := rfl
  rw [e5] at HSEG
  have hg5 := HSEG.out.2
  have d0 := cell_grown hg5 c0 (fun he => by injection he with he; have := (HOK.out _ (HFR.out w.heap.size (Nat.le_refl _))).2.2.2.2.2.2; exact this he)
  have d1 := cell_grown hg5 c1' (fun he => by injection he with he; have := (HOK.out _ (HFR.out w.heap.size (Nat.le_refl _))).2.2.2.2.2.2; exact this he)
  have d2 := cell_grown hg5 c2 (fun he => by injection he with he; have := (HOK.out _ (HFR.out w.heap.size (Nat.le_refl _))).2.2.2.2.2.2; exact this he)
  have HK5 := Lib.hid (HK.out.of_grown hg5 (fun k hk => .inl (.inr (by injection hk with hk; exact hk.symm))))
  have HB5 := HI.out.below.grown hg5 HI.out.below.size (fun k hk => by injection hk with hk; subst hk; exact hf.gnew)
  have HI5 := Aside0.mk (HI.out.kept hf (S := fun k => k = B.go) (Kept.of_grown hg5 (Kept.refl w4 _) (fun k hk => .inl (by injection hk with hk; exact hk.symm))) HB5 (fun k hk => .inr hk))
  have HO5 := Aside0.mk HSEG.out.1
  have HS5 := Aside0.mk (Kd.S_grown HS.out hg5 (fun k hk he => by injection he with he; subst he; exact (HOK.out _ hk.1).2.2.2.2.2.2 rfl))
  have HZ5 := Lib.hid (Nat.lt_of_lt_of_le HS4.out hg5.size)
  clear hg5 HSEG HB5 e5 HS HK HI HO HS4 c0 c1' c2 co ho hof cco hHeld
  generalize w4.setCell ⟨B.go, n, none⟩ (.bool true) = w5 at *
  generalize hR1 : rows.set n (rows.getD n [] ++ [sum]) = rows1 at *
  generalize hO1 : on.set n true = on1 at *
  have cg := HI5.out.cg
  have ge := HI5.out.ge
  have HE := Aside0.mk (Kd.C_below hf.hE HI5.out.below)
  have hEm := Kd.C_max HE.out
  have HR1 := Lib.hid hR1
  have HO1 := Lib.hid hO1
  clear hR1 hO1
  go_wp2
  go_loopw [31] (fun i wr => ∃ k : Nat, k ≤ E.length ∧ i = .int .i64 k ∧ ∃ rk, Aside0 ((E.take k).foldl (edgeS start n sum on1 (walkP E start f)) (some rows1) = some rk ∧ WI B w0 E eA eC N start wr ∧
    Kd.S kRows 68 wr w0.heap.size (fun k => ok k ∧ k ≠ w.heap.size) (.slice (some ⟨B.ga, 0, none⟩) N B.ac) rk ∧ Kd.bool.R 4 wr w0.heap.size (fun k => k = B.go) (.slice (some ⟨B.go, 0, none⟩) N B.oc) on1 ∧ Kept w wr (fun k => ok k ∨ k = B.go)) ∧
    wr.cell? ⟨w.heap.size, 0, none⟩ = some (.int .i64 sum.1) ∧ wr.cell? ⟨w.heap.size, 1, none⟩ = some (.int .i64 sum.2.1) ∧ wr.cell? ⟨w.heap.size, 2, none⟩ = some (.int .i64 sum.2.2)) (fun i _ => E.length - (intOf i).toNat)
  case atStart => exact ⟨0, Nat.zero_le _, rfl, rows1, ⟨rfl, HI5.out, HS5.out, HO5.out, HK5.out⟩, d0, d1, d2⟩
  case round =>
   obtain ⟨k, hk, rfl, rk, hX, hc0, hc1, hc2⟩ := hrel
   by_cases hlt : k < E.length
   ·obtain ⟨ad, sA, sC, rfl, he0, he1, he2, heL, heC⟩ := at_edge (Kd.C_below hf.hE hX.out.2.1.below) hlt
    have HEK := Aside0.mk (show E.take (k + 1) = E.take k ++ [E[k]] ∧ E[k] ∈ E from ⟨List.take_succ_eq_append_getElem hlt, List.getElem_mem _⟩)
    generalize E[k] = ee at *
    have WRL := Lib.hid (World.block_lt_of_cell? wr _ hc0)
    have hkE : (k : Int) < E.length := by omega
    have hk0 : (0 : Int) ≤ k := by omega
    go_upto_region 6 with fail
    have bE := below_new wr (.cells #[.int .i64 ee.1, .int .i64 ee.2.1, .slice sA ee.2.2.length sC] 129)
    have hsz : (wr.alloc (.cells #[.int .i64 ee.1, .int .i64 ee.2.1, .slice sA ee.2.2.length sC] 129)).heap.size = wr.heap.size + 1 := by simp
    have e0 : (wr.alloc (.cells #[.int .i64 ee.1, .int .i64 ee.2.1, .slice sA ee.2.2.length sC] 129)).cell? ⟨wr.heap.size, 0, none⟩ = some (.int .i64 ee.1) := new_cell wr _ _ 0
    have e1 : (wr.alloc (.cells #[.int .i64 ee.1, .int .i64 ee.2.1, .slice sA ee.2.2.length sC] 129)).cell? ⟨wr.heap.size, 1, none⟩ = some (.int .i64 ee.2.1) := new_cell wr _ _ 1
    have e2 : (wr.alloc (.cells #[.int .i64 ee.1, .int .i64 ee.2.1, .slice sA ee.2.2.length sC] 129)).cell? ⟨wr.heap.size, 2, none⟩ = some (.slice sA ee.2.2.length sC) := new_cell wr _ _ 2
    have f0 := pw_cell_below bE hc0
    have f1 := pw_cell_below bE hc1
    have f2 := pw_cell_below bE hc2
    have HEL := Aside0.mk (Kd.C_below heL bE)
    have BE := Lib.hid bE
    have HSZ := Lib.hid hsz
    clear heL bE hsz he0 he1 he2 hc0 hc1 hc2
    generalize wr.alloc (.cells #[.int .i64 ee.1, .int .i64 ee.2.1, .slice sA ee.2.2.length sC] 129) = wq at *
    go_cut [11, 31] from 31 to 72 (fun s11 s31 wx => s31 = .int .i64 k ∧ ∃ g, s11 = .pointer (some ⟨g, 0, none⟩) ∧ wx.cell? ⟨g, 0, none⟩ = some (.int .i64 (plusT sum (tmOf ee.2.2)).1) ∧ wx.cell? ⟨g, 1, none⟩ = some (.int .i64 (plusT sum (tmOf ee.2.2)).2.1) ∧ wx.cell? ⟨g, 2, none⟩ = some (.int .i64 (plusT sum (tmOf ee.2.2)).2.2) ∧ Hid (Below wq.heap.size wq wx ∧ wq.heap.size ≤ g))
    case first =>
     have PL := fun w => Lib.hid (plus_any sum (tmOf ee.2.2) w)
     have TI := fun w h => Lib.hid (timed_any sA sC ee.2.2 w h)
     simp only [tmV] at PL TI
     have HD := Aside0.mk (below_drew1 (Below.refl wq.heap.size wq))
     refine start_ (n := 7) (S := fun w' => w'.cell? ⟨w.heap.size, 0, none⟩ = some (.int .i64 sum.1) ∧ w'.cell? ⟨w.heap.size, 1, none⟩ = some (.int .i64 sum.2.1) ∧ w'.cell? ⟨w.heap.size, 2, none⟩ = some (.int .i64 sum.2.2) ∧ w'.cell? ⟨wr.heap.size, 2, none⟩ = some (.slice sA ee.2.2.length sC)) (ds := [6]) (bs 7 0) (by kernel_rfl) rfl (by kernel_rfl) ⟨f0, f1, f2, e2⟩ (fun hHeld => ?_)
     have HW := Lib.hid (show wq.drew.heap.size = wq.heap.size from rfl)
     generalize wq.drew = wd at *
     refine tk4 0 35 (bs 7 1) hHeld ?_
     refine pu 1 36 (bs 7 3) ?_
     refine tk4 2 37 (bs 7 7) hHeld ?_
     refine join_ 1 #[true, true, true, true, true, true, false] (fun g : Nat => [(38, .agg #[.int .i64 (tmOf ee.2.2).1, .int .i64 (tmOf ee.2.2).2.1, .int .i64 (tmOf ee.2.2).2.2]), (39, .agg #[.int .i64 (plusT sum (tmOf ee.2.2)).1, .int .i64 (plusT sum (tmOf ee.2.2)).2.1, .int .i64 (plusT sum (tmOf ee.2.2)).2.2]), (11, .pointer (some ⟨g, 0, none⟩))]) (fun g w' => Below wq.heap.size wq w' ∧ w'.heap[g]? = some (.cells #[.int .i64 0, .int .i64 0, .int .i64 0] 99) ∧ wq.heap.size ≤ g) ?_ ?_
     ·rintro g w' ⟨hbw, hbk, hge⟩
      have z0 := (blk_cell hbk 0).trans rfl
      have z1 := (blk_cell hbk 1).trans rfl
      have z2 := (blk_cell hbk 2).trans rfl
      have y0 := blk_frozen hbk 0
      have y1 := blk_frozen hbk 1
      have y2 := blk_frozen hbk 2
      refine norm_ (a' := ?_) ?_ ?_
      rotate_left
      ·show putAll _ _ = _
       simp only [putAll, Act.put, List.setIfInBounds_toArray, List.set_cons_zero, List.set_cons_succ]
       rfl
      refine last_ (i := 6) (N := none) #[true, true, true, true, true, true, true] rfl rfl (by kernel_rfl) (by decide) (fun K hK => ?_)
      refine sk0 ?_
      refine hK.out _ _ ?_
      clear hK K
      refine dn0 ?_
      go_wp2_with fail
      go_meet
      refine ⟨rfl, g, rfl, ?_, ?_, ?_, Lib.hid ⟨((hbw.setCell hge _).setCell hge _).setCell hge _, hge⟩⟩ <;> go_simp
     ·intro hcont
      simp only [putAll, Act.put, List.setIfInBounds_toArray, List.set_cons_zero, List.set_cons_succ] at hcont
      have HCT := Lib.hid hcont
      have HS : ∀ W, Below wq.heap.size wq W → W.cell? ⟨w.heap.size, 0, none⟩ = some (.int .i64 sum.1) ∧ W.cell? ⟨w.heap.size, 1, none⟩ = some (.int .i64 sum.2.1) ∧ W.cell? ⟨w.heap.size, 2, none⟩ = some (.int .i64 sum.2.2) ∧ W.cell? ⟨wr.heap.size, 2, none⟩ = some (.slice sA ee.2.2.length sC) := fun W hb => ⟨pw_cell_below hb f0, pw_cell_below hb f1, pw_cell_below hb f2, pw_cell_below hb e2⟩
      have HSH := Lib.hid HS
      clear hcont HS
      refine two_ (i := 3) (j := 5) (Ni := some 38) (Nj := some 11) #[true, true, true, true, false, false, false] #[true, true, true, false, false, true, false] rfl rfl rfl rfl (by kernel_rfl) (by decide) (by decide) (fun K hK => ?_) (fun K hK => ?_)
      ·refine gs0 Tryz.func64 #[.slice sA ee.2.2.length sC] ?_
       refine (TI _ (Kd.C_below HEL.out HD.out)).out.mono ?_
       rintro e w1 ⟨rfl, hb1⟩
       have hB1 := below_then HD.out HD.out.size hb1
       refine ⟨_, rfl, hK.out _ _ (HSH.out _ hB1) (fun hHeld => ?_)⟩
       clear hK K
       refine nm0 (some 38) ?_
       refine two_ (i := 4) (j := 5) (Ni := some 39) (Nj := some 11) #[true, true, true, true, true, false, false] #[true, true, true, true, false, true, false] rfl rfl rfl rfl (by kernel_rfl) (by decide) (by decide) (fun K hK => ?_) (fun K hK => ?_)
       ·refine gs0 Tryz.func75 #[.agg #[.int .i64 sum.1, .int .i64 sum.2.1, .int .i64 sum.2.2], .agg #[.int .i64 (tmOf ee.2.2).1, .int .i64 (tmOf ee.2.2).2.1, .int .i64 (tmOf ee.2.2).2.2]] ?_
        refine (PL _).out.mono ?_
        rintro e w2 ⟨rfl, hb2⟩
        have hB2 := below_then hB1 hB1.size hb2
        refine ⟨_, rfl, hK.out _ _ (HSH.out _ hB2) (fun hHeld => ?_)⟩
        clear hK K
        refine nm0 (some 39) ?_
        refine one_ (i := 5) (N := some 11) #[true, true, true, true, true, true, false] rfl rfl (by kernel_rfl) (by decide) (fun K hK => ?_)
        refine va0 ?_
        have hB3 := below_alloc hB2 (.cells #[.int .i64 0, .int .i64 0, .int .i64 0] 99)
        refine hK.out _ _ (HSH.out _ hB3) (fun hHeld => ?_)
        clear hK K
        refine nm0 (some 11) ?_
        exact HCT.out w2.heap.size _ ⟨hB3, heap_alloc_new w2 _, hB2.size⟩
       ·refine va0 ?_
        have hB2 := below_alloc hB1 (.cells #[.int .i64 0, .int .i64 0, .int .i64 0] 99)
        refine hK.out _ _ (HSH.out _ hB2) (fun hHeld => ?_)
        clear hK K
        refine nm0 (some 11) ?_
        refine one_ (i := 4) (N := some 39) #[true, true, true, true, true, true, false] rfl rfl (by kernel_rfl) (by decide) (fun K hK => ?_)
        refine gs0 Tryz.func75 #[.agg #[.int .i64 sum.1, .int .i64 sum.2.1, .int .i64 sum.2.2], .agg #[.int .i64 (tmOf ee.2.2).1, .int .i64 (tmOf ee.2.2).2.1, .int .i64 (tmOf ee.2.2).2.2]] ?_
        refine (PL _).out.mono ?_
        rintro e w2 ⟨rfl, hb2⟩
        have hB3 := below_then hB2 hB2.size hb2
        refine ⟨_, rfl, hK.out _ _ (HSH.out _ hB3) (fun hHeld => ?_)⟩
        clear hK K
        refine nm0 (some 39) ?_
        exact HCT.out w1.heap.size _ ⟨hB3, blk_below (heap_alloc_new w1 _) hb2, hB1.size⟩
      ·refine va0 ?_
       have hB1 := below_alloc HD.out (.cells #[.int .i64 0, .int .i64 0, .int .i64 0] 99)
       refine hK.out _ _ (HSH.out _ hB1) (fun hHeld => ?_)
       clear hK K
       refine nm0 (some 11) ?_
       refine one_ (i := 3) (N := some 38) #[true, true, true, true, false, true, false] rfl rfl (by kernel_rfl) (by decide) (fun K hK => ?_)
       refine gs0 Tryz.func64 #[.slice sA ee.2.2.length sC] ?_
       refine (TI _ (Kd.C_below HEL.out hB1)).out.mono ?_
       rintro e w1 ⟨rfl, hb1⟩
       have hB2 := below_then hB1 hB1.size hb1
       have Z1 := blk_below (heap_alloc_new wd (.cells #[.int .i64 0, .int .i64 0, .int .i64 0] 99)) hb1
       refine ⟨_, rfl, hK.out _ _ (HSH.out _ hB2) (fun hHeld => ?_)⟩
       clear hK K
       refine nm0 (some 38) ?_
       refine one_ (i := 4) (N := some 39) #[true, true, true, true, true, true, false] rfl rfl (by kernel_rfl) (by decide) (fun K hK => ?_)
       refine gs0 Tryz.func75 #[.agg #[.int .i64 sum.1, .int .i64 sum.2.1, .int .i64 sum.2.2], .agg #[.int .i64 (tmOf ee.2.2).1, .int .i64 (tmOf ee.2.2).2.1, .int .i64 (tmOf ee.2.2).2.2]] ?_
       refine (PL _).out.mono ?_
       rintro e w2 ⟨rfl, hb2⟩
       have hB3 := below_then hB2 hB2.size hb2
       refine ⟨_, rfl, hK.out _ _ (HSH.out _ hB3) (fun hHeld => ?_)⟩
       clear hK K
       refine nm0 (some 39) ?_
       exact HCT.out wd.heap.size _ ⟨hB3, blk_below Z1 hb2, by rw [HW.out]; exact Nat.le_refl _⟩
    case rest =>
     obtain ⟨rfl, g, rfl, n0, n1, n2, HH⟩ := hcut
     have hbq := HH.out.1
     have g0 := pw_cell_below hbq e0
     have g1 := pw_cell_below hbq e1
     have m0 := pw_cell_below hbq f0
     have m1 := pw_cell_below hbq f1
     have m2 := pw_cell_below hbq f2
     have hbr := below_then BE.out BE.out.size hbq
     have HB := Lib.hid hbr
     have HX := Aside0.mk (show WI B w0 E (some ad) eC N start wc ∧ Kd.S kRows 68 wc w0.heap.size (fun k => ok k ∧ k ≠ w.heap.size) (.slice (some ⟨B.ga, 0, none⟩) N B.ac) rk ∧ Kd.bool.R 4 wc w0.heap.size (fun k => k = B.go) (.slice (some ⟨B.go, 0, none⟩) N B.oc) on1 ∧ Kept w wc (fun k => ok k ∨ k = B.go) from
      ⟨hX.out.2.1.kept hf (Kept.of_below hbr (fun _ => False)) (below_then hX.out.2.1.below hX.out.2.1.below.size hbr) (fun _ h => h.elim), Kd.S_below hX.out.2.2.1 hbr, Kd.R_below hX.out.2.2.2.1 hbr, hX.out.2.2.2.2.below hbr⟩)
     obtain ⟨q0, q1, q2, q3⟩ := hf.edges ee HEK.out.2
     have co := HX.out.1.co
     have cs := HX.out.1.cs
     have cw := HX.out.1.cw
     obtain ⟨cl, hcl1, hcl2, hcl3, _⟩ := Kd.R_elem HX.out.2.2.1 false ee.2.1 q2 q3
     have hon := hcl3 0 _ (by rw [hcl2]; rfl)
     rw [show Kd.bool.sz = 1 from rfl, Nat.mul_one, Nat.add_zero] at hon
     have hne : ∀ w, (binOp .neq 99 (.agg #[.int .i64 (plusT sum (tmOf ee.2.2)).1, .int .i64 (plusT sum (tmOf ee.2.2)).2.1, .int .i64 (plusT sum (tmOf ee.2.2)).2.2]) (.agg #[.int .i64 0, .int .i64 0, .int .i64 0])).run Tryz.prog w = .ok (.bool (!(plusT sum (tmOf ee.2.2) == (0, 0, 0)))) w := fun w => run_ne_time (plusT sum (tmOf ee.2.2)) (0, 0, 0) w
     have hstep := fun rk' => show (E.take (k + 1)).foldl (edgeS start n sum on1 (walkP E start f)) (some rows1) = rk' ↔ edgeS start n sum on1 (walkP E start f) (some rk) ee = rk' from by rw [HEK.out.1, List.foldl_append, hX.out.1]; rfl
     have HST := Lib.hid hstep
     clear hcl1 hcl2 hcl3 hbq hbr e0 e1 e2 f0 f1 f2 hstep
     cases hfn : (ee.1 != (n : Int))
     ·have hfe : ee.1 = n := by simpa using hfn
      have HFE := Lib.hid hfe
      cases hot : on1.getD ee.2.1.toNat false
      ·rw [hot] at hon
       have HOT := Lib.hid hot
       clear hot
       have hL := hX.out.1
       have hgl : g < wc.heap.size := World.block_lt_of_cell? wc _ n0
       have hwl : w.heap.size < wr.heap.size := WRL.out
       have hbq := HH.out.1.size
       have hsq := HSZ.out
       have hge := HH.out.2
       have hcall := IH.out ee.2.1.toNat (plusT sum (tmOf ee.2.2)) rk on1 (fun k => (ok k ∧ k ≠ w.heap.size) ∧ k ≠ wr.heap.size ∧ k ≠ g) wc
       have hci : ((ee.2.1.toNat : Nat) : Int) = ee.2.1 := Int.toNat_of_nonneg q2
       simp only [tmV, WB.caps, hci] at hcall
       obtain ⟨L, hL1, hL2⟩ := HLE.out
       have hfl := fold_len (K := N) (W := wT f) (fun m s r x L hm hr hL hx => by
        have := walkP_len E start hf.e16 f m s r _ x L (fun e he => by have := hf.edges e he; omega) (by omega) hL hx
        exact ⟨this.1.trans hr, this.2⟩) (E.take k) rows1 rk L (fun e he => by have := hf.edges e (List.mem_of_mem_take he); omega) (by rw [← HR1.out, List.length_set]; exact HC.out.2.1) hL1 hL
       have hto : ee.2.1.toNat < N := by omega
       have hol : on1.length = N := by rw [← HO1.out, List.length_set]; exact HC.out.1
       have hot : on1.getD ee.2.1.toNat true = false := by
        have := HOT.out
        rw [List.getD_eq_getElem?_getD, List.getElem?_eq_getElem (by omega)] at this ⊢
        exact this
       have hcnt : on1.count false ≤ f := by
        have := count_set (on := on) (n := n) (by have := HC.out.1; omega) HC.out.2.2.1
        have := HC.out.2.2.2
        rw [← HO1.out]; omega
       have hlen : (E.take k).length = k := by rw [List.length_take]; omega
       have hk16 : k * wT f + wT f ≤ 16 * wT f := by
        rw [← Nat.succ_mul]; exact Nat.mul_le_mul_right _ (by have := hf.e16; omega)
       have hcall := hcall hto hol hfl.1 hot hcnt (fun k hk => HOK.out k hk.1.1) (fun k hk => ⟨⟨HFR.out k (by omega), by omega⟩, by omega, by omega⟩)
        ⟨L + k * wT f, by have := hfl.2; rw [hlen] at this; exact this, by omega⟩ ⟨HX.out.1⟩ ⟨Kd.S_below (Kd.S_mono (Kd.S_bound hX.out.2.2.1) (fun k hk => ⟨hk.1, by have := hk.2.2.1; omega, by have := hk.2.2.1; omega⟩)) HB.out⟩ ⟨HX.out.2.2.1⟩
       have HCALL := Lib.hid hcall
       clear hcall hL hgl hwl hbq hsq hge hL1 hL2 hfl hto hol hot hcnt hlen hk16
       have he := enters_of Tryz.func94 (by kernel_rfl) rfl
       go_wp2_with fail
       refine HCALL.out.mono ?_
       rintro e wm ⟨hbm, hkm, hm⟩
       have hkw : Kept w wm (fun k => ok k ∨ k = B.go) := HX.out.2.2.2.then_ hkm (fun k hk => hk.elim (fun h => .inl (.inl h.1.1)) (fun h => .inl (.inr h)))
       have hwm := HX.out.1.kept hf hkm hbm (fun k hk => hk.elim (fun h => .inl (HOK.out k h.1.1)) .inr)
       cases hwp : walkP E start f ee.2.1.toNat (plusT sum (tmOf ee.2.2)) rk on1 with
       | none =>
        rw [hwp] at hm
        subst hm
        have hw : walkP E start (f + 1) n sum rows on = none := by
         simp only [walkP]
         rw [HO1.out, HR1.out]
         exact foldl_take_none E (k + 1) ((HST.out _).2 ((edge_go HFE.out HOT.out).trans hwp))
        refine ⟨rfl, hbm, hkw, ?_⟩
        rw [hw]
       | some rk' =>
        rw [hwp] at hm
        obtain ⟨rfl, hms, hmr⟩ := hm
        have hgow : ¬ (((ok w.heap.size ∧ w.heap.size ≠ w.heap.size) ∧ w.heap.size ≠ wr.heap.size ∧ w.heap.size ≠ g) ∨ w.heap.size = B.go) := by
         rintro (h | h)
         ·exact h.1.2 rfl
         ·exact (HOK.out _ (HFR.out w.heap.size (Nat.le_refl _))).2.2.2.2.2.2 h
        have HM := Aside0.mk (show WI B w0 E (some ad) eC N start wm ∧ _ ∧ _ ∧ Kept w wm (fun k => ok k ∨ k = B.go) from ⟨hwm, Kd.S_mono hms (fun k hk => hk.1), hmr, hkw⟩)
        have t0 := cellKept m0 hkm hgow
        have t1 := cellKept m1 hkm hgow
        have t2 := cellKept m2 hkm hgow
        have HWP := Lib.hid hwp
        clear hbm hkm hms hmr hkw hwm hgow hwp
        go_wp2_with fail
        exact ⟨⟨k + 1, by omega, by go_num, rk', ⟨(HST.out _).2 ((edge_go HFE.out HOT.out).trans HWP.out), HM.out.1, HM.out.2.1, HM.out.2.2.1, HM.out.2.2.2⟩, t0, t1, t2⟩, by simp [intOf]; omega⟩
      ·rw [hot] at hon
       have HOT := Lib.hid hot
       clear hot
       cases hst : (ee.2.1 != start)
       ·have HSR := Lib.hid hst
        cases hz : (plusT sum (tmOf ee.2.2) == (0, 0, 0))
        ·have HZ := Lib.hid hz
         rw [hz] at hne
         clear hz hfe
         go_wp2_with fail
         refine (must_true _ _).mono ?_
         rintro e wm ⟨rfl, rfl⟩
         go_wp2_with fail
         exact ⟨⟨k + 1, by omega, by go_num, rk, ⟨(HST.out _).2 (edge_more HOT.out HZ.out), HX.out.1, HX.out.2.1, HX.out.2.2.1, HX.out.2.2.2⟩, m0, m1, m2⟩, by simp [intOf]; omega⟩
        ·have HZ := Lib.hid hz
         rw [hz] at hne
         clear hz hfe
         go_wp2_with fail
         refine (must_false _ _).mono ?_
         rintro e wm ⟨rfl, rfl⟩
         have hw : walkP E start (f + 1) n sum rows on = none := by
          simp only [walkP]
          rw [HO1.out, HR1.out]
          exact foldl_take_none E (k + 1) ((HST.out _).2 (edge_bad HFE.out HOT.out HSR.out HZ.out))
         refine ⟨rfl, HX.out.1.below, HX.out.2.2.2, ?_⟩
         rw [hw]
       ·have HSR := Lib.hid hst
        clear hfe
        go_wp2_with fail
        refine (must_true _ _).mono ?_
        rintro e wm ⟨rfl, rfl⟩
        go_wp2_with fail
        exact ⟨⟨k + 1, by omega, by go_num, rk, ⟨(HST.out _).2 (edge_to HOT.out HSR.out), HX.out.1, HX.out.2.1, HX.out.2.2.1, HX.out.2.2.2⟩, m0, m1, m2⟩, by simp [intOf]; omega⟩
     ·have HFN := Lib.hid hfn
      go_wp2_with fail
      refine (must_true _ _).mono ?_
      rintro e wm ⟨rfl, rfl⟩
      go_wp2_with fail
      exact ⟨⟨k + 1, by omega, by go_num, rk, ⟨(HST.out _).2 (edge_off HFN.out), HX.out.1, HX.out.2.1, HX.out.2.2.1, HX.out.2.2.2⟩, m0, m1, m2⟩, by simp [intOf]; omega⟩
   ·have hwn := hX.out.2.1.co
    obtain ⟨co, hcol, hcoM, hcoc, hcof⟩ := Kd.R_elem hX.out.2.2.2.1 true n hn0 hnN
    have ho := hcoc 0 _ (by rw [hcoM]; rfl)
    have hof := hcof 0
    have hseg := Kd.R_seg hX.out.2.2.2.1 n hn0 hnN (c := co) (seg := [.bool false]) (j := 0) (x' := false) (okp := fun _ => False) hcol hcoc (Nat.le_refl 1) (by rw [hcoM]; rfl) (fun _ h => h.elim)
    rw [Int.toNat_natCast, show Kd.bool.sz = 1 from rfl, Nat.mul_one, Nat.add_zero] at ho hof
    rw [Int.toNat_natCast, show Kd.bool.sz = 1 from rfl, Nat.mul_one, Nat.add_zero] at hseg
    have HSEG := Aside0.mk hseg
    clear hseg hcoM hcoc hcol hcof
    go_wp2_with fail
    go_end0
    have e5 : wr.setCells B.go n [.bool false] = wr.setCell ⟨B.go, n, none⟩ (.bool false) := rfl
    rw [e5] at HSEG
    obtain ⟨hr5, hg5⟩ := HSEG.out
    have hkE : k = E.length := by omega
    have hL := hX.out.1
    rw [hkE, List.take_length] at hL
    have hw : walkP E start (f + 1) n sum rows on = some rk := by
     simp only [walkP]
     rw [HO1.out, HR1.out]
     exact hL
    refine ⟨hX.out.2.1.below.grown hg5 hX.out.2.1.below.size (fun k hk => by injection hk with hk; subst hk; exact hf.gnew), hX.out.2.2.2.2.of_grown hg5 (fun k hk => .inl (.inr (by injection hk with hk; exact hk.symm))), ?_⟩
    rw [hw]
    refine ⟨rfl, Kd.S_mono (Kd.S_grown hX.out.2.2.1 hg5 (fun k hk he => by injection he with he; subst he; exact (HOK.out _ hk.1).2.2.2.2.2.2 rfl)) (fun k hk => hk.1), ?_⟩
    have : on1.set n false = on := by
     rw [← HO1.out, List.set_set]
     have := HC.out.2.2.1
     rw [List.getD_eq_getElem?_getD, List.getElem?_eq_getElem (by have := HC.out.1; omega)] at this
     have h2 : on[n]'(by have := HC.out.1; omega) = false := this
     rw [← h2]
     exact List.set_getElem_self _
    rw [this] at hr5
    exact hr5
end Go.Proofs.YtbkfnmgkcgnifaaGreat
