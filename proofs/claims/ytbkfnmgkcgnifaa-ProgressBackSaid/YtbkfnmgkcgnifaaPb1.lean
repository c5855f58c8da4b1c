/- ProgressBack: what a worker believes to be over stays so, for every list of numbers. -/
import Derived.Test.YtbkfnmgkcgnifaaU5
import Derived.SizedLaws
import Derived.ChangeSlices
import Derived.Test.YtbkfnmgkcgnifaaRows
import Derived.WalkKit
import Derived.ProofKit
import Derived.OpenShut
import Derived.ChangeOld
import Derived.Below
set_option linter.all false
namespace Go.Proofs.Ytbkfnmgkcgnifaa
open Go.RowKit Go.Shelf Go.Proofs.YtbkfnmgkcgnifaaW.PrintWords Go.Proofs.YtbkfnmgkcgnifaaW.PrintLast Mdl
theorem told_ok {p : Plan} {ways : Ways} {eA mA sA xA : Option Addr} {eC mC sC xC : Nat} {sc : List Int} {w : World} (h : Mdl.Good p ways) (hs : sc.length ≤ 300) (who : Nat) (hw : (who : Int) < p.workers) (nd : Nat) (hnd : (nd : Int) < p.N) {tl : List Int} (hl : (tl.length : Int) = p.Wd) (hin : inL 1000 tl) (hp : PlanAt w p eA mA) (hc : kI.C w sA sc.length sc) (hsl : sc.length ≤ sC) (hx : kI.C w xA tl.length tl) : Calls Try.prog 23 #[planV p eA eC mA mC, .slice sA sc.length sC, .int .i64 who, .agg #[.int .i64 nd, .slice xA tl.length xC]] w fun e w' => ∃ r : Nat, e = .returned (.tuple #[.int .i64 r, .int .i64 0]) ∧ (∀ k : Nat, pastP ((beliefF p ways sc k who).getD nd []) tl = decide ((k : Int) < (r : Int))) ∧ Below w.heap.size w w' := by
 obtain ⟨r, h1, h2⟩ := told_spec h hs hw (nd := nd) ⟨by omega, hnd⟩ hl hin
 refine (toldE_any p eA mA sA xA eC mC sC xC sc who nd tl w hp hc hsl hx).mono ?_
 rintro e w' ⟨rfl, hb⟩
 rw [h1]
 refine ⟨r, rfl, fun k => ?_, hb⟩
 have := h2 k
 rw [Int.toNat_natCast] at this
 rw [this]
 simp
set_option maxRecDepth 8000 in
set_option maxHeartbeats 8000000 in
theorem back_walk (A sA : Option Addr) (c sC : Nat) (l script : List Int) (n0 n1 n2 n3 : Int) (w : World) (hl : kI.C w A l.length l) (hm : l.length ≤ 1000000000000000) (hsc : kI.C w sA script.length script) (hsl : script.length ≤ sC) :
  Calls Try.prog 6 #[.slice A l.length c, .slice sA script.length sC, .agg #[.int .i64 n0, .int .i64 n1, .int .i64 n2, .int .i64 n3]] w fun e w' => e = .returned (.bool true) ∧ Below w.heap.size w w' := by
 have HMD := Lib.hid (fun W (hb : Below w.heap.size w W) => made_any A c l W (Kd.C_below hl hb) hm)
 have hsm := Kd.C_max hsc
 have H0 := Aside0.mk ((Al.start w).row hsc)
 clear hl hsc
 go_enter Try.func6, Try.ntmps6
 go_upto_region 1 with fail
 have H1 := Aside0.mk (H0.out.new (.cells #[.int .i64 n0, .int .i64 n1, .int .i64 n2, .int .i64 n3] 72) (b := w.heap.size) rfl)
 clear H0
 have hb := below_new w (.cells #[.int .i64 n0, .int .i64 n1, .int .i64 n2, .int .i64 n3] 72)
 generalize w.alloc (.cells #[.int .i64 n0, .int .i64 n1, .int .i64 n2, .int .i64 n3] 72) = v1 at *
 go_wp2_with fail
 refine (HMD.out _ hb).mono ?_
 clear hb
 rintro e v2 ⟨p, eA, eC, mA, mC, rfl, hpm, hpa, hle, hlm, hb⟩
 have H2 := Aside0.mk (H1.out.up hb)
 clear H1
 clear hb
 have H3 := Aside0.mk (H2.out.plan hpa)
 clear H2
 obtain ⟨ways, hways⟩ := made_planned hpm
 have HG := Lib.hid (Mdl.Good.mk hpm hways)
 have HLE := Lib.hid (And.intro hle hlm)
 have hWk := hpm.Wk
 simp only [planV]
 clear hpa hpm hways hle hlm HMD
 have H4 := Aside0.mk (H3.out.new (.cells #[.int .i64 p.N, .int .i64 p.Wd, .slice eA p.E.length eC, .int .i64 p.workers, .slice mA p.start.length mC] 29) (b := v2.heap.size) rfl)
 clear H3
 go_upto_region 2 with fail
 generalize v2.alloc (.cells #[.int .i64 p.N, .int .i64 p.Wd, .slice eA p.E.length eC, .int .i64 p.workers, .slice mA p.start.length mC] 29) = v3 at *
 generalize v2.heap.size = pb at *
 go_upto_region 3 with fail
 have ht := cut_len script 30
 simp only [Int.cast_ofNat_Int] at ht
 rw [ht]
 clear ht
 generalize (if (30 : Int) < (script.length : Int) then (30 : Int) else (script.length : Int)) = zz
 have hsc := C_cut H4.out.2.2.2.1.1 30
 have hs40 : (script.take 30).length ≤ 30 := by rw [List.length_take]; omega
 have hsC : (script.take 30).length ≤ sC := by rw [List.length_take]; omega
 generalize script.take 30 = sc at *
 have H5 := Aside0.mk (H4.out.row hsc)
 clear H4
 clear hsc hsl
 have hN := HG.out.made.N
 have hWd := HG.out.made.Wd
 have b0 : v3.cell? ⟨w.heap.size, 0, none⟩ = some (.int .i64 n0) := (blk_cell H5.out.2.2.2.1.1 0).trans rfl
 have b1 : v3.cell? ⟨w.heap.size, 1, none⟩ = some (.int .i64 n1) := (blk_cell H5.out.2.2.2.1.1 1).trans rfl
 have p0 : v3.cell? ⟨pb, 0, none⟩ = some (.int .i64 p.N) := (blk_cell H5.out.2.1.1 0).trans rfl
 have p3 : v3.cell? ⟨pb, 3, none⟩ = some (.int .i64 p.workers) := (blk_cell H5.out.2.1.1 3).trans rfl
 go_wp2_with fail
 refine (turn_any n0 p.workers _ (by omega) (by omega)).mono ?_
 rintro e w' ⟨rfl, rfl⟩
 obtain ⟨who, hwho⟩ : ∃ n : Nat, turnP n0 p.workers = n := ⟨(turnP n0 p.workers).toNat, by have := turnP_range n0 (many := p.workers) (by omega); omega⟩
 have hwho2 : (who : Int) < p.workers := by have := turnP_range n0 (many := p.workers) (by omega); omega
 rw [hwho]
 clear hwho
 go_wp2_with fail
 refine (turn_any n1 p.N _ (by omega) (by omega)).mono ?_
 rintro e w' ⟨rfl, rfl⟩
 obtain ⟨nd, hnd⟩ : ∃ n : Nat, turnP n1 p.N = n := ⟨(turnP n1 p.N).toNat, by have := turnP_range n1 (many := p.N) (by omega); omega⟩
 have hnd2 : (nd : Int) < p.N := by have := turnP_range n1 (many := p.N) (by omega); omega
 rw [hnd]
 clear hnd
 clear b0 b1 p0 p3
 have hbk := heap_alloc_new v3 (.cells #[.int .i64 nd, .slice none 0 0] 48)
 have HX2 := Aside0.mk (show NumAt 1000 v3 v3.heap.size nd 0 (v3.alloc (.cells #[.int .i64 nd, .slice none 0 0] 48)) from ⟨[], none, 0, ⟨rfl, fun x hx => by cases hx⟩, hbk, Kd.R_nil _ _ _ _ _, below_new v3 _⟩)
 clear hbk
 go_upto_region 5 with fail
 obtain ⟨mb, hmb⟩ : ∃ mb, mb = v3.heap.size := ⟨_, rfl⟩
 rw [← hmb] at HX2 ⊢
 have HGE := Lib.hid (show v3.heap.size ≤ mb by omega)
 clear hmb
 generalize v3.alloc (.cells #[.int .i64 nd, .slice none 0 0] 48) = vm at *
 go_wp2_with fail
 go_loopw [10] (fun i wq => ∃ j : Nat, i = .int .i64 j ∧ (j : Int) ≤ p.Wd ∧ Aside0 (NumAt 1000 v3 mb nd j wq)) (fun i _ => p.Wd.toNat - (intOf i).toNat)
 case atStart => exact ⟨0, rfl, by omega, HX2⟩
 case round =>
  clear HX2
  obtain ⟨j, rfl, hj, hY⟩ := hrel
  obtain ⟨la, AT, cT, hla, hbk, hR2, hBw⟩ := hY.out
  have HY := Aside0.mk (And.intro hla (And.intro hbk (And.intro hR2 hBw)))
  have HQ := Aside0.mk (H5.out.up hBw)
  have p1 : wr.cell? ⟨pb, 1, none⟩ = some (.int .i64 p.Wd) := (blk_cell HQ.out.2.1.1 1).trans rfl
  have e1 : wr.cell? ⟨mb, 1, none⟩ = some (.slice AT j cT) := (blk_cell hbk 1).trans rfl
  clear hla hR2 hBw hbk hY
  by_cases hjt : (j : Int) < p.Wd
  ·obtain ⟨i2, nj, hI, hi4, hV⟩ : ∃ (i2 : Nat) (nj : Int), wrap64 (2 + (j : Int)) = i2 ∧ (i2 : Int) < 4 ∧ ∀ V : World, V.heap[w.heap.size]? = some (.cells #[.int .i64 n0, .int .i64 n1, .int .i64 n2, .int .i64 n3] 72 (0, 0)) → V.cell? ⟨w.heap.size, i2, none⟩ = some (.int .i64 nj) := by
    have h01 : j = 0 ∨ j = 1 := by omega
    rcases h01 with h | h
    ·subst h; exact ⟨2, n2, (by rw [w64_eq, w64_in (by omega) (by omega)]; rfl), by decide, fun V h => (blk_cell h 2).trans rfl⟩
    ·subst h; exact ⟨3, n3, (by rw [w64_eq, w64_in (by omega) (by omega)]; rfl), by decide, fun V h => (blk_cell h 3).trans rfl⟩
   have hnj := hV wr HQ.out.2.2.2.1.1
   have HNJ := Lib.hid (hV v3 H5.out.2.2.2.1.1)
   clear hV
   have hj2 : j < 2 := by omega
   have hi0 : (0 : Int) ≤ i2 := Int.natCast_nonneg i2
   have HII := Lib.hid hI
   clear hI
   go_upto_region 8 with fail
   refine start_ (n := 11) (S := fun V => V.cell? ⟨mb, 1, none⟩ = some (.slice AT j cT) ∧ V.cell? ⟨w.heap.size, i2, none⟩ = some (.int .i64 nj)) (ds := [10]) (bs 11 0) (by kernel_rfl) rfl (by kernel_rfl) ⟨e1, hnj⟩ (fun hHeld => ?_)
   have HD := Aside0.mk (below_drew1 (Below.refl wr.heap.size wr))
   generalize wr.drew = wd at *
   clear e1 p1 hnj HQ
   refine pu 0 44 (bs 11 1) ?_
   refine tk2 1 45 (bs 11 3) hHeld ?_
   refine pu 2 46 (bs 11 7) ?_
   refine pu 3 47 (bs 11 15) ?_
   simp only [i64_w]
   rw [HII.out]
   refine pu 4 48 (bs 11 31) ?_
   refine tk2 5 49 (bs 11 63) hHeld ?_
   refine on0 6 50 (bs 11 127) fun K hK => ?_
   refine gs0 Try.func10 #[.int .i64 nj, .int .i64 9] ?_
   refine (turn_any nj 9 wd (by decide) (by decide)).mono ?_
   rintro e w' ⟨rfl, rfl⟩
   refine ⟨_, rfl, hK.out _ _ hHeld (fun hHeld => ?_)⟩
   clear hK K
   refine nm0 (some 50) ?_
   have hr := turnP_range nj (many := 9) (by decide)
   generalize turnP nj 9 = r at *
   refine on0 7 51 (bs 11 255) fun K hK => ?_
   refine va0 ?_
   refine hK.out _ _ ⟨pw_cell_below (below_new wd _) hHeld.1, pw_cell_below (below_new wd _) hHeld.2⟩ (fun hHeld => ?_)
   clear hK K
   refine nm0 (some 51) ?_
   have hRd := Kd.R_below HY.out.2.2.1 HD.out
   have hbd := blk_below HY.out.2.1 HD.out
   have hBd := below_then HY.out.2.2.2 HY.out.2.2.2.size HD.out
   have HZ := Aside0.mk (And.intro hRd (And.intro hbd hBd))
   clear hRd hbd hBd
   refine on0 8 52 (bs 11 511) fun K hK => ?_
   refine Kd.R_append_step kI (w0 := v3) v3.heap.size (by rfl) (.tmp 45) (.tmp 51) 22 3 (.int .i64 0) 8 rfl Try.underlying22 Try.infoInt rfl (by decide) (by decide) (.slice AT j cT) la r [.int .i64 r] (fun _ => True) (fun k => some k ≠ (Value.slice AT j cT).ownBlock) rfl rfl rfl (fun _ h => ⟨trivial, h⟩) (fun _ _ => trivial) HZ.out.1 HZ.out.2.2 HZ.out.2.2.size (by have := HY.out.1.1; omega) ?_
   intro v6 w6 hR6 hb6 hg6 hat6
   have hbk6 := blk_over HZ.out.2.1 HZ.out.1 hg6 rfl
   refine hK.out _ _ ⟨(blk_cell hbk6 1).trans rfl, pw_cell_below hb6 HNJ.out⟩ (fun hHeld => ?_)
   clear hK K
   refine nm0 (some 52) ?_
   obtain ⟨A6, c6, hv6⟩ := Kd.R_slice hR6
   generalize hn6 : (la ++ [r]).length = n6 at hv6
   subst hv6
   have y2 := blk_frozen hbk6 1
   have z2 := (blk_cell hbk6 1).trans rfl
   have hS6 := NumAt.snoc HY.out.1 ⟨hr.1, by omega⟩ hn6 hbk6 hR6 hb6 HGE.out
   have HS6 := Aside0.mk hS6
   clear hS6 hR6 hb6 hg6 hat6 hbk6 hn6
   refine pu 9 53 (bs 11 1023) ?_
   refine la0 10 (bs 11 2047) (N := none) fun K hK => ?_
   refine sk0 ?_
   refine hK.out _ _ ?_
   clear hK K hHeld
   refine dn0 ?_
   go_wp2_with fail
   exact ⟨⟨j + 1, by go_num, by omega, HS6⟩, by simp [intOf]; omega⟩
  ·have HJW := Lib.hid (show (j : Int) = p.Wd by omega)
   have e0 : wr.cell? ⟨mb, 0, none⟩ = some (.int .i64 nd) := (blk_cell HY.out.2.1 0).trans rfl
   have hjl := HY.out.1.1
   subst hjl
   have H6 := Aside0.mk (HQ.out.row (Kd.R_reads' HY.out.2.2.1).2.2)
   clear HQ
   have H7 := Aside0.mk (H6.out.blk HY.out.2.1)
   clear H6
   clear p1
   have p0 : wr.cell? ⟨pb, 0, none⟩ = some (.int .i64 p.N) := (blk_cell H7.out.2.2.2.1.1 0).trans rfl
   have p1 : wr.cell? ⟨pb, 1, none⟩ = some (.int .i64 p.Wd) := (blk_cell H7.out.2.2.2.1.1 1).trans rfl
   have p2 : wr.cell? ⟨pb, 2, none⟩ = some (.slice eA p.E.length eC) := (blk_cell H7.out.2.2.2.1.1 2).trans rfl
   have p3 : wr.cell? ⟨pb, 3, none⟩ = some (.int .i64 p.workers) := (blk_cell H7.out.2.2.2.1.1 3).trans rfl
   have p4 : wr.cell? ⟨pb, 4, none⟩ = some (.slice mA p.start.length mC) := (blk_cell H7.out.2.2.2.1.1 4).trans rfl
   go_wp2_with fail
   refine (told_ok (eA := eA) (mA := mA) HG.out (by omega) who hwho2 nd hnd2 HJW.out HY.out.1.2 H7.out.2.2.2.2.1.1 H7.out.2.2.1.1 hsC H7.out.2.1.1).mono ?_
   rintro e v4 ⟨r, rfl, ht, hb⟩
   have H8 := Aside0.mk (H7.out.up hb)
   clear H7
   clear hb
   have HT := Lib.hid ht
   have hr0 : ¬ ((r : Int) < 0) := by omega
   clear ht HY e0 e1
   clear p0 p1 p2 p3 p4
   have p0 : v4.cell? ⟨pb, 0, none⟩ = some (.int .i64 p.N) := (blk_cell H8.out.2.2.2.1.1 0).trans rfl
   have p1 : v4.cell? ⟨pb, 1, none⟩ = some (.int .i64 p.Wd) := (blk_cell H8.out.2.2.2.1.1 1).trans rfl
   have p2 : v4.cell? ⟨pb, 2, none⟩ = some (.slice eA p.E.length eC) := (blk_cell H8.out.2.2.2.1.1 2).trans rfl
   have p3 : v4.cell? ⟨pb, 3, none⟩ = some (.int .i64 p.workers) := (blk_cell H8.out.2.2.2.1.1 3).trans rfl
   have p4 : v4.cell? ⟨pb, 4, none⟩ = some (.slice mA p.start.length mC) := (blk_cell H8.out.2.2.2.1.1 4).trans rfl
   go_wp2_with fail
   refine (belief_ok (eA := eA) (mA := mA) HG.out (by omega) 0 who (by omega) hwho2 H8.out.2.2.2.2.1.1 H8.out.2.2.1.1 hsC).mono ?_
   rintro e v5 ⟨A1, c1, rfl, h1, -, hb⟩
   have H9 := Aside0.mk (H8.out.up hb)
   clear H8
   have H10 := Aside0.mk (H9.out.row h1)
   clear H9
   clear hb h1
   clear p0 p1 p2 p3 p4
   clear hr0 hj HJW
   generalize wr = wo at *
   go_wp2_with fail
   go_loopw [13, 15] (fun a i wr => ∃ (k : Nat) (A : Option Addr) (c : Nat), a = .slice A (beliefF p ways sc (k - 1) who).length c ∧ i = .int .i64 k ∧ k ≤ 40 ∧ Aside0 (kLLI.C wr A (beliefF p ways sc (k - 1) who).length (beliefF p ways sc (k - 1) who) ∧ Below v5.heap.size v5 wr)) (fun _ i _ => 40 - (intOf i).toNat)
   case atStart => exact ⟨0, A1, c1, rfl, rfl, by decide, ⟨H10.out.1.1, Below.refl _ _⟩⟩
   case round =>
    obtain ⟨k, A2, c2, rfl, rfl, hk, hX⟩ := hrel
    have H11 := Aside0.mk ((H10.out.up hX.out.2).since hX.out.2)
    clear H10
    have H12 := Aside0.mk (H11.out.row hX.out.1)
    clear H11
    clear hX
    by_cases hlt : k < 40
    ·have hkE : (k : Int) < 40 := by omega
     have p0 : wr.cell? ⟨pb, 0, none⟩ = some (.int .i64 p.N) := (blk_cell H12.out.2.2.2.2.2.2.1.1 0).trans rfl
     have p1 : wr.cell? ⟨pb, 1, none⟩ = some (.int .i64 p.Wd) := (blk_cell H12.out.2.2.2.2.2.2.1.1 1).trans rfl
     have p2 : wr.cell? ⟨pb, 2, none⟩ = some (.slice eA p.E.length eC) := (blk_cell H12.out.2.2.2.2.2.2.1.1 2).trans rfl
     have p3 : wr.cell? ⟨pb, 3, none⟩ = some (.int .i64 p.workers) := (blk_cell H12.out.2.2.2.2.2.2.1.1 3).trans rfl
     have p4 : wr.cell? ⟨pb, 4, none⟩ = some (.slice mA p.start.length mC) := (blk_cell H12.out.2.2.2.2.2.2.1.1 4).trans rfl
     go_wp2_with fail
     refine (belief_ok (eA := eA) (mA := mA) HG.out (by omega) k who (by omega) hwho2 H12.out.2.2.2.2.2.2.2.1.1 H12.out.2.2.2.2.2.1.1 hsC).mono ?_
     rintro e v6 ⟨A3, c3, rfl, h1, -, hb⟩
     have H13 := Aside0.mk (H12.out.up hb)
     clear H12
     have H14 := Aside0.mk (H13.out.row h1)
     clear H13
     clear hb h1
     clear p0 p1 p2 p3 p4
     have hfl : (beliefF p ways sc k who).length = p.N.toNat := by unfold beliefF; rw [List.length_map, front_len2]
     have hfN : (((beliefF p ways sc k who).length : Int) != p.N) = false := by rw [hfl]; simp; omega
     have hnE : (nd : Int) < ((beliefF p ways sc k who).length : Int) := by rw [hfl]; omega
     have hn0 : (0 : Int) ≤ nd := Int.natCast_nonneg nd
     have hnl : nd < (beliefF p ways sc k who).length := by omega
     obtain ⟨ad, xA, xC, rfl, c1, d1, _⟩ := at_lli H14.out.1.1 hnl
     have HPQ := Lib.hid (show pastP (beliefF p ways sc k who)[nd] la = decide ((k : Int) < (r : Int)) by rw [← HT.out k, List.getD_eq_getElem?_getD, List.getElem?_eq_getElem hnl]; rfl)
     generalize (beliefF p ways sc k who)[nd] = x at *
     have H15 := Aside0.mk (H14.out.row d1)
     clear H14
     clear d1 hnl hfl
     have p0 : v6.cell? ⟨pb, 0, none⟩ = some (.int .i64 p.N) := (blk_cell H15.out.2.2.2.2.2.2.2.2.1.1 0).trans rfl
     have e0 : v6.cell? ⟨mb, 0, none⟩ = some (.int .i64 nd) := (blk_cell H15.out.2.2.2.2.2.1.1 0).trans rfl
     have e1 : v6.cell? ⟨mb, 1, none⟩ = some (.slice AT la.length cT) := (blk_cell H15.out.2.2.2.2.2.1.1 1).trans rfl
     have HBB := Lib.hid (show onP (beliefF p ways sc (k - 1) who) (beliefF p ways sc k who) = true from by cases k with | zero => exact self_belief HG.out (by omega) hwho2 0 | succ k => exact back_belief HG.out (by omega) hwho2 k)
     go_upto_region 17 with fail
     refine start_ (n := 34) (S := fun V => V.cell? ⟨pb, 0, none⟩ = some (.int .i64 p.N) ∧ V.cell? ⟨mb, 0, none⟩ = some (.int .i64 nd) ∧ V.cell? ⟨mb, 1, none⟩ = some (.slice AT la.length cT) ∧ V.cell? (ad.add nd) = some (.slice xA x.length xC)) (ds := []) (bs 34 0) (by kernel_rfl) rfl (by kernel_rfl) ⟨p0, e0, e1, c1⟩ (fun hHeld => ?_)
     have H16 := Aside0.mk (H15.out.up (below_drew1 (Below.refl v6.heap.size v6)))
     clear H15
     generalize v6.drew = wd at *
     have HSH := Lib.hid (fun V (hb : Below wd.heap.size wd V) => (And.intro (pw_cell_below hb hHeld.1) (And.intro (pw_cell_below hb hHeld.2.1) (And.intro (pw_cell_below hb hHeld.2.2.1) (pw_cell_below hb hHeld.2.2.2)))))
     clear p0 e0 e1 c1
     refine pu 0 87 (bs 34 1) ?_
     refine pu 1 88 (bs 34 3) ?_
     refine pu 2 89 (bs 34 7) ?_
     refine pu 3 90 (bs 34 15) ?_
     refine pu 4 91 (bs 34 31) ?_
     refine pu 5 92 (bs 34 63) ?_
     refine pu 6 93 (bs 34 127) ?_
     refine pu 7 94 (bs 34 255) ?_
     refine pu 8 95 (bs 34 511) ?_
     refine pu 9 96 (bs 34 1023) ?_
     refine pu 10 97 (bs 34 2047) ?_
     refine tk4 11 98 (bs 34 4095) hHeld ?_
     refine pu 12 99 (bs 34 8191) ?_
     refine pu 13 100 (bs 34 16383) ?_
     refine pu 14 101 (bs 34 32767) ?_
     refine pu 15 102 (bs 34 65535) ?_
     refine pu 16 103 (bs 34 131071) ?_
     refine on0 17 104 (bs 34 262143) fun K hK => ?_
     refine gs0 Try.func28 #[.slice A2 (beliefF p ways sc (k - 1) who).length c2, .slice (some ad) (beliefF p ways sc k who).length c3] ?_
     refine (on_true H16.out.2.2.1.1 H16.out.2.1.1 HBB.out).mono ?_
     rintro e v7 ⟨rfl, hb⟩
     have H17 := Aside0.mk (H16.out.up hb)
     clear H16
     refine ⟨_, rfl, hK.out _ _ (HSH.out _ hb) (fun hHeld => ?_)⟩
     clear hK K
     refine nm0 (some 104) ?_
     have hb1 := hb
     clear hb
     refine pu 18 105 (bs 34 524287) ?_
     refine pu 19 106 (bs 34 1048575) ?_
     refine pu 20 107 (bs 34 2097151) ?_
     refine pu 21 108 (bs 34 4194303) ?_
     refine pu 22 109 (bs 34 8388607) ?_
     refine tk4 23 110 (bs 34 16777215) hHeld ?_
     refine pu 24 111 (bs 34 33554431) ?_
     refine tk4 25 112 (bs 34 67108863) hHeld ?_
     refine pu 26 113 (bs 34 134217727) ?_
     refine tk4 27 114 (bs 34 268435455) hHeld ?_
     refine pu 29 116 (bs 34 805306367) ?_
     refine pu 30 117 (bs 34 1879048191) ?_
     refine pu 31 118 (bs 34 4026531839) ?_
     refine on0 28 115 (bs 34 4294967295) fun K hK => ?_
     refine gs0 Try.func13 #[.slice xA x.length xC, .slice AT la.length cT] ?_
     refine (past_any xA AT xC cT x la _ H17.out.1.1 H17.out.2.2.2.2.2.2.1.1).mono ?_
     rintro e v8 ⟨rfl, hb⟩
     have H18 := Aside0.mk (H17.out.up hb)
     clear H17
     have hb := below_then hb1 hb1.size hb
     refine ⟨_, rfl, hK.out _ _ (HSH.out _ hb) (fun hHeld => ?_)⟩
     clear hK K
     refine nm0 (some 115) ?_
     clear hb hb1 HSH hHeld
     rw [HPQ.out]
     refine pu 32 119 (bs 34 8589934591) ?_
     refine pu 33 120 (bs 34 17179869183) ?_
     refine dn0 ?_
     go_wp2_with fail
     exact ⟨⟨k + 1, _, c3, rfl, by go_num, by omega, ⟨H18.out.2.1.1, H18.out.2.2.2.1.1⟩⟩, by simp [intOf]; omega⟩
    ·have hkE : ¬ (k : Int) < 40 := by omega
     go_wp2_with fail
     refine progressed_fin H12.out.2.2.2.2.2.2.2.2.2.2.1.1 (fun w' hb => ?_)
     go_wp2_with fail
     go_ret
     exact ⟨rfl, hb⟩
end Go.Proofs.Ytbkfnmgkcgnifaa
namespace Go.Proofs.YtbkfnmgkcgnifaaW.PrintWords
open Go.ChangeShapes Go.WideShapes
theorem sized_ints {H : Type} {enc : TypeId × Value → H} {P : Program} {W : World} {base : Nat} {spare : Nat → Bool} {held : Bool} {t e : TypeId} {k : IntKind} {a : Option Addr} {len cap : Nat} {d : DataW H} {ps : List MemPlace} {ts : List TypeId} {ds : List (DataW H)} {j : Nat}
  (hsz : (DataW.weightsEach P ts ds).all (· ≤ reachBytes) = true) (ht : ts[j]? = some t) (hd : ds[j]? = some d) (hu : P.underlying t = some (.slice e)) (he : P.underlying e = some (.int k)) (hc : P.cellsOf e = 1) {B : Nat} (hB : P.bytesOf e = B)
  (h : DataW.Trod enc P W base spare held t (.slice a len cap) d ps) : len * B ≤ 140737488351232 := by
 obtain ⟨fuel, hf⟩ := h
 rcases open_ints hu he hc hf with ⟨hcs, _⟩ | ⟨x, l, c, zs, hcs, _, hl, _, hz, hx, _, _⟩
 ·simp [Value.cells] at hcs
  obtain ⟨rfl, rfl, rfl⟩ := hcs
  simp
 ·simp [Value.cells] at hcs
  obtain ⟨rfl, rfl, rfl⟩ := hcs
  obtain ⟨hx, _⟩ := Prod.mk.inj hx
  subst hx
  have z := sized_slice hsz ht hd hu
  rw [hB] at z
  have hl2 : len ≤ zs.length := by
   rw [hz]
   split
   ·exact hl
   ·exact Nat.le_refl _
  have h1 : (lits (H := H) k (zs.take len)).length + (lits (H := H) k (zs.drop len)).length = zs.length := by
   simp [lits]
   omega
  rw [h1] at z
  exact Nat.le_trans (Nat.mul_le_mul_right _ hl2) z
end Go.Proofs.YtbkfnmgkcgnifaaW.PrintWords
namespace Go.Proofs.Ytbkfnmgkcgnifaa.progressBack
open Go.ChangeShapes Go.WideShapes Go.ChangeAt Go.RowKit Go.Proofs.YtbkfnmgkcgnifaaW.PrintWords
set_option linter.unusedVariables false
theorem own : ownKnob Try.prog.godebug = none := by kernel_rfl
theorem laidOut : laidOutB Try.prog = true := by kernel_rfl
def IsRow (w : World) (a : Option Addr) (len cap : Nat) (zs : List Int) : Prop :=
 (a = none ∧ len = 0 ∧ cap = 0 ∧ zs = []) ∨
 ∃ x, a = some x ∧ len ≤ cap ∧ cap ≤ maxLen ∧ zs.length = cap ∧ (∀ i, i < zs.length → w.cell? (x.add i) = some (.int .i64 (zs.getD i 0))) ∧ ∀ n ∈ zs, (Lit.int .i64 n).wf = true
theorem ints_of : ∀ (L : List Value), (∀ i, i < L.length → ∃ a : Int, L[i]? = some (.int .i64 a)) → ∃ l : List Int, L = l.map (Value.int .i64)
 | [], _ => ⟨[], rfl⟩
 | x :: L, h => by
  obtain ⟨a, ha⟩ := h 0 (by simp)
  obtain ⟨l, rfl⟩ := ints_of L (fun i hi => by simpa using h (i + 1) (by simp; omega))
  exact ⟨a :: l, by have : x = Value.int .i64 a := (by simpa using ha); rw [this]; rfl⟩
theorem openN {P : Program} {H : Type} {enc : TypeId × Value → H} {W : World} {r : Reach} {b0 base : Nat} {sp : Nat → Bool} {held : Bool} {v : Value} {d : DataW H} {ps : List MemPlace} {t e n : Nat} (hu : P.underlying t = some (.array n e)) (he : P.underlying e = some (.int .i64)) (h1 : P.cellsOf e = 1) (h2 : P.cellsOf t = n) (hv : Value.okWide P W r b0 t v) (h : DataW.Trod enc P W base sp held t v d ps) : ∃ l : List Int, l.length = n ∧ v = .agg (l.map (Value.int .i64)).toArray := by
 simp only [Value.okWide, hu] at hv
 obtain ⟨cs, rfl, hs, _⟩ := hv
 obtain ⟨fuel, hf⟩ := h
 obtain ⟨xs, m, _, _, _, hl, hx⟩ := DataW.trod_array hu hf
 have hlen : cs.toList.length = n := by rw [Array.length_toList, hs, h2]
 obtain ⟨l, hL⟩ := ints_of cs.toList (fun i hi => by
  have e1 := (hx i (by omega)).trans (List.getElem?_eq_getElem (by omega))
  rw [h1, Nat.mul_one] at e1
  obtain ⟨a, ha, _⟩ := DataW.trod_int he e1
  have ha : (cs.toList.drop i).take 1 = [.int .i64 a] := ha
  exact ⟨a, by have h3 := congrArg (fun L => L[0]?) ha; simpa using h3⟩)
 refine ⟨l, ?_, ?_⟩
 ·have := congrArg List.length hL
  rw [List.length_map] at this; omega
 ·congr 1
  apply Array.toList_inj.1
  rw [hL]
set_option maxRecDepth 100000 in
theorem open4 {H : Type} {enc : TypeId × Value → H} {W : World} {r : Reach} {b0 base : Nat} {sp : Nat → Bool} {held : Bool} {v : Value} {d : DataW H} {ps : List MemPlace} (hv : Value.okWide Try.prog W r b0 72 v) (h : DataW.Trod enc Try.prog W base sp held 72 v d ps) : ∃ a0 a1 a2 a3 : Int, v = .agg #[.int .i64 a0, .int .i64 a1, .int .i64 a2, .int .i64 a3] := by
 obtain ⟨l, hl, rfl⟩ := openN Try.underlying72 Try.underlying3 (by kernel_rfl) (by kernel_rfl) hv h
 match l, hl with
 | [a0, a1, a2, a3], _ => exact ⟨a0, a1, a2, a3, rfl⟩
set_option maxRecDepth 100000 in
theorem lifted (os : Os) (started : os.Started) (H : Type) (enc : TypeId × Value → H) :
  ReturnsInHanded {} Try.checked os 6 .any (Rows.progressBackSpec.pre6 enc Try.prog Try.f6 Rows.progressBackRow.domain false) (Rows.progressBackSpec.post enc Try.prog Try.f6 false true false false) := by
 refine returnsInHanded_of_change_sized (C := Try.checked) own started (by kernel_rfl) Try.func6
  (ChangeSpec.witness6 (enc := enc) (C := Try.checked) false ⟨#[], #[.slice none 0 0, .slice none 0 0, .agg #[.int .i64 0, .int .i64 0, .int .i64 0, .int .i64 0]], []⟩ 8 (by kernel_rfl) (by kernel_rfl) (by kernel_rfl) (by kernel_rfl)) ?_
 intro W base args ds gs before hval0 hW hcnd hsz0 _
 have hsz : (DataW.weightsEach Try.prog (Try.f6.params.toList ++ Rows.progressBackSpec.plain.varTypes Try.prog) (ds ++ gs)).all (· ≤ reachBytes) = true := hsz0
 have hval : ∀ (j : Nat) t v, Try.f6.params[j]? = some t → args[j]? = some v → Value.okWide Try.prog W .any base t v := hval0
 have hW' := hW
 obtain ⟨p, q, hA0, hV, rfl, hfz, hnd⟩ := hW
 have hA : DataW.TrodAll enc Try.prog W 0 (fun _ => true) true Try.f6.params.toList args.toList ds p := hA0
 rw [Try.params6] at hA hval hsz
 obtain ⟨v0, vs0, d0, ds0, p0, q0, hargs, rfl, rfl, h0, r0⟩ := trodAll_cons hA
 obtain ⟨v1, vs1, d1, ds1, p1, q1, rfl, rfl, rfl, h1, r1⟩ := trodAll_cons r0
 obtain ⟨v2, vs2, d2, ds2, p2, q2, rfl, rfl, rfl, h2, r2⟩ := trodAll_cons r1
 obtain ⟨rfl, rfl, rfl⟩ := trodAll_nil r2
 obtain rfl : args = #[v0, v1, v2] := by cases args; simp_all
 obtain ⟨rfl, rfl⟩ := trodVars_none hV
 have k0 := h0
 have lt0 : ∀ x ∈ p0, x.block < W.heap.size := by obtain ⟨m, hm⟩ := k0; exact DataW.trod_lt m _ _ _ hm
 obtain ⟨a0, len0, cap0, rfl⟩ := okWide_slice Try.underlying22 (hval 0 22 v0 rfl rfl)
 obtain ⟨z0, w0⟩ : ∃ zs, IsRow W a0 len0 cap0 zs := by
  obtain ⟨fuel, hf⟩ := h0
  rcases open_ints Try.underlying22 Try.underlying3 (by kernel_rfl) hf with ⟨hcs, _⟩ | ⟨x, l, c, zs, hcs, _, hl, hm, hz, _, hcell, hwz⟩
  ·simp [Value.cells] at hcs
   obtain ⟨rfl, rfl, rfl⟩ := hcs
   exact ⟨[], .inl ⟨rfl, rfl, rfl, rfl⟩⟩
  ·simp [Value.cells] at hcs
   obtain ⟨rfl, rfl, rfl⟩ := hcs
   exact ⟨zs, .inr ⟨_, rfl, hl, hm, by simpa using hz, hcell, hwz⟩⟩
 have y0 : len0 * 8 ≤ 140737488351232 := sized_ints hsz (j := 0) (t := 22) rfl rfl Try.underlying22 Try.underlying3 (by kernel_rfl) (by kernel_rfl) h0
 obtain ⟨l0, rfl, hr0, hm0, hw0, hc0⟩ := ReadsInt.ofRowC w0
 have k1 := h1
 have lt1 : ∀ x ∈ p1, x.block < W.heap.size := by obtain ⟨m, hm⟩ := k1; exact DataW.trod_lt m _ _ _ hm
 obtain ⟨a1, len1, cap1, rfl⟩ := okWide_slice Try.underlying22 (hval 1 22 v1 rfl rfl)
 obtain ⟨z1, w1⟩ : ∃ zs, IsRow W a1 len1 cap1 zs := by
  obtain ⟨fuel, hf⟩ := h1
  rcases open_ints Try.underlying22 Try.underlying3 (by kernel_rfl) hf with ⟨hcs, _⟩ | ⟨x, l, c, zs, hcs, _, hl, hm, hz, _, hcell, hwz⟩
  ·simp [Value.cells] at hcs
   obtain ⟨rfl, rfl, rfl⟩ := hcs
   exact ⟨[], .inl ⟨rfl, rfl, rfl, rfl⟩⟩
  ·simp [Value.cells] at hcs
   obtain ⟨rfl, rfl, rfl⟩ := hcs
   exact ⟨zs, .inr ⟨_, rfl, hl, hm, by simpa using hz, hcell, hwz⟩⟩
 have y1 : len1 * 8 ≤ 140737488351232 := sized_ints hsz (j := 1) (t := 22) rfl rfl Try.underlying22 Try.underlying3 (by kernel_rfl) (by kernel_rfl) h1
 obtain ⟨l1, rfl, hr1, hm1, hw1, hc1⟩ := ReadsInt.ofRowC w1
 have k2 := h2
 have lt2 : ∀ x ∈ p2, x.block < W.heap.size := by obtain ⟨m, hm⟩ := k2; exact DataW.trod_lt m _ _ _ hm
 obtain ⟨b0, b1, b2, b3, rfl⟩ := open4 (hval 2 72 v2 rfl rfl) h2
 clear hA0 hval0 hsz0 hsz
 refine (back_walk a0 a1 cap0 cap1 l0 l1 b0 b1 b2 b3 W (Kd.C_of_reads (d := (0 : Int)) (h1 := fun _ => rfl) hr0) (by omega) (Kd.C_of_reads (d := (0 : Int)) (h1 := fun _ => rfl) hr1) hc1).mono fun e W' ⟨he, bel⟩ => ?_
 subst he
 exact ⟨_, rfl, _, _, _, [], _, [], hW', trodAll_mk1 (shut_bool Try.underlying4 _), (trodAll_cons_mk (Below.trod laidOut (by kernel_rfl) (of_decide_eq_true (by kernel_rfl)) k0 bel lt0) (trodAll_cons_mk (Below.trod laidOut (by kernel_rfl) (of_decide_eq_true (by kernel_rfl)) k1 bel lt1) (trodAll_cons_mk (Below.trod laidOut (by kernel_rfl) (of_decide_eq_true (by kernel_rfl)) k2 bel lt2) trodAll_mk0))), rfl, bel.frame _, fun h => by cases h⟩
theorem over : Rows.progressBackRow.holds Try.pinned (OpenSpec.ofChange Rows.progressBackSpec) :=
 OpenClaim.holds_of_wide 6 Try.f6 rfl rfl rfl rfl rfl rfl rfl ⟨rfl, rfl, rfl, rfl, rfl⟩ rfl rfl rfl rfl rfl (by kernel_rfl) Try.func6 (by kernel_rfl)
  (of_decide_eq_true (by kernel_rfl)) (by unfold Func.isWrapper; first | (rw [if_pos (by decide +kernel)]; kernel_rfl) | (rw [if_neg (by decide +kernel)]; exact ⟨rfl, rfl⟩))
  (fun os started H enc _ => lifted os started H enc)
theorem proved : Rows.ProgressBackSaid := over
#print axioms proved
end Go.Proofs.Ytbkfnmgkcgnifaa.progressBack
