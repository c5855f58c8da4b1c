/- ProgressSafe: what is over as some worker believes, is over in truth, for every list of numbers. -/
import Derived.Test.YtbkfnmgkcgnifaaU5
import Derived.SizedLaws
import Derived.ChangeSlices
import Derived.Test.YtbkfnmgkcgnifaaRows
import Derived.WalkKit
import Derived.ProofKit
import Derived.OpenShut
import Derived.ChangeOld
import Derived.Below
set_option linter.all false
namespace Go.Proofs.Ytbkfnmgkcgnifaa
open Go.RowKit Go.Shelf Go.Proofs.YtbkfnmgkcgnifaaW.PrintWords Go.Proofs.YtbkfnmgkcgnifaaW.PrintLast Mdl
set_option maxRecDepth 8000 in
set_option maxHeartbeats 8000000 in
theorem safe_walk (A sA : Option Addr) (c sC : Nat) (l script : List Int) (n0 n1 : Int) (w : World) (hl : kI.C w A l.length l) (hm : l.length ≤ 1000000000000000) (hsc : kI.C w sA script.length script) (hsl : script.length ≤ sC) :
  Calls Try.prog 5 #[.slice A l.length c, .slice sA script.length sC, .agg #[.int .i64 n0, .int .i64 n1]] w fun e w' => e = .returned (.bool true) ∧ Below w.heap.size w w' := by
 have hsm := Kd.C_max hsc
 have HMD := Lib.hid (fun W (hb : Below w.heap.size w W) => made_any A c l W (Kd.C_below hl hb) hm)
 have H0 := Aside0.mk ((Al.start w).row hsc)
 clear hl hsc
 go_enter Try.func5, Try.ntmps5
 go_upto_region 1 with fail
 have H1 := Aside0.mk (H0.out.new (.cells #[.int .i64 n0, .int .i64 n1] 70) (b := w.heap.size) rfl)
 clear H0
 have hb := below_new w (.cells #[.int .i64 n0, .int .i64 n1] 70)
 generalize w.alloc (.cells #[.int .i64 n0, .int .i64 n1] 70) = v1 at *
 go_wp2_with fail
 refine (HMD.out _ hb).mono ?_
 clear hb
 rintro e v2 ⟨p, eA, eC, mA, mC, rfl, hpm, hpa, hle, hlm, hb⟩
 have H2 := Aside0.mk (H1.out.up hb)
 clear H1
 clear hb
 have H3 := Aside0.mk (H2.out.plan hpa)
 clear H2
 obtain ⟨ways, hways⟩ := made_planned hpm
 have HG := Lib.hid (Mdl.Good.mk hpm hways)
 have HLE := Lib.hid (And.intro hle hlm)
 have hWk := hpm.Wk
 simp only [planV]
 clear hpa hpm hways hle hlm HMD
 have H4 := Aside0.mk (H3.out.new (.cells #[.int .i64 p.N, .int .i64 p.Wd, .slice eA p.E.length eC, .int .i64 p.workers, .slice mA p.start.length mC] 29) (b := v2.heap.size) rfl)
 clear H3
 go_upto_region 2 with fail
 generalize v2.alloc (.cells #[.int .i64 p.N, .int .i64 p.Wd, .slice eA p.E.length eC, .int .i64 p.workers, .slice mA p.start.length mC] 29) = v3 at *
 generalize v2.heap.size = pb at *
 go_upto_region 3 with fail
 have ht := cut_len script 40
 simp only [Int.cast_ofNat_Int] at ht
 rw [ht]
 clear ht
 generalize (if (40 : Int) < (script.length : Int) then (40 : Int) else (script.length : Int)) = zz
 have hsc := C_cut H4.out.2.2.2.1.1 40
 have hs40 : (script.take 40).length ≤ 40 := by rw [List.length_take]; omega
 have hsC : (script.take 40).length ≤ sC := by rw [List.length_take]; omega
 generalize script.take 40 = sc at *
 have H5 := Aside0.mk (H4.out.row hsc)
 clear H4
 clear hsc hsl
 have b0 : v3.cell? ⟨w.heap.size, 0, none⟩ = some (.int .i64 n0) := (blk_cell H5.out.2.2.2.1.1 0).trans rfl
 have b1 : v3.cell? ⟨w.heap.size, 1, none⟩ = some (.int .i64 n1) := (blk_cell H5.out.2.2.2.1.1 1).trans rfl
 go_wp2_with fail
 refine (turn_any n0 60 _ (by decide) (by decide)).mono ?_
 rintro e w' ⟨rfl, rfl⟩
 obtain ⟨now, hnow⟩ : ∃ n : Nat, turnP n0 60 = n := ⟨(turnP n0 60).toNat, by have := turnP_range n0 (many := 60) (by decide); omega⟩
 have hnow2 : now < 60 := by have := turnP_range n0 (many := 60) (by decide); omega
 rw [hnow]
 clear hnow
 go_wp2_with fail
 refine (turn_any n1 30 _ (by decide) (by decide)).mono ?_
 rintro e w' ⟨rfl, rfl⟩
 obtain ⟨d, hd⟩ : ∃ n : Nat, turnP n1 30 = n := ⟨(turnP n1 30).toNat, by have := turnP_range n1 (many := 30) (by decide); omega⟩
 have hd2 : d < 30 := by have := turnP_range n1 (many := 30) (by decide); omega
 rw [hd]
 clear hd b0 b1
 go_upto_region 5 with fail
 have p0 : v3.cell? ⟨pb, 0, none⟩ = some (.int .i64 p.N) := (blk_cell H5.out.2.1.1 0).trans rfl
 have p1 : v3.cell? ⟨pb, 1, none⟩ = some (.int .i64 p.Wd) := (blk_cell H5.out.2.1.1 1).trans rfl
 have p2 : v3.cell? ⟨pb, 2, none⟩ = some (.slice eA p.E.length eC) := (blk_cell H5.out.2.1.1 2).trans rfl
 have p3 : v3.cell? ⟨pb, 3, none⟩ = some (.int .i64 p.workers) := (blk_cell H5.out.2.1.1 3).trans rfl
 have p4 : v3.cell? ⟨pb, 4, none⟩ = some (.slice mA p.start.length mC) := (blk_cell H5.out.2.1.1 4).trans rfl
 go_wp2_with fail
 refine (truth_ok (eA := eA) (mA := mA) HG.out (by omega) (now) (by omega) H5.out.2.2.1.1 H5.out.1.1 hsC).mono ?_
 rintro e v4 ⟨A1, c1, rfl, h1, -, hb⟩
 have H6 := Aside0.mk (H5.out.up hb)
 clear H5
 have H7 := Aside0.mk (H6.out.row h1)
 clear H6
 clear hb h1
 clear p0 p1 p2 p3 p4
 go_upto_region 6 with fail
 have p0 : v4.cell? ⟨pb, 0, none⟩ = some (.int .i64 p.N) := (blk_cell H7.out.2.2.1.1 0).trans rfl
 have p1 : v4.cell? ⟨pb, 1, none⟩ = some (.int .i64 p.Wd) := (blk_cell H7.out.2.2.1.1 1).trans rfl
 have p2 : v4.cell? ⟨pb, 2, none⟩ = some (.slice eA p.E.length eC) := (blk_cell H7.out.2.2.1.1 2).trans rfl
 have p3 : v4.cell? ⟨pb, 3, none⟩ = some (.int .i64 p.workers) := (blk_cell H7.out.2.2.1.1 3).trans rfl
 have p4 : v4.cell? ⟨pb, 4, none⟩ = some (.slice mA p.start.length mC) := (blk_cell H7.out.2.2.1.1 4).trans rfl
 go_wp2_with fail
 refine (truth_ok (eA := eA) (mA := mA) HG.out (by omega) (now + d) (by omega) H7.out.2.2.2.1.1 H7.out.2.1.1 hsC).mono ?_
 rintro e v5 ⟨A2, c2, rfl, h1, -, hb⟩
 have H8 := Aside0.mk (H7.out.up hb)
 clear H7
 have H9 := Aside0.mk (H8.out.row h1)
 clear H8
 clear hb h1
 clear p0 p1 p2 p3 p4
 go_upto_region 7 with fail
 go_wp2_with fail
 refine (on_true H9.out.2.1.1 H9.out.1.1 (safe_truth HG.out (by omega) now d)).mono ?_
 rintro e v6 ⟨rfl, hb⟩
 have H10 := Aside0.mk (H9.out.up hb)
 clear H9
 clear hb
 go_wp2_with fail
 have hk0 : (0 : Int) ≤ p.workers := by omega
 go_loopw [14] (fun i wr => ∃ k : Nat, i = .int .i64 k ∧ (k : Int) ≤ p.workers ∧ Aside0 (Below v6.heap.size v6 wr)) (fun i _ => p.workers.toNat - (intOf i).toNat)
 case atStart => exact ⟨0, rfl, hk0, ⟨Below.refl _ _⟩⟩
 case round =>
  clear hk0
  obtain ⟨k, rfl, hk, hX⟩ := hrel
  have H11 := Aside0.mk ((H10.out.up hX.out).since hX.out)
  clear H10
  clear hX
  have p3 : wr.cell? ⟨pb, 3, none⟩ = some (.int .i64 p.workers) := (blk_cell H11.out.2.2.2.2.1.1 3).trans rfl
  by_cases hlt : (k : Int) < p.workers
  ·clear p3
   have p0 : wr.cell? ⟨pb, 0, none⟩ = some (.int .i64 p.N) := (blk_cell H11.out.2.2.2.2.1.1 0).trans rfl
   have p1 : wr.cell? ⟨pb, 1, none⟩ = some (.int .i64 p.Wd) := (blk_cell H11.out.2.2.2.2.1.1 1).trans rfl
   have p2 : wr.cell? ⟨pb, 2, none⟩ = some (.slice eA p.E.length eC) := (blk_cell H11.out.2.2.2.2.1.1 2).trans rfl
   have p3 : wr.cell? ⟨pb, 3, none⟩ = some (.int .i64 p.workers) := (blk_cell H11.out.2.2.2.2.1.1 3).trans rfl
   have p4 : wr.cell? ⟨pb, 4, none⟩ = some (.slice mA p.start.length mC) := (blk_cell H11.out.2.2.2.2.1.1 4).trans rfl
   go_wp2_with fail
   refine (belief_ok (eA := eA) (mA := mA) HG.out (by omega) now k (by omega) hlt H11.out.2.2.2.2.2.1.1 H11.out.2.2.2.1.1 hsC).mono ?_
   rintro e v7 ⟨A3, c3, rfl, h1, -, hb⟩
   have H12 := Aside0.mk (H11.out.up hb)
   clear H11
   have H13 := Aside0.mk (H12.out.row h1)
   clear H12
   clear hb h1
   clear p0 p1 p2 p3 p4
   go_wp2_with fail
   refine (on_true H13.out.1.1 H13.out.2.2.2.1.1 (safe_belief HG.out (by omega) now 0 hlt)).mono ?_
   rintro e v8 ⟨rfl, hb⟩
   have H14 := Aside0.mk (H13.out.up hb)
   clear H13
   clear hb
   go_wp2_with fail
   refine (on_true H14.out.1.1 H14.out.2.2.1.1 (safe_belief HG.out (by omega) now d hlt)).mono ?_
   rintro e v9 ⟨rfl, hb⟩
   have H15 := Aside0.mk (H14.out.up hb)
   clear H14
   clear hb
   go_wp2_with fail
   exact ⟨⟨k + 1, by go_num, by omega, ⟨H15.out.2.1.1⟩⟩, by simp [intOf]; omega⟩
  ·skip
   go_wp2_with fail
   refine progressed_fin H11.out.2.2.2.2.2.2.2.2.1.1 (fun w' hb => ?_)
   go_wp2_with fail
   go_ret
   exact ⟨rfl, hb⟩
end Go.Proofs.Ytbkfnmgkcgnifaa
namespace Go.Proofs.YtbkfnmgkcgnifaaW.PrintWords
open Go.ChangeShapes Go.WideShapes
theorem sized_ints {H : Type} {enc : TypeId × Value → H} {P : Program} {W : World} {base : Nat} {spare : Nat → Bool} {held : Bool} {t e : TypeId} {k : IntKind} {a : Option Addr} {len cap : Nat} {d : DataW H} {ps : List MemPlace} {ts : List TypeId} {ds : List (DataW H)} {j : Nat}
  (hsz : (DataW.weightsEach P ts ds).all (· ≤ reachBytes) = true) (ht : ts[j]? = some t) (hd : ds[j]? = some d) (hu : P.underlying t = some (.slice e)) (he : P.underlying e = some (.int k)) (hc : P.cellsOf e = 1) {B : Nat} (hB : P.bytesOf e = B)
  (h : DataW.Trod enc P W base spare held t (.slice a len cap) d ps) : len * B ≤ 140737488351232 := by
 obtain ⟨fuel, hf⟩ := h
 rcases open_ints hu he hc hf with ⟨hcs, _⟩ | ⟨x, l, c, zs, hcs, _, hl, _, hz, hx, _, _⟩
 ·simp [Value.cells] at hcs
  obtain ⟨rfl, rfl, rfl⟩ := hcs
  simp
 ·simp [Value.cells] at hcs
  obtain ⟨rfl, rfl, rfl⟩ := hcs
  obtain ⟨hx, _⟩ := Prod.mk.inj hx
  subst hx
  have z := sized_slice hsz ht hd hu
  rw [hB] at z
  have hl2 : len ≤ zs.length := by
   rw [hz]
   split
   ·exact hl
   ·exact Nat.le_refl _
  have h1 : (lits (H := H) k (zs.take len)).length + (lits (H := H) k (zs.drop len)).length = zs.length := by
   simp [lits]
   omega
  rw [h1] at z
  exact Nat.le_trans (Nat.mul_le_mul_right _ hl2) z
end Go.Proofs.YtbkfnmgkcgnifaaW.PrintWords
namespace Go.Proofs.Ytbkfnmgkcgnifaa.progressSafe
open Go.ChangeShapes Go.WideShapes Go.ChangeAt Go.RowKit Go.Proofs.YtbkfnmgkcgnifaaW.PrintWords
set_option linter.unusedVariables false
theorem own : ownKnob Try.prog.godebug = none := by kernel_rfl
theorem laidOut : laidOutB Try.prog = true := by kernel_rfl
def IsRow (w : World) (a : Option Addr) (len cap : Nat) (zs : List Int) : Prop :=
 (a = none ∧ len = 0 ∧ cap = 0 ∧ zs = []) ∨
 ∃ x, a = some x ∧ len ≤ cap ∧ cap ≤ maxLen ∧ zs.length = cap ∧ (∀ i, i < zs.length → w.cell? (x.add i) = some (.int .i64 (zs.getD i 0))) ∧ ∀ n ∈ zs, (Lit.int .i64 n).wf = true
theorem ints_of : ∀ (L : List Value), (∀ i, i < L.length → ∃ a : Int, L[i]? = some (.int .i64 a)) → ∃ l : List Int, L = l.map (Value.int .i64)
 | [], _ => ⟨[], rfl⟩
 | x :: L, h => by
  obtain ⟨a, ha⟩ := h 0 (by simp)
  obtain ⟨l, rfl⟩ := ints_of L (fun i hi => by simpa using h (i + 1) (by simp; omega))
  exact ⟨a :: l, by have : x = Value.int .i64 a := (by simpa using ha); rw [this]; rfl⟩
theorem openN {P : Program} {H : Type} {enc : TypeId × Value → H} {W : World} {r : Reach} {b0 base : Nat} {sp : Nat → Bool} {held : Bool} {v : Value} {d : DataW H} {ps : List MemPlace} {t e n : Nat} (hu : P.underlying t = some (.array n e)) (he : P.underlying e = some (.int .i64)) (h1 : P.cellsOf e = 1) (h2 : P.cellsOf t = n) (hv : Value.okWide P W r b0 t v) (h : DataW.Trod enc P W base sp held t v d ps) : ∃ l : List Int, l.length = n ∧ v = .agg (l.map (Value.int .i64)).toArray := by
 simp only [Value.okWide, hu] at hv
 obtain ⟨cs, rfl, hs, _⟩ := hv
 obtain ⟨fuel, hf⟩ := h
 obtain ⟨xs, m, _, _, _, hl, hx⟩ := DataW.trod_array hu hf
 have hlen : cs.toList.length = n := by rw [Array.length_toList, hs, h2]
 obtain ⟨l, hL⟩ := ints_of cs.toList (fun i hi => by
  have e1 := (hx i (by omega)).trans (List.getElem?_eq_getElem (by omega))
  rw [h1, Nat.mul_one] at e1
  obtain ⟨a, ha, _⟩ := DataW.trod_int he e1
  have ha : (cs.toList.drop i).take 1 = [.int .i64 a] := ha
  exact ⟨a, by have h3 := congrArg (fun L => L[0]?) ha; simpa using h3⟩)
 refine ⟨l, ?_, ?_⟩
 ·have := congrArg List.length hL
  rw [List.length_map] at this; omega
 ·congr 1
  apply Array.toList_inj.1
  rw [hL]
set_option maxRecDepth 100000 in
theorem open2 {H : Type} {enc : TypeId × Value → H} {W : World} {r : Reach} {b0 base : Nat} {sp : Nat → Bool} {held : Bool} {v : Value} {d : DataW H} {ps : List MemPlace} (hv : Value.okWide Try.prog W r b0 70 v) (h : DataW.Trod enc Try.prog W base sp held 70 v d ps) : ∃ a0 a1 : Int, v = .agg #[.int .i64 a0, .int .i64 a1] := by
 obtain ⟨l, hl, rfl⟩ := openN Try.underlying70 Try.underlying3 (by kernel_rfl) (by kernel_rfl) hv h
 match l, hl with
 | [a0, a1], _ => exact ⟨a0, a1, rfl⟩
set_option maxRecDepth 100000 in
theorem lifted (os : Os) (started : os.Started) (H : Type) (enc : TypeId × Value → H) :
  ReturnsInHanded {} Try.checked os 5 .any (Rows.progressSafeSpec.pre6 enc Try.prog Try.f5 Rows.progressSafeRow.domain false) (Rows.progressSafeSpec.post enc Try.prog Try.f5 false true false false) := by
 refine returnsInHanded_of_change_sized (C := Try.checked) own started (by kernel_rfl) Try.func5
  (ChangeSpec.witness6 (enc := enc) (C := Try.checked) false ⟨#[], #[.slice none 0 0, .slice none 0 0, .agg #[.int .i64 0, .int .i64 0]], []⟩ 8 (by kernel_rfl) (by kernel_rfl) (by kernel_rfl) (by kernel_rfl)) ?_
 intro W base args ds gs before hval0 hW hcnd hsz0 _
 have hsz : (DataW.weightsEach Try.prog (Try.f5.params.toList ++ Rows.progressSafeSpec.plain.varTypes Try.prog) (ds ++ gs)).all (· ≤ reachBytes) = true := hsz0
 have hval : ∀ (j : Nat) t v, Try.f5.params[j]? = some t → args[j]? = some v → Value.okWide Try.prog W .any base t v := hval0
 have hW' := hW
 obtain ⟨p, q, hA0, hV, rfl, hfz, hnd⟩ := hW
 have hA : DataW.TrodAll enc Try.prog W 0 (fun _ => true) true Try.f5.params.toList args.toList ds p := hA0
 rw [Try.params5] at hA hval hsz
 obtain ⟨v0, vs0, d0, ds0, p0, q0, hargs, rfl, rfl, h0, r0⟩ := trodAll_cons hA
 obtain ⟨v1, vs1, d1, ds1, p1, q1, rfl, rfl, rfl, h1, r1⟩ := trodAll_cons r0
 obtain ⟨v2, vs2, d2, ds2, p2, q2, rfl, rfl, rfl, h2, r2⟩ := trodAll_cons r1
 obtain ⟨rfl, rfl, rfl⟩ := trodAll_nil r2
 obtain rfl : args = #[v0, v1, v2] := by cases args; simp_all
 obtain ⟨rfl, rfl⟩ := trodVars_none hV
 have k0 := h0
 have lt0 : ∀ x ∈ p0, x.block < W.heap.size := by obtain ⟨m, hm⟩ := k0; exact DataW.trod_lt m _ _ _ hm
 obtain ⟨a0, len0, cap0, rfl⟩ := okWide_slice Try.underlying22 (hval 0 22 v0 rfl rfl)
 obtain ⟨z0, w0⟩ : ∃ zs, IsRow W a0 len0 cap0 zs := by
  obtain ⟨fuel, hf⟩ := h0
  rcases open_ints Try.underlying22 Try.underlying3 (by kernel_rfl) hf with ⟨hcs, _⟩ | ⟨x, l, c, zs, hcs, _, hl, hm, hz, _, hcell, hwz⟩
  ·simp [Value.cells] at hcs
   obtain ⟨rfl, rfl, rfl⟩ := hcs
   exact ⟨[], .inl ⟨rfl, rfl, rfl, rfl⟩⟩
  ·simp [Value.cells] at hcs
   obtain ⟨rfl, rfl, rfl⟩ := hcs
   exact ⟨zs, .inr ⟨_, rfl, hl, hm, by simpa using hz, hcell, hwz⟩⟩
 have y0 : len0 * 8 ≤ 140737488351232 := sized_ints hsz (j := 0) (t := 22) rfl rfl Try.underlying22 Try.underlying3 (by kernel_rfl) (by kernel_rfl) h0
 obtain ⟨l0, rfl, hr0, hm0, hw0, hc0⟩ := ReadsInt.ofRowC w0
 have k1 := h1
 have lt1 : ∀ x ∈ p1, x.block < W.heap.size := by obtain ⟨m, hm⟩ := k1; exact DataW.trod_lt m _ _ _ hm
 obtain ⟨a1, len1, cap1, rfl⟩ := okWide_slice Try.underlying22 (hval 1 22 v1 rfl rfl)
 obtain ⟨z1, w1⟩ : ∃ zs, IsRow W a1 len1 cap1 zs := by
  obtain ⟨fuel, hf⟩ := h1
  rcases open_ints Try.underlying22 Try.underlying3 (by kernel_rfl) hf with ⟨hcs, _⟩ | ⟨x, l, c, zs, hcs, _, hl, hm, hz, _, hcell, hwz⟩
  ·simp [Value.cells] at hcs
   obtain ⟨rfl, rfl, rfl⟩ := hcs
   exact ⟨[], .inl ⟨rfl, rfl, rfl, rfl⟩⟩
  ·simp [Value.cells] at hcs
   obtain ⟨rfl, rfl, rfl⟩ := hcs
   exact ⟨zs, .inr ⟨_, rfl, hl, hm, by simpa using hz, hcell, hwz⟩⟩
 have y1 : len1 * 8 ≤ 140737488351232 := sized_ints hsz (j := 1) (t := 22) rfl rfl Try.underlying22 Try.underlying3 (by kernel_rfl) (by kernel_rfl) h1
 obtain ⟨l1, rfl, hr1, hm1, hw1, hc1⟩ := ReadsInt.ofRowC w1
 have k2 := h2
 have lt2 : ∀ x ∈ p2, x.block < W.heap.size := by obtain ⟨m, hm⟩ := k2; exact DataW.trod_lt m _ _ _ hm
 obtain ⟨b0, b1, rfl⟩ := open2 (hval 2 70 v2 rfl rfl) h2
 clear hA0 hval0 hsz0 hsz
 refine (safe_walk a0 a1 cap0 cap1 l0 l1 b0 b1 W (Kd.C_of_reads (d := (0 : Int)) (h1 := fun _ => rfl) hr0) (by omega) (Kd.C_of_reads (d := (0 : Int)) (h1 := fun _ => rfl) hr1) hc1).mono fun e W' ⟨he, bel⟩ => ?_
 subst he
 exact ⟨_, rfl, _, _, _, [], _, [], hW', trodAll_mk1 (shut_bool Try.underlying4 _), (trodAll_cons_mk (Below.trod laidOut (by kernel_rfl) (of_decide_eq_true (by kernel_rfl)) k0 bel lt0) (trodAll_cons_mk (Below.trod laidOut (by kernel_rfl) (of_decide_eq_true (by kernel_rfl)) k1 bel lt1) (trodAll_cons_mk (Below.trod laidOut (by kernel_rfl) (of_decide_eq_true (by kernel_rfl)) k2 bel lt2) trodAll_mk0))), rfl, bel.frame _, fun h => by cases h⟩
theorem over : Rows.progressSafeRow.holds Try.pinned (OpenSpec.ofChange Rows.progressSafeSpec) :=
 OpenClaim.holds_of_wide 5 Try.f5 rfl rfl rfl rfl rfl rfl rfl ⟨rfl, rfl, rfl, rfl, rfl⟩ rfl rfl rfl rfl rfl (by kernel_rfl) Try.func5 (by kernel_rfl)
  (of_decide_eq_true (by kernel_rfl)) (by unfold Func.isWrapper; first | (rw [if_pos (by decide +kernel)]; kernel_rfl) | (rw [if_neg (by decide +kernel)]; exact ⟨rfl, rfl⟩))
  (fun os started H enc _ => lifted os started H enc)
theorem proved : Rows.ProgressSafeSaid := over
#print axioms proved
end Go.Proofs.Ytbkfnmgkcgnifaa.progressSafe
