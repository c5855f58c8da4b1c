/- Part 3 of the proof of ProgressChecks. -/
import Derived.Test.YtbkfnmgkcgnifaaGreatV2
import Derived.WalkMore
set_option linter.all false
namespace Go.Proofs.YtbkfnmgkcgnifaaGreat
open Go.RowKit Go.Shelf Go.Proofs.YtbkfnmgkcgnifaaGreatW.PrintWords Go.Proofs.YtbkfnmgkcgnifaaGreatW.PrintLast Mdl
def Mdl.fromP (E : List Ed) (N start : Nat) : Option (List (List Tm)) := (walkP E start N start (0, 0, 0) (List.replicate N []) (List.replicate N false)).map (List.map firstsT)
theorem Tryz.infoLt : (Tryz.prog.info? 68).map (fun i => (i.zero, i.size, i.bytes)) = some (some (.slice none 0 0), 1, 24) := by kernel_rfl
theorem Tryz.infoBool : (Tryz.prog.info? 4).map (fun i => (i.zero, i.size, i.bytes)) = some (some (.bool false), 1, 1) := by kernel_rfl
def FromPost (w : World) (N : Nat) (r : Option (List (List Tm))) (e : Ending) (w' : World) : Prop := Below w.heap.size w w' ∧
 match r with
 | some rows => ∃ v, e = .returned v ∧ Kd.S kRows 68 w' w.heap.size (fun _ => True) v rows ∧ rows.length = N
 | none => e = .panicked (stopE 1)
theorem set_step {rows : List (List Tm)} {k : Nat} (f : List Tm → List Tm) (h : k < rows.length) : ((rows.map f).take k ++ rows.drop k).set k (f rows[k]) = (rows.map f).take (k + 1) ++ rows.drop (k + 1) := by
 have h2 : k < (rows.map f).length := by simpa using h
 rw [List.set_append_right _ _ (by simp; omega), List.take_succ_eq_append_getElem h2, List.append_assoc]
 congr 1
 rw [show k - ((rows.map f).take k).length = 0 by simp; omega, List.drop_eq_getElem_cons h, List.getElem_map]
 rfl
set_option maxRecDepth 8000 in
set_option maxHeartbeats 4000000 in
theorem from_any (gb : Nat) (E : List Ed) (eA : Option Addr) (eC N start : Nat) (w : World) (hN : w.cell? ⟨gb, 0, none⟩ = some (.int .i64 N)) (hge : w.cell? ⟨gb, 2, none⟩ = some (.slice eA E.length eC)) (hE : kE.C w eA E.length E)
  (h16 : E.length ≤ 16) (h8 : N ≤ 8) (hs : start < N) (hed : ∀ e ∈ E, 0 ≤ e.1 ∧ e.1 < N ∧ 0 ≤ e.2.1 ∧ e.2.1 < N) :
  Calls Tryz.prog 69 #[.pointer (some ⟨gb, 0, none⟩), .int .i64 start] w (FromPost w N (fromP E N start)) := by
 have HE := Aside0.mk hE
 have HED := Aside0.mk hed
 have h0N : (0 : Int) ≤ N := by omega
 have hgl : gb < w.heap.size := World.block_lt_of_cell? w _ hN
 clear hE hed
 go_enter Tryz.func69, Tryz.ntmps69
 go_upto_region 1 with fail
 have hw2 : ((w.alloc (.cells #[.pointer (some ⟨gb, 0, none⟩)] 63)).alloc (.cells #[.int .i64 start] 3)).heap.size = w.heap.size + 2 := by simp
 have b1 : Below w.heap.size w ((w.alloc (.cells #[.pointer (some ⟨gb, 0, none⟩)] 63)).alloc (.cells #[.int .i64 start] 3)) := two_new
 have cg : ((w.alloc (.cells #[.pointer (some ⟨gb, 0, none⟩)] 63)).alloc (.cells #[.int .i64 start] 3)).cell? ⟨w.heap.size, 0, none⟩ = some (.pointer (some ⟨gb, 0, none⟩)) := pw_cell_below (below_new _ _) (new_cell w _ _ 0)
 have cs : ((w.alloc (.cells #[.pointer (some ⟨gb, 0, none⟩)] 63)).alloc (.cells #[.int .i64 start] 3)).cell? ⟨w.heap.size + 1, 0, none⟩ = some (.int .i64 start) := by
  have := new_cell (w.alloc (.cells #[.pointer (some ⟨gb, 0, none⟩)] 63)) #[.int .i64 start] 3 0
  simpa using this
 generalize (w.alloc (.cells #[.pointer (some ⟨gb, 0, none⟩)] 63)).alloc (.cells #[.int .i64 start] 3) = w2 at *
 have hN2 := pw_cell_below b1 hN
 have HG := Aside0.mk (show w2.heap.size = w.heap.size + 2 ∧ w2.cell? ⟨w.heap.size, 0, none⟩ = some (.pointer (some ⟨gb, 0, none⟩)) ∧ w2.cell? ⟨w.heap.size + 1, 0, none⟩ = some (.int .i64 start) ∧ w2.cell? ⟨gb, 0, none⟩ = some (.int .i64 N) ∧ w2.cell? ⟨gb, 2, none⟩ = some (.slice eA E.length eC) ∧ Below w.heap.size w w2 from ⟨hw2, cg, cs, hN2, pw_cell_below b1 hge, b1⟩)
 clear hw2 cs b1 hN
 have hge0 := hge
 clear hge
 go_upto_region 2 with (at_make; go_must (refine Kd.S_make kRows (w0 := w) w.heap.size 68 rfl (N := 15) rfl _ _ _ rfl N rfl rfl Tryz.underlying69 _ 24 Tryz.infoLt rfl (by decide) (by decide) ([] : List Tm) (ok := fun k => w2.heap.size ≤ k) (okp := fun _ => False) ⟨_, rfl, Kd.R_nil _ _ _ _ _⟩ (fun _ h => h.elim) (Nat.le_refl _) h0N (by omega) HG.out.2.2.2.2.2 HG.out.2.2.2.2.2.size ?_); intro v1 w3 hS3 hb3 hg3 hown3; obtain ⟨ga, ac, hv1, hga1, hga2, _⟩ := Kd.S_form hS3 (by simp; omega); rw [List.length_replicate, Int.toNat_natCast] at hv1; subst hv1)
 have b3 := below_new w3 (.cells #[.slice (some ⟨ga, 0, none⟩) N ac] 69)
 have B3 := Kept.of_grown hg3 (Kept.refl w2 (fun _ => False)) (fun k hk => by cases hk)
 have hsz4 : (w3.alloc (.cells #[.slice (some ⟨ga, 0, none⟩) N ac] 69)).heap.size = w3.heap.size + 1 := by simp
 have ca : (w3.alloc (.cells #[.slice (some ⟨ga, 0, none⟩) N ac] 69)).cell? ⟨w3.heap.size, 0, none⟩ = some (.slice (some ⟨ga, 0, none⟩) N ac) := new_cell w3 _ _ 0
 have B4 := Kept.below B3 b3
 have HG4 := Aside0.mk (show w3.heap.size + 1 = (w3.alloc (.cells #[.slice (some ⟨ga, 0, none⟩) N ac] 69)).heap.size ∧ w2.heap.size ≤ w3.heap.size ∧ w2.heap.size ≤ ga ∧ ga < w3.heap.size ∧
   Kept w2 (w3.alloc (.cells #[.slice (some ⟨ga, 0, none⟩) N ac] 69)) (fun _ => False) ∧ Below w.heap.size w (w3.alloc (.cells #[.slice (some ⟨ga, 0, none⟩) N ac] 69)) ∧
   Kd.S kRows 68 (w3.alloc (.cells #[.slice (some ⟨ga, 0, none⟩) N ac] 69)) w.heap.size (fun k => w2.heap.size ≤ k ∧ k < w3.heap.size) (.slice (some ⟨ga, 0, none⟩) N ac) (List.replicate N []) from
  ⟨hsz4.symm, hg3.size, by have h := (Kd.S_R hS3).1 ga rfl; exact h, hga2, B4, hb3.alloc (by have := hb3.size; omega) _, Kd.S_below (Kd.S_mono (Kd.S_bound (by simpa using hS3)) (fun k hk => ⟨hk.1, hk.2.2.1⟩)) b3⟩)
 clear b3 B3 hsz4 B4 hS3 hb3 hg3 hown3 hga1 hga2
 generalize w3.alloc (.cells #[.slice (some ⟨ga, 0, none⟩) N ac] 69) = w4 at *
 have cg4 := cellKept cg HG4.out.2.2.2.2.1 (fun h => h)
 have hN4 := cellKept hN2 HG4.out.2.2.2.2.1 (fun h => h)
 clear cg hN2
 go_upto_region 3 with (at_make; go_must (refine Kd.R_make Kd.bool (w0 := w) w.heap.size 4 rfl (N := 21) rfl _ _ _ rfl N rfl rfl Tryz.underlying167 _ 1 Tryz.infoBool rfl (by decide) (by decide) false (ok := fun k => w4.heap.size ≤ k) (okp := fun _ => False) rfl (fun _ h => h.elim) (Nat.le_refl _) h0N (by omega) HG4.out.2.2.2.2.2.1 HG4.out.2.2.2.2.2.1.size ?_); intro v1 w5 hR5 hb5 hg5 hown5; obtain ⟨go, oc, hv1, hgo1, hgo2, _⟩ := Kd.R_form hR5 (by simp; omega); rw [List.length_replicate, Int.toNat_natCast] at hv1; subst hv1)
 have b5 := below_new w5 (.cells #[.slice (some ⟨go, 0, none⟩) N oc] 167)
 have B5 := Kept.of_grown hg5 (Kept.refl w4 (fun _ => False)) (fun k hk => by cases hk)
 have co : (w5.alloc (.cells #[.slice (some ⟨go, 0, none⟩) N oc] 167)).cell? ⟨w5.heap.size, 0, none⟩ = some (.slice (some ⟨go, 0, none⟩) N oc) := new_cell w5 _ _ 0
 have hsz6 : (w5.alloc (.cells #[.slice (some ⟨go, 0, none⟩) N oc] 167)).heap.size = w5.heap.size + 1 := by simp
 have B6 := Kept.below B5 b5
 have HG6 := Aside0.mk (show w5.heap.size + 1 = (w5.alloc (.cells #[.slice (some ⟨go, 0, none⟩) N oc] 167)).heap.size ∧ w4.heap.size ≤ w5.heap.size ∧ w4.heap.size ≤ go ∧ go < w5.heap.size ∧
   Kept w4 (w5.alloc (.cells #[.slice (some ⟨go, 0, none⟩) N oc] 167)) (fun _ => False) ∧ Below w.heap.size w (w5.alloc (.cells #[.slice (some ⟨go, 0, none⟩) N oc] 167)) ∧
   Kd.bool.R 4 (w5.alloc (.cells #[.slice (some ⟨go, 0, none⟩) N oc] 167)) w.heap.size (fun k => k = go) (.slice (some ⟨go, 0, none⟩) N oc) (List.replicate N false) from
  ⟨hsz6.symm, hg5.size, by have h := hR5.1 go rfl; exact h, hgo2, B6, hb5.alloc (by have := hb5.size; omega) _, Kd.R_below (Kd.R_reok rfl (by simpa using hR5) (fun k hk => by injection hk with hk; exact hk.symm)) b5⟩)
 clear b5 B5 hsz6 B6 hR5 hb5 hg5 hown5 hgo1 hgo2
 generalize w5.alloc (.cells #[.slice (some ⟨go, 0, none⟩) N oc] 167) = w6 at *
 have ca6 := cellKept ca HG6.out.2.2.2.2.1 (fun h => h)
 have cg6 := cellKept cg4 HG6.out.2.2.2.2.1 (fun h => h)
 clear ca cg4 hN4
 go_upto_region 5 with fail
 have hz2 := HG.out.1
 have hz4 := HG4.out.1
 have hz6 := HG6.out.1
 have l34 := HG4.out.2.1
 have l56 := HG6.out.2.1
 have hga := HG4.out.2.2.1
 have hga' := HG4.out.2.2.2.1
 have hgo := HG6.out.2.2.1
 have hgo' := HG6.out.2.2.2.1
 have cs6 := cellKept (cellKept HG.out.2.2.1 HG4.out.2.2.2.2.1 (fun h => h)) HG6.out.2.2.2.2.1 (fun h => h)
 have ge6 := pw_cell_below HG6.out.2.2.2.2.2.1 hge0
 have b7 := below_new w6 (.cells #[.func (.func 94) #[] #[.pointer (some ⟨w3.heap.size, 0, none⟩), .pointer (some ⟨w5.heap.size, 0, none⟩), .pointer (some ⟨w.heap.size, 0, none⟩), .pointer (some ⟨w.heap.size + 1, 0, none⟩), .pointer (some ⟨w6.heap.size, 0, none⟩)]] 168)
 have cw7 : (w6.alloc (.cells #[.func (.func 94) #[] #[.pointer (some ⟨w3.heap.size, 0, none⟩), .pointer (some ⟨w5.heap.size, 0, none⟩), .pointer (some ⟨w.heap.size, 0, none⟩), .pointer (some ⟨w.heap.size + 1, 0, none⟩), .pointer (some ⟨w6.heap.size, 0, none⟩)]] 168)).cell? ⟨w6.heap.size, 0, none⟩ = some (.func (.func 94) #[] #[.pointer (some ⟨w3.heap.size, 0, none⟩), .pointer (some ⟨w5.heap.size, 0, none⟩), .pointer (some ⟨w.heap.size, 0, none⟩), .pointer (some ⟨w.heap.size + 1, 0, none⟩), .pointer (some ⟨w6.heap.size, 0, none⟩)]) := new_cell w6 _ _ 0
 have hz7 : (w6.alloc (.cells #[.func (.func 94) #[] #[.pointer (some ⟨w3.heap.size, 0, none⟩), .pointer (some ⟨w5.heap.size, 0, none⟩), .pointer (some ⟨w.heap.size, 0, none⟩), .pointer (some ⟨w.heap.size + 1, 0, none⟩), .pointer (some ⟨w6.heap.size, 0, none⟩)]] 168)).heap.size = w6.heap.size + 1 := by simp
 generalize w6.alloc (.cells #[.func (.func 94) #[] #[.pointer (some ⟨w3.heap.size, 0, none⟩), .pointer (some ⟨w5.heap.size, 0, none⟩), .pointer (some ⟨w.heap.size, 0, none⟩), .pointer (some ⟨w.heap.size + 1, 0, none⟩), .pointer (some ⟨w6.heap.size, 0, none⟩)]] 168) = w7 at *
 have cs7 := pw_cell_below b7 cs6
 have HW := Lib.hid (walk_any ⟨w3.heap.size, w5.heap.size, w.heap.size, w.heap.size + 1, w6.heap.size, gb, ga, go, ac, oc⟩ w E eA eC N start
  ⟨HE.out, h16, HED.out, by simp only; omega, by simp only; omega, hgl⟩ (wT 8) (by decide) N start (0, 0, 0) (List.replicate N []) (List.replicate N false) (fun k => w.heap.size ≤ k ∧ k ≠ w3.heap.size ∧ k ≠ w5.heap.size ∧ k ≠ w.heap.size ∧ k ≠ w.heap.size + 1 ∧ k ≠ w6.heap.size ∧ k ≠ go) w7 hs (by simp) (by simp) (by simp [List.getD_eq_getElem?_getD, hs]) (by simp)
  (fun k hk => hk) (fun k hk => by refine ⟨?_, ?_, ?_, ?_, ?_, ?_, ?_⟩ <;> omega) ⟨0, by intro r hr; rw [(List.mem_replicate.1 hr).2]; exact Nat.le_refl _, by
   have hm : ∀ a b, a ≤ b → wT a ≤ wT b := fun a b h => by
    induction h with
    | refl => exact Nat.le_refl _
    | step _ ih => simp only [wT]; omega
   have := hm N 8 h8; omega⟩
  ⟨below_then HG6.out.2.2.2.2.2.1 HG6.out.2.2.2.2.2.1.size b7, pw_cell_below b7 ca6, pw_cell_below b7 co, pw_cell_below b7 cg6, cs7, cw7, pw_cell_below b7 ge6⟩
  ⟨Kd.S_below (Kd.S_mono (Kd.S_kept HG4.out.2.2.2.2.2.2 HG6.out.2.2.2.2.1 (fun _ _ h => h)) (fun k hk => by refine ⟨?_, ?_, ?_, ?_, ?_, ?_, ?_⟩ <;> omega)) b7⟩
  ⟨Kd.R_below HG6.out.2.2.2.2.2.2 b7⟩)
 have HWc := HW.out
 simp only [tmV, WB.caps] at HWc
 have HWD := Lib.hid HWc
 have he := enters_of Tryz.func94 (by kernel_rfl) rfl
 have hbt : ∀ w, (Instr.build 99 #[]).run Tryz.prog w = .ok (.agg #[.int .i64 0, .int .i64 0, .int .i64 0]) w := fun _ => by kernel_rfl
 have CA7 := Lib.hid (pw_cell_below b7 ca6)
 clear HWc HW ca6 cg6 cs6 ge6 b7 co hge0
 go_wp2_with fail
 refine HWD.out.mono ?_
 rintro e w8 ⟨hb8, hk8, hm8⟩
 cases hwp : walkP E start N start (0, 0, 0) (List.replicate N []) (List.replicate N false) with
 | none =>
  rw [hwp] at hm8
  subst hm8
  refine ⟨rfl, hb8, ?_⟩
  rw [show fromP E N start = none by simp [fromP, hwp]]
 | some rows =>
  rw [hwp] at hm8
  obtain ⟨rfl, hS8, _⟩ := hm8
  have hlen := walkP_len E start h16 N start (0, 0, 0) (List.replicate N []) (List.replicate N false) rows 0 (fun e he => by have := HED.out e he; simp; omega) (by simpa using hs) (by intro r hr; rw [(List.mem_replicate.1 hr).2]; exact Nat.le_refl _) hwp
  have HR := Lib.hid (show fromP E N start = some (rows.map firstsT) by simp [fromP, hwp])
  have hrl : rows.length = N := by simpa using hlen.1
  have HLN := Lib.hid (show Len (wT 8) rows from Len_mono hlen.2 (by
   have hm : ∀ a b, a ≤ b → wT a ≤ wT b := fun a b h => by
    induction h with
    | refl => exact Nat.le_refl _
    | step _ ih => simp only [wT]; omega
   have := hm N 8 h8; omega))
  have ca8 := cellKept (pw_cell_below (Below.refl _ _) (show w7.cell? ⟨w3.heap.size, 0, none⟩ = some (.slice (some ⟨ga, 0, none⟩) N ac) from CA7.out)) hk8 (fun h => h.elim (fun h => h.2.1 rfl) (fun h => by have h : w3.heap.size = go := h; omega))
  have HS8 := Aside0.mk (show Kd.S kRows 68 w8 w.heap.size (fun k => w.heap.size ≤ k ∧ k ≠ w3.heap.size) (.slice (some ⟨ga, 0, none⟩) N ac) rows ∧ Below w.heap.size w w8 from ⟨Kd.S_mono hS8 (fun k hk => ⟨hk.1, hk.2.1⟩), hb8⟩)
  have HBA := Lib.hid (show w.heap.size ≤ w3.heap.size ∧ ga ≠ w3.heap.size by constructor <;> omega)
  clear hS8 hlen hwp hb8 hk8 hz2 hz4 hz6 l34 l56 hga hga' hgo hgo' hz7 cs7 cw7 he hbt HWD HG HG4 HG6
  have HRL := Lib.hid hrl
  clear hrl
  go_wp2_with fail
  go_loopw [29] (fun i wr => ∃ k : Nat, k ≤ N ∧ i = .int .i64 k ∧ Aside0 (Kd.S kRows 68 wr w.heap.size (fun k => w.heap.size ≤ k ∧ k ≠ w3.heap.size) (.slice (some ⟨ga, 0, none⟩) N ac) ((rows.map firstsT).take k ++ rows.drop k) ∧ Below w.heap.size w wr) ∧ wr.cell? ⟨w3.heap.size, 0, none⟩ = some (.slice (some ⟨ga, 0, none⟩) N ac)) (fun i _ => N - (intOf i).toNat)
  case atStart => exact ⟨0, Nat.zero_le _, rfl, ⟨by simpa using HS8.out.1, HS8.out.2⟩, ca8⟩
  case round =>
   obtain ⟨k, hk, rfl, hX, hca⟩ := hrel
   by_cases hlt : k < N
   ·obtain ⟨hSr, hbr⟩ := hX.out
    have hk0 : (0 : Int) ≤ k := by omega
    have hkN : (k : Int) < N := by omega
    have hsd := Kd.S_drew hSr
    obtain ⟨oki, c, hcl, hM, hcc, hfr, hoki, hH⟩ := Kd.S_elem hSr [] k hk0 hkN
    obtain ⟨rv, rfl, hRv⟩ := hM
    have hrow := hcc 0 rv rfl
    rw [Int.toNat_natCast, show kRows.sz = 1 from rfl, Nat.mul_one, Nat.add_zero] at hrow
    rw [Int.toNat_natCast] at hRv
    have hget : ((rows.map firstsT).take k ++ rows.drop k).getD k [] = rows[k]'(by rw [HRL.out]; exact hlt) := by
     rw [List.getD_eq_getElem?_getD, List.getElem?_append_right (by simp; omega)]
     simp [HRL.out, hlt, Nat.min_eq_left (Nat.le_of_lt hlt)]
    rw [hget] at hRv
    obtain ⟨A, cp, hrv, hcp, hC⟩ := Kd.R_reads hRv
    have hset := set_step firstsT (show k < rows.length by rw [HRL.out]; exact hlt)
    have hrm : rows[k]'(by rw [HRL.out]; exact hlt) ∈ rows := List.getElem_mem _
    have hlr := HLN.out _ hrm
    have HSET := Lib.hid hset
    clear hset hget hrm
    generalize rows[k]'(by rw [HRL.out]; exact hlt) = rk at *
    generalize hnk : rk.length = nk at hrv hlr
    have hnk := hnk.symm
    have HCA := Lib.hid hca
    have HCB := Lib.hid (show w3.heap.size < wr.heap.size from World.block_lt_of_cell? wr _ hca)
    have hgw : ga < wr.heap.size := World.block_lt_of_cell? wr _ hrow
    have HSr := Aside0.mk (show Kd.S kRows 68 wr w.heap.size (fun k => (w.heap.size ≤ k ∧ k ≠ w3.heap.size) ∧ ¬ wr.heap.size ≤ k) (.slice (some ⟨ga, 0, none⟩) N ac) ((rows.map firstsT).take k ++ rows.drop k) ∧ Below w.heap.size w wr from ⟨Kd.S_mono (Kd.S_bound hSr) (fun k hk => ⟨hk.1, by have := hk.2.2.1; omega⟩), hbr⟩)
    subst hrv
    have HC := Aside0.mk hC
    have HLR := Lib.hid (show nk * 24 ≤ 140737488355328 ∧ nk = rk.length from ⟨(by have : wT 8 = 286331153 := (by decide); omega), hnk⟩)
    clear hsd hcl hcc hfr hoki hH hRv hX hSr hbr hC hcp hlr hnk
    go_upto_region 9 with fail
    refine start_ (n := 6) (S := fun w' => w'.cell? ⟨w3.heap.size, 0, none⟩ = some (.slice (some ⟨ga, 0, none⟩) N ac)) (ds := [5]) (bs 6 0) (by kernel_rfl) rfl (by kernel_rfl) hca (fun hHeld => ?_)
    have HD := Aside0.mk (below_drew1 (Below.refl wr.heap.size wr))
    generalize wr.drew = wd at *
    refine tk1 0 34 (bs 6 1) hHeld ?_
    refine pu 1 35 (bs 6 3) ?_
    refine pu 2 36 (bs 6 7) ?_
    refine on0 3 37 (bs 6 15) fun K hK => ?_
    refine gs0 Tryz.func76 #[.slice A nk cp] ?_
    have HF := firsts_any A cp rk wd (Kd.C_below HC.out HD.out) (by have := HLR.out; omega)
    rw [← HLR.out.2] at HF
    refine HF.mono ?_
    rintro e w9 ⟨v9, rfl, hR9, hb9⟩
    obtain ⟨A9, c9, hv9⟩ := Kd.R_slice hR9
    generalize (firstsT rk).length = n9 at hv9
    subst hv9
    have hb10 := below_then HD.out HD.out.size hb9
    refine ⟨_, rfl, hK.out _ _ (pw_cell_below hb10 HCA.out) (fun hHeld => ?_)⟩
    clear hK K
    refine nm0 (some 37) ?_
    refine pu 4 38 (bs 6 31) ?_
    have hS9 := Kd.S_below HSr.out.1 hb10
    obtain ⟨oki, c, hcl, hM, hcc, hfr, hoki, hH⟩ := Kd.S_elem hS9 [] k hk0 hkN
    obtain ⟨rv9, rfl, _⟩ := hM
    have hrow9 := hcc 0 rv9 rfl
    have hf9 := hfr 0
    rw [Int.toNat_natCast, show kRows.sz = 1 from rfl, Nat.mul_one, Nat.add_zero] at hrow9 hf9
    have hM9 : kRows.M w9 w.heap.size (fun k => wr.heap.size ≤ k) (firstsT rk) [.slice A9 n9 c9] := ⟨_, rfl, Kd.R_lower (Kd.R_mono (Kd.R_bound hR9) (fun k hk => Nat.le_trans HD.out.size hk.2.1)) (show w.heap.size ≤ wd.heap.size from by have := HSr.out.2.size; have := HD.out.size; omega)⟩
    have h10 := Kd.S_seg (okg := fun k => wr.heap.size ≤ k) (ok := fun k => w.heap.size ≤ k ∧ k ≠ w3.heap.size) hH hk0 hkN (seg := [.slice A9 n9 c9]) (j := 0) (x' := firstsT rk) (okp := fun k => wr.heap.size ≤ k) (Nat.le_refl 1) hM9 (fun k hk => .inr hk) (fun k hk => ⟨⟨by have := HSr.out.2.size; omega, by have := HCB.out; omega⟩, by omega⟩)
    rw [Int.toNat_natCast, show kRows.sz = 1 from rfl, Nat.mul_one, Nat.add_zero, HSET.out] at h10
    have e10 : w9.setCells ga k [.slice A9 n9 c9] = w9.setCell ⟨ga, k, none⟩ (.slice A9 n9 c9) := rfl
    rw [e10] at h10
    have H10 := Aside0.mk h10
    have HB10 := Lib.hid (below_then HSr.out.2 HSr.out.2.size hb10)
    clear h10 hM9 hH hoki hfr hcc hcl hS9 hR9 hb9 hb10
    refine la0 5 (bs 6 63) (N := none) fun K hK => ?_
    refine sk0 ?_
    refine hK.out _ _ ?_
    clear hK K
    refine dn0 ?_
    have hg10 := H10.out.2
    have hga0 := (Kd.S_R H10.out.1).1 ga rfl
    have hca10 := cell_grown hg10 hHeld (fun he => by injection he with he; exact HBA.out.2 he.symm)
    have HX := Aside0.mk (And.intro H10.out.1 (HB10.out.grown hg10 HB10.out.size (fun k hk => by injection hk with hk; subst hk; exact hga0.1)))
    clear hg10 hga0 H10
    go_wp2_with fail
    exact ⟨⟨k + 1, by omega, by go_num, HX, hca10⟩, by simp [intOf]; omega⟩
   ·go_wp2_with fail
    go_ret
    refine ⟨hX.out.2, ?_⟩
    rw [HR.out]
    have hkN : k = N := by omega
    subst hkN
    have h := hX.out.1
    rw [List.drop_of_length_le (by rw [HRL.out]; exact Nat.le_refl _), List.append_nil, List.take_of_length_le (by rw [List.length_map, HRL.out]; exact Nat.le_refl _)] at h
    exact ⟨_, rfl, Kd.S_mono h (fun _ _ => trivial), by rw [List.length_map, HRL.out]⟩
end Go.Proofs.YtbkfnmgkcgnifaaGreat
namespace Go.Proofs.YtbkfnmgkcgnifaaGreat
open Go.RowKit Go.Shelf Go.Proofs.YtbkfnmgkcgnifaaGreatW.PrintWords Go.Proofs.YtbkfnmgkcgnifaaGreatW.PrintLast Mdl
namespace Mdl
def edgeOk (N W : Int) (e : Ed) : Bool := decide (0 ≤ e.1 ∧ e.1 < N) && (decide (0 ≤ e.2.1 ∧ e.2.1 < N) && (decide ((e.2.2.length : Int) = W) && withinB 100 e.2.2))
def headOk (N W : Int) (n : Nat) : Prop := 1 ≤ N ∧ N ≤ 8 ∧ 1 ≤ W ∧ W ≤ 3 ∧ n ≤ 16
instance (N W : Int) (n : Nat) : Decidable (headOk N W n) := by unfold headOk; infer_instance
def openedP (N W : Int) (E : List Ed) : Option (List (List (List Tm))) :=
 if headOk N W E.length ∧ E.all (edgeOk N W) = true then (List.range N.toNat).mapM (fromP E N.toNat) else none
end Mdl
theorem Tryz.infoLlt : (Tryz.prog.info? 69).map (fun i => (i.zero, i.size, i.bytes)) = some (some (.slice none 0 0), 1, 24) := by kernel_rfl
abbrev kGrid : Kd (List (List Tm)) := Kd.slice 68 kRows
structure GraphAt (w : World) (gb : Nat) (N W : Int) (E : List Ed) (ways : List (List (List Tm))) : Prop where
 c0 : w.cell? ⟨gb, 0, none⟩ = some (.int .i64 N)
 c1 : w.cell? ⟨gb, 1, none⟩ = some (.int .i64 W)
 c2 : ∃ eA eC, w.cell? ⟨gb, 2, none⟩ = some (.slice eA E.length eC) ∧ kE.C w eA E.length E
 c3 : ∃ wA wC, w.cell? ⟨gb, 3, none⟩ = some (.slice wA ways.length wC) ∧ kGrid.C w wA ways.length ways
def OpenPost (w : World) (N W : Int) (E : List Ed) (r : Option (List (List (List Tm)))) (e : Ending) (w' : World) : Prop := Below w.heap.size w w' ∧
 match r with
 | some ways => ∃ gb, e = .returned (.pointer (some ⟨gb, 0, none⟩)) ∧ w.heap.size ≤ gb ∧ GraphAt w' gb N W E ways
 | none => e = .panicked (stopE 1)
theorem dies_ {P : Program} {ops : Array Oper} {Q : Exit → Act → World → Prop} {oi : Oper} {N : Option Tmp} {a : Act} {w : World} {K : Act → World → Prop} {f : FuncId} {fn : Func} {aas : Array Operand} {ts : Array TypeId} (hf : P.funcs[f]? = some fn) (hname : (fn.name == "runtime.NumGoroutine") = false) (hb : fn.body.isSome = true) (args : Array Value)
  (hw : Region.wanted oi (yielded ops a.tmps) = true) (hop : oi.op = .call { callee := .value (.func f), args := aas, argTypes := ts }) (hargs : aas.map a.eval = args)
  (h : Calls P f args w fun e w' => ∃ c, e = .panicked c ∧ Q (.panic c) a w') : if Region.wanted oi (yielded ops a.tmps) = true then Oper.wp P oi a w K Q else K (a.put N undef) w := by
 rw [if_pos hw]
 have he := enters_ hf hname hb args w
 have hrun : (execOp a.eval oi).run P w = .ok (.enter f args) w := by
  unfold execOp
  simp [hop, resolve, Deferred.ofValue, invoke, Act.eval, hargs, he]
 unfold Oper.wp
 rw [hrun, Oper.upon_enter]
 refine h.mono fun e w'' hh => ?_
 obtain ⟨v, rfl, hk⟩ := hh
 exact hk
theorem either_ {P : Program} {ops : Array Oper} {Q : Exit → Act → World → Prop} {oi : Oper} {N : Option Tmp} {a : Act} {w : World} {K : Act → World → Prop} {f : FuncId} {fn : Func} {aas : Array Operand} {ts : Array TypeId} (hf : P.funcs[f]? = some fn) (hname : (fn.name == "runtime.NumGoroutine") = false) (hb : fn.body.isSome = true) (args : Array Value)
  (hw : Region.wanted oi (yielded ops a.tmps) = true) (hN : oi.dst = N) (hop : oi.op = .call { callee := .value (.func f), args := aas, argTypes := ts }) (hargs : aas.map a.eval = args)
  (h : Calls P f args w fun e w' => (∃ v, e = .returned v ∧ K (a.put N v) w') ∨ ∃ c, e = .panicked c ∧ Q (.panic c) a w') : if Region.wanted oi (yielded ops a.tmps) = true then Oper.wp P oi a w K Q else K (a.put N undef) w := by
 rw [if_pos hw]
 have he := enters_ hf hname hb args w
 have hrun : (execOp a.eval oi).run P w = .ok (.enter f args) w := by
  unfold execOp
  simp [hop, resolve, Deferred.ofValue, invoke, Act.eval, hargs, he]
 subst hN
 unfold Oper.wp
 rw [hrun, Oper.upon_enter]
 refine h.mono fun e w'' hh => ?_
 obtain ⟨v, rfl, hk⟩ | ⟨c, rfl, hk⟩ := hh
 ·exact hk
 ·exact hk
theorem mapM_snoc {α β : Type} (f : α → Option β) (l : List α) (x : α) : (l ++ [x]).mapM f = (l.mapM f).bind fun ys => (f x).bind fun y => some (ys ++ [y]) := by
 induction l with
 | nil => simp [List.mapM_cons]
 | cons a l ih =>
  simp only [List.cons_append, List.mapM_cons, ih]
  cases f a with
  | none => simp
  | some b =>
   cases l.mapM f with
   | none => simp
   | some ys => cases f x <;> simp
theorem mapM_none {β : Type} (f : Nat → Option β) (k n : Nat) (hk : k ≤ n) (h : (List.range k).mapM f = none) : (List.range n).mapM f = none := by
 induction hk with
 | refl => exact h
 | step _ ih => rw [List.range_succ, mapM_snoc, ih]; rfl
theorem some_bad {N W : Int} {E : List Ed} {e : Ed} (h : e ∈ E) (hb : edgeOk N W e = false) : openedP N W E = none := by
 unfold openedP
 rw [if_neg]
 rintro ⟨_, h2⟩
 have := List.all_eq_true.1 h2 e h
 rw [hb] at this; cases this
set_option maxRecDepth 8000 in
set_option maxHeartbeats 4000000 in
theorem opened_any (N W : Int) (E : List Ed) (eA : Option Addr) (eC : Nat) (w : World) (hE : kE.C w eA E.length E) :
  Calls Tryz.prog 30 #[.agg #[.int .i64 N, .int .i64 W, .slice eA E.length eC]] w (OpenPost w N W E (openedP N W E)) := by
 have HE := Aside0.mk hE
 have hEm := Kd.C_max hE
 clear hE
 by_cases hh : headOk N W E.length
 ·obtain ⟨h1, h2, h3, h4, h5⟩ := hh
  have h5 : (E.length : Int) ≤ 16 := by omega
  go_enter Tryz.func30, Tryz.ntmps30
  go_wp2_with fail
  refine (must_true _ _).mono ?_
  rintro e wm ⟨rfl, rfl⟩
  have b2 : Below w.heap.size w ((w.alloc (.cells #[.int .i64 N, .int .i64 W, .slice eA E.length eC] 24)).alloc (.cells #[.int .i64 N, .int .i64 W, .slice eA E.length eC, .slice none 0 0] 72)) := two_new
  have hz2 : ((w.alloc (.cells #[.int .i64 N, .int .i64 W, .slice eA E.length eC] 24)).alloc (.cells #[.int .i64 N, .int .i64 W, .slice eA E.length eC, .slice none 0 0] 72)).heap.size = w.heap.size + 2 := by simp
  have hbk : ((w.alloc (.cells #[.int .i64 N, .int .i64 W, .slice eA E.length eC] 24)).alloc (.cells #[.int .i64 N, .int .i64 W, .slice eA E.length eC, .slice none 0 0] 72)).heap[w.heap.size + 1]? = some (.cells #[.int .i64 N, .int .i64 W, .slice eA E.length eC, .slice none 0 0] 72 (0, 0)) := by
   have := heap_alloc_new (w.alloc (.cells #[.int .i64 N, .int .i64 W, .slice eA E.length eC] 24)) (.cells #[.int .i64 N, .int .i64 W, .slice eA E.length eC, .slice none 0 0] 72)
   simpa using this
  generalize (w.alloc (.cells #[.int .i64 N, .int .i64 W, .slice eA E.length eC] 24)).alloc (.cells #[.int .i64 N, .int .i64 W, .slice eA E.length eC, .slice none 0 0] 72) = w2 at *
  have k0 : w2.cell? ⟨w.heap.size + 1, 0, none⟩ = some (.int .i64 N) := (blk_cell hbk 0).trans rfl
  have k1 : w2.cell? ⟨w.heap.size + 1, 1, none⟩ = some (.int .i64 W) := (blk_cell hbk 1).trans rfl
  have k2 : w2.cell? ⟨w.heap.size + 1, 2, none⟩ = some (.slice eA E.length eC) := (blk_cell hbk 2).trans rfl
  have HW2 := Lib.hid (And.intro b2 (And.intro hz2 hbk))
  clear b2 hz2 hbk
  go_wp2_with fail
  go_loopw [56] (fun i wr => ∃ k : Nat, k ≤ E.length ∧ i = .int .i64 k ∧ Aside0 ((∀ e ∈ E.take k, edgeOk N W e = true) ∧ Below w2.heap.size w2 wr)) (fun i _ => E.length - (intOf i).toNat)
  case atStart => exact ⟨0, Nat.zero_le _, rfl, ⟨by simp, Below.refl _ _⟩⟩
  case round =>
   obtain ⟨k, hk, rfl, hX⟩ := hrel
   by_cases hlt : k < E.length
   ·obtain ⟨ad, sA, sC, rfl, he0, he1, he2, heL, heC⟩ := at_edge (Kd.C_below HE.out (below_then HW2.out.1 HW2.out.1.size hX.out.2)) hlt
    have hkE : (k : Int) < E.length := by omega
    have hk0 : (0 : Int) ≤ k := by omega
    have HEK := Aside0.mk (show E.take (k + 1) = E.take k ++ [E[k]] ∧ E[k] ∈ E from ⟨List.take_succ_eq_append_getElem hlt, List.getElem_mem _⟩)
    generalize E[k] = ee at *
    have r0 := pw_cell_below hX.out.2 k0
    have r1 := pw_cell_below hX.out.2 k1
    have HRW := Lib.hid (And.intro r0 r1)
    clear r0 r1
    go_upto_region 6 with fail
    have bE := below_new wr (.cells #[.int .i64 ee.1, .int .i64 ee.2.1, .slice sA ee.2.2.length sC] 129)
    have e0 : (wr.alloc (.cells #[.int .i64 ee.1, .int .i64 ee.2.1, .slice sA ee.2.2.length sC] 129)).cell? ⟨wr.heap.size, 0, none⟩ = some (.int .i64 ee.1) := new_cell wr _ _ 0
    have e1 : (wr.alloc (.cells #[.int .i64 ee.1, .int .i64 ee.2.1, .slice sA ee.2.2.length sC] 129)).cell? ⟨wr.heap.size, 1, none⟩ = some (.int .i64 ee.2.1) := new_cell wr _ _ 1
    have e2 : (wr.alloc (.cells #[.int .i64 ee.1, .int .i64 ee.2.1, .slice sA ee.2.2.length sC] 129)).cell? ⟨wr.heap.size, 2, none⟩ = some (.slice sA ee.2.2.length sC) := new_cell wr _ _ 2
    have f0 := pw_cell_below bE HRW.out.1
    have f1 := pw_cell_below bE HRW.out.2
    have HEL := Aside0.mk (Kd.C_below heL bE)
    have HB := Lib.hid (below_then hX.out.2 hX.out.2.size bE)
    clear heL bE he0 he1 he2
    generalize wr.alloc (.cells #[.int .i64 ee.1, .int .i64 ee.2.1, .slice sA ee.2.2.length sC] 129) = wq at *
    have HPN := Lib.hid (fun w' (h : Below wq.heap.size wq w') => below_then (below_then HW2.out.1 HW2.out.1.size HB.out) (below_then HW2.out.1 HW2.out.1.size HB.out).size h)
    have HWI := fun w' hb => Lib.hid (within_any sA sC ee.2.2 100 w' (Kd.C_below HEL.out hb))
    refine start_ (n := 27) (S := fun w' => w'.cell? ⟨w.heap.size + 1, 0, none⟩ = some (.int .i64 N) ∧ w'.cell? ⟨w.heap.size + 1, 1, none⟩ = some (.int .i64 W) ∧ w'.cell? ⟨wr.heap.size, 0, none⟩ = some (.int .i64 ee.1) ∧ w'.cell? ⟨wr.heap.size, 1, none⟩ = some (.int .i64 ee.2.1) ∧ w'.cell? ⟨wr.heap.size, 2, none⟩ = some (.slice sA ee.2.2.length sC)) (ds := []) (bs 27 0) (by kernel_rfl) rfl (by kernel_rfl) ⟨f0, f1, e0, e1, e2⟩ (fun hHeld => ?_)
    have HD := Aside0.mk (below_drew1 (Below.refl wq.heap.size wq))
    generalize wq.drew = wd at *
    refine pu 0 60 (bs 27 1) ?_
    refine pu 1 61 (bs 27 3) ?_
    refine tk5 2 62 (bs 27 7) hHeld ?_
    refine on0 3 63 (bs 27 15) fun K hK => ?_
    refine gs0 Tryz.func32 #[.pointer (some ⟨w.heap.size + 1, 0, none⟩), .int .i64 ee.1] ?_
    cases hF : decide (0 ≤ ee.1 ∧ ee.1 < N)
    ·refine (is_false _ ee.1 N _ hHeld.1 (by have := of_decide_eq_false hF; omega)).mono ?_
     rintro e w1 ⟨rfl, rfl⟩
     refine ⟨_, rfl, hK.out _ _ hHeld (fun _ => ?_)⟩
     clear hK K
     refine nm0 (some 63) ?_
     refine pu 4 64 (bs 27 31) ?_
     refine uf0 5 65 (bs 27 63) ?_
     refine uf0 6 66 (bs 27 127) ?_
     refine uf0 7 67 (bs 27 255) ?_
     refine uf0 8 68 (bs 27 511) ?_
     refine pu 9 69 (bs 27 1023) ?_
     refine pu 10 70 (bs 27 2047) ?_
     refine uf0 11 71 (bs 27 4095) ?_
     refine uf0 12 72 (bs 27 8191) ?_
     refine uf0 13 73 (bs 27 16383) ?_
     refine uf0 14 74 (bs 27 32767) ?_
     refine uf0 15 75 (bs 27 65535) ?_
     refine uf0 16 76 (bs 27 131071) ?_
     refine uf0 17 77 (bs 27 262143) ?_
     refine uf0 18 78 (bs 27 524287) ?_
     refine uf0 19 79 (bs 27 1048575) ?_
     refine pu 20 80 (bs 27 2097151) ?_
     refine pu 21 81 (bs 27 4194303) ?_
     refine uf0 22 82 (bs 27 8388607) ?_
     refine uf0 23 83 (bs 27 16777215) ?_
     refine uf0 24 84 (bs 27 33554431) ?_
     refine pu 25 85 (bs 27 67108863) ?_
     refine on0 26 86 (bs 27 134217727) fun K hK => ?_
     refine dies_ Tryz.func31 (by kernel_rfl) rfl #[.bool false, .int .i64 1] (by rfl) rfl (by (try simp only [List.map_toArray, List.map_cons, List.map_nil]); first | done | rfl) ?_
     refine (must_false _ _).mono ?_
     rintro e w1 ⟨rfl, rfl⟩
     refine ⟨_, rfl, ?_⟩
     have hop : openedP N W E = none := some_bad HEK.out.2 (by simp only [edgeOk, hF, Bool.false_and])
     refine ⟨rfl, HPN.out _ HD.out, ?_⟩
     rw [hop]
    ·skip
     have hF2 : 0 ≤ ee.1 ∧ ee.1 < N := of_decide_eq_true hF
     refine (is_true _ ee.1 N _ hHeld.1 hF2.1 hF2.2).mono ?_
     rintro e w1 ⟨rfl, rfl⟩
     refine ⟨_, rfl, hK.out _ _ hHeld (fun _ => ?_)⟩
     clear hK K
     refine nm0 (some 63) ?_
     refine pu 4 64 (bs 27 31) ?_
     refine pu 5 65 (bs 27 63) ?_
     refine pu 6 66 (bs 27 127) ?_
     refine tk5 7 67 (bs 27 255) hHeld ?_
     refine on0 8 68 (bs 27 511) fun K hK => ?_
     refine gs0 Tryz.func32 #[.pointer (some ⟨w.heap.size + 1, 0, none⟩), .int .i64 ee.2.1] ?_
     cases hT : decide (0 ≤ ee.2.1 ∧ ee.2.1 < N)
     ·refine (is_false _ ee.2.1 N _ hHeld.1 (by have := of_decide_eq_false hT; omega)).mono ?_
      rintro e w1 ⟨rfl, rfl⟩
      refine ⟨_, rfl, hK.out _ _ hHeld (fun _ => ?_)⟩
      clear hK K
      refine nm0 (some 68) ?_
      refine pu 9 69 (bs 27 1023) ?_
      refine pu 10 70 (bs 27 2047) ?_
      refine uf0 11 71 (bs 27 4095) ?_
      refine uf0 12 72 (bs 27 8191) ?_
      refine uf0 13 73 (bs 27 16383) ?_
      refine uf0 14 74 (bs 27 32767) ?_
      refine uf0 15 75 (bs 27 65535) ?_
      refine uf0 16 76 (bs 27 131071) ?_
      refine uf0 17 77 (bs 27 262143) ?_
      refine uf0 18 78 (bs 27 524287) ?_
      refine uf0 19 79 (bs 27 1048575) ?_
      refine pu 20 80 (bs 27 2097151) ?_
      refine pu 21 81 (bs 27 4194303) ?_
      refine uf0 22 82 (bs 27 8388607) ?_
      refine uf0 23 83 (bs 27 16777215) ?_
      refine uf0 24 84 (bs 27 33554431) ?_
      refine pu 25 85 (bs 27 67108863) ?_
      refine on0 26 86 (bs 27 134217727) fun K hK => ?_
      refine dies_ Tryz.func31 (by kernel_rfl) rfl #[.bool false, .int .i64 1] (by rfl) rfl (by (try simp only [List.map_toArray, List.map_cons, List.map_nil]); first | done | rfl) ?_
      refine (must_false _ _).mono ?_
      rintro e w1 ⟨rfl, rfl⟩
      refine ⟨_, rfl, ?_⟩
      have hop : openedP N W E = none := some_bad HEK.out.2 (by simp only [edgeOk, hF, hT, Bool.false_and, Bool.true_and])
      refine ⟨rfl, HPN.out _ HD.out, ?_⟩
      rw [hop]
     ·skip
      have hT2 : 0 ≤ ee.2.1 ∧ ee.2.1 < N := of_decide_eq_true hT
      refine (is_true _ ee.2.1 N _ hHeld.1 hT2.1 hT2.2).mono ?_
      rintro e w1 ⟨rfl, rfl⟩
      refine ⟨_, rfl, hK.out _ _ hHeld (fun _ => ?_)⟩
      clear hK K
      refine nm0 (some 68) ?_
      refine pu 9 69 (bs 27 1023) ?_
      refine pu 10 70 (bs 27 2047) ?_
      refine pu 11 71 (bs 27 4095) ?_
      refine tk5 12 72 (bs 27 8191) hHeld ?_
      refine pu 13 73 (bs 27 16383) ?_
      refine pu 14 74 (bs 27 32767) ?_
      refine pu 15 75 (bs 27 65535) ?_
      refine pu 16 76 (bs 27 131071) ?_
      refine pu 17 77 (bs 27 262143) ?_
      refine tk5 18 78 (bs 27 524287) hHeld ?_
      cases hL : decide ((ee.2.2.length : Int) = W)
      ·have hLb : ((ee.2.2.length : Int) == W) = false := by simpa using hL
       refine pu 19 79 (bs 27 1048575) ?_
       refine pu 20 80 (bs 27 2097151) ?_
       refine pu 21 81 (bs 27 4194303) ?_
       refine uf0 22 82 (bs 27 8388607) ?_
       refine uf0 23 83 (bs 27 16777215) ?_
       refine uf0 24 84 (bs 27 33554431) ?_
       refine pu 25 85 (bs 27 67108863) ?_
       refine on0 26 86 (bs 27 134217727) fun K hK => ?_
       refine dies_ Tryz.func31 (by kernel_rfl) rfl #[.bool false, .int .i64 1] (by rfl) rfl (by (try simp only [List.map_toArray, List.map_cons, List.map_nil]); first | done | rfl) ?_
       refine (must_false _ _).mono ?_
       rintro e w1 ⟨rfl, rfl⟩
       refine ⟨_, rfl, ?_⟩
       have hop : openedP N W E = none := some_bad HEK.out.2 (by simp only [edgeOk, hF, hT, hL, Bool.false_and, Bool.true_and])
       refine ⟨rfl, HPN.out _ HD.out, ?_⟩
       rw [hop]
      ·skip
       have hL2 : (ee.2.2.length : Int) = W := of_decide_eq_true hL
       have hLb : ((ee.2.2.length : Int) == W) = true := by simpa using hL
       refine pu 19 79 (bs 27 1048575) ?_
       refine pu 20 80 (bs 27 2097151) ?_
       refine pu 21 81 (bs 27 4194303) ?_
       refine pu 22 82 (bs 27 8388607) ?_
       refine tk5 23 83 (bs 27 16777215) hHeld ?_
       refine on0 24 84 (bs 27 33554431) fun K hK => ?_
       refine gs0 Tryz.func63 #[.slice sA ee.2.2.length sC, .int .i64 100] ?_
       cases hA : withinB 100 ee.2.2
       ·rw [hA] at HWI
        refine (HWI _ HD.out).out.mono ?_
        rintro e w1 ⟨rfl, hb1⟩
        have HD := Aside0.mk (below_then HD.out HD.out.size hb1)
        refine ⟨_, rfl, hK.out _ _ ⟨pw_cell_below hb1 hHeld.1, pw_cell_below hb1 hHeld.2.1, pw_cell_below hb1 hHeld.2.2.1, pw_cell_below hb1 hHeld.2.2.2.1, pw_cell_below hb1 hHeld.2.2.2.2⟩ (fun _ => ?_)⟩
        clear hK K
        refine nm0 (some 84) ?_
        refine pu 25 85 (bs 27 67108863) ?_
        refine on0 26 86 (bs 27 134217727) fun K hK => ?_
        refine dies_ Tryz.func31 (by kernel_rfl) rfl #[.bool false, .int .i64 1] (by rfl) rfl (by (try simp only [List.map_toArray, List.map_cons, List.map_nil]); first | done | rfl) ?_
        refine (must_false _ _).mono ?_
        rintro e w1 ⟨rfl, rfl⟩
        refine ⟨_, rfl, ?_⟩
        have hop : openedP N W E = none := some_bad HEK.out.2 (by simp only [edgeOk, hF, hT, hL, hA, Bool.and_false])
        refine ⟨rfl, HPN.out _ HD.out, ?_⟩
        rw [hop]
       ·skip
        rw [hA] at HWI
        refine (HWI _ HD.out).out.mono ?_
        rintro e w1 ⟨rfl, hb1⟩
        have HD := Aside0.mk (below_then HD.out HD.out.size hb1)
        refine ⟨_, rfl, hK.out _ _ ⟨pw_cell_below hb1 hHeld.1, pw_cell_below hb1 hHeld.2.1, pw_cell_below hb1 hHeld.2.2.1, pw_cell_below hb1 hHeld.2.2.2.1, pw_cell_below hb1 hHeld.2.2.2.2⟩ (fun _ => ?_)⟩
        clear hK K
        refine nm0 (some 84) ?_
        refine pu 25 85 (bs 27 67108863) ?_
        refine on0 26 86 (bs 27 134217727) fun K hK => ?_
        refine gs0 Tryz.func31 #[.bool true, .int .i64 1] ?_
        refine (must_true _ _).mono ?_
        rintro e w3 ⟨rfl, rfl⟩
        refine ⟨_, rfl, hK.out _ _ ⟨pw_cell_below hb1 hHeld.1, pw_cell_below hb1 hHeld.2.1, pw_cell_below hb1 hHeld.2.2.1, pw_cell_below hb1 hHeld.2.2.2.1, pw_cell_below hb1 hHeld.2.2.2.2⟩ (fun _ => ?_)⟩
        clear hK K
        refine nm0 (some 86) ?_
        refine dn0 ?_
        have HX2 := Aside0.mk (show (∀ e ∈ E.take (k + 1), edgeOk N W e = true) ∧ Below w2.heap.size w2 w1 from ⟨by
         rw [HEK.out.1]
         intro e he
         rcases List.mem_append.1 he with he | he
         ·exact hX.out.1 e he
         ·rw [List.mem_singleton.1 he]
          simp only [edgeOk, hF, hT, hL, hA, Bool.and_self], below_then HB.out HB.out.size HD.out⟩)
        go_wp2_with fail
        exact ⟨⟨k + 1, by omega, by go_num, HX2⟩, by simp [intOf]; omega⟩
   ·have hall : E.all (edgeOk N W) = true := by
     have hkE : k = E.length := by omega
     have h := hX.out.1
     rw [hkE, List.take_length] at h
     exact List.all_eq_true.2 h
    obtain ⟨n, rfl⟩ := Int.eq_ofNat_of_zero_le (show 0 ≤ N by omega)
    have HOP := Lib.hid (show openedP n W E = (List.range n).mapM (fromP E n) from by
     unfold openedP
     rw [if_pos ⟨⟨h1, h2, h3, h4, by omega⟩, hall⟩]; rfl)
    have HED := Lib.hid (show ∀ e ∈ E, 0 ≤ e.1 ∧ e.1 < n ∧ 0 ≤ e.2.1 ∧ e.2.1 < n from fun e he => by
     have := List.all_eq_true.1 hall e he
     simp only [edgeOk, Bool.and_eq_true, decide_eq_true_eq] at this
     omega)
    have hb := hX.out.2
    have HBR := Lib.hid (show Below w.heap.size w wr ∧ w.heap.size + 1 < wr.heap.size from ⟨below_then HW2.out.1 HW2.out.1.size hb, by have := HW2.out.2.1; have := hb.size; omega⟩)
    have HBK := Lib.hid (blk_below HW2.out.2.2 hb)
    clear hb hall hX k0 k1 k2
    have k0 : wr.cell? ⟨w.heap.size + 1, 0, none⟩ = some (.int .i64 n) := (blk_cell HBK.out 0).trans rfl
    have k3 : wr.cell? ⟨w.heap.size + 1, 3, none⟩ = some (.slice none 0 0) := (blk_cell HBK.out 3).trans rfl
    go_wp2_with fail
    go_loopw [93] (fun i wx => ∃ j : Nat, j ≤ n ∧ i = .int .i64 j ∧ ∃ ways A c, Aside0 ((List.range j).mapM (fromP E n) = some ways ∧ Below w.heap.size w wx ∧ wx.heap[w.heap.size + 1]? = some (.cells #[.int .i64 n, .int .i64 W, .slice eA E.length eC, .slice A j c] 72 (0, 0)) ∧ kGrid.R 69 wx w.heap.size (fun k => k ≠ w.heap.size + 1) (.slice A j c) ways)) (fun i _ => n - (intOf i).toNat)
    case atStart => exact ⟨0, Nat.zero_le _, rfl, [], none, 0, ⟨rfl, HBR.out.1, HBK.out, Kd.R_nil _ _ _ _ _⟩⟩
    case round =>
     obtain ⟨j, hj, rfl, ways, A, c, hX⟩ := hrel
     by_cases hjn : j < n
     ·have x0 : wr.cell? ⟨w.heap.size + 1, 0, none⟩ = some (.int .i64 n) := (blk_cell hX.out.2.2.1 0).trans rfl
      have x2 : wr.cell? ⟨w.heap.size + 1, 2, none⟩ = some (.slice eA E.length eC) := (blk_cell hX.out.2.2.1 2).trans rfl
      have x3 : wr.cell? ⟨w.heap.size + 1, 3, none⟩ = some (.slice A j c) := (blk_cell hX.out.2.2.1 3).trans rfl
      have HGB := Lib.hid (blk_lt hX.out.2.2.1)
      have HFR := Lib.hid (from_any (w.heap.size + 1) E eA eC n j wr.drew x0 x2 (Kd.C_below HE.out (below_drew1 hX.out.2.1)) (by omega) (by omega) hjn HED.out)
      have hjl : ways.length = j := by have := (Kd.R_reads' hX.out.2.2.2).1; exact this.symm
      have HJL := Lib.hid hjl
      have X2 := Lib.hid (And.intro x0 x2)
      clear x0 x2 hjl
      go_upto_region 11 with fail
      refine start_ (n := 13) (S := fun w' => w'.cell? ⟨w.heap.size + 1, 3, none⟩ = some (.slice A j c)) (ds := [12]) (bs 13 0) (by kernel_rfl) rfl (by kernel_rfl) x3 (fun hHeld => ?_)
      have HX := Aside0.mk (show Below w.heap.size w wr.drew ∧ wr.drew.heap[w.heap.size + 1]? = some (.cells #[.int .i64 n, .int .i64 W, .slice eA E.length eC, .slice A j c] 72 (0, 0)) ∧ kGrid.R 69 wr.drew w.heap.size (fun k => k ≠ w.heap.size + 1) (.slice A j c) ways ∧ w.heap.size + 1 < wr.drew.heap.size from ⟨below_drew1 hX.out.2.1, hX.out.2.2.1, Kd.R_drew hX.out.2.2.2, HGB.out⟩)
      generalize wr.drew = wd at *
      refine pu 0 96 (bs 13 1) ?_
      refine pu 1 97 (bs 13 3) ?_
      refine pu 2 98 (bs 13 7) ?_
      refine pu 3 99 (bs 13 15) ?_
      refine tk1 4 100 (bs 13 31) hHeld ?_
      refine pu 5 101 (bs 13 63) ?_
      refine pu 6 102 (bs 13 127) ?_
      refine on0 7 103 (bs 13 255) fun K hK => ?_
      refine either_ Tryz.func69 (by kernel_rfl) rfl #[.pointer (some ⟨w.heap.size + 1, 0, none⟩), .int .i64 j] (by rfl) rfl rfl (by (try simp only [List.map_toArray, List.map_cons, List.map_nil]); first | done | rfl) ?_
      refine HFR.out.mono ?_
      rintro e w9 ⟨hb9, h9⟩
      cases hfp : fromP E n j with
      | none =>
       rw [hfp] at h9
       subst h9
       have hop : openedP n W E = none := by
        rw [HOP.out]
        refine mapM_none _ (j + 1) n hjn ?_
        rw [List.range_succ, mapM_snoc, hX.out.1, hfp]; rfl
       refine .inr ⟨_, rfl, rfl, below_then HX.out.1 HX.out.1.size hb9, ?_⟩
       rw [hop]
      | some rows =>
       rw [hfp] at h9
       obtain ⟨v9, rfl, hS9, hl9⟩ := h9
       have HFP := Lib.hid hfp
       have hR9 := Kd.S_R hS9
       obtain ⟨A9, c9, hv9⟩ := Kd.R_slice hR9
       rw [hl9] at hv9
       subst hv9
       have HR9 := Aside0.mk hR9
       have hx3 := pw_cell_below hb9 hHeld
       have HY := Aside0.mk (show Below w.heap.size w w9 ∧ w9.heap[w.heap.size + 1]? = some (.cells #[.int .i64 n, .int .i64 W, .slice eA E.length eC, .slice A j c] 72 (0, 0)) ∧ kGrid.R 69 w9 w.heap.size (fun k => k ≠ w.heap.size + 1) (.slice A j c) ways from ⟨below_then HX.out.1 HX.out.1.size hb9, blk_below HX.out.2.1 hb9, Kd.R_below HX.out.2.2.1 hb9⟩)
       have HOB := Lib.hid (show ∀ k, (Value.slice A j c).ownBlock = some k → k < wd.heap.size from Kd.R_lt HX.out.2.2.1)
       have HSZ := Lib.hid hb9.size
       clear hb9 hfp hS9 hR9
       refine .inl ⟨_, rfl, hK.out _ _ hx3 (fun hHeld => ?_)⟩
       clear hK K
       refine nm0 (some 103) ?_
       refine on0 8 104 (bs 13 511) fun K hK => ?_
       refine va0 ?_
       refine hK.out _ _ (pw_cell_below (below_new w9 _) hHeld) (fun hHeld => ?_)
       clear hK K
       refine nm0 (some 104) ?_
       refine on0 9 105 (bs 13 1023) fun K hK => ?_
       refine Kd.R_append_step kGrid (w0 := w) w.heap.size (by rfl) (.tmp 100) (.tmp 104) 70 69 _ 24 rfl Tryz.underlying70 Tryz.infoLlt rfl (by decide) (by decide) (.slice A j c) ways rows [.slice A9 n c9] (fun k => k ≠ w.heap.size + 1) (fun k => wd.heap.size ≤ k) rfl rfl ⟨_, rfl, ?aP⟩ ?aH ?aF HY.out.2.2 HY.out.1 HY.out.1.size ?aL ?_
       case aP => exact Kd.R_lower (Kd.R_mono (Kd.R_bound HR9.out) (fun k hk => hk.2.1)) HX.out.1.size
       case aH => exact fun k hk => ⟨by have := HX.out.2.2.2; omega, fun he => by have := HOB.out k he.symm; omega⟩
       case aF => exact fun k hk => by have := HX.out.2.2.2; have := HSZ.out; omega
       case aL => have := HJL.out; omega
       intro v1 w11 hR11 hb11 hg11 hat11
       obtain ⟨A1, c1, hv1⟩ := Kd.R_slice hR11
       rw [List.length_append, HJL.out] at hv1
       have hv1 : v1 = .slice A1 (j + 1) c1 := hv1
       subst hv1
       have hgb : some (w.heap.size + 1) ≠ (Value.slice A j c).ownBlock := fun he => (HY.out.2.2.1 _ he.symm) rfl
       have hblk : w11.heap[w.heap.size + 1]? = some (.cells #[.int .i64 n, .int .i64 W, .slice eA E.length eC, .slice A j c] 72 (0, 0)) := (hg11.block _ (blk_lt HY.out.2.1) hgb).trans HY.out.2.1
       have y3 : w11.cell? ⟨w.heap.size + 1, 3, none⟩ = some (.slice A j c) := (blk_cell hblk 3).trans rfl
       have yf := blk_frozen hblk 3
       have HR11 := Aside0.mk hR11
       have HBL := Lib.hid hblk
       have HB11 := Lib.hid hb11
       clear hR11 hb11 hg11 hat11 hgb hblk
       refine hK.out _ _ y3 (fun hHeld => ?_)
       clear hK K
       refine nm0 (some 105) ?_
       refine pu 10 106 (bs 13 2047) ?_
       refine pu 11 107 (bs 13 4095) ?_
       refine la0 12 (bs 13 8191) (N := none) fun K hK => ?_
       refine sk0 ?_
       refine hK.out _ _ ?_
       clear hK K
       refine dn0 ?_
       have HX3 := Aside0.mk (show (List.range (j + 1)).mapM (fromP E n) = some (ways ++ [rows]) ∧ Below w.heap.size w (w11.setCell ⟨w.heap.size + 1, 3, none⟩ (.slice A1 (j + 1) c1)) ∧
        (w11.setCell ⟨w.heap.size + 1, 3, none⟩ (.slice A1 (j + 1) c1)).heap[w.heap.size + 1]? = some (.cells #[.int .i64 n, .int .i64 W, .slice eA E.length eC, .slice A1 (j + 1) c1] 72 (0, 0)) ∧
        kGrid.R 69 (w11.setCell ⟨w.heap.size + 1, 3, none⟩ (.slice A1 (j + 1) c1)) w.heap.size (fun k => k ≠ w.heap.size + 1) (.slice A1 (j + 1) c1) (ways ++ [rows]) from
        ⟨by rw [List.range_succ, mapM_snoc, hX.out.1, HFP.out]; rfl, HB11.out.setCell (by simp) _, blk_put HBL.out 3 _ rfl, Kd.R_far HR11.out (fun k hk => hk) _⟩)
       go_wp2_with fail
       exact ⟨⟨j + 1, by omega, by go_num, _, A1, c1, HX3⟩, by simp [intOf]; omega⟩
     ·go_wp2_with fail
      go_ret
      have hjn : j = n := by omega
      subst hjn
      refine ⟨hX.out.2.1, ?_⟩
      rw [HOP.out, hX.out.1]
      have hR := Kd.R_reads' hX.out.2.2.2
      refine ⟨_, rfl, by simp, (blk_cell hX.out.2.2.1 0).trans rfl, (blk_cell hX.out.2.2.1 1).trans rfl, ⟨eA, eC, (blk_cell hX.out.2.2.1 2).trans rfl, Kd.C_below HE.out hX.out.2.1⟩, ⟨A, c, ?_, hR.2.2⟩⟩
      rw [← hR.1]
      exact (blk_cell hX.out.2.2.1 3).trans rfl
 ·have HH := Lib.hid (show openedP N W E = none by simp [openedP, hh])
  have hh : ¬ (1 ≤ N ∧ N ≤ 8 ∧ 1 ≤ W ∧ W ≤ 3 ∧ E.length ≤ 16) := hh
  by_cases g0 : 1 ≤ N
  rotate_left
  ·have f0 : decide (1 ≤ N) = false := by simp; omega
   have n0 : N < 1 := by omega
   clear g0 hh
   go_enter Tryz.func30, Tryz.ntmps30
   go_wp2_with fail
   refine (must_false _ _).mono ?_
   rintro e wm ⟨rfl, rfl⟩
   refine ⟨rfl, two_new, ?_⟩
   rw [HH.out]
  by_cases g1 : N ≤ 8
  rotate_left
  ·have f1 : decide (N ≤ 8) = false := by simp; omega
   have n1 : 8 < N := by omega
   clear g1 hh
   go_enter Tryz.func30, Tryz.ntmps30
   go_wp2_with fail
   refine (must_false _ _).mono ?_
   rintro e wm ⟨rfl, rfl⟩
   refine ⟨rfl, two_new, ?_⟩
   rw [HH.out]
  by_cases g2 : 1 ≤ W
  rotate_left
  ·have f2 : decide (1 ≤ W) = false := by simp; omega
   have n2 : W < 1 := by omega
   clear g2 hh
   go_enter Tryz.func30, Tryz.ntmps30
   go_wp2_with fail
   refine (must_false _ _).mono ?_
   rintro e wm ⟨rfl, rfl⟩
   refine ⟨rfl, two_new, ?_⟩
   rw [HH.out]
  by_cases g3 : W ≤ 3
  rotate_left
  ·have f3 : decide (W ≤ 3) = false := by simp; omega
   have n3 : 3 < W := by omega
   clear g3 hh
   go_enter Tryz.func30, Tryz.ntmps30
   go_wp2_with fail
   refine (must_false _ _).mono ?_
   rintro e wm ⟨rfl, rfl⟩
   refine ⟨rfl, two_new, ?_⟩
   rw [HH.out]
  ·have f4 : decide ((E.length : Int) ≤ 16) = false := by simp; omega
   have n4 : 16 < (E.length : Int) := by omega
   clear hh
   go_enter Tryz.func30, Tryz.ntmps30
   go_wp2_with fail
   refine (must_false _ _).mono ?_
   rintro e wm ⟨rfl, rfl⟩
   refine ⟨rfl, two_new, ?_⟩
   rw [HH.out]
end Go.Proofs.YtbkfnmgkcgnifaaGreat
namespace Go.Proofs.YtbkfnmgkcgnifaaGreat
open Go.RowKit Go.Shelf Go.Proofs.YtbkfnmgkcgnifaaGreatW.PrintWords Go.Proofs.YtbkfnmgkcgnifaaGreatW.PrintLast Mdl Go.ChangeMaps
attribute [local go_sem] Oper.semAt_some
namespace Mdl
abbrev Ways := List (List (List Tm))
def wayAt (ways : Ways) (m : Int) (k : Nat) : List Tm := (ways.getD m.toNat []).getD k []
def rowP (ways : Ways) (pre : List Mk) (k : Nat) : List Tm := pre.flatMap fun m => (wayAt ways m.1 k).map (plusT m.2)
def frontP (n : Nat) (ways : Ways) (xs : List Mk) : List (List Tm) := (List.range n).map fun k => firstsT (rowP ways xs k)
end Mdl
theorem cell_quiet {B : Nat} {W W' : World} {a : Addr} {v : Value} (h : W.cell? a = some v) (hq : Quiet B W W') : W'.cell? a = some v := by
 have hb := World.block_lt_of_cell? W a h
 have : W'.heap[a.block]? = W.heap[a.block]? := by
  cases ho : W.heap[a.block]? with
  | none => rw [Array.getElem?_eq_none_iff] at ho; omega
  | some o =>
   refine hq.same _ _ ho (.inr ?_)
   cases o with
   | cells => rfl
   | _ => simp [World.cell?, ho] at h
 rw [World.cell?_of_block this]; exact h
theorem S_quiet {α : Type} {d : Kd α} {e base : Nat} {ok : Nat → Prop} {B : Nat} {W W' : World} {v : Value} {xs : List α} (h : Kd.S d e W base ok v xs) (hq : Quiet B W W') : Kd.S d e W' base ok v xs :=
 Kd.S_mono (Kd.S_move (Kd.S_bound h) (fun k hk => by
  obtain ⟨_, _, _, q, _, cells, hc⟩ := hk
  rw [hc]; exact hq.same _ _ hc (.inr rfl))) (fun _ hk => hk.1)
theorem at_slice {α : Type} {d : Kd α} {e : Nat} {w : World} {A : Option Addr} {l : List (List α)} (h : (Kd.slice e d).C w A l.length l) {k : Nat} (hk : k < l.length) :
  ∃ ad A' c', A = some ad ∧ w.cell? (ad.add k) = some (.slice A' l[k].length c') ∧ l[k].length ≤ c' ∧ d.C w A' l[k].length l[k] := by
 obtain ⟨ad, c, e1, hl, hK, hc⟩ := Kd.C_get h [] (k : Int) (by omega) (by omega)
 rw [Int.toNat_natCast, List.getD_eq_getElem?_getD, List.getElem?_eq_getElem hk] at hK
 rw [Int.toNat_natCast] at hc
 obtain ⟨A', c', rfl, hle, hC⟩ := hK
 refine ⟨ad, A', c', e1, ?_, hle, hC⟩
 have := hc 0 _ rfl
 rwa [show (Kd.slice e d).sz = 1 from rfl, Nat.mul_one, Nat.add_zero] at this
theorem new_mark (V : World) (m : Mk) (t : TypeId) : (V.alloc (.cells #[.int .i64 m.1, .int .i64 m.2.1, .int .i64 m.2.2.1, .int .i64 m.2.2.2] t)).cell? ⟨V.heap.size, 0, none⟩ = some (.int .i64 m.1) ∧ (V.alloc (.cells #[.int .i64 m.1, .int .i64 m.2.1, .int .i64 m.2.2.1, .int .i64 m.2.2.2] t)).cell? ⟨V.heap.size, 1, none⟩ = some (.int .i64 m.2.1) ∧
  (V.alloc (.cells #[.int .i64 m.1, .int .i64 m.2.1, .int .i64 m.2.2.1, .int .i64 m.2.2.2] t)).cell? ⟨V.heap.size, 2, none⟩ = some (.int .i64 m.2.2.1) ∧ (V.alloc (.cells #[.int .i64 m.1, .int .i64 m.2.1, .int .i64 m.2.2.1, .int .i64 m.2.2.2] t)).cell? ⟨V.heap.size, 3, none⟩ = some (.int .i64 m.2.2.2) :=
 ⟨new_cell V _ _ 0, new_cell V _ _ 1, new_cell V _ _ 2, new_cell V _ _ 3⟩
theorem range_set {n k : Nat} (f : Nat → List Tm) (y : List Tm) (hk : k < n) : ((List.range n).map f).set k y = (List.range n).map fun j => if j = k then y else f j := by
 apply List.ext_getElem?
 intro i
 rw [List.getElem?_set, List.getElem?_map, List.getElem?_map]
 by_cases hi : k = i
 ·subst hi
  simp [hk]
 ·rw [if_neg hi]
  by_cases hin : i < n
  ·simp [hin, Ne.symm hi]
  ·simp [hin]
def mixP (ways : Ways) (pre : List Mk) (m : Mk) (k j : Nat) : List Tm := if j < k then rowP ways (pre ++ [m]) j else rowP ways pre j
theorem nc_grown {x : Nat → Prop} {W W1 : World} {row : Option Nat} {e : Nat} (h : W.grownBy W1 row) (hr : ∀ k, row = some k → ∃ cells, W.heap[k]? = some (.cells cells e (0, 0))) : NC x W W1 :=
 ⟨h.size, fun k o hk ho _ => (h.block k (blk_lt hk) (fun he => by
  obtain ⟨cells, hc⟩ := hr k he.symm
  rw [hc] at hk
  cases hk
  cases ho)).trans hk⟩
structure WaysOk (n M : Nat) (ways : Ways) : Prop where
 len : ways.length = n
 row : ∀ r ∈ ways, r.length = n
 way : ∀ r ∈ ways, ∀ l ∈ r, l.length ≤ M
theorem WaysOk.at_ {n M : Nat} {ways : Ways} (h : WaysOk n M ways) {m : Int} (h0 : 0 ≤ m) (h1 : m < n) {k : Nat} (hk : k < n) : ∃ (hm : m.toNat < ways.length) (hr : k < ways[m.toNat].length), wayAt ways m k = ways[m.toNat][k] ∧ (wayAt ways m k).length ≤ M := by
 have hm : m.toNat < ways.length := by rw [h.len]; omega
 have hr : k < ways[m.toNat].length := by rw [h.row _ (List.getElem_mem hm)]; exact hk
 have e : wayAt ways m k = ways[m.toNat][k] := by
  simp [wayAt, List.getD_eq_getElem?_getD, hm, hr]
 exact ⟨hm, hr, e, by rw [e]; exact h.way _ (List.getElem_mem hm) _ (List.getElem_mem hr)⟩
theorem rowP_len {n M : Nat} {ways : Ways} (h : WaysOk n M ways) {k : Nat} (hk : k < n) : ∀ (xs : List Mk), (∀ y ∈ xs, 0 ≤ y.1 ∧ y.1 < n) → (rowP ways xs k).length ≤ xs.length * M
 | [], _ => by simp [rowP]
 | y :: xs, hs => by
  obtain ⟨h0, h1⟩ := hs y List.mem_cons_self
  obtain ⟨_, _, _, hle⟩ := h.at_ h0 h1 hk
  have := rowP_len h hk xs (fun z hz => hs z (List.mem_cons_of_mem _ hz))
  rw [List.length_cons, Nat.succ_mul]
  simp only [rowP, List.flatMap_cons, List.length_append, List.length_map] at this ⊢
  omega
theorem rowP_snoc (ways : Ways) (pre : List Mk) (m : Mk) (k : Nat) : rowP ways (pre ++ [m]) k = rowP ways pre k ++ (wayAt ways m.1 k).map (plusT m.2) := by simp [rowP]
set_option maxRecDepth 8000 in
set_option maxHeartbeats 4000000 in
theorem frontiers_any (gb : Nat) (n : Nat) (Wd : Int) (E : List Ed) (ways : Ways) (b : Nat) (L : Led) (w : World) (hG : GraphAt w gb n Wd E ways) (hn : 1 ≤ n) (hn3 : n ≤ 8) (M : Nat) (hW : WaysOk n M ways) (hnode : ∀ e ∈ L, 0 ≤ e.1.1 ∧ e.1.1 < n) (hM : L.length * M * 24 + M * 24 + 24 ≤ 140737488355328) (hL : LedAt w b L) :
  Calls Tryz.prog 48 #[.pointer (some ⟨gb, 0, none⟩), .func (.func 45) #[.agg #[.map (some b)]] #[]] w fun e w' =>
   ∃ v xs, e = .returned v ∧ xs.Perm (posL L) ∧ kRows.R 68 w' w.heap.size (fun _ => True) v (frontP n ways xs) ∧ Below w.heap.size w w' := by
 have HG := Aside0.mk hG
 have HLd := Aside0.mk hL
 have h0N : (0 : Int) ≤ n := by omega
 have c0 := hG.c0
 have hgl : gb < w.heap.size := World.block_lt_of_cell? w _ c0
 clear hG hL
 refine (callsIn_wide (n := 6)).1 (callsIn_of_wp_marks Tryz.func48 rfl trivial ?_ rfl)
 refine wpIn_wide.2 ?_
 simp only [Tryz.ntmps48, List.size_toArray, List.length_cons, List.length_nil, Nat.reduceAdd, Nat.reduceSub, Array.replicate_succ, Array.replicate_zero, List.push_toArray, List.append_toArray, List.nil_append, List.cons_append, List.append_nil]
 go_upto_region 1 with fail
 have hw2 : (w.alloc (.cells #[.pointer (some ⟨gb, 0, none⟩)] 63)).heap.size = w.heap.size + 1 := by simp
 have b1 := below_new w (.cells #[.pointer (some ⟨gb, 0, none⟩)] 63)
 have cg : (w.alloc (.cells #[.pointer (some ⟨gb, 0, none⟩)] 63)).cell? ⟨w.heap.size, 0, none⟩ = some (.pointer (some ⟨gb, 0, none⟩)) := new_cell w _ _ 0
 generalize w.alloc (.cells #[.pointer (some ⟨gb, 0, none⟩)] 63) = w2 at *
 have hN2 := pw_cell_below b1 c0
 have H2 := Aside0.mk (And.intro hw2 (And.intro cg b1))
 clear hw2 b1 c0
 go_upto_region 2 with (at_make; go_must (refine Kd.S_make kRows (w0 := w) w.heap.size 68 rfl (N := 17) rfl _ _ _ rfl n rfl rfl Tryz.underlying69 _ 24 Tryz.infoLt rfl (by decide) (by decide) ([] : List Tm) (ok := fun k => w2.heap.size ≤ k) (okp := fun _ => False) ⟨_, rfl, Kd.R_nil _ _ _ _ _⟩ (fun _ h => h.elim) (Nat.le_refl _) h0N (by omega) H2.out.2.2 H2.out.2.2.size ?_); intro v1 w3 hS3 hb3 hg3 hown3; obtain ⟨ga, ac, hv1, hga1, hga2, _⟩ := Kd.S_form hS3 (by simp; omega); rw [List.length_replicate, Int.toNat_natCast] at hv1; subst hv1)
 have b3 := below_new w3 (.cells #[.slice (some ⟨ga, 0, none⟩) n ac] 69)
 have ca : (w3.alloc (.cells #[.slice (some ⟨ga, 0, none⟩) n ac] 69)).cell? ⟨w3.heap.size, 0, none⟩ = some (.slice (some ⟨ga, 0, none⟩) n ac) := new_cell w3 _ _ 0
 have cg3 := pw_cell_below b3 (cell_grown hg3 H2.out.2.1 (by simp))
 have hz4 : (w3.alloc (.cells #[.slice (some ⟨ga, 0, none⟩) n ac] 69)).heap.size = w3.heap.size + 1 := by simp
 have H4 := Aside0.mk (show Kd.S kRows 68 (w3.alloc (.cells #[.slice (some ⟨ga, 0, none⟩) n ac] 69)) w.heap.size (fun k => w.heap.size < k ∧ k ≠ w3.heap.size) (.slice (some ⟨ga, 0, none⟩) n ac) (List.replicate n []) ∧ Below w.heap.size w (w3.alloc (.cells #[.slice (some ⟨ga, 0, none⟩) n ac] 69)) from
  ⟨Kd.S_below (Kd.S_mono (Kd.S_bound (by simpa using hS3)) (fun k hk => ⟨by have := hk.1; have := H2.out.1; omega, by have := hk.2.2.1; omega⟩)) b3, below_then hb3 hb3.size b3⟩)
 have HZ := Lib.hid (show w.heap.size < w3.heap.size by have := hg3.size; have := H2.out.1; omega)
 have HZ4 := Lib.hid hz4
 clear b3 hz4 hS3 hb3 hg3 hown3 hga1 hN2 cg
 generalize w3.alloc (.cells #[.slice (some ⟨ga, 0, none⟩) n ac] 69) = w4 at *
 go_wp2_with fail
 refine (wpIn_wide (n := 6)).1 ?_
 have HLB := Aside0.mk (HLd.out.below H4.out.2)
 have CA := Lib.hid ca
 have CG := Lib.hid cg3
 refine range_all (P := Tryz.prog) (gf := 45) (first := #[.agg #[.map (some b)]]) (cap := #[]) rfl (enters_of Tryz.func45 (by kernel_rfl) rfl) (enc := fun m => #[mkV m]) (fun _ => rfl) (x := fun _ => False) (fun _ h => h.elim) (some_seq b L w4 (fun _ => False) HLB.out (fun _ h => h.elim))
  (fun pre W => W.cell? ⟨w3.heap.size, 0, none⟩ = some (.slice (some ⟨ga, 0, none⟩) n ac) ∧ W.cell? ⟨w.heap.size, 0, none⟩ = some (.pointer (some ⟨gb, 0, none⟩)) ∧ Kd.S kRows 68 W w.heap.size (fun k => w.heap.size < k ∧ k ≠ w3.heap.size) (.slice (some ⟨ga, 0, none⟩) n ac) ((List.range n).map (rowP ways pre)) ∧ Below w.heap.size w W)
  ?stab ?start
  (fun pre m a1 W => ∃ bm, a1 = { tmps := #[.pointer (some ⟨gb, 0, none⟩), .func (.func 45) #[.agg #[.map (some b)]] #[], .pointer (some ⟨w.heap.size, 0, none⟩), undef, .slice none 0 0, .pointer (some ⟨w3.heap.size, 0, none⟩), .pointer (some ⟨bm, 0, none⟩), undef, undef, undef, undef, undef, .pointer (some ⟨gb, 0, none⟩), .pointer (some ⟨gb, 0, none⟩), .pointer (some ⟨gb, 0, none⟩), .pointer (some ⟨gb, 0, none⟩), .int .i64 n, .slice (some ⟨ga, 0, none⟩) n ac, .func (.func 45) #[.agg #[.map (some b)]] #[], .agg #[.int .i64 m.1, .int .i64 m.2.1, .int .i64 m.2.2.1, .int .i64 m.2.2.2], undef, undef, undef, undef, undef, undef, undef, undef, undef, undef, undef, undef, undef, undef, undef, undef, undef, undef, undef, undef, undef, undef, undef, undef, undef, undef, undef, undef, undef, undef, undef, undef, undef, undef, undef, undef, undef, undef, undef, undef, undef, undef, undef, undef, undef, undef, undef, undef, undef, undef], defers := [] } ∧ w3.heap.size < bm ∧ (W.cell? ⟨bm, 0, none⟩ = some (.int .i64 m.1) ∧ W.cell? ⟨bm, 1, none⟩ = some (.int .i64 m.2.1) ∧ W.cell? ⟨bm, 2, none⟩ = some (.int .i64 m.2.2.1) ∧ W.cell? ⟨bm, 3, none⟩ = some (.int .i64 m.2.2.2)) ∧
   W.cell? ⟨w3.heap.size, 0, none⟩ = some (.slice (some ⟨ga, 0, none⟩) n ac) ∧ W.cell? ⟨w.heap.size, 0, none⟩ = some (.pointer (some ⟨gb, 0, none⟩)) ∧ Kd.S kRows 68 W w.heap.size (fun k => (w.heap.size < k ∧ k ≠ w3.heap.size) ∧ k ≠ bm) (.slice (some ⟨ga, 0, none⟩) n ac) ((List.range n).map (rowP ways pre)) ∧ Below w.heap.size w W)
  ?stab2 ?assign ?body ?done
 case stab =>
  rintro pre V V' hV ⟨h1, h2, h3, h4⟩ hq
  exact ⟨cell_quiet h1 hq, cell_quiet h2 hq, S_quiet h3 hq, h4.trans ((hq.toBelow hV).mono H4.out.2.size)⟩
 case start =>
  refine ⟨ca, cg3, ?_, H4.out.2⟩
  have : (List.range n).map (rowP ways []) = List.replicate n [] := by
   refine List.eq_replicate_iff.2 ⟨by simp, fun r hr => ?_⟩
   obtain ⟨k, _, rfl⟩ := List.mem_map.1 hr
   rfl
  rw [this]
  exact H4.out.1
 case stab2 =>
  rintro pre m a1 _ V V' hV ⟨bm, h0, h1, ⟨h2, h3, h4, h5⟩, h6, h7, h8, h9⟩ hq
  exact ⟨bm, h0, h1, ⟨cell_quiet h2 hq, cell_quiet h3 hq, cell_quiet h4 hq, cell_quiet h5 hq⟩, cell_quiet h6 hq, cell_quiet h7 hq, S_quiet h8 hq, h9.trans ((hq.toBelow hV).mono H4.out.2.size)⟩
 case assign =>
  rintro l pre m V K hV hp ⟨h1, h2, h3, h4⟩ hK
  have HKK := Lib.hid hK
  have H3 := Aside0.mk h3
  have H4' := Aside0.mk h4
  clear h3 h4 hK
  simp only [mkV]
  gi_wp2
  refine HKK.out _ _ (NC.below (below_new _ _)) ⟨V.heap.size, rfl, by have := HZ4.out; omega, new_mark V m 101, pw_cell_below (below_new _ _) h1, pw_cell_below (below_new _ _) h2, Kd.S_below (Kd.S_elderB H3.out _ (Nat.le_refl _)) (below_new _ _), below_then H4'.out H4'.out.size (below_new _ _)⟩
 case body =>
  rintro l pre m a1 V hV hp ⟨bm, rfl, hbm, ⟨m0, m1, m2, m3⟩, k1, k2, hS, hB⟩
  obtain ⟨xs, hxs, hpre⟩ := hp
  have hmem : m ∈ posL L := hxs.mem_iff.1 (hpre.subset (by simp))
  obtain ⟨hm0, hm1⟩ : 0 ≤ m.1 ∧ m.1 < n := by
   obtain ⟨e, he, rfl⟩ := List.mem_map.1 hmem
   exact hnode e (List.mem_filter.1 he).1
  have hlenp : pre.length + 1 ≤ L.length := by
   have h1 := hpre.length_le
   rw [List.length_append, List.length_singleton, hxs.length_eq] at h1
   have h2 : (posL L).length ≤ L.length := by
    rw [posL, List.length_map]; exact List.length_filter_le _ _
   omega
  have hrow : ∀ k, k < n → (rowP ways pre k).length + M ≤ L.length * M := by
   intro k hk
   have h1 := rowP_len hW hk pre (fun y hy => by
    have hy : y ∈ posL L := hxs.mem_iff.1 (hpre.subset (by simp [hy]))
    obtain ⟨e, he, rfl⟩ := List.mem_map.1 hy
    exact hnode e (List.mem_filter.1 he).1)
   have h2 : (pre.length + 1) * M ≤ L.length * M := Nat.mul_le_mul_right _ hlenp
   rw [Nat.succ_mul] at h2
   omega
  have HP := Aside0.mk (And.intro hrow (And.intro hm0 hm1))
  have HS := Aside0.mk (And.intro hS hB)
  have HM := Aside0.mk (And.intro m0 (And.intro m1 (And.intro m2 m3)))
  clear hxs hpre hmem hlenp hrow hS hB m1 m2 m3
  gi_wp2
  gi_loopw [22] (fun i V1 => ∃ k : Nat, k ≤ n ∧ i = .int .i64 k ∧ Aside0 (Kd.S kRows 68 V1 w.heap.size (fun k => (w.heap.size < k ∧ k ≠ w3.heap.size) ∧ k ≠ bm) (.slice (some ⟨ga, 0, none⟩) n ac) ((List.range n).map (mixP ways pre m k)) ∧ Below w.heap.size w V1 ∧ NC (fun _ => False) V V1) ∧ V1.cell? ⟨bm, 0, none⟩ = some (.int .i64 m.1) ∧
   Aside0 (V1.cell? ⟨bm, 1, none⟩ = some (.int .i64 m.2.1) ∧ V1.cell? ⟨bm, 2, none⟩ = some (.int .i64 m.2.2.1) ∧ V1.cell? ⟨bm, 3, none⟩ = some (.int .i64 m.2.2.2)) ∧ V1.cell? ⟨w3.heap.size, 0, none⟩ = some (.slice (some ⟨ga, 0, none⟩) n ac) ∧ V1.cell? ⟨w.heap.size, 0, none⟩ = some (.pointer (some ⟨gb, 0, none⟩))) (fun i _ => n - (intOf i).toNat)
  case atStart =>
   refine ⟨0, Nat.zero_le _, rfl, ⟨?_, HS.out.2, NC.refl _ _⟩, m0, ⟨HM.out.2⟩, k1, k2⟩
   rw [show mixP ways pre m 0 = rowP ways pre from funext fun j => by simp [mixP]]
   exact HS.out.1
  case round =>
   obtain ⟨k, hk, rfl, hX, n0, hN, j1, j2⟩ := hrel
   by_cases hlt : k < n
   ·obtain ⟨hm, hr, hwe, hwM⟩ := hW.at_ HP.out.2.1 HP.out.2.2 hlt
    have hB1 := hX.out.2.1
    obtain ⟨wA, wC, hc3, hCw⟩ := HG.out.c3
    have g3 := pw_cell_below hB1 hc3
    obtain ⟨ad, A1, c1, hwA, hcA, _, hC1⟩ := at_slice hCw hm
    obtain ⟨ad1, A2, c2, hA1, hcB, _, hC2⟩ := at_slice hC1 hr
    rw [← hwe] at hcB hC2
    replace hcA := pw_cell_below hB1 hcA
    replace hcB := pw_cell_below hB1 hcB
    subst hwA
    subst hA1
    have hlr1 : ways[m.1.toNat].length = n := hW.row _ (List.getElem_mem hm)
    rw [hlr1] at hcA
    rw [hW.len] at g3
    have hm0 := HP.out.2.1
    have hm1 := HP.out.2.2
    have hk0 : (0 : Int) ≤ k := by omega
    have hkn : (k : Int) < n := by omega
    generalize hway : wayAt ways m.1 k = way at *
    have HWY := Lib.hid (And.intro hway hwM)
    have HC2 := Aside0.mk (And.intro (rfl : way.length = way.length) hC2)
    generalize hwl : way.length = wl at hcB
    have HWL := Lib.hid hwl
    clear hC1 hC2 hCw hc3 hway hwe hwM hlr1 hwl
    gi_wp2
    refine startIn_ (k := 13) (S := fun w' => w'.cell? ⟨w.heap.size, 0, none⟩ = some (.pointer (some ⟨gb, 0, none⟩)) ∧ w'.cell? ⟨gb, 3, none⟩ = some (.slice (some ad) n wC) ∧ w'.cell? ⟨bm, 0, none⟩ = some (.int .i64 m.1) ∧ w'.cell? (ad.add m.1.toNat) = some (.slice (some ad1) n c1) ∧ w'.cell? (ad1.add k) = some (.slice A2 wl c2)) (ds := []) (bs 13 0) (by kernel_rfl) (by rintro ⟨_, _, h⟩; exact h) (by kernel_rfl) rfl (by kernel_rfl) ⟨j2, g3, n0, hcA, hcB⟩ (fun hHeld => ?_)
    refine tk5 0 25 (bs 13 1) hHeld ?_
    refine pu 1 26 (bs 13 3) ?_
    refine pu 2 27 (bs 13 7) ?_
    refine tk5 3 28 (bs 13 15) hHeld ?_
    refine pu 4 29 (bs 13 31) ?_
    refine tk5 5 30 (bs 13 63) hHeld ?_
    refine pu 6 31 (bs 13 127) ?_
    refine tk5 7 32 (bs 13 255) hHeld ?_
    refine pu 8 33 (bs 13 511) ?_
    refine pu 9 34 (bs 13 1023) ?_
    refine tk5 10 35 (bs 13 2047) hHeld ?_
    refine pu 11 36 (bs 13 4095) ?_
    refine pu 12 37 (bs 13 8191) ?_
    refine dn0 ?_
    have HX1 := Aside0.mk (And.intro (Kd.S_drew hX.out.1) (And.intro (below_drew1 hB1) (show NC (fun _ => False) V wr.drew from hX.out.2.2)))
    have HC1 := Aside0.mk HC2.out.2
    have hND := Aside0.mk (show wr.drew.cell? ⟨bm, 0, none⟩ = some (.int .i64 m.1) ∧ wr.drew.cell? ⟨bm, 1, none⟩ = some (.int .i64 m.2.1) ∧ wr.drew.cell? ⟨bm, 2, none⟩ = some (.int .i64 m.2.2.1) ∧ wr.drew.cell? ⟨bm, 3, none⟩ = some (.int .i64 m.2.2.2) ∧ wr.drew.cell? ⟨w3.heap.size, 0, none⟩ = some (.slice (some ⟨ga, 0, none⟩) n ac) ∧ wr.drew.cell? ⟨w.heap.size, 0, none⟩ = some (.pointer (some ⟨gb, 0, none⟩)) from ⟨n0, hN.out.1, hN.out.2.1, hN.out.2.2, j1, j2⟩)
    have hwm := Kd.C_max HC1.out
    rw [HWL.out] at hwm
    have HWH := Lib.hid hHeld
    have HV1 := Lib.hid (show V.heap.size ≤ wr.drew.heap.size from hX.out.2.2.1)
    clear hX hN n0 j1 j2 hB1 hHeld g3 hcA hcB HC2
    generalize wr.drew = Vd at *
    gi_wp2
    gi_loopw [37] (fun s V2 => ∃ i : Nat, i ≤ wl ∧ s = .int .i64 i ∧ Aside0 (Kd.S kRows 68 V2 w.heap.size (fun k => (w.heap.size < k ∧ k ≠ w3.heap.size) ∧ k ≠ bm) (.slice (some ⟨ga, 0, none⟩) n ac) (((List.range n).map (mixP ways pre m k)).set k (rowP ways pre k ++ (way.take i).map (plusT m.2))) ∧ Below w.heap.size w V2 ∧ NC (fun _ => False) V V2 ∧ Kept Vd V2 (fun k => w.heap.size < k ∧ k ≠ bm ∧ k ≠ w3.heap.size)) ∧
     V2.cell? ⟨bm, 1, none⟩ = some (.int .i64 m.2.1) ∧ V2.cell? ⟨bm, 2, none⟩ = some (.int .i64 m.2.2.1) ∧ V2.cell? ⟨bm, 3, none⟩ = some (.int .i64 m.2.2.2) ∧ V2.cell? ⟨w3.heap.size, 0, none⟩ = some (.slice (some ⟨ga, 0, none⟩) n ac)) (fun s _ => wl - (intOf s).toNat)
    case atStart =>
     refine ⟨0, Nat.zero_le _, rfl, ⟨?_, HX1.out.2.1, HX1.out.2.2, Kept.refl _ _⟩, hND.out.2.1, hND.out.2.2.1, hND.out.2.2.2.1, hND.out.2.2.2.2.1⟩
     rw [range_set _ _ hlt]
     have he : (List.range n).map (fun j => if j = k then rowP ways pre k ++ (way.take 0).map (plusT m.2) else mixP ways pre m k j) = (List.range n).map (mixP ways pre m k) := List.map_congr_left (fun j _ => by
      by_cases hj : j = k
      ·subst hj; simp [mixP]
      ·rw [if_neg hj])
     rw [he]
     exact HX1.out.1
    case round =>
     obtain ⟨i, hi, rfl, hX2, p1, p2, p3, q0⟩ := hrel
     by_cases hit : i < wl
     ·have hitw : i < way.length := by have := HWL.out; omega
      have hxb := hX2.out.2.2.2
      have hCi := Kd.C_below HC1.out hX2.out.2.1
      obtain ⟨ad2, hA2, t0, t1, t2⟩ := at_time hCi hitw
      subst hA2
      have hi0 : (0 : Int) ≤ i := by omega
      have hiw : (i : Int) < wl := by omega
      have htk : way.take (i + 1) = way.take i ++ [way[i]] := List.take_succ_eq_append_getElem hitw
      generalize way[i] = t at *
      have HTK := Lib.hid htk
      clear hCi htk
      gi_wp2
      have b3 := below_new wr (.cells #[.int .i64 t.1, .int .i64 t.2.1, .int .i64 t.2.2] 99)
      have u0 : (wr.alloc (.cells #[.int .i64 t.1, .int .i64 t.2.1, .int .i64 t.2.2] 99)).cell? ⟨wr.heap.size, 0, none⟩ = some (.int .i64 t.1) := new_cell wr _ _ 0
      have u1 : (wr.alloc (.cells #[.int .i64 t.1, .int .i64 t.2.1, .int .i64 t.2.2] 99)).cell? ⟨wr.heap.size, 1, none⟩ = some (.int .i64 t.2.1) := new_cell wr _ _ 1
      have u2 : (wr.alloc (.cells #[.int .i64 t.1, .int .i64 t.2.1, .int .i64 t.2.2] 99)).cell? ⟨wr.heap.size, 2, none⟩ = some (.int .i64 t.2.2) := new_cell wr _ _ 2
      have hS3 := Kd.S_below (Kd.S_elderB hX2.out.1 _ (Nat.le_refl _)) b3
      obtain ⟨oki, c, hcl, hM1, hcc, hfr, hoki, hH⟩ := Kd.S_elem hS3 [] k hk0 hkn
      obtain ⟨rv, rfl, hRv⟩ := hM1
      have hrow := hcc 0 rv rfl
      rw [Int.toNat_natCast, show kRows.sz = 1 from rfl, Nat.mul_one, Nat.add_zero] at hrow
      rw [Int.toNat_natCast, List.getD_eq_getElem?_getD, List.getElem?_set_self (by simpa using hlt)] at hRv
      have hRv : kT.R 99 (wr.alloc (.cells #[.int .i64 t.1, .int .i64 t.2.1, .int .i64 t.2.2] 99)) w.heap.size oki rv (rowP ways pre k ++ (way.take i).map (plusT m.2)) := hRv
      have HRV := Aside0.mk (Kd.R_drew hRv)
      have HH := Aside0.mk (Kd.H_drew hH)
      have HOI := Aside0.mk hoki
      have HB3 := Aside0.mk (And.intro (below_drew1 (below_then hX2.out.2.1 hX2.out.2.1.size b3)) (And.intro (show NC (fun _ => False) V (wr.alloc (.cells #[.int .i64 t.1, .int .i64 t.2.1, .int .i64 t.2.2] 99)).drew from hX2.out.2.2.1.trans (NC.below (below_drew1 b3))) (show Kept Vd (wr.alloc (.cells #[.int .i64 t.1, .int .i64 t.2.1, .int .i64 t.2.2] 99)).drew (fun k => w.heap.size < k ∧ k ≠ bm ∧ k ≠ w3.heap.size) from hX2.out.2.2.2.below (below_drew1 b3))))
      have v0 := pw_cell_below b3 q0
      have v1 := pw_cell_below b3 p1
      have v2 := pw_cell_below b3 p2
      have v3 := pw_cell_below b3 p3
      have HSZ := Lib.hid (show (wr.alloc (.cells #[.int .i64 t.1, .int .i64 t.2.1, .int .i64 t.2.2] 99)).drew.heap.size = wr.heap.size + 1 by simp)
      have hbmw := World.block_lt_of_cell? wr _ p1
      have HBM := Lib.hid (show bm < wr.heap.size ∧ w3.heap.size < bm ∧ w.heap.size < w3.heap.size from ⟨hbmw, hbm, HZ.out⟩)
      clear hS3 hRv hH hoki hcc hfr hcl b3 hbmw
      refine startIn_ (k := 14) (S := fun w' => w'.cell? ⟨w3.heap.size, 0, none⟩ = some (.slice (some ⟨ga, 0, none⟩) n ac) ∧ w'.cell? ⟨ga, k, none⟩ = some rv ∧ w'.cell? ⟨bm, 1, none⟩ = some (.int .i64 m.2.1) ∧ w'.cell? ⟨bm, 2, none⟩ = some (.int .i64 m.2.2.1) ∧ w'.cell? ⟨bm, 3, none⟩ = some (.int .i64 m.2.2.2) ∧ w'.cell? ⟨wr.heap.size, 0, none⟩ = some (.int .i64 t.1) ∧ w'.cell? ⟨wr.heap.size, 1, none⟩ = some (.int .i64 t.2.1) ∧ w'.cell? ⟨wr.heap.size, 2, none⟩ = some (.int .i64 t.2.2)) (ds := [13]) (bs 14 0) (by kernel_rfl) (by rintro ⟨_, _, h⟩; exact h) (by kernel_rfl) rfl (by kernel_rfl) ⟨v0, hrow, v1, v2, v3, u0, u1, u2⟩ (fun hHeld => ?_)
      clear u0 u1 u2 v0 v1 v2 v3 hrow
      generalize (wr.alloc (.cells #[.int .i64 t.1, .int .i64 t.2.1, .int .i64 t.2.2] 99)).drew = w5 at *
      refine tk8 0 41 (bs 14 1) hHeld ?_
      refine pu 1 42 (bs 14 3) ?_
      refine tk8 2 43 (bs 14 7) hHeld ?_
      refine pu 3 44 (bs 14 15) ?_
      refine pu 4 45 (bs 14 31) ?_
      refine tk8 5 46 (bs 14 63) hHeld ?_
      refine pu 6 47 (bs 14 127) ?_
      refine tk8 7 48 (bs 14 255) hHeld ?_
      refine tk8 8 49 (bs 14 511) hHeld ?_
      refine on0 9 50 (bs 14 1023) fun K hK => ?_
      refine gs0 Tryz.func75 #[.agg #[.int .i64 m.2.1, .int .i64 m.2.2.1, .int .i64 m.2.2.2], .agg #[.int .i64 t.1, .int .i64 t.2.1, .int .i64 t.2.2]] ?_
      have PL := plus_any m.2 t w5
      simp only [tmV] at PL
      refine PL.mono ?_
      clear PL
      rintro e w6 ⟨rfl, hb6⟩
      have HRV6 := Aside0.mk (Kd.R_below HRV.out hb6)
      have HH6 := Aside0.mk (Kd.H_below HH.out hb6)
      have HB6 := Aside0.mk (And.intro (below_then HB3.out.1 HB3.out.1.size hb6) (And.intro (HB3.out.2.1.trans (NC.below hb6)) (And.intro (HB3.out.2.2.below hb6) hb6.size)))
      refine ⟨_, rfl, hK.out _ _ ⟨pw_cell_below hb6 hHeld.1, pw_cell_below hb6 hHeld.2.1, pw_cell_below hb6 hHeld.2.2.1, pw_cell_below hb6 hHeld.2.2.2.1, pw_cell_below hb6 hHeld.2.2.2.2.1, pw_cell_below hb6 hHeld.2.2.2.2.2.1, pw_cell_below hb6 hHeld.2.2.2.2.2.2.1, pw_cell_below hb6 hHeld.2.2.2.2.2.2.2⟩ (fun hHeld => ?_)⟩
      clear hK K
      refine nm0 (some 50) ?_
      clear HRV HH HB3 hb6
      refine on0 10 51 (bs 14 2047) fun K hK => ?_
      refine va0 ?_
      have b0 := below_new w6 (.cells #[.int .i64 (plusT m.2 t).1, .int .i64 (plusT m.2 t).2.1, .int .i64 (plusT m.2 t).2.2] 99)
      have HD := Aside0.mk hHeld
      refine hK.out _ _ ⟨pw_cell_below b0 hHeld.1, pw_cell_below b0 hHeld.2.1, pw_cell_below b0 hHeld.2.2.1, pw_cell_below b0 hHeld.2.2.2.1, pw_cell_below b0 hHeld.2.2.2.2.1, pw_cell_below b0 hHeld.2.2.2.2.2.1, pw_cell_below b0 hHeld.2.2.2.2.2.2.1, pw_cell_below b0 hHeld.2.2.2.2.2.2.2⟩ (fun hHeld => ?_)
      clear hK K
      refine nm0 (some 51) ?_
      clear hHeld b0
      refine on0 11 52 (bs 14 4095) fun K hK => ?_
      refine Kd.R_append_step kT (w0 := w) w.heap.size (by rfl) (.tmp 46) (.tmp 51) 68 99 _ 24 rfl Tryz.underlying68 Tryz.infoTime rfl (by decide) (by decide) rv (rowP ways pre k ++ (way.take i).map (plusT m.2)) (plusT m.2 t) [.int .i64 (plusT m.2 t).1, .int .i64 (plusT m.2 t).2.1, .int .i64 (plusT m.2 t).2.2] (fun k => oki k ∨ (((w.heap.size < k ∧ k ≠ w3.heap.size) ∧ k ≠ bm) ∧ k ≠ wr.heap.size) ∧ w6.heap.size ≤ k) (fun _ => False) rfl rfl (kT_M _) (fun _ hk => hk.elim) ?aF ?aO ?aB ?aS ?aL ?_
      case aF => exact fun k hk => .inr ⟨by have := HSZ.out; have := HB6.out.2.2.2; have := HBM.out; refine ⟨⟨⟨?_, ?_⟩, ?_⟩, ?_⟩ <;> omega, hk⟩
      case aO => exact Kd.R_mono HRV6.out (fun _ hk => .inl hk)
      case aB => exact HB6.out.1
      case aS => exact HB6.out.1.size
      case aL =>
       have h1 := HP.out.1 k hlt
       have h2 := HWY.out.2
       have h3 : ((way.take i).map (plusT m.2)).length ≤ way.length := by simp; omega
       rw [List.length_append]
       have h4 : L.length * M * 24 + M * 24 + 24 ≤ 140737488355328 := hM
       omega
      intro v1 w7 hR7 hb7 hg7 hat7
      obtain ⟨A7, c7, hv7⟩ := Kd.R_slice hR7
      generalize (rowP ways pre k ++ (way.take i).map (plusT m.2) ++ [plusT m.2 t]).length = ln at hv7
      subst hv7
      have hrow2 : ∀ k, rv.ownBlock = some k → oki k := fun k hk => HRV6.out.1 k hk
      have hH7 := Kd.H_grown (Kd.H_widen HH6.out) hg7 (fun k hk => .inl (hrow2 k hk))
      have nk : ∀ x, (x = w3.heap.size ∨ x = bm ∨ x = wr.heap.size ∨ x = ga) → some x ≠ rv.ownBlock := fun x hx he => by
       obtain ⟨⟨⟨⟨_, h1⟩, h2⟩, h3⟩, h4⟩ := HOI.out x (hrow2 x he.symm)
       rcases hx with hx | hx | hx | hx <;> contradiction
      obtain ⟨hcc7, hfr7⟩ := Kd.H_at hH7 hk0 hkn
      have hc7 := hcc7 0 rv rfl
      have hf7 := hfr7 0
      rw [Int.toNat_natCast, show kRows.sz = 1 from rfl, Nat.mul_one, Nat.add_zero] at hc7 hf7
      have hK7 : Kept Vd w7 (fun k => w.heap.size < k ∧ k ≠ bm ∧ k ≠ w3.heap.size) := HB6.out.2.2.1.of_grown hg7 (fun x hx => .inl (by
       obtain ⟨⟨⟨⟨h0, h1⟩, h2⟩, _⟩, _⟩ := HOI.out x (hrow2 x hx)
       exact ⟨h0, h2, h1⟩))
      have hN7 : NC (fun _ => False) V w7 := HB6.out.2.1.trans (nc_grown hg7 (Kd.R_typed HRV6.out))
      have HH7 := Aside0.mk hH7
      have HR7 := Aside0.mk hR7
      have HB7 := Aside0.mk (And.intro hb7 (And.intro hN7 hK7))
      refine hK.out _ _ ⟨cell_grown hg7 HD.out.1 (nk _ (.inl rfl)), hc7, cell_grown hg7 HD.out.2.2.1 (nk _ (.inr (.inl rfl))), cell_grown hg7 HD.out.2.2.2.1 (nk _ (.inr (.inl rfl))), cell_grown hg7 HD.out.2.2.2.2.1 (nk _ (.inr (.inl rfl))), cell_grown hg7 HD.out.2.2.2.2.2.1 (nk _ (.inr (.inr (.inl rfl)))), cell_grown hg7 HD.out.2.2.2.2.2.2.1 (nk _ (.inr (.inr (.inl rfl)))), cell_grown hg7 HD.out.2.2.2.2.2.2.2 (nk _ (.inr (.inr (.inl rfl))))⟩ (fun hHeld => ?_)
      clear hK K
      refine nm0 (some 52) ?_
      clear hH7 hcc7 hfr7 hR7 hb7 hg7 hat7 HH6 HRV6 HD nk hK7 hN7
      refine pu 12 53 (bs 14 8191) ?_
      refine la0 13 (bs 14 16383) (N := none) fun K hK => ?_
      refine sk0 ?_
      have h8 := Kd.S_seg0 HH7.out hk0 hkn (seg := [.slice A7 ln c7]) (j := 0) (x' := rowP ways pre k ++ (way.take i).map (plusT m.2) ++ [plusT m.2 t]) (Nat.le_refl 1) ⟨_, rfl, HR7.out⟩ (fun k hk => hk.elim .inl .inr)
      rw [Int.toNat_natCast, show kRows.sz = 1 from rfl, Nat.mul_one, Nat.add_zero, List.set_set] at h8
      have hty : ∀ k, some ga = some k → ∃ cells, w7.heap[k]? = some (.cells cells 68 (0, 0)) := by
       obtain ⟨_, f, hR⟩ := HH7.out
       exact Kd.R_typed hR
      refine hK.out _ _ ?_
      clear hK K
      refine dn0 ?_
      have e8 : w7.setCells ga k [.slice A7 ln c7] = w7.setCell ⟨ga, k, none⟩ (.slice A7 ln c7) := rfl
      rw [e8] at h8
      obtain ⟨hs8, hg8⟩ := h8
      have oga := (Kd.S_R hs8).1 ga rfl
      have nga : ∀ x, (x = w3.heap.size ∨ x = bm) → some x ≠ some ga := fun x hx he => by
       injection he with he
       subst he
       rcases hx with hx | hx
       ·exact oga.1.1.2 hx
       ·exact oga.1.2 hx
      have x0 := cell_grown hg8 hHeld.1 (nga _ (.inl rfl))
      have x1 := cell_grown hg8 hHeld.2.2.1 (nga _ (.inr rfl))
      have x2 := cell_grown hg8 hHeld.2.2.2.1 (nga _ (.inr rfl))
      have x3 := cell_grown hg8 hHeld.2.2.2.2.1 (nga _ (.inr rfl))
      have HX8 := Aside0.mk (show Kd.S kRows 68 (w7.setCell ⟨ga, k, none⟩ (.slice A7 ln c7)) w.heap.size (fun k => (w.heap.size < k ∧ k ≠ w3.heap.size) ∧ k ≠ bm) (.slice (some ⟨ga, 0, none⟩) n ac) (((List.range n).map (mixP ways pre m k)).set k (rowP ways pre k ++ (way.take (i + 1)).map (plusT m.2))) ∧ Below w.heap.size w (w7.setCell ⟨ga, k, none⟩ (.slice A7 ln c7)) ∧ NC (fun _ => False) V (w7.setCell ⟨ga, k, none⟩ (.slice A7 ln c7)) ∧ Kept Vd (w7.setCell ⟨ga, k, none⟩ (.slice A7 ln c7)) (fun k => w.heap.size < k ∧ k ≠ bm ∧ k ≠ w3.heap.size) from
       ⟨by rw [HTK.out, List.map_append, ← List.append_assoc]; exact Kd.S_mono hs8 (fun k hk => hk.1), HB7.out.1.grown hg8 HB7.out.1.size (fun k hk => by injection hk with hk; subst hk; exact Nat.le_of_lt oga.1.1.1), HB7.out.2.1.trans (nc_grown hg8 hty), HB7.out.2.2.of_grown hg8 (fun k hk => .inl (by injection hk with hk; subst hk; exact ⟨oga.1.1.1, oga.1.2, oga.1.1.2⟩))⟩)
      clear hs8 hg8 hHeld nga oga
      gi_wp2
      exact ⟨⟨i + 1, by omega, by go_num, HX8, x1, x2, x3, x0⟩, by simp [intOf]; omega⟩
     ·gi_wp2
      have hin : i = wl := by omega
      have hkp := hX2.out.2.2.2
      have hbw : ∀ k, k = bm ∨ k = w.heap.size → ¬ (w.heap.size < k ∧ k ≠ bm ∧ k ≠ w3.heap.size) := fun k hk h => by
       rcases hk with hk | hk
       ·exact h.2.1 hk
       ·omega
      refine ⟨⟨k + 1, by omega, by go_num, ⟨?_, hX2.out.2.1, hX2.out.2.2.1⟩, Go.Proofs.YtbkfnmgkcgnifaaGreatW.PrintWords.cellKept hND.out.1 hkp (hbw _ (.inl rfl)), ⟨p1, p2, p3⟩, q0, Go.Proofs.YtbkfnmgkcgnifaaGreatW.PrintWords.cellKept hND.out.2.2.2.2.2 hkp (hbw _ (.inr rfl))⟩, by simp [intOf]; omega⟩
      have h := hX2.out.1
      rw [range_set _ _ hlt, hin, ← HWL.out, List.take_length] at h
      have he : (List.range n).map (fun j => if j = k then rowP ways pre k ++ way.map (plusT m.2) else mixP ways pre m k j) = (List.range n).map (mixP ways pre m (k + 1)) := List.map_congr_left (fun j _ => by
       by_cases hj : j = k
       ·subst hj
        simp [mixP, rowP_snoc, HWY.out.1]
       ·rw [if_neg hj]
        simp only [mixP]
        by_cases hjk : j < k
        ·rw [if_pos hjk, if_pos (by omega)]
        ·rw [if_neg hjk, if_neg (by omega)])
      rw [he] at h
      exact h
   ·gi_wp2
    refine ⟨hX.out.2.2, j1, j2, ?_, hX.out.2.1⟩
    have hkn : k = n := by omega
    subst hkn
    have h := Kd.S_mono hX.out.1 (fun k hk => hk.1)
    have he : (List.range k).map (mixP ways pre m k) = (List.range k).map (rowP ways (pre ++ [m])) := List.map_congr_left (fun j hj => by simp [mixP, List.mem_range.1 hj])
    rw [he] at h
    exact h
 case done =>
  rintro D xs V hD hS ⟨h1, h2, h3, h4⟩ hK
  have HS := Aside0.mk (And.intro h3 (And.intro h4 hK))
  have HXS := Lib.hid hS
  generalize hrows : (List.range n).map (rowP ways xs) = rows at *
  have hrl : rows.length = n := by rw [← hrows]; simp
  have HRL := Lib.hid hrl
  have HFR := Lib.hid (show rows.map firstsT = frontP n ways xs by rw [← hrows, List.map_map]; rfl)
  have HLN := Lib.hid (show Len (L.length * M) rows by
   intro r hr
   rw [← hrows] at hr
   obtain ⟨k, hk, rfl⟩ := List.mem_map.1 hr
   have hk := List.mem_range.1 hk
   have h1 := rowP_len hW hk xs (fun y hy => by
    have hy : y ∈ posL L := hS.mem_iff.1 hy
    obtain ⟨e, he, rfl⟩ := List.mem_map.1 hy
    exact hnode e (List.mem_filter.1 he).1)
   have h2 : xs.length ≤ L.length := by
    rw [hS.length_eq, posL, List.length_map]; exact List.length_filter_le _ _
   exact Nat.le_trans h1 (Nat.mul_le_mul_right _ h2))
  have HW3 := Lib.hid (show w.heap.size < w3.heap.size ∧ D ≠ w3.heap.size ∧ w3.heap.size < D from ⟨HZ.out, by have := HZ4.out; omega, by have := HZ4.out; omega⟩)
  clear hrows hrl hS h3 h4 hK h2
  go_wp2_with fail
  go_loopw [58] (fun i wr => ∃ k : Nat, k ≤ n ∧ i = .int .i64 k ∧ Aside0 (Kd.S kRows 68 wr w.heap.size (fun k => w.heap.size < k ∧ k ≠ w3.heap.size) (.slice (some ⟨ga, 0, none⟩) n ac) ((rows.map firstsT).take k ++ rows.drop k) ∧ Below w.heap.size w wr ∧ wr.heap[D]? = some (.deferred (some []))) ∧ wr.cell? ⟨w3.heap.size, 0, none⟩ = some (.slice (some ⟨ga, 0, none⟩) n ac)) (fun i _ => n - (intOf i).toNat)
  case atStart => exact ⟨0, Nat.zero_le _, rfl, ⟨by simpa using HS.out.1, HS.out.2.1, HS.out.2.2⟩, h1⟩
  case round =>
   obtain ⟨k, hk, rfl, hX, hca⟩ := hrel
   by_cases hlt : k < n
   ·obtain ⟨hSr, hbr, hKr⟩ := hX.out
    have hk0 : (0 : Int) ≤ k := by omega
    have hkN : (k : Int) < n := by omega
    obtain ⟨oki, c, hcl, hM1, hcc, hfr, hoki, hH⟩ := Kd.S_elem hSr [] k hk0 hkN
    obtain ⟨rv, rfl, hRv⟩ := hM1
    have hrow := hcc 0 rv rfl
    rw [Int.toNat_natCast, show kRows.sz = 1 from rfl, Nat.mul_one, Nat.add_zero] at hrow
    rw [Int.toNat_natCast] at hRv
    have hget : ((rows.map firstsT).take k ++ rows.drop k).getD k [] = rows[k]'(by rw [HRL.out]; exact hlt) := by
     rw [List.getD_eq_getElem?_getD, List.getElem?_append_right (by simp; omega)]
     simp [HRL.out, hlt, Nat.min_eq_left (Nat.le_of_lt hlt)]
    rw [hget] at hRv
    obtain ⟨A, cp, hrv, hcp, hC⟩ := Kd.R_reads hRv
    have hset := set_step firstsT (show k < rows.length by rw [HRL.out]; exact hlt)
    have hrm : rows[k]'(by rw [HRL.out]; exact hlt) ∈ rows := List.getElem_mem _
    have hlr := HLN.out _ hrm
    have HSET := Lib.hid hset
    clear hset hget hrm
    generalize rows[k]'(by rw [HRL.out]; exact hlt) = rk at *
    generalize hnk : rk.length = nk at hrv hlr
    have hnk := hnk.symm
    have HCA := Lib.hid hca
    have HCB := Lib.hid (show w3.heap.size < wr.heap.size from World.block_lt_of_cell? wr _ hca)
    have hgw : ga < wr.heap.size := World.block_lt_of_cell? wr _ hrow
    have HSr := Aside0.mk (show Kd.S kRows 68 wr w.heap.size (fun k => (w.heap.size < k ∧ k ≠ w3.heap.size) ∧ ¬ wr.heap.size ≤ k) (.slice (some ⟨ga, 0, none⟩) n ac) ((rows.map firstsT).take k ++ rows.drop k) ∧ Below w.heap.size w wr ∧ wr.heap[D]? = some (.deferred (some [])) from ⟨Kd.S_mono (Kd.S_bound hSr) (fun k hk => ⟨hk.1, by have := hk.2.2.1; omega⟩), hbr, hKr⟩)
    subst hrv
    have HC := Aside0.mk hC
    have HLR := Lib.hid (show nk * 24 ≤ 140737488355328 ∧ nk = rk.length from ⟨by have h4 : L.length * M * 24 + M * 24 + 24 ≤ 140737488355328 := hM; omega, hnk⟩)
    clear hcl hcc hfr hoki hH hRv hX hSr hbr hKr hC hcp hlr hnk
    go_upto_region 16 with fail
    refine wp_region_noPanic ?_
    refine start_ (n := 6) (S := fun w' => w'.cell? ⟨w3.heap.size, 0, none⟩ = some (.slice (some ⟨ga, 0, none⟩) n ac)) (ds := [5]) (bs 6 0) (by kernel_rfl) rfl (by kernel_rfl) hca (fun hHeld => ?_)
    have HD := Aside0.mk (below_drew1 (Below.refl wr.heap.size wr))
    generalize wr.drew = wd at *
    refine tk1 0 63 (bs 6 1) hHeld ?_
    refine pu 1 64 (bs 6 3) ?_
    refine pu 2 65 (bs 6 7) ?_
    refine on0 3 66 (bs 6 15) fun K hK => ?_
    refine gs0 Tryz.func76 #[.slice A nk cp] ?_
    have HF := firsts_any A cp rk wd (Kd.C_below HC.out HD.out) (by have := HLR.out; omega)
    rw [← HLR.out.2] at HF
    refine HF.mono ?_
    rintro e w9 ⟨v9, rfl, hR9, hb9⟩
    obtain ⟨A9, c9, hv9⟩ := Kd.R_slice hR9
    generalize (firstsT rk).length = n9 at hv9
    subst hv9
    have hb10 := below_then HD.out HD.out.size hb9
    refine ⟨_, rfl, hK.out _ _ (pw_cell_below hb10 HCA.out) (fun hHeld => ?_)⟩
    clear hK K
    refine nm0 (some 66) ?_
    refine pu 4 67 (bs 6 31) ?_
    have hS9 := Kd.S_below HSr.out.1 hb10
    obtain ⟨oki, c, hcl, hM1, hcc, hfr, hoki, hH⟩ := Kd.S_elem hS9 [] k hk0 hkN
    obtain ⟨rv9, rfl, _⟩ := hM1
    have hrow9 := hcc 0 rv9 rfl
    have hf9 := hfr 0
    rw [Int.toNat_natCast, show kRows.sz = 1 from rfl, Nat.mul_one, Nat.add_zero] at hrow9 hf9
    have hM9 : kRows.M w9 w.heap.size (fun k => wr.heap.size ≤ k) (firstsT rk) [.slice A9 n9 c9] := ⟨_, rfl, Kd.R_lower (Kd.R_mono (Kd.R_bound hR9) (fun k hk => Nat.le_trans HD.out.size hk.2.1)) (show w.heap.size ≤ wd.heap.size from by have := HSr.out.2.1.size; have := HD.out.size; omega)⟩
    have h10 := Kd.S_seg (okg := fun k => wr.heap.size ≤ k) (ok := fun k => w.heap.size < k ∧ k ≠ w3.heap.size) hH hk0 hkN (seg := [.slice A9 n9 c9]) (j := 0) (x' := firstsT rk) (okp := fun k => wr.heap.size ≤ k) (Nat.le_refl 1) hM9 (fun k hk => .inr hk) (fun k hk => ⟨⟨by have := HW3.out; have := HCB.out; omega, by have := HCB.out; omega⟩, by omega⟩)
    rw [Int.toNat_natCast, show kRows.sz = 1 from rfl, Nat.mul_one, Nat.add_zero, HSET.out] at h10
    have e10 : w9.setCells ga k [.slice A9 n9 c9] = w9.setCell ⟨ga, k, none⟩ (.slice A9 n9 c9) := rfl
    rw [e10] at h10
    have hty := Kd.S_typed hS9
    have hD9 : w9.heap[D]? = some (.deferred (some [])) := blk_below HSr.out.2.2 hb10
    have hDg : D ≠ ga := fun he => by
     subst he
     obtain ⟨cells, hc⟩ := hty D rfl
     rw [hc] at hD9; cases hD9
    have H10 := Aside0.mk (And.intro h10 (And.intro hD9 hDg))
    have HB10 := Lib.hid (below_then HSr.out.2.1 HSr.out.2.1.size hb10)
    clear h10 hM9 hH hoki hfr hcc hcl hS9 hR9 hb9 hb10 hty hD9 hDg
    refine la0 5 (bs 6 63) (N := none) fun K hK => ?_
    refine sk0 ?_
    refine hK.out _ _ ?_
    clear hK K
    refine dn0 ?_
    refine NoPanic.normal ?_
    have hg10 := H10.out.1.2
    have hga0 := (Kd.S_R H10.out.1.1).1 ga rfl
    have hca10 := cell_grown hg10 hHeld (fun he => by injection he with he; exact hga0.2 he.symm)
    have HX := Aside0.mk (And.intro H10.out.1.1 (And.intro (HB10.out.grown hg10 HB10.out.size (fun k hk => by injection hk with hk; subst hk; exact Nat.le_of_lt hga0.1)) (blk_grown H10.out.2.1 hg10 (fun he => H10.out.2.2 (by injection he)))))
    clear hg10 hga0 H10
    go_wp2_with fail
    exact ⟨⟨k + 1, by omega, by go_num, HX, hca10⟩, by simp [intOf]; omega⟩
   ·go_wp2_with fail
    have hkn : k = n := by omega
    subst hkn
    have h := hX.out.1
    rw [List.drop_of_length_le (by rw [HRL.out]; exact Nat.le_refl _), List.append_nil, List.take_of_length_le (by rw [List.length_map, HRL.out]; exact Nat.le_refl _), HFR.out] at h
    have hq : Quiet w.heap.size wr (wr.putObj D (.deferred none)) := .putObj hX.out.2.2 rfl (by have := HW3.out; omega)
    refine ⟨by simp, .inl ⟨_, _, rfl, run_takeDeferred hX.out.2.2, ?_⟩⟩
    exact ⟨_, results_tmp rfl _ _ _, _, xs, rfl, HXS.out, Kd.R_mono (Kd.S_R (S_quiet h hq)) (fun _ _ => trivial), hX.out.2.1.trans (hq.toBelow hX.out.2.1.size)⟩
end Go.Proofs.YtbkfnmgkcgnifaaGreat
namespace Go.Proofs.YtbkfnmgkcgnifaaGreat.Mdl
theorem sortT_perm {l m : List Tm} (h : l.Perm m) : sortT l = sortT m := by
 obtain ⟨h1, h2⟩ := sortL_spec ordT (l := l) (fun _ _ => trivial)
 exact sortL_eq ordT (fun _ _ => trivial) (h2.trans h) h1
theorem firstsT_perm {l m : List Tm} (h : l.Perm m) : firstsT l = firstsT m := by unfold firstsT; rw [sortT_perm h]
theorem flatMap_perm {α β : Type} (f : α → List β) {l m : List α} (h : l.Perm m) : (l.flatMap f).Perm (m.flatMap f) := by
 induction h with
 | nil => exact List.Perm.refl _
 | cons x _ ih => simp only [List.flatMap_cons]; exact ih.append_left _
 | swap x y l => simp only [List.flatMap_cons, ← List.append_assoc]; exact List.perm_append_comm.append_right _
 | trans _ _ h1 h2 => exact h1.trans h2
theorem frontP_perm (n : Nat) (ways : Ways) {xs ys : List Mk} (h : xs.Perm ys) : frontP n ways xs = frontP n ways ys := by
 unfold frontP
 exact List.map_congr_left (fun k _ => firstsT_perm (flatMap_perm _ h))
structure St where
 led : List Led
 has : List Led
 notes : List (List (List Note))
 script : List Int
 works : Int
 nts : Int
 sent : Int
inductive Mv where
 | work (i : Nat) (m : Mk)
 | take (i k : Nat)
def St.ledOf (s : St) (i : Nat) : Led := s.led.getD i []
def St.hasOf (s : St) (i : Nat) : Led := s.has.getD i []
def St.queue (s : St) (i k : Nat) : List Note := (s.notes.getD i []).getD k []
structure WS where
 has : List Led
 script : List Int
 sent : Int
 note : Note
def edgeW (W : Nat) (m : Mk) (s : WS) (e : Ed) : WS :=
 if e.1 = m.1 then
  if numP s.script ((W : Int) + 1) = 0 then { s with script := s.script.tail }
  else
   {has := s.has.set (numP s.script ((W : Int) + 1) - 1).toNat (enterL (s.has.getD (numP s.script ((W : Int) + 1) - 1).toNat []) (e.2.1, plusT m.2 (tmOf e.2.2)) 1)
    script := s.script.tail, sent := w64 (s.sent + 1), note := s.note ++ [((e.2.1, plusT m.2 (tmOf e.2.2)), 1)] }
 else s
def putQ (ns : List (List (List Note))) (i k : Nat) (q : List Note) : List (List (List Note)) := ns.set i ((ns.getD i []).set k q)
def pushStep (i : Nat) (note : Note) (ns : List (List (List Note))) (j : Nat) : List (List (List Note)) :=
 if j = i then ns else putQ ns j i ((ns.getD j []).getD i [] ++ [note])
def pushAll (W i : Nat) (note : Note) (ns : List (List (List Note))) : List (List (List Note)) := (List.range W).foldl (pushStep i note) ns
def workW (E : List Ed) (W : Nat) (s : St) (i : Nat) (m : Mk) : WS := E.foldl (edgeW W m) ⟨s.has.set i (enterL (s.hasOf i) m (-1)), s.script, s.sent, [(m, -1)]⟩
def workS (E : List Ed) (W : Nat) (s : St) (i : Nat) (m : Mk) : St :=
 {led := s.led.set i (readL (s.ledOf i) (workW E W s i m).note), has := (workW E W s i m).has, notes := pushAll W i (workW E W s i m).note s.notes
  script := (workW E W s i m).script, works := w64 (s.works + 1), nts := s.nts, sent := (workW E W s i m).sent }
def takeS (s : St) (i k : Nat) : St :=
 {s with led := s.led.set i (readL (s.ledOf i) ((s.queue i k).headD [])), notes := putQ s.notes i k (s.queue i k).tail, nts := w64 (s.nts + 1) }
def moveS (E : List Ed) (W : Nat) (s : St) : Mv → St
 | .work i m => workS E W s i m
 | .take i k => takeS s i k
def movesS (W : Nat) (s : St) : List Mv :=
 ((List.range W).flatMap fun i => (sortM ((s.hasOf i).map (·.1))).map (Mv.work i)) ++
 ((List.range W).flatMap fun i => (List.range W).flatMap fun k => if s.queue i k = [] then [] else [Mv.take i k])
def stepS (E : List Ed) (W : Nat) (s : St) : Option St :=
 match movesS W s with
 | [] => none
 | a :: l => some (moveS E W { s with script := s.script.tail } ((a :: l).getD (numP s.script ((l.length : Int) + 1)).toNat a))
def iterS (E : List Ed) (W : Nat) : Nat → St → St
 | 0, s => s
 | n + 1, s => match stepS E W s with
  | none => s
  | some s' => iterS E W n s'
end Go.Proofs.YtbkfnmgkcgnifaaGreat.Mdl
namespace Go.Proofs.YtbkfnmgkcgnifaaGreat
open Go.RowKit Go.Shelf Go.Proofs.YtbkfnmgkcgnifaaGreatW.PrintWords Go.Proofs.YtbkfnmgkcgnifaaGreatW.PrintLast Mdl Go.ChangeMaps
def Typed (w : World) (k : Nat) (t : TypeId) : Prop := ∃ cells, w.heap[k]? = some (.cells cells t (0, 0))
theorem Typed.ne {w : World} {k : Nat} {t t' : TypeId} (h : Typed w k t) (h' : Typed w k t') : t = t' := by
 obtain ⟨c, h⟩ := h
 obtain ⟨c', h'⟩ := h'
 rw [h] at h'; cases h'; rfl
theorem LedAt.not_typed {w : World} {k : Nat} {t : TypeId} {L : Led} (h : LedAt w k L) : ¬ Typed w k t := by
 rintro ⟨c, hc⟩
 obtain ⟨es, clock, h1, _⟩ := h
 rw [h1] at hc; cases hc
def NoteAt (B lim : Nat) (w : World) (v : Value) (l : Note) : Prop := kEn.R 213 w B (fun k => k < lim) v l
theorem NoteAt.kept {B lim : Nat} {w w' : World} {v : Value} {l : Note} {S : Nat → Prop} (h : NoteAt B lim w v l) (hk : Kept w w' S) (hS : ∀ k, S k → k < lim → ¬ Typed w k 213) : NoteAt B lim w' v l := by
 refine Kd.R_mono (Kd.R_kept (Kd.R_bound h) hk (fun k hk' hs => ?_)) (fun _ h => h.1)
 obtain ⟨hlim, _, _, q, hq, hc⟩ := hk'
 have hq : q = 213 := by
  rw [show kEn.E = [] from rfl] at hq
  simpa using hq
 subst hq
 exact hS k hs hlim hc
theorem NoteAt.relim {B lim : Nat} {w : World} {v : Value} {l : Note} (h : NoteAt B lim w v l) : NoteAt B w.heap.size w v l := Kd.R_mono (Kd.R_bound h) (fun _ h => h.2.2.1)
theorem NoteAt.mono {B lim lim' : Nat} {w : World} {v : Value} {l : Note} (h : NoteAt B lim w v l) (hl : lim ≤ lim') : NoteAt B lim' w v l := Kd.R_mono h (fun _ h => Nat.lt_of_lt_of_le h hl)
def qOwn : Value → Option Nat
 | .slice (some a) _ c => if c = 0 then none else some a.block
 | _ => none
def QAt (B lim : Nat) (w : World) (v : Value) (l : List Note) : Prop :=
 ∃ A c, v = .slice A l.length c ∧ l.length ≤ c ∧ c ≤ maxLen ∧ (c = 0 ∨ ∃ g off cells, A = some ⟨g, off, none⟩ ∧ B ≤ g ∧ w.heap[g]? = some (.cells cells 214 (0, 0)) ∧ off + c ≤ cells.size ∧ ∀ j (hj : j < l.length), ∃ nv, cells[off + j]? = some nv ∧ NoteAt B lim w nv l[j])
theorem QAt.kept {B lim : Nat} {w w' : World} {v : Value} {l : List Note} {S : Nat → Prop} (h : QAt B lim w v l) (hk : Kept w w' S) (hS : ∀ k, S k → k < lim → ¬ Typed w k 213) (hq : ∀ k, qOwn v = some k → ¬ S k) : QAt B lim w' v l := by
 obtain ⟨A, c, rfl, h1, h2, h3⟩ := h
 refine ⟨A, c, rfl, h1, h2, ?_⟩
 rcases h3 with h3 | ⟨g, off, cells, rfl, hB, hg, ho, hn⟩
 ·exact .inl h3
 ·rcases Nat.eq_zero_or_pos c with h0 | h0
  ·exact .inl h0
  ·refine .inr ⟨g, off, cells, rfl, hB, blk_kept hg hk (hq g (by simp [qOwn]; omega)), ho, fun j hj => ?_⟩
   obtain ⟨nv, e1, e2⟩ := hn j hj
   exact ⟨nv, e1, e2.kept hk hS⟩
theorem QAt.mono {B lim lim' : Nat} {w : World} {v : Value} {l : List Note} (h : QAt B lim w v l) (hn : ∀ nv n, NoteAt B lim w nv n → NoteAt B lim' w nv n) : QAt B lim' w v l := by
 obtain ⟨A, c, rfl, h1, h2, h3⟩ := h
 refine ⟨A, c, rfl, h1, h2, h3.imp id ?_⟩
 rintro ⟨g, off, cells, rfl, hB, hg, ho, hc⟩
 exact ⟨g, off, cells, rfl, hB, hg, ho, fun j hj => by obtain ⟨nv, e1, e2⟩ := hc j hj; exact ⟨nv, e1, hn _ _ e2⟩⟩
theorem QAt.nil (B lim : Nat) (w : World) : QAt B lim w (.slice none 0 0) [] := ⟨none, 0, rfl, Nat.le_refl _, Nat.zero_le _, .inl rfl⟩
theorem QAt.own_typed {B lim : Nat} {w : World} {v : Value} {l : List Note} (h : QAt B lim w v l) {k : Nat} (hk : qOwn v = some k) : B ≤ k ∧ Typed w k 214 := by
 obtain ⟨A, c, rfl, h1, h2, h3⟩ := h
 rcases h3 with rfl | ⟨g, off, cells, rfl, hB, hg, ho, hn⟩
 ·cases A <;> simp [qOwn] at hk
 ·simp only [qOwn] at hk
  split at hk
  ·cases hk
  ·injection hk with hk
   subst hk
   exact ⟨hB, cells, hg⟩
theorem QAt.pop {B lim : Nat} {w : World} {v : Value} {n : Note} {l : List Note} (h : QAt B lim w v (n :: l)) :
  ∃ g off c nv, v = .slice (some ⟨g, off, none⟩) (l.length + 1) (c + 1) ∧ w.cell? ⟨g, off, none⟩ = some nv ∧ NoteAt B lim w nv n ∧ qOwn v = some g ∧
   (c ≠ 0 → QAt B lim w (.slice (some ⟨g, off + 1, none⟩) l.length c) l ∧ qOwn (.slice (some ⟨g, off + 1, none⟩) l.length c) = some g) ∧ (c = 0 → QAt B lim w (.slice (some ⟨g, off, none⟩) l.length 0) l) := by
 obtain ⟨A, c, rfl, h1, h2, h3⟩ := h
 rw [List.length_cons] at h1
 obtain ⟨c, rfl⟩ : ∃ c', c = c' + 1 := ⟨c - 1, by omega⟩
 rcases h3 with h3 | ⟨g, off, cells, rfl, hB, hg, ho, hn⟩
 ·omega
 ·obtain ⟨nv, e1, e2⟩ := hn 0 (by simp)
  refine ⟨g, off, c, nv, rfl, by rw [blk_cell hg]; exact e1, e2, by simp [qOwn], fun hc => ⟨⟨_, _, rfl, by omega, by omega, .inr ⟨g, off + 1, cells, rfl, hB, hg, by omega, fun j hj => ?_⟩⟩, by simp [qOwn, hc]⟩, fun hc => ⟨_, _, rfl, by omega, Nat.zero_le _, .inl rfl⟩⟩
  obtain ⟨nv', f1, f2⟩ := hn (j + 1) (by simpa using hj)
  exact ⟨nv', by rw [← f1]; congr 1; omega, f2⟩
theorem Tryz.infoL1 : (Tryz.prog.info? 214).map (fun i => (i.zero, i.size, i.bytes)) = some (some (.slice none 0 0), 1, 24) := by kernel_rfl
theorem NoteAt.one {B lim : Nat} {w : World} {v : Value} {l : Note} (h : NoteAt B lim w v l) : v.oneCell' = true := by
 obtain ⟨A, c, rfl⟩ := Kd.R_slice h
 rfl
theorem QAt.append {B lim : Nat} {w : World} {v nv : Value} {l : List Note} {note : Note} (ty : TypeId) (hB : B ≤ w.heap.size) (h : QAt B lim w v l) (hn : NoteAt B lim w nv note) (hl : l.length ≤ 2000000000) :
  ∃ v' w', (Builtin.append_ #[180, 180] ty #[v, .slice (some ⟨w.heap.size, 0, none⟩) 1 1]).run Tryz.prog (w.alloc (.cells #[nv] 214)) = .ok v' w' ∧ QAt B lim w' v' (l ++ [note]) ∧ w.grownBy w' (qOwn v) ∧ (qOwn v' = qOwn v ∨ ∃ b, qOwn v' = some b ∧ w.heap.size ≤ b) := by
 obtain ⟨i0, hi, hzz⟩ := Option.map_eq_some_iff.1 Tryz.infoL1
 simp only [Prod.mk.injEq] at hzz
 obtain ⟨hz0, hz1, hz2⟩ := hzz
 have hbox : ∀ j u, [nv][j]? = some u → (w.alloc (.cells #[nv] 214)).cell? ((⟨w.heap.size, 0, none⟩ : Addr).add j) = some u := by
  intro j u hu
  cases j with
  | zero =>
   have hu : nv = u := by simpa using hu
   subst hu
   rw [add_plain]
   exact new_cell w _ _ 0
  | succ j => simp at hu
 have hone : ∀ u ∈ [nv], u.oneCell' = true := fun u hu => by rw [List.mem_singleton.1 hu]; exact hn.one
 have hb := below_new w (.cells #[nv] 214)
 have hsz : (w.alloc (.cells #[nv] 214)).heap.size = w.heap.size + 1 := by simp
 obtain ⟨A, c, rfl, h1, h2, h3⟩ := h
 have fresh : ∀ (olds : List Value) (v' : Value) (w' : World), olds.length = l.length → (∀ j (hj : j < l.length), ∃ ov, olds[j]? = some ov ∧ NoteAt B lim w ov l[j]) → w'.ownsRow (w.heap.size + 1) 214 1 v' (l.length + 1) (olds ++ [nv]) → (w.alloc (.cells #[nv] 214)).grownBy w' none →
   QAt B lim w' v' (l ++ [note]) ∧ ∃ b, qOwn v' = some b ∧ w.heap.size ≤ b := by
  intro olds v' w' hol ho hown hg
  have hk : Kept w w' (fun _ => False) := Kept.then_ (S2 := fun _ => False) (Kept.of_below hb _) ⟨hg.size, fun i hi _ => hg.block i hi (by simp)⟩ (fun k hk => .inl hk)
  obtain ⟨hlen, ⟨rfl, hz⟩ | ⟨g, cap, cur, rfl, hbg, hgg, hnc, hcm, hcs, hct⟩⟩ := hown
  ·omega
  ·have hcap : cap ≠ 0 := by omega
   refine ⟨⟨some ⟨g, 0, none⟩, cap, by rw [List.length_append]; rfl, by rw [List.length_append, List.length_singleton]; exact hnc, hcm, .inr ⟨g, 0, cur, rfl, by omega, hgg, by rw [hcs]; omega, fun j hj => ?_⟩⟩, g, by simp [qOwn, hcap], by omega⟩
   have hat : ∀ u, (olds ++ [nv])[j]? = some u → cur[0 + j]? = some u := by
    intro u hu
    rw [← hct, List.getElem?_take] at hu
    split at hu
    ·rw [Nat.zero_add]; simpa using hu
    ·cases hu
   rcases Nat.lt_or_ge j l.length with hlt | hge
   ·obtain ⟨ov, o1, o2⟩ := ho j hlt
    refine ⟨ov, hat ov (by rw [List.getElem?_append_left (by omega)]; exact o1), ?_⟩
    rw [List.getElem_append_left hlt]
    exact o2.kept hk (fun _ h => h.elim)
   ·have hj2 : j = l.length := by simp at hj; omega
    subst hj2
    refine ⟨nv, hat nv (by rw [List.getElem?_append_right (by omega), hol, Nat.sub_self]; rfl), ?_⟩
    rw [List.getElem_append_right (Nat.le_refl _)]
    simp only [Nat.sub_self, List.getElem_singleton]
    exact hn.kept hk (fun _ h => h.elim)
 by_cases hr : l.length + 1 ≤ c
 ·rcases h3 with rfl | ⟨g, off, cells, rfl, hBg, hg, ho, hnn⟩
  ·omega
  ·have hgw := blk_lt hg
   have hg1 := blk_below hg hb
   have hcell : ∀ j, j < [nv].length → ((w.alloc (.cells #[nv] 214)).cell? ⟨g, off + l.length * i0.size + j, none⟩).isSome = true := by
    intro j hj
    rw [blk_cell hg1, hz1]
    have : j = 0 := by simpa using hj
    subst this
    simp; omega
   have hrun := run_append_room_cells (P := Tryz.prog) (w.alloc (.cells #[nv] 214)) 180 ty 214 i0 Tryz.underlying180 hi g off l.length c ⟨w.heap.size, 0, none⟩ 1 1 [nv] (by rw [hz1]; rfl) hbox hone hr hcell (fun j _ => blk_frozen hg1 _)
   rw [hz1, Nat.mul_one] at hrun
   have hset : (w.alloc (.cells #[nv] 214)).setCells g (off + l.length) [nv] = (w.alloc (.cells #[nv] 214)).setCell ⟨g, off + l.length, none⟩ nv := rfl
   rw [hset] at hrun
   have hgr : (w.alloc (.cells #[nv] 214)).grownBy ((w.alloc (.cells #[nv] 214)).setCell ⟨g, off + l.length, none⟩ nv) (some g) := setCells_grown g [nv] (off + l.length) _
   have hgw2 : w.grownBy ((w.alloc (.cells #[nv] 214)).setCell ⟨g, off + l.length, none⟩ nv) (some g) := (grownBy_below hb).both hgr
   have hk : Kept w ((w.alloc (.cells #[nv] 214)).setCell ⟨g, off + l.length, none⟩ nv) (fun k => k = g) := ⟨hgw2.size, fun i hi hn => hgw2.block i hi (fun he => hn (by injection he))⟩
   have hty : ∀ k, k = g → k < lim → ¬ Typed w k 213 := fun k hk _ hc => by
    subst hk
    have := Typed.ne ⟨cells, hg⟩ hc
    revert this; decide
   have hc0 : c ≠ 0 := by omega
   refine ⟨_, _, hrun, ⟨some ⟨g, off, none⟩, c, by rw [List.length_append]; rfl, by rw [List.length_append, List.length_singleton]; exact hr, h2, .inr ⟨g, off, cells.setIfInBounds (off + l.length) nv, rfl, hBg, blk_set hg1 _ _, by simpa using ho, fun j hj => ?_⟩⟩, by simpa [qOwn, hc0] using hgw2, .inl (by simp [qOwn])⟩
   rcases Nat.lt_or_ge j l.length with hlt | hge
   ·obtain ⟨ov, o1, o2⟩ := hnn j hlt
    refine ⟨ov, by rw [Array.getElem?_setIfInBounds_ne (by omega)]; exact o1, ?_⟩
    rw [List.getElem_append_left hlt]
    exact o2.kept hk hty
   ·have hj2 : j = l.length := by simp at hj; omega
    subst hj2
    refine ⟨nv, by rw [Array.getElem?_setIfInBounds_self_of_lt (by omega)], ?_⟩
    rw [List.getElem_append_right (Nat.le_refl _)]
    simp only [Nat.sub_self, List.getElem_singleton]
    exact hn.kept hk hty
 ·have hlc : c < l.length + 1 := by omega
  cases A with
  | none =>
   have hl0 : l = [] := by
    rcases h3 with h3 | ⟨g, off, cells, h3, _⟩
    ·exact List.eq_nil_of_length_eq_zero (by omega)
    ·cases h3
   subst hl0
   have hc0 : c = 0 := by rcases h3 with h3 | ⟨g, off, cells, h3, _⟩; exact h3; cases h3
   subst hc0
   obtain ⟨v', w', hrun, hown, hg, _⟩ := run_append_own (P := Tryz.prog) (w.alloc (.cells #[nv] 214)) (w.alloc (.cells #[nv] 214)).heap.size 180 ty 214 i0 (.slice none 0 0) 1 24 Tryz.underlying180 hi hz0 hz1 hz2 rfl (by decide) (.slice none 0 0) 0 [] (World.ownsRow_nil _ _ 214 1) ⟨w.heap.size, 0, none⟩ 1 1 [nv] rfl hbox hone (by decide) (by decide) (Nat.le_refl _)
   have hg' : (w.alloc (.cells #[nv] 214)).grownBy w' none := hg
   obtain ⟨f1, b, f2, f3⟩ := fresh [] v' w' rfl (fun j hj => by simp at hj) (by rw [hsz] at hown; simpa using hown) hg'
   exact ⟨v', w', hrun, f1, (grownBy_below hb).both hg', .inr ⟨b, f2, f3⟩⟩
  | some ad =>
   have hol : ∃ olds : List Value, olds.length = l.length ∧ (∀ j (hj : j < l.length), ∃ ov, olds[j]? = some ov ∧ NoteAt B lim w ov l[j]) ∧ ∀ j u, olds[j]? = some u → (w.alloc (.cells #[nv] 214)).cell? (ad.add j) = some u := by
    rcases h3 with rfl | ⟨g, off, cells, he, hBg, hg, ho, hnn⟩
    ·obtain rfl : l = [] := List.eq_nil_of_length_eq_zero (by omega)
     exact ⟨[], rfl, fun j hj => by simp at hj, fun j u hu => by simp at hu⟩
    ·injection he with he
     subst he
     refine ⟨(List.range l.length).map (fun j => (cells[off + j]?).getD undef), by simp, fun j hj => ?_, fun j u hu => ?_⟩
     ·obtain ⟨ov, o1, o2⟩ := hnn j hj
      exact ⟨ov, by simp [hj, o1], o2⟩
     ·have hjl : j < l.length := by
       have := (List.getElem?_eq_some_iff.1 hu).1
       simpa using this
      obtain ⟨ov, o1, o2⟩ := hnn j hjl
      have hu : ov = u := by simpa [hjl, o1] using hu
      subst hu
      rw [Addr.add_lit, blk_cell (blk_below hg hb)]
      exact o1
   obtain ⟨olds, o1, o2, o3⟩ := hol
   obtain ⟨v', w', hrun, hown, hg⟩ := run_append_arg_grows (P := Tryz.prog) (w.alloc (.cells #[nv] 214)) 180 ty 214 i0 (.slice none 0 0) 1 24 Tryz.underlying180 hi hz0 hz1 hz2 rfl (by decide) ad l.length c olds (by omega) o3 ⟨w.heap.size, 0, none⟩ 1 1 [nv] rfl hbox hlc (by simp only [maxLen]; omega) (by omega)
   obtain ⟨f1, b, f2, f3⟩ := fresh olds v' w' o1 o2 (by rw [hsz] at hown; exact hown) hg
   exact ⟨v', w', hrun, f1, by
    have := (grownBy_below (row := none) hb).both hg
    exact ⟨this.os, this.tape, this.output, this.size, fun k hk _ => this.block k hk (by simp)⟩, .inr ⟨b, f2, f3⟩⟩
end Go.Proofs.YtbkfnmgkcgnifaaGreat
namespace Go.Proofs.YtbkfnmgkcgnifaaGreat
open Go.RowKit Go.Shelf Go.Proofs.YtbkfnmgkcgnifaaGreatW.PrintWords Go.Proofs.YtbkfnmgkcgnifaaGreatW.PrintLast Mdl Go.ChangeMaps
structure RG where
 rb : Nat
 wa : Nat
 wc : Nat
 gb : Nat
 wb : Nat → Nat
 lb : Nat → Nat
 hb : Nat → Nat
 nb : Nat → Nat
 nc : Nat → Nat
 z : Nat → Array Value → Prop := fun _ _ => False
structure RunAt (w0 : World) (G : RG) (W lim : Nat) (st : St) (q : Nat → Nat → Value) (w : World) : Prop where
 below : Below w0.heap.size w0 w
 run : ∃ A c, w.heap[G.rb]? = some (.cells (runCells st.works st.nts st.sent G.gb (.slice (some ⟨G.wa, 0, none⟩) W G.wc) (.slice A st.script.length c)) 92 (0, 0)) ∧ kI.C w0 A st.script.length st.script ∧ st.script.length ≤ c
 ws : ∃ cells, w.heap[G.wa]? = some (.cells cells 93 (0, 0)) ∧ ∀ i, i < W → cells[i]? = some (.pointer (some ⟨G.wb i, 0, none⟩))
 wk : ∀ i, i < W → w.heap[G.wb i]? = some (.cells #[.map (some (G.lb i)), .map (some (G.hb i)), .slice (some ⟨G.nb i, 0, none⟩) W (G.nc i)] 97 (0, 0))
 led : ∀ i, i < W → LedAt w (G.lb i) (st.ledOf i)
 has : ∀ i, i < W → LedAt w (G.hb i) (st.hasOf i)
 nbk : ∀ i, i < W → ∃ cells, w.heap[G.nb i]? = some (.cells cells 180 (0, 0)) ∧ ∀ k, k < W → cells[k]? = some (q i k)
 qs : ∀ i k, i < W → k < W → QAt w0.heap.size lim w (q i k) (st.queue i k)
 qdis : ∀ i k i' k', i < W → k < W → i' < W → k' < W → (i ≠ i' ∨ k ≠ k') → qOwn (q i k) = none ∨ qOwn (q i k) ≠ qOwn (q i' k')
 iwb : ∀ i j, i < W → j < W → G.wb i = G.wb j → i = j
 inb : ∀ i j, i < W → j < W → G.nb i = G.nb j → i = j
 ilb : ∀ i j, i < W → j < W → G.lb i = G.lb j → i = j
 ihb : ∀ i j, i < W → j < W → G.hb i = G.hb j → i = j
 ilh : ∀ i j, i < W → j < W → G.lb i ≠ G.hb j
 low : w0.heap.size ≤ G.rb ∧ w0.heap.size ≤ G.wa ∧ ∀ i, i < W → w0.heap.size ≤ G.wb i ∧ w0.heap.size ≤ G.lb i ∧ w0.heap.size ≤ G.hb i ∧ w0.heap.size ≤ G.nb i
 lens : st.led.length = W ∧ st.has.length = W ∧ st.notes.length = W ∧ ∀ r ∈ st.notes, r.length = W
 frz : ∀ k cs, G.z k cs → w.heap[k]? = some (.cells cs 101 (0, 0))
section
variable {w0 w w' : World} {G : RG} {W lim : Nat} {st : St} {q : Nat → Nat → Value}
theorem RunAt.t_rb (h : RunAt w0 G W lim st q w) : Typed w G.rb 92 := by
 obtain ⟨A, c, h1, _⟩ := h.run
 exact ⟨_, h1⟩
theorem RunAt.t_wa (h : RunAt w0 G W lim st q w) : Typed w G.wa 93 := by
 obtain ⟨c, h1, _⟩ := h.ws
 exact ⟨c, h1⟩
theorem RunAt.t_wb (h : RunAt w0 G W lim st q w) {i : Nat} (hi : i < W) : Typed w (G.wb i) 97 := ⟨_, h.wk i hi⟩
theorem RunAt.t_nb (h : RunAt w0 G W lim st q w) {i : Nat} (hi : i < W) : Typed w (G.nb i) 180 := by
 obtain ⟨c, h1, _⟩ := h.nbk i hi
 exact ⟨c, h1⟩
theorem not_typed {w : World} {k : Nat} {t t' : TypeId} (h : Typed w k t) (hne : (t == t') = false) : ¬ Typed w k t' := fun h' => by
 have := h.ne h'
 subst this
 simp at hne
theorem block_ne {w : World} {k k' : Nat} {t t' : TypeId} (h : Typed w k t) (h' : Typed w k' t') (hne : (t == t') = false) : k ≠ k' := fun e => by
 subst e; exact not_typed h hne h'
theorem led_ne {w : World} {k k' : Nat} {t : TypeId} {L : Led} (h : LedAt w k L) (h' : Typed w k' t) : k ≠ k' := fun e => by
 subst e; exact h.not_typed h'
theorem RunAt.to_below (h : RunAt w0 G W lim st q w) (hb : Below w.heap.size w w') : RunAt w0 G W lim st q w' := by
 have hk : Kept w w' (fun _ => False) := Kept.of_below hb _
 obtain ⟨A, c, r1, r2, r3⟩ := h.run
 obtain ⟨cs, s1, s2⟩ := h.ws
 exact ⟨below_then h.below h.below.size hb, ⟨A, c, blk_below r1 hb, r2, r3⟩, ⟨cs, blk_below s1 hb, s2⟩, fun i hi => blk_below (h.wk i hi) hb, fun i hi => (h.led i hi).below hb, fun i hi => (h.has i hi).below hb,
  fun i hi => by obtain ⟨c, n1, n2⟩ := h.nbk i hi; exact ⟨c, blk_below n1 hb, n2⟩, fun i k hi hk' => (h.qs i k hi hk').kept hk (fun _ h => h.elim) (fun _ _ h => h), h.qdis, h.iwb, h.inb, h.ilb, h.ihb, h.ilh, h.low, h.lens, fun k cs hz => blk_below (h.frz k cs hz) hb⟩
theorem below_of_grown {b : Nat} {w0 w w' : World} (hb : Below w0.heap.size w0 w) (hg : w.grownBy w' (some b)) (hB : w0.heap.size ≤ b) : Below w0.heap.size w0 w' := by
 refine ⟨hg.os.trans hb.os, hg.tape.trans hb.tape, hg.output.trans hb.output, Nat.le_trans hb.size hg.size, fun k hk => ?_⟩
 exact (hg.block k (Nat.lt_of_lt_of_le hk (by have := hb.size; omega)) (fun he => by injection he with he; omega)).trans (hb.block k hk)
theorem RunAt.set_run (h : RunAt w0 G W lim st q w) (hg : w.grownBy w' (some G.rb)) {x y z : Int} {script : List Int} {A : Option Addr} {c : Nat}
  (hr : w'.heap[G.rb]? = some (.cells (runCells x y z G.gb (.slice (some ⟨G.wa, 0, none⟩) W G.wc) (.slice A script.length c)) 92 (0, 0))) (hC : kI.C w0 A script.length script) (hc : script.length ≤ c) :
  RunAt w0 G W lim { st with works := x, nts := y, sent := z, script := script } q w' := by
 have hk : Kept w w' (fun k => k = G.rb) := ⟨hg.size, fun i hi hn => hg.block i hi (fun he => hn (by injection he))⟩
 have t := h.t_rb
 obtain ⟨cs, s1, s2⟩ := h.ws
 exact ⟨below_of_grown h.below hg h.low.1, ⟨A, c, hr, hC, hc⟩, ⟨cs, blk_kept s1 hk (block_ne h.t_wa t rfl), s2⟩, fun i hi => blk_kept (h.wk i hi) hk (block_ne (h.t_wb hi) t rfl), fun i hi => (h.led i hi).kept hk (led_ne (h.led i hi) t), fun i hi => (h.has i hi).kept hk (led_ne (h.has i hi) t),
  fun i hi => by obtain ⟨c, n1, n2⟩ := h.nbk i hi; exact ⟨c, blk_kept n1 hk (block_ne (h.t_nb hi) t rfl), n2⟩, fun i k hi hk' => (h.qs i k hi hk').kept hk (fun b hb _ => by subst hb; exact not_typed t rfl) (fun b hb he => by subst he; exact not_typed t rfl ((h.qs i k hi hk').own_typed hb).2), h.qdis, h.iwb, h.inb, h.ilb, h.ihb, h.ilh, h.low, h.lens, fun k cs hz => blk_kept (h.frz k cs hz) hk (block_ne ⟨_, h.frz k cs hz⟩ t rfl)⟩
theorem getD_set_self {α : Type} (l : List α) (i : Nat) (x d : α) (h : i < l.length) : (l.set i x).getD i d = x := by
 rw [List.getD_eq_getElem?_getD, List.getElem?_set_self h]; rfl
theorem getD_set_ne {α : Type} (l : List α) {i j : Nat} (x d : α) (h : i ≠ j) : (l.set i x).getD j d = l.getD j d := by
 rw [List.getD_eq_getElem?_getD, List.getElem?_set_ne h, ← List.getD_eq_getElem?_getD]
theorem RunAt.set_has (h : RunAt w0 G W lim st q w) {i : Nat} (hi : i < W) (hg : w.grownBy w' (some (G.hb i))) {L : Led} (hL : LedAt w' (G.hb i) L) : RunAt w0 G W lim { st with has := st.has.set i L } q w' := by
 have hk : Kept w w' (fun k => k = G.hb i) := ⟨hg.size, fun i hi hn => hg.block i hi (fun he => hn (by injection he))⟩
 have l := h.has i hi
 obtain ⟨A, c, r1, r2, r3⟩ := h.run
 obtain ⟨cs, s1, s2⟩ := h.ws
 refine ⟨below_of_grown h.below hg (h.low.2.2 i hi).2.2.1, ⟨A, c, blk_kept r1 hk (Ne.symm (led_ne l h.t_rb)), r2, r3⟩, ⟨cs, blk_kept s1 hk (Ne.symm (led_ne l h.t_wa)), s2⟩, fun j hj => blk_kept (h.wk j hj) hk (Ne.symm (led_ne l (h.t_wb hj))), fun j hj => (h.led j hj).kept hk (h.ilh j i hj hi), fun j hj => ?_,
  fun j hj => by obtain ⟨c, n1, n2⟩ := h.nbk j hj; exact ⟨c, blk_kept n1 hk (Ne.symm (led_ne l (h.t_nb hj))), n2⟩, fun j k hj hk' => (h.qs j k hj hk').kept hk (fun b hb _ => by subst hb; exact l.not_typed) (fun b hb he => by subst he; exact l.not_typed ((h.qs j k hj hk').own_typed hb).2), h.qdis, h.iwb, h.inb, h.ilb, h.ihb, h.ilh, h.low, ⟨h.lens.1, by rw [← h.lens.2.1]; simp, h.lens.2.2⟩, fun k cs hz => blk_kept (h.frz k cs hz) hk (Ne.symm (led_ne l ⟨_, h.frz k cs hz⟩))⟩
 by_cases hij : i = j
 ·subst hij
  have : (St.hasOf { st with has := st.has.set i L } i) = L := getD_set_self _ _ _ _ (by rw [h.lens.2.1]; exact hi)
  rw [this]; exact hL
 ·have : (St.hasOf { st with has := st.has.set i L } j) = st.hasOf j := getD_set_ne _ _ _ hij
  rw [this]
  exact (h.has j hj).kept hk (fun he => hij (h.ihb j i hj hi he).symm)
theorem RunAt.set_led (h : RunAt w0 G W lim st q w) {i : Nat} (hi : i < W) (hg : w.grownBy w' (some (G.lb i))) {L : Led} (hL : LedAt w' (G.lb i) L) : RunAt w0 G W lim { st with led := st.led.set i L } q w' := by
 have hk : Kept w w' (fun k => k = G.lb i) := ⟨hg.size, fun i hi hn => hg.block i hi (fun he => hn (by injection he))⟩
 have l := h.led i hi
 obtain ⟨A, c, r1, r2, r3⟩ := h.run
 obtain ⟨cs, s1, s2⟩ := h.ws
 refine ⟨below_of_grown h.below hg (h.low.2.2 i hi).2.1, ⟨A, c, blk_kept r1 hk (Ne.symm (led_ne l h.t_rb)), r2, r3⟩, ⟨cs, blk_kept s1 hk (Ne.symm (led_ne l h.t_wa)), s2⟩, fun j hj => blk_kept (h.wk j hj) hk (Ne.symm (led_ne l (h.t_wb hj))), fun j hj => ?_, fun j hj => (h.has j hj).kept hk (Ne.symm (h.ilh i j hi hj)),
  fun j hj => by obtain ⟨c, n1, n2⟩ := h.nbk j hj; exact ⟨c, blk_kept n1 hk (Ne.symm (led_ne l (h.t_nb hj))), n2⟩, fun j k hj hk' => (h.qs j k hj hk').kept hk (fun b hb _ => by subst hb; exact l.not_typed) (fun b hb he => by subst he; exact l.not_typed ((h.qs j k hj hk').own_typed hb).2), h.qdis, h.iwb, h.inb, h.ilb, h.ihb, h.ilh, h.low, ⟨by rw [← h.lens.1]; simp, h.lens.2⟩, fun k cs hz => blk_kept (h.frz k cs hz) hk (Ne.symm (led_ne l ⟨_, h.frz k cs hz⟩))⟩
 by_cases hij : i = j
 ·subst hij
  have : (St.ledOf { st with led := st.led.set i L } i) = L := getD_set_self _ _ _ _ (by rw [h.lens.1]; exact hi)
  rw [this]; exact hL
 ·have : (St.ledOf { st with led := st.led.set i L } j) = st.ledOf j := getD_set_ne _ _ _ hij
  rw [this]
  exact (h.led j hj).kept hk (fun he => hij (h.ilb j i hj hi he).symm)
theorem RunAt.set_q (h : RunAt w0 G W lim st q w) {i k : Nat} (hi : i < W) (hk : k < W) {w1 : World} (hg : w.grownBy w1 (qOwn (q i k))) {v : Value} {l : List Note} (hv : QAt w0.heap.size lim w1 v l) (ho : qOwn v = none ∨ qOwn v = qOwn (q i k) ∨ ∃ b, qOwn v = some b ∧ w.heap.size ≤ b) :
  RunAt w0 G W lim { st with notes := putQ st.notes i k l } (fun j m => if j = i ∧ m = k then v else q j m) (w1.setCell ⟨G.nb i, k, none⟩ v) := by
 obtain ⟨cells, n1, n2⟩ := h.nbk i hi
 have hq := h.qs i k hi hk
 have hqt : ∀ b, qOwn (q i k) = some b → Typed w b 214 := fun b hb => (hq.own_typed hb).2
 have hk1 : Kept w w1 (fun b => qOwn (q i k) = some b) := ⟨hg.size, fun b hb hn => hg.block b hb (fun he => hn he.symm)⟩
 have hn1 : w1.heap[G.nb i]? = some (.cells cells 180 (0, 0)) := blk_kept n1 hk1 (fun hb => block_ne (h.t_nb hi) (hqt _ hb) rfl rfl)
 have hg2 : w1.grownBy (w1.setCell ⟨G.nb i, k, none⟩ v) (some (G.nb i)) := setCells_grown (G.nb i) [v] k w1
 have hk2 : Kept w (w1.setCell ⟨G.nb i, k, none⟩ v) (fun b => qOwn (q i k) = some b ∨ b = G.nb i) :=
  Kept.then_ (S2 := fun b => b = G.nb i) (hk1.mono (fun _ hb => .inl hb)) ⟨hg2.size, fun b hb hn => hg2.block b hb (fun he => hn (by injection he))⟩ (fun b hb => .inl (.inr hb))
 have hsome : ∀ {t : TypeId} {b : Nat}, Typed w b t → (214 == t) = false → (180 == t) = false → ¬ (qOwn (q i k) = some b ∨ b = G.nb i) := by
  intro t b ht h1 h2 hb
  rcases hb with hb | hb
  ·exact not_typed (hqt _ hb) h1 ht
  ·subst hb; exact not_typed (h.t_nb hi) h2 ht
 have hled : ∀ {b : Nat} {L : Led}, LedAt w b L → ¬ (qOwn (q i k) = some b ∨ b = G.nb i) := by
  intro b L hL hb
  rcases hb with hb | hb
  ·exact hL.not_typed (hqt _ hb)
  ·subst hb; exact hL.not_typed (h.t_nb hi)
 obtain ⟨A, c, r1, r2, r3⟩ := h.run
 obtain ⟨cs, s1, s2⟩ := h.ws
 have hbelow : Below w0.heap.size w0 (w1.setCell ⟨G.nb i, k, none⟩ v) := by
  have hb1 : Below w0.heap.size w0 w1 := by
   cases hqo : qOwn (q i k) with
   | none => rw [hqo] at hg; exact ⟨hg.os.trans h.below.os, hg.tape.trans h.below.tape, hg.output.trans h.below.output, Nat.le_trans h.below.size hg.size, fun b hb => (hg.block b (Nat.lt_of_lt_of_le hb h.below.size) (by simp)).trans (h.below.block b hb)⟩
   | some b => rw [hqo] at hg; exact below_of_grown h.below hg (hq.own_typed hqo).1
  exact below_of_grown hb1 hg2 (h.low.2.2 i hi).2.2.2
 have hqother : ∀ j m, j < W → m < W → (j ≠ i ∨ m ≠ k) → qOwn (q j m) = none ∨ qOwn (q j m) ≠ qOwn v := by
  intro j m hj hm hne
  rcases ho with ho | ho | ⟨b, ho, hb⟩
  ·cases hqo : qOwn (q j m) with
   | none => exact .inl rfl
   | some b' => right; rw [ho]; simp
  ·rw [ho]; exact h.qdis j m i k hj hm hi hk hne
  ·cases hqo : qOwn (q j m) with
   | none => exact .inl rfl
   | some b' =>
    right
    rw [ho]
    intro he
    injection he with he
    obtain ⟨cc, hcc⟩ := ((h.qs j m hj hm).own_typed hqo).2
    have := blk_lt hcc
    omega
 refine ⟨hbelow, ⟨A, c, blk_kept r1 hk2 (hsome h.t_rb rfl rfl), r2, r3⟩, ⟨cs, blk_kept s1 hk2 (hsome h.t_wa rfl rfl), s2⟩, fun j hj => blk_kept (h.wk j hj) hk2 (hsome (h.t_wb hj) rfl rfl), fun j hj => (h.led j hj).kept hk2 (hled (h.led j hj)), fun j hj => (h.has j hj).kept hk2 (hled (h.has j hj)),
  fun j hj => ?_, fun j m hj hm => ?_, fun j m j' m' hj hm hj' hm' hne => ?_, h.iwb, h.inb, h.ilb, h.ihb, h.ilh, h.low, ⟨h.lens.1, h.lens.2.1, by simp only [putQ, List.length_set]; exact h.lens.2.2.1, fun r hr => ?_⟩, fun k cs hz => blk_kept (h.frz k cs hz) hk2 (hsome ⟨_, h.frz k cs hz⟩ rfl rfl)⟩
 ·by_cases hji : j = i
  ·subst hji
   refine ⟨_, blk_set hn1 k v, fun m hm => ?_⟩
   by_cases hmk : m = k
   ·subst hmk
    have hsz : m < cells.size := (Array.getElem?_eq_some_iff.1 (n2 m hm)).1
    simp [hsz]
   ·rw [Array.getElem?_setIfInBounds_ne (Ne.symm hmk), if_neg (fun h => hmk h.2)]
    exact n2 m hm
  ·obtain ⟨c', m1, m2⟩ := h.nbk j hj
   refine ⟨c', blk_kept m1 hk2 (fun hb => ?_), fun m hm => by rw [if_neg (fun h => hji h.1)]; exact m2 m hm⟩
   rcases hb with hb | hb
   ·exact block_ne (hqt _ hb) (h.t_nb hj) rfl rfl
   ·exact hji (h.inb j i hj hi hb)
 ·by_cases hjm : j = i ∧ m = k
  ·obtain ⟨rfl, rfl⟩ := hjm
   rw [if_pos ⟨rfl, rfl⟩]
   have e : St.queue { st with notes := putQ st.notes j m l } j m = l := by
    simp only [St.queue, putQ]
    rw [getD_set_self _ _ _ _ (by rw [h.lens.2.2.1]; exact hj), getD_set_self]
    have : st.notes.getD j [] ∈ st.notes := by
     rw [List.getD_eq_getElem?_getD, List.getElem?_eq_getElem (by rw [h.lens.2.2.1]; exact hj)]
     exact List.getElem_mem _
    rw [h.lens.2.2.2 _ this]; exact hm
   rw [e]
   refine hv.kept (S := fun b => b = G.nb j) ⟨hg2.size, fun b hb hn => hg2.block b hb (fun he => hn (by injection he))⟩ (fun b hb _ => ?_) (fun b hb he => ?_)
   ·subst hb; exact not_typed ⟨cells, hn1⟩ rfl
   ·subst he; exact not_typed ⟨cells, hn1⟩ rfl (hv.own_typed hb).2
  ·rw [if_neg hjm]
   have hne : j ≠ i ∨ m ≠ k := by
    by_cases h1 : j = i
    ·exact .inr (fun h2 => hjm ⟨h1, h2⟩)
    ·exact .inl h1
   have e : St.queue { st with notes := putQ st.notes i k l } j m = st.queue j m := by
    simp only [St.queue, putQ]
    by_cases h1 : i = j
    ·subst h1
     rw [getD_set_self _ _ _ _ (by rw [h.lens.2.2.1]; exact hj), getD_set_ne _ _ _ (fun h2 => hjm ⟨rfl, h2.symm⟩)]
    ·rw [getD_set_ne _ _ _ h1]
   rw [e]
   refine (h.qs j m hj hm).kept hk2 (fun b hb _ => ?_) (fun b hb he => ?_)
   ·rcases hb with hb | hb
    ·exact not_typed (hqt _ hb) rfl
    ·subst hb; exact not_typed (h.t_nb hi) rfl
   ·rcases he with he | he
    ·rcases h.qdis j m i k hj hm hi hk hne with h1 | h1
     ·rw [h1] at hb; cases hb
     ·exact h1 (hb.trans he.symm)
    ·subst he; exact not_typed (h.t_nb hi) rfl ((h.qs j m hj hm).own_typed hb).2
 ·by_cases h1 : j = i ∧ m = k
  ·obtain ⟨rfl, rfl⟩ := h1
   rw [if_pos ⟨rfl, rfl⟩, if_neg (fun h => hne.elim (fun h1 => h1 h.1.symm) (fun h1 => h1 h.2.symm))]
   rcases hqother j' m' hj' hm' (hne.imp Ne.symm Ne.symm) with h2 | h2
   ·cases hv' : qOwn v with
    | none => exact .inl rfl
    | some b => right; rw [h2]; simp
   ·exact .inr (Ne.symm h2)
  ·rw [if_neg h1]
   by_cases h2 : j' = i ∧ m' = k
   ·obtain ⟨rfl, rfl⟩ := h2
    rw [if_pos ⟨rfl, rfl⟩]
    exact hqother j m hj hm hne
   ·rw [if_neg h2]
    exact h.qdis j m j' m' hj hm hj' hm' hne
 ·simp only [putQ] at hr
  rcases List.mem_or_eq_of_mem_set hr with hr | rfl
  ·exact h.lens.2.2.2 r hr
  ·rw [List.length_set]
   refine h.lens.2.2.2 _ ?_
   rw [List.getD_eq_getElem?_getD, List.getElem?_eq_getElem (by rw [h.lens.2.2.1]; exact hi)]
   exact List.getElem_mem _
theorem RunAt.mono {lim' : Nat} (h : RunAt w0 G W lim st q w) (hn : ∀ nv n, NoteAt w0.heap.size lim w nv n → NoteAt w0.heap.size lim' w nv n) : RunAt w0 G W lim' st q w :=
 ⟨h.below, h.run, h.ws, h.wk, h.led, h.has, h.nbk, fun i k hi hk => (h.qs i k hi hk).mono hn, h.qdis, h.iwb, h.inb, h.ilb, h.ihb, h.ilh, h.low, h.lens, h.frz⟩
theorem RunAt.relim (h : RunAt w0 G W lim st q w) : RunAt w0 G W w.heap.size st q w := h.mono (fun _ _ hn => hn.relim)
theorem RunAt.lift {lim' : Nat} (h : RunAt w0 G W lim st q w) (hl : lim ≤ lim') : RunAt w0 G W lim' st q w := h.mono (fun _ _ hn => hn.mono hl)
theorem RunAt.set_new (h : RunAt w0 G W lim st q w) {row : Option Nat} (hg : w.grownBy w' row) (hr : ∀ k, row = some k → lim ≤ k ∧ w0.heap.size ≤ k ∧ Typed w k 213) : RunAt w0 G W lim st q w' := by
 have hk : Kept w w' (fun k => row = some k) := ⟨hg.size, fun i hi hn => hg.block i hi (fun he => hn he.symm)⟩
 obtain ⟨A, c, r1, r2, r3⟩ := h.run
 obtain ⟨cs, s1, s2⟩ := h.ws
 have hne : ∀ {b : Nat} {t : TypeId}, Typed w b t → (t == 213) = false → ¬ row = some b := fun ht h1 he => not_typed ht h1 (hr _ he).2.2
 have hl : ∀ {b : Nat} {L : Led}, LedAt w b L → ¬ row = some b := fun hL he => hL.not_typed (hr _ he).2.2
 have hb : Below w0.heap.size w0 w' := by
  cases row with
  | none => exact ⟨hg.os.trans h.below.os, hg.tape.trans h.below.tape, hg.output.trans h.below.output, Nat.le_trans h.below.size hg.size, fun b hb => (hg.block b (Nat.lt_of_lt_of_le hb h.below.size) (by simp)).trans (h.below.block b hb)⟩
  | some k => exact below_of_grown h.below hg (hr k rfl).2.1
 exact ⟨hb, ⟨A, c, blk_kept r1 hk (hne h.t_rb rfl), r2, r3⟩, ⟨cs, blk_kept s1 hk (hne h.t_wa rfl), s2⟩, fun i hi => blk_kept (h.wk i hi) hk (hne (h.t_wb hi) rfl), fun i hi => (h.led i hi).kept hk (hl (h.led i hi)), fun i hi => (h.has i hi).kept hk (hl (h.has i hi)),
  fun i hi => by obtain ⟨c, n1, n2⟩ := h.nbk i hi; exact ⟨c, blk_kept n1 hk (hne (h.t_nb hi) rfl), n2⟩, fun i k hi hk' => (h.qs i k hi hk').kept hk (fun b hb hlt => by have := (hr b hb).1; omega) (fun b hb he => hne ((h.qs i k hi hk').own_typed hb).2 rfl he), h.qdis, h.iwb, h.inb, h.ilb, h.ihb, h.ilh, h.low, h.lens, fun k cs hz => blk_kept (h.frz k cs hz) hk (hne ⟨_, h.frz k cs hz⟩ rfl)⟩
theorem RunAt.freeze (h : RunAt w0 G W lim st q w) {g : Nat} {cs : Array Value} (hg : w.heap[g]? = some (.cells cs 101 (0, 0))) : RunAt w0 { G with z := fun k c => k = g ∧ c = cs } W lim st q w :=
 ⟨h.below, h.run, h.ws, h.wk, h.led, h.has, h.nbk, h.qs, h.qdis, h.iwb, h.inb, h.ilb, h.ihb, h.ilh, h.low, h.lens, fun k c hz => by obtain ⟨rfl, rfl⟩ := hz; exact hg⟩
end
end Go.Proofs.YtbkfnmgkcgnifaaGreat
namespace Go.Proofs.YtbkfnmgkcgnifaaGreat
open Go.RowKit Go.Shelf Go.Proofs.YtbkfnmgkcgnifaaGreatW.PrintWords Go.Proofs.YtbkfnmgkcgnifaaGreatW.PrintLast Mdl Go.ChangeMaps
def RunOk (w0 : World) (G : RG) (W : Nat) (st : St) (w : World) : Prop := ∃ q, RunAt w0 G W w.heap.size st q w
theorem RunAt.cells {w0 w : World} {G : RG} {W lim : Nat} {st : St} {q : Nat → Nat → Value} (h : RunAt w0 G W lim st q w) : ∃ A c, kI.C w0 A st.script.length st.script ∧ st.script.length ≤ c ∧
  w.heap[G.rb]? = some (.cells (runCells st.works st.nts st.sent G.gb (.slice (some ⟨G.wa, 0, none⟩) W G.wc) (.slice A st.script.length c)) 92 (0, 0)) ∧
  w.cell? ⟨G.rb, 0, none⟩ = some (.int .i64 st.works) ∧ w.cell? ⟨G.rb, 1, none⟩ = some (.int .i64 st.nts) ∧ w.cell? ⟨G.rb, 2, none⟩ = some (.int .i64 st.sent) ∧ w.cell? ⟨G.rb, 3, none⟩ = some (.pointer (some ⟨G.gb, 0, none⟩)) ∧ w.cell? ⟨G.rb, 4, none⟩ = some (.slice (some ⟨G.wa, 0, none⟩) W G.wc) ∧ ∀ j, w.frozen? ⟨G.rb, j, none⟩ = false := by
 obtain ⟨A, c, r1, r2, r3⟩ := h.run
 exact ⟨A, c, r2, r3, r1, (blk_cell r1 0).trans rfl, (blk_cell r1 1).trans rfl, (blk_cell r1 2).trans rfl, (blk_cell r1 3).trans rfl, (blk_cell r1 4).trans rfl, fun j => blk_frozen r1 j⟩
theorem RunAt.wcells {w0 w : World} {G : RG} {W lim : Nat} {st : St} {q : Nat → Nat → Value} (h : RunAt w0 G W lim st q w) {i : Nat} (hi : i < W) :
  w.cell? ⟨G.wa, i, none⟩ = some (.pointer (some ⟨G.wb i, 0, none⟩)) ∧ w.cell? ⟨G.wb i, 0, none⟩ = some (.map (some (G.lb i))) ∧ w.cell? ⟨G.wb i, 1, none⟩ = some (.map (some (G.hb i))) ∧ w.cell? ⟨G.wb i, 2, none⟩ = some (.slice (some ⟨G.nb i, 0, none⟩) W (G.nc i)) := by
 obtain ⟨cs, s1, s2⟩ := h.ws
 have := h.wk i hi
 exact ⟨(blk_cell s1 i).trans (s2 i hi), (blk_cell this 0).trans rfl, (blk_cell this 1).trans rfl, (blk_cell this 2).trans rfl⟩
theorem RunAt.qcell {w0 w : World} {G : RG} {W lim : Nat} {st : St} {q : Nat → Nat → Value} (h : RunAt w0 G W lim st q w) {i k : Nat} (hi : i < W) (hk : k < W) : w.cell? ⟨G.nb i, k, none⟩ = some (q i k) ∧ w.frozen? ⟨G.nb i, k, none⟩ = false := by
 obtain ⟨cs, s1, s2⟩ := h.nbk i hi
 exact ⟨(blk_cell s1 k).trans (s2 k hk), blk_frozen s1 k⟩
theorem RunAt.drew {w0 w : World} {G : RG} {W lim : Nat} {st : St} {q : Nat → Nat → Value} (h : RunAt w0 G W lim st q w) : RunAt w0 G W lim st q w.drew := h.to_below (below_drew1 (Below.refl _ _))
set_option maxRecDepth 8000 in
set_option maxHeartbeats 4000000 in
theorem takeMake_any (w0 : World) (G : RG) (W : Nat) (st : St) (i k : Nat) (n : Note) (l : List Note) (w : World) (h : RunOk w0 G W st w) (hi : i < W) (hk : k < W) (hW : W ≤ 4) (hq : st.queue i k = n :: l) :
  Calls Tryz.prog 146 #[.agg #[.int .i64 i, .int .i64 k], .pointer (some ⟨G.rb, 0, none⟩)] w fun e w' => e = .returned (.tuple #[]) ∧ RunOk w0 G W (takeS st i k) w' := by
 obtain ⟨q, h⟩ := h
 obtain ⟨lim, hlim⟩ : ∃ lim, lim = w.heap.size := ⟨_, rfl⟩
 rw [← hlim] at h
 have hi0 : (0 : Int) ≤ i := by omega
 have hiW : (i : Int) < W := by omega
 have hk0 : (0 : Int) ≤ k := by omega
 have hkW : (k : Int) < W := by omega
 have hb1 := below_new w (.cells #[.int .i64 i, .int .i64 k] 182)
 have H1 := Aside0.mk (h.to_below hb1)
 have t0 : (w.alloc (.cells #[.int .i64 i, .int .i64 k] 182)).cell? ⟨w.heap.size, 0, none⟩ = some (.int .i64 i) := new_cell w _ _ 0
 have t1 : (w.alloc (.cells #[.int .i64 i, .int .i64 k] 182)).cell? ⟨w.heap.size, 1, none⟩ = some (.int .i64 k) := new_cell w _ _ 1
 have HQ := Aside0.mk hq
 clear h hb1 hq hlim
 go_enter Tryz.func146, Tryz.ntmps146
 go_upto_region 1 with fail
 generalize w.alloc (.cells #[.int .i64 i, .int .i64 k] 182) = w1 at *
 generalize w.heap.size = bt at *
 obtain ⟨A, c, _, _, _, _, _, _, _, r4, _⟩ := H1.out.cells
 obtain ⟨s1, s2, s3, s4⟩ := H1.out.wcells hi
 obtain ⟨n1, nf⟩ := H1.out.qcell hi hk
 obtain ⟨g, off, c', nv, hqv, hnc, hnote, hqo, hp1, hp2⟩ := QAt.pop (by have := H1.out.qs i k hi hk; rwa [HQ.out] at this)
 have HP := Aside0.mk (And.intro hqv (And.intro hnote (And.intro hqo (And.intro hp1 hp2))))
 rw [hqv] at n1
 clear hqv hnote hqo hp1 hp2
 refine start_ (n := 9) (S := fun w' => w'.cell? ⟨bt, 0, none⟩ = some (.int .i64 i) ∧ w'.cell? ⟨bt, 1, none⟩ = some (.int .i64 k) ∧ w'.cell? ⟨G.rb, 4, none⟩ = some (.slice (some ⟨G.wa, 0, none⟩) W G.wc) ∧ w'.cell? ⟨G.wa, i, none⟩ = some (.pointer (some ⟨G.wb i, 0, none⟩)) ∧ w'.cell? ⟨G.wb i, 2, none⟩ = some (.slice (some ⟨G.nb i, 0, none⟩) W (G.nc i)) ∧ w'.cell? ⟨G.nb i, k, none⟩ = some (.slice (some ⟨g, off, none⟩) (l.length + 1) (c' + 1)) ∧ w'.cell? ⟨g, off, none⟩ = some nv) (ds := []) (bs 9 0) (by kernel_rfl) rfl (by kernel_rfl) ⟨t0, t1, r4, s1, s4, n1, hnc⟩ (fun hHeld => ?_)
 have HD := Aside0.mk H1.out.drew
 have HP2 := Aside0.mk (And.intro (show NoteAt w0.heap.size lim w1.drew nv n from HP.out.2.1.kept (Kept.drew (Kept.refl w1 (fun _ => False))) (fun _ h => h.elim)) (show w1.drew.frozen? ⟨G.nb i, k, none⟩ = false from nf))
 clear t0 t1 r4 s1 s2 s3 s4 n1 hnc nf
 generalize w1.drew = w2 at *
 refine pu 0 6 (bs 9 1) ?_
 refine pu 1 7 (bs 9 3) ?_
 refine pu 2 8 (bs 9 7) ?_
 refine tk7 3 9 (bs 9 15) hHeld ?_
 refine pu 4 10 (bs 9 31) ?_
 refine tk7 5 11 (bs 9 63) hHeld ?_
 refine pu 6 12 (bs 9 127) ?_
 refine tk7 7 13 (bs 9 255) hHeld ?_
 refine pu 8 4 (bs 9 511) ?_
 refine dn0 ?_
 have hH := Lib.hid hHeld
 clear hHeld
 go_upto_region 2 with fail
 refine start_ (n := 11) (S := fun w' => w'.cell? ⟨bt, 0, none⟩ = some (.int .i64 i) ∧ w'.cell? ⟨bt, 1, none⟩ = some (.int .i64 k) ∧ w'.cell? ⟨G.rb, 4, none⟩ = some (.slice (some ⟨G.wa, 0, none⟩) W G.wc) ∧ w'.cell? ⟨G.wa, i, none⟩ = some (.pointer (some ⟨G.wb i, 0, none⟩)) ∧ w'.cell? ⟨G.wb i, 2, none⟩ = some (.slice (some ⟨G.nb i, 0, none⟩) W (G.nc i)) ∧ w'.cell? ⟨G.nb i, k, none⟩ = some (.slice (some ⟨g, off, none⟩) (l.length + 1) (c' + 1)) ∧ w'.cell? ⟨g, off, none⟩ = some nv) (ds := []) (bs 11 0) (by kernel_rfl) rfl (by kernel_rfl) hH.out (fun hHeld => ?_)
 have HD2 := Aside0.mk HD.out.drew
 generalize w2.drew = w3 at *
 refine pu 0 14 (bs 11 1) ?_
 refine pu 1 15 (bs 11 3) ?_
 refine pu 2 16 (bs 11 7) ?_
 refine tk7 3 17 (bs 11 15) hHeld ?_
 refine pu 4 18 (bs 11 31) ?_
 refine tk7 5 19 (bs 11 63) hHeld ?_
 refine pu 6 20 (bs 11 127) ?_
 refine tk7 7 21 (bs 11 255) hHeld ?_
 refine pu 8 22 (bs 11 511) ?_
 refine tk7 9 23 (bs 11 1023) hHeld ?_
 refine pu 10 5 (bs 11 2047) ?_
 refine dn0 ?_
 have hH2 := Lib.hid hHeld
 clear hHeld hH
 go_upto_region 3 with fail
 refine start_ (n := 17) (S := fun w' => w'.cell? ⟨bt, 0, none⟩ = some (.int .i64 i) ∧ w'.cell? ⟨bt, 1, none⟩ = some (.int .i64 k) ∧ w'.cell? ⟨G.rb, 4, none⟩ = some (.slice (some ⟨G.wa, 0, none⟩) W G.wc) ∧ w'.cell? ⟨G.wa, i, none⟩ = some (.pointer (some ⟨G.wb i, 0, none⟩)) ∧ w'.cell? ⟨G.wb i, 2, none⟩ = some (.slice (some ⟨G.nb i, 0, none⟩) W (G.nc i)) ∧ w'.cell? ⟨G.nb i, k, none⟩ = some (.slice (some ⟨g, off, none⟩) (l.length + 1) (c' + 1)) ∧ w'.cell? ⟨g, off, none⟩ = some nv) (ds := [16]) (bs 17 0) (by kernel_rfl) rfl (by kernel_rfl) hH2.out (fun hHeld => ?_)
 have HD3 := Aside0.mk HD2.out.drew
 generalize w3.drew = w4 at *
 refine pu 0 24 (bs 17 1) ?_
 refine pu 1 25 (bs 17 3) ?_
 refine pu 2 26 (bs 17 7) ?_
 refine tk7 3 27 (bs 17 15) hHeld ?_
 refine pu 4 28 (bs 17 31) ?_
 refine tk7 5 29 (bs 17 63) hHeld ?_
 refine pu 6 30 (bs 17 127) ?_
 refine pu 7 31 (bs 17 255) ?_
 refine pu 8 32 (bs 17 511) ?_
 refine tk7 9 33 (bs 17 1023) hHeld ?_
 refine pu 10 34 (bs 17 2047) ?_
 refine tk7 11 35 (bs 17 4095) hHeld ?_
 refine pu 12 36 (bs 17 8191) ?_
 refine tk7 13 37 (bs 17 16383) hHeld ?_
 have h1l : (1 : Int) ≤ (l.length : Int) + 1 := by omega
 refine pu 14 38 (bs 17 32767) ?_
 refine pu 15 39 (bs 17 65535) ?_
 have hv : QAt w0.heap.size lim w4 (.slice (if c' = 0 then some ⟨g, off, none⟩ else some ⟨g, off + 1, none⟩) l.length c') l ∧ (qOwn (.slice (if c' = 0 then some ⟨g, off, none⟩ else some ⟨g, off + 1, none⟩) l.length c') = none ∨ qOwn (.slice (if c' = 0 then some ⟨g, off, none⟩ else some ⟨g, off + 1, none⟩) l.length c') = qOwn (q i k)) := by
  have hq4 := HD3.out.qs i k hi hk
  rw [HQ.out, HP.out.1] at hq4
  obtain ⟨g', off', c'', nv', hqv, _, _, hqo, hp1, hp2⟩ := QAt.pop hq4
  cases hqv
  by_cases hc : c' = 0
  ·rw [if_pos hc]
   subst hc
   exact ⟨hp2 rfl, .inl rfl⟩
  ·rw [if_neg hc]
   exact ⟨(hp1 hc).1, .inr (by rw [(hp1 hc).2, HP.out.2.2.1])⟩
 generalize (if c' = 0 then some (⟨g, off, none⟩ : Addr) else some ⟨g, off + 1, none⟩) = A' at *
 have HV := Aside0.mk hv
 clear hv h1l
 have hf4 : w4.frozen? ⟨G.nb i, k, none⟩ = false := (HD3.out.qcell hi hk).2
 refine la0 16 (bs 17 131071) (N := none) fun K hK => ?_
 refine sk0 ?_
 refine hK.out _ _ ?_
 clear hK K
 refine dn0 ?_
 have h5 := Aside0.mk (HD3.out.set_q hi hk (World.grownBy.refl w4 _) HV.out.1 (HV.out.2.imp id .inl))
 have hn5 : NoteAt w0.heap.size lim (w4.setCell ⟨G.nb i, k, none⟩ (.slice A' l.length c')) nv n := by
  have h1 : NoteAt w0.heap.size lim w4 nv n := by
   have hq4 := HD3.out.qs i k hi hk
   rw [HQ.out, HP.out.1] at hq4
   obtain ⟨g', off', c'', nv', hqv, hc4, hn4, _⟩ := QAt.pop hq4
   cases hqv
   have : nv' = nv := by
    have e := hHeld.2.2.2.2.2.2
    rw [hc4] at e
    injection e
   rw [← this]; exact hn4
  exact h1.kept (S := fun b => b = G.nb i) ⟨by simp [World.setCell], fun b hb hn => Below.heap_setCell w4 ⟨G.nb i, k, none⟩ (.slice A' l.length c') b hn⟩ (fun b hb _ => by subst hb; exact not_typed (HD3.out.t_nb hi) rfl)
 have HN5 := Aside0.mk hn5
 clear hn5 hHeld hf4
 generalize w4.setCell ⟨G.nb i, k, none⟩ (.slice A' l.length c') = w5 at *
 obtain ⟨s1, s2, s3, s4⟩ := h5.out.wcells hi
 obtain ⟨An, cn, hnv, _, hCn⟩ := Kd.R_reads HN5.out
 subst hnv
 have HR := Lib.hid (read_any (G.wb i) (G.lb i) (st.ledOf i) An cn n w5 s2 (h5.out.led i hi) hCn)
 clear s1 s2 s3 s4 hCn
 go_wp2_with fail
 refine HR.out.mono ?_
 rintro e w6 ⟨rfl, hg6, hL6⟩
 have h6 := Aside0.mk (h5.out.set_led hi hg6 hL6)
 clear hg6 hL6 HR
 obtain ⟨A6, c6, hC6, hc6, hr6, _, k1, _, _, _, kf⟩ := h6.out.cells
 have kf1 := kf 1
 have HR6 := Lib.hid (And.intro hC6 (And.intro hc6 hr6))
 have k1 : w6.cell? ⟨G.rb, 1, none⟩ = some (.int .i64 st.nts) := k1
 clear kf hC6 hc6 hr6
 go_wp2_with fail
 go_end0
 have hg7 : w6.grownBy (w6.setCell ⟨G.rb, 1, none⟩ (.int .i64 (wrap64 (st.nts + 1)))) (some G.rb) := setCells_grown G.rb [_] 1 w6
 have hb7 : (w6.setCell ⟨G.rb, 1, none⟩ (.int .i64 (wrap64 (st.nts + 1)))).heap[G.rb]? = some (.cells (runCells st.works (w64 (st.nts + 1)) st.sent G.gb (.slice (some ⟨G.wa, 0, none⟩) W G.wc) (.slice A6 st.script.length c6)) 92 (0, 0)) := blk_put HR6.out.2.2 1 _ (by rw [w64_eq]; rfl)
 have h7 := h6.out.set_run hg7 hb7 HR6.out.1 HR6.out.2.1
 have e : takeS st i k = { { { st with notes := putQ st.notes i k l } with led := st.led.set i (readL (st.ledOf i) n) } with works := st.works, nts := w64 (st.nts + 1), sent := st.sent, script := st.script } := by
  simp only [takeS, HQ.out]; rfl
 exact ⟨rfl, by rw [e]; exact ⟨_, h7.relim⟩⟩
end Go.Proofs.YtbkfnmgkcgnifaaGreat
namespace Go.Proofs.YtbkfnmgkcgnifaaGreat
open Go.RowKit Go.Shelf Go.Proofs.YtbkfnmgkcgnifaaGreatW.PrintWords Go.Proofs.YtbkfnmgkcgnifaaGreatW.PrintLast Mdl Go.ChangeMaps
namespace Mdl
theorem numP_range (script : List Int) {many : Int} (h : 1 ≤ many) : 0 ≤ numP script many ∧ numP script many < many := by
 unfold numP
 cases script with
 | nil => simp; omega
 | cons s r =>
  have h1 := Int.tmod_lt_of_pos s (show 0 < many by omega)
  have h2 := Int.lt_tmod_of_pos s (show 0 < many by omega)
  simp only
  split <;> omega
def stW (st : St) (s : WS) : St := { st with has := s.has, script := s.script, sent := s.sent }
theorem edgeW_no {W : Nat} {m : Mk} {s : WS} {e : Ed} (h : e.1 ≠ m.1) : edgeW W m s e = s := by unfold edgeW; rw [if_neg h]
theorem edgeW_zero {W : Nat} {m : Mk} {s : WS} {e : Ed} (h : e.1 = m.1) (h0 : numP s.script ((W : Int) + 1) = 0) : edgeW W m s e = { s with script := s.script.tail } := by unfold edgeW; rw [if_pos h, if_pos h0]
theorem edgeW_sent {W : Nat} {m : Mk} {s : WS} {e : Ed} {j : Nat} (h : e.1 = m.1) (h0 : numP s.script ((W : Int) + 1) = (j : Int) + 1) :
  edgeW W m s e = { has := s.has.set j (enterL (s.has.getD j []) (e.2.1, plusT m.2 (tmOf e.2.2)) 1), script := s.script.tail, sent := w64 (s.sent + 1), note := s.note ++ [((e.2.1, plusT m.2 (tmOf e.2.2)), 1)] } := by
 unfold edgeW
 rw [if_pos h, if_neg (by omega), show (numP s.script ((W : Int) + 1) - 1).toNat = j by omega]
theorem edgeW_note {W : Nat} {m : Mk} {s : WS} {e : Ed} : (edgeW W m s e).note.length ≤ s.note.length + 1 := by
 unfold edgeW
 split
 ·split
  ·simp
  ·simp
 ·simp
theorem foldl_note {W : Nat} {m : Mk} : ∀ (E : List Ed) (s : WS), (E.foldl (edgeW W m) s).note.length ≤ s.note.length + E.length
 | [], s => by simp
 | e :: E, s => by
  have h1 := foldl_note (W := W) (m := m) E (edgeW W m s e)
  have h2 := edgeW_note (W := W) (m := m) (s := s) (e := e)
  rw [List.foldl_cons, List.length_cons]; omega
def qOf (ns : List (List (List Note))) (a b : Nat) : List Note := (ns.getD a []).getD b []
theorem getD_set_le {α : Type} (l : List α) (i j : Nat) (x d : α) : (l.set i x).getD j d = x ∨ (l.set i x).getD j d = l.getD j d := by
 by_cases h : i = j
 ·subst h
  by_cases hl : i < l.length
  ·left; rw [List.getD_eq_getElem?_getD, List.getElem?_set_self hl]; rfl
  ·right; rw [List.set_eq_of_length_le (by omega)]
 ·right; rw [List.getD_eq_getElem?_getD, List.getElem?_set_ne h, ← List.getD_eq_getElem?_getD]
theorem pushStep_len (i : Nat) (note : Note) (ns : List (List (List Note))) (j a b : Nat) : (qOf (pushStep i note ns j) a b).length ≤ (qOf ns a b).length + 1 := by
 unfold pushStep
 split
 ·omega
 ·unfold qOf putQ
  by_cases h : j = a
  ·subst h
   rcases getD_set_le ns j j (((ns.getD j []).set i ((ns.getD j []).getD i [] ++ [note]))) [] with h1 | h1
   ·rw [h1]
    by_cases h2 : i = b
    ·subst h2
     rcases getD_set_le (ns.getD j []) i i ((ns.getD j []).getD i [] ++ [note]) [] with h3 | h3 <;> rw [h3] <;> simp
    ·rw [List.getD_eq_getElem?_getD, List.getElem?_set_ne h2, ← List.getD_eq_getElem?_getD]; omega
   ·rw [h1]; omega
  ·rw [List.getD_eq_getElem?_getD (l := ns.set _ _), List.getElem?_set_ne h, ← List.getD_eq_getElem?_getD]; omega
theorem push_len (i : Nat) (note : Note) (ns : List (List (List Note))) (a b : Nat) : ∀ j : Nat, (qOf ((List.range j).foldl (pushStep i note) ns) a b).length ≤ (qOf ns a b).length + j
 | 0 => Nat.le_refl _
 | j + 1 => by
  rw [List.range_succ, List.foldl_append]
  have h1 := push_len i note ns a b j
  have h2 := pushStep_len i note ((List.range j).foldl (pushStep i note) ns) j a b
  simp only [List.foldl_cons, List.foldl_nil]
  omega
end Mdl
theorem append_step {P : Program} {ops : Array Oper} {Q : Exit → Act → World → Prop} {oi : Oper} {N : Option Tmp} {a : Act} {w w1 : World} {r : Value} {K : Act → World → Prop} (hw : Region.wanted oi (yielded ops a.tmps) = true) (hN : oi.dst = N) (s x : Operand) (t : TypeId)
  (hop : oi.op = .call { callee := .builtin .append, args := #[s, x], argTypes := #[t, t] }) (v u : Value) (hs : a.eval s = v) (hx : a.eval x = u) (hrun : (Builtin.append_ #[t, t] oi.type #[v, u]).run P w = .ok r w1) (h : K (a.put N r) w1) : if Region.wanted oi (yielded ops a.tmps) = true then Oper.wp P oi a w K Q else K (a.put N undef) w := by
 refine value_ hw hN ?_ h
 unfold execOp
 simp only [hop, resolve, invoke, builtin, Sem.run_bind, Sem.run_pure, Result.andThen_ok, List.map_toArray, List.map_cons, List.map_nil, hs, hx, hrun]
theorem Tryz.infoEntry : (Tryz.prog.info? 213).map (fun i => (i.zero, i.size, i.bytes)) = some (some (.agg #[.int .i64 0, .int .i64 0, .int .i64 0, .int .i64 0, .int .i64 0]), 5, 40) := by kernel_rfl
def BoxW (w : World) (bt i : Nat) (m : Mk) : Prop := w.heap[bt]? = some (.cells #[.int .i64 i, .int .i64 m.1, .int .i64 m.2.1, .int .i64 m.2.2.1, .int .i64 m.2.2.2] 179 (0, 0))
theorem BoxW.cells {w : World} {bt i : Nat} {m : Mk} (h : BoxW w bt i m) : w.cell? ⟨bt, 0, none⟩ = some (.int .i64 i) ∧ w.cell? ⟨bt, 1, none⟩ = some (.int .i64 m.1) ∧ w.cell? ⟨bt, 2, none⟩ = some (.int .i64 m.2.1) ∧ w.cell? ⟨bt, 3, none⟩ = some (.int .i64 m.2.2.1) ∧ w.cell? ⟨bt, 4, none⟩ = some (.int .i64 m.2.2.2) :=
 ⟨(blk_cell h 0).trans rfl, (blk_cell h 1).trans rfl, (blk_cell h 2).trans rfl, (blk_cell h 3).trans rfl, (blk_cell h 4).trans rfl⟩
theorem BoxW.below {w w' : World} {bt i : Nat} {m : Mk} (h : BoxW w bt i m) (hb : Below w.heap.size w w') : BoxW w' bt i m := blk_below h hb
theorem BoxW.grown {w w' : World} {bt i : Nat} {m : Mk} {row : Option Nat} (h : BoxW w bt i m) (hg : w.grownBy w' row) (hr : ∀ k, row = some k → ¬ Typed w k 179) : BoxW w' bt i m := blk_grown h hg (fun he => hr bt he.symm ⟨_, h⟩)
set_option maxRecDepth 8000 in
set_option maxHeartbeats 8000000 in
theorem workMake_any (w0 : World) (G : RG) (W : Nat) (st : St) (i : Nat) (m : Mk) (N Wd : Int) (E : List Ed) (ways : Ways) (w : World) (h : RunOk w0 G W st w) (hG : GraphAt w0 G.gb N Wd E ways) (hi : i < W) (hW : W ≤ 4) (h16 : E.length ≤ 16) (hql : ∀ j k, (st.queue j k).length ≤ 1000000000) :
  Calls Tryz.prog 144 #[.agg #[.int .i64 i, .int .i64 m.1, .int .i64 m.2.1, .int .i64 m.2.2.1, .int .i64 m.2.2.2], .pointer (some ⟨G.rb, 0, none⟩)] w fun e w' => e = .returned (.tuple #[]) ∧ RunOk w0 G W (workS E W st i m) w' := by
 obtain ⟨q, h⟩ := h
 obtain ⟨lim, hlim⟩ : ∃ lim, lim = w.heap.size := ⟨_, rfl⟩
 rw [← hlim] at h
 have HLW := Lib.hid (show w0.heap.size ≤ lim from by rw [hlim]; exact h.below.size)
 have hi0 : (0 : Int) ≤ i := by omega
 have hiW : (i : Int) < W := by omega
 have hb1 := below_new w (.cells #[.int .i64 i, .int .i64 m.1, .int .i64 m.2.1, .int .i64 m.2.2.1, .int .i64 m.2.2.2] 179)
 have hX : BoxW (w.alloc (.cells #[.int .i64 i, .int .i64 m.1, .int .i64 m.2.1, .int .i64 m.2.2.1, .int .i64 m.2.2.2] 179)) w.heap.size i m := heap_alloc_new w _
 have H1 := Aside0.mk (And.intro (h.to_below hb1) hX)
 have HZ1 := Lib.hid (show (w.alloc (.cells #[.int .i64 i, .int .i64 m.1, .int .i64 m.2.1, .int .i64 m.2.2.1, .int .i64 m.2.2.2] 179)).heap.size = lim + 1 by simp [hlim])
 rw [← hlim] at H1
 have HG := Aside0.mk hG
 clear h hb1 hG hX
 go_enter Tryz.func144, Tryz.ntmps144
 go_upto_region 1 with fail
 rw [← hlim]
 clear hlim
 generalize w.alloc (.cells #[.int .i64 i, .int .i64 m.1, .int .i64 m.2.1, .int .i64 m.2.2.1, .int .i64 m.2.2.2] 179) = w1 at *
 obtain ⟨A, c, _, _, _, _, _, _, _, r4, _⟩ := H1.out.1.cells
 obtain ⟨s1, s2, s3, s4⟩ := H1.out.1.wcells hi
 obtain ⟨t0, t1, t2, t3, t4⟩ := H1.out.2.cells
 refine start_ (n := 9) (S := fun w' => w'.cell? ⟨lim, 0, none⟩ = some (.int .i64 i) ∧ w'.cell? ⟨lim, 1, none⟩ = some (.int .i64 m.1) ∧ w'.cell? ⟨lim, 2, none⟩ = some (.int .i64 m.2.1) ∧ w'.cell? ⟨lim, 3, none⟩ = some (.int .i64 m.2.2.1) ∧ w'.cell? ⟨lim, 4, none⟩ = some (.int .i64 m.2.2.2) ∧ w'.cell? ⟨G.rb, 4, none⟩ = some (.slice (some ⟨G.wa, 0, none⟩) W G.wc) ∧ w'.cell? ⟨G.wa, i, none⟩ = some (.pointer (some ⟨G.wb i, 0, none⟩)) ∧ w'.cell? ⟨G.wb i, 1, none⟩ = some (.map (some (G.hb i)))) (ds := []) (bs 9 0) (by kernel_rfl) rfl (by kernel_rfl) ⟨t0, t1, t2, t3, t4, r4, s1, s3⟩ (fun hHeld => ?_)
 have H2 := Aside0.mk (And.intro H1.out.1.drew (show BoxW w1.drew lim i m from H1.out.2))
 have HZ2 := Lib.hid (show w1.drew.heap.size = lim + 1 from HZ1.out)
 clear t0 t1 t2 t3 t4 r4 s1 s2 s3 s4
 generalize w1.drew = w2 at *
 refine pu 0 12 (bs 9 1) ?_
 refine pu 1 13 (bs 9 3) ?_
 refine pu 2 14 (bs 9 7) ?_
 refine tk8 3 15 (bs 9 15) hHeld ?_
 refine pu 4 16 (bs 9 31) ?_
 refine tk8 5 17 (bs 9 63) hHeld ?_
 refine pu 6 18 (bs 9 127) ?_
 refine tk8 7 19 (bs 9 255) hHeld ?_
 refine pu 8 4 (bs 9 511) ?_
 refine dn0 ?_
 have hH := Lib.hid hHeld
 clear hHeld H1 HZ1
 go_upto_region 2 with fail
 refine start_ (n := 7) (S := fun w' => w'.cell? ⟨lim, 0, none⟩ = some (.int .i64 i) ∧ w'.cell? ⟨lim, 1, none⟩ = some (.int .i64 m.1) ∧ w'.cell? ⟨lim, 2, none⟩ = some (.int .i64 m.2.1) ∧ w'.cell? ⟨lim, 3, none⟩ = some (.int .i64 m.2.2.1) ∧ w'.cell? ⟨lim, 4, none⟩ = some (.int .i64 m.2.2.2) ∧ w'.cell? ⟨G.rb, 4, none⟩ = some (.slice (some ⟨G.wa, 0, none⟩) W G.wc) ∧ w'.cell? ⟨G.wa, i, none⟩ = some (.pointer (some ⟨G.wb i, 0, none⟩)) ∧ w'.cell? ⟨G.wb i, 1, none⟩ = some (.map (some (G.hb i)))) (ds := [6]) (bs 7 0) (by kernel_rfl) rfl (by kernel_rfl) hH.out (fun hHeld => ?_)
 have H3 := Aside0.mk (And.intro H2.out.1.drew (show BoxW w2.drew lim i m from H2.out.2))
 have HZ3 := Lib.hid (show w2.drew.heap.size = lim + 1 from HZ2.out)
 generalize w2.drew = w3 at *
 refine pu 0 20 (bs 7 1) ?_
 refine pu 1 21 (bs 7 3) ?_
 refine pu 2 22 (bs 7 7) ?_
 refine tk8 3 23 (bs 7 15) hHeld ?_
 refine pu 4 24 (bs 7 31) ?_
 refine tk8 5 25 (bs 7 63) hHeld ?_
 refine la0 6 (bs 7 127) (N := (some 26)) fun K hK => ?_
 refine gs0 Tryz.func46 #[.agg #[.map (some (G.hb i))], .agg #[.int .i64 m.1, .int .i64 m.2.1, .int .i64 m.2.2.1, .int .i64 m.2.2.2], .int .i64 (-1)] ?_
 have EN := enter_any (G.hb i) (st.hasOf i) m (-1) w3 (H3.out.1.has i hi)
 simp only [mkV] at EN
 refine EN.mono ?_
 clear EN
 rintro e w4 ⟨rfl, hg4, hL4⟩
 refine ⟨_, rfl, hK.out _ _ ?_⟩
 clear hK K
 refine dn0 ?_
 have H4 := Aside0.mk (And.intro (H3.out.1.set_has hi hg4 hL4) (H3.out.2.grown hg4 (fun k hk => by injection hk with hk; subst hk; exact (H3.out.1.has i hi).not_typed)))
 have HZ4 := Lib.hid (show lim + 1 ≤ w4.heap.size by have := hg4.size; have := HZ3.out; omega)
 clear hg4 hL4 hHeld hH H2 HZ2 H3 HZ3
 obtain ⟨t0, t1, t2, t3, t4⟩ := H4.out.2.cells
 go_upto_region 4 with fail
 have hb5 := below_new w4 (.cells #[.int .i64 m.1, .int .i64 m.2.1, .int .i64 m.2.2.1, .int .i64 m.2.2.2, .int .i64 (-1)] 213)
 have hn5 : kEn.R 213 (w4.alloc (.cells #[.int .i64 m.1, .int .i64 m.2.1, .int .i64 m.2.2.1, .int .i64 m.2.2.2, .int .i64 (-1)] 213)) (lim + 1) (fun _ => True) (.slice (some ⟨w4.heap.size, 0, none⟩) 1 1) [(m, -1)] := by
  refine ⟨fun _ _ => trivial, [.int .i64 m.1, .int .i64 m.2.1, .int .i64 m.2.2.1, .int .i64 m.2.2.2, .int .i64 (-1)], ⟨rfl, .inr ⟨w4.heap.size, 1, _, rfl, HZ4.out, heap_alloc_new w4 _, Nat.le_refl _, by decide, rfl, rfl⟩⟩, ⟨rfl, fun j p hj => ?_⟩⟩
  cases j with
  | zero =>
   have hj : (m, (-1 : Int)) = p := by simpa using hj
   subst hj
   exact kEn_M (m, -1)
  | succ j => simp at hj
 have H5 := Aside0.mk (And.intro (H4.out.1.to_below hb5) (And.intro (H4.out.2.below hb5) hn5))
 clear t0 t1 t2 t3 t4 hb5 hn5
 obtain ⟨ws0, hws0⟩ : ∃ ws0 : WS, ws0 = ⟨st.has.set i (enterL (st.hasOf i) m (-1)), st.script, st.sent, [(m, -1)]⟩ := ⟨_, rfl⟩
 have HS0 := Lib.hid hws0
 have hz5 : lim + 1 ≤ (w4.alloc (.cells #[.int .i64 m.1, .int .i64 m.2.1, .int .i64 m.2.2.1, .int .i64 m.2.2.2, .int .i64 (-1)] 213)).heap.size := by have := HZ4.out; simp; omega
 have H6 := Aside0.mk (show RunAt w0 G W lim (stW st ws0) q (w4.alloc (.cells #[.int .i64 m.1, .int .i64 m.2.1, .int .i64 m.2.2.1, .int .i64 m.2.2.2, .int .i64 (-1)] 213)) ∧ BoxW (w4.alloc (.cells #[.int .i64 m.1, .int .i64 m.2.1, .int .i64 m.2.2.1, .int .i64 m.2.2.2, .int .i64 (-1)] 213)) lim i m ∧ kEn.R 213 (w4.alloc (.cells #[.int .i64 m.1, .int .i64 m.2.1, .int .i64 m.2.2.1, .int .i64 m.2.2.2, .int .i64 (-1)] 213)) (lim + 1) (fun _ => True) (.slice (some ⟨w4.heap.size, 0, none⟩) 1 1) ws0.note ∧ lim + 1 ≤ (w4.alloc (.cells #[.int .i64 m.1, .int .i64 m.2.1, .int .i64 m.2.2.1, .int .i64 m.2.2.2, .int .i64 (-1)] 213)).heap.size from
  ⟨by rw [hws0]; exact H5.out.1, H5.out.2.1, by rw [hws0]; exact H5.out.2.2, hz5⟩)
 have HL0 := Lib.hid (show ws0.note.length = 1 by rw [hws0]; rfl)
 clear hz5 H5 H4 HZ4 hws0
 generalize w4.alloc (.cells #[.int .i64 m.1, .int .i64 m.2.1, .int .i64 m.2.2.1, .int .i64 m.2.2.2, .int .i64 (-1)] 213) = w5 at *
 generalize w4.heap.size = nb0 at *
 obtain ⟨_, _, _, _, _, _, _, _, r3, _, _⟩ := H6.out.1.cells
 obtain ⟨eA, eC, hg2, hE⟩ := HG.out.c2
 have hg2' := pw_cell_below H6.out.1.below hg2
 have HE := Aside0.mk hE
 have hEm := Kd.C_max hE
 clear hE hg2
 go_wp2_with fail
 clear r3 hg2'
 go_loopw [5, 40] (fun v ix wr => ∃ k : Nat, k ≤ E.length ∧ ix = .int .i64 k ∧ Aside0 (RunAt w0 G W lim (stW st ((E.take k).foldl (edgeW W m) ws0)) q wr ∧ BoxW wr lim i m ∧ kEn.R 213 wr (lim + 1) (fun _ => True) v ((E.take k).foldl (edgeW W m) ws0).note ∧ lim + 1 ≤ wr.heap.size)) (fun _ ix _ => E.length - (intOf ix).toNat)
 case atStart => exact ⟨0, Nat.zero_le _, rfl, H6⟩
 case round =>
  clear H6
  obtain ⟨k, hk, rfl, hX⟩ := hrel
  by_cases hlt : k < E.length
  ·obtain ⟨ad, sA, sC, rfl, he0, he1, he2, heL, heC⟩ := at_edge HE.out hlt
   replace he0 := pw_cell_below hX.out.1.below he0
   replace he1 := pw_cell_below hX.out.1.below he1
   replace he2 := pw_cell_below hX.out.1.below he2
   have HEL := Aside0.mk heL
   have hkE : (k : Int) < E.length := by omega
   have hk0 : (0 : Int) ≤ k := by omega
   have hnl : ((E.take k).foldl (edgeW W m) ws0).note.length ≤ 20 := by
    have h1 := foldl_note (W := W) (m := m) (E.take k) ws0
    have h2 := HL0.out
    rw [List.length_take] at h1
    omega
   have HST := Lib.hid (foldl_take_succ (edgeW W m) ws0 E hlt)
   have HNL := Lib.hid hnl
   generalize (E.take k).foldl (edgeW W m) ws0 = sk at *
   generalize E[k] = ee at *
   clear hnl
   go_upto_region 7 with fail
   have bE := below_new wr (.cells #[.int .i64 ee.1, .int .i64 ee.2.1, .slice sA ee.2.2.length sC] 129)
   have hsz : (wr.alloc (.cells #[.int .i64 ee.1, .int .i64 ee.2.1, .slice sA ee.2.2.length sC] 129)).heap.size = wr.heap.size + 1 := by simp
   have e0 : (wr.alloc (.cells #[.int .i64 ee.1, .int .i64 ee.2.1, .slice sA ee.2.2.length sC] 129)).cell? ⟨wr.heap.size, 0, none⟩ = some (.int .i64 ee.1) := new_cell wr _ _ 0
   have e1 : (wr.alloc (.cells #[.int .i64 ee.1, .int .i64 ee.2.1, .slice sA ee.2.2.length sC] 129)).cell? ⟨wr.heap.size, 1, none⟩ = some (.int .i64 ee.2.1) := new_cell wr _ _ 1
   have e2 : (wr.alloc (.cells #[.int .i64 ee.1, .int .i64 ee.2.1, .slice sA ee.2.2.length sC] 129)).cell? ⟨wr.heap.size, 2, none⟩ = some (.slice sA ee.2.2.length sC) := new_cell wr _ _ 2
   have hT : Typed (wr.alloc (.cells #[.int .i64 ee.1, .int .i64 ee.2.1, .slice sA ee.2.2.length sC] 129)) wr.heap.size 129 := ⟨_, heap_alloc_new wr _⟩
   have HX := Aside0.mk (And.intro (hX.out.1.to_below bE) (And.intro (hX.out.2.1.below bE) (And.intro (Kd.R_below hX.out.2.2.1 bE) (show lim + 1 ≤ (wr.alloc (.cells #[.int .i64 ee.1, .int .i64 ee.2.1, .slice sA ee.2.2.length sC] 129)).heap.size by have := hX.out.2.2.2; omega))))
   clear heL bE hsz he0 he1 he2 hX
   generalize wr.alloc (.cells #[.int .i64 ee.1, .int .i64 ee.2.1, .slice sA ee.2.2.length sC] 129) = wq at *
   generalize wr.heap.size = be at *
   obtain ⟨t0, t1, t2, t3, t4⟩ := HX.out.2.1.cells
   by_cases hne : ee.1 = m.1
   ·have hneb : (ee.1 != m.1) = false := by simpa using hne
    have HNE := Lib.hid hne
    clear hne
    obtain ⟨A8, c8, hC8, hc8, hr8, _, _, _, r3, r4, _⟩ := HX.out.1.cells
    have HN := Lib.hid (number_any G.rb _ _ _ G.gb _ A8 c8 sk.script ((W : Int) + 1) w0 wq HX.out.1.below (by omega) (by omega) hr8 hC8 hc8)
    have HRG := Lib.hid (numP_range sk.script (show (1 : Int) ≤ (W : Int) + 1 by omega))
    have HE2 := Lib.hid (And.intro e1 (And.intro e2 hT))
    clear hC8 hc8 hr8 r3 e1 e2 hT
    go_wp2_with fail
    refine HN.out.mono ?_
    rintro e w8 ⟨rfl, A9, c9, hr9, hg9, hz9, hC9, hc9⟩
    have h9 := HX.out.1.set_run hg9 hr9 hC9 hc9
    have hne9 : ∀ {b : Nat} {t : TypeId}, Typed wq b t → (92 == t) = false → some b ≠ some G.rb := fun ht h1 he => by injection he with he; subst he; exact not_typed HX.out.1.t_rb h1 ht
    have H9 := Aside0.mk (And.intro h9 (And.intro (HX.out.2.1.grown hg9 (fun k hk => by injection hk with hk; subst hk; exact not_typed HX.out.1.t_rb rfl)) (And.intro (Kd.R_mono (Kd.R_grown (Kd.R_bound HX.out.2.2.1) hg9 (fun k hk => by
      obtain ⟨_, _, _, qq, hq, hcc⟩ := hk
      have hq : qq = 213 := by simpa [show kEn.E = [] from rfl] using hq
      subst hq
      exact hne9 hcc rfl)) (fun _ _ => trivial)) (show lim + 1 ≤ w8.heap.size by rw [hz9]; exact HX.out.2.2.2))))
    have E9 := Lib.hid (And.intro (cell_grown hg9 HE2.out.1 (hne9 HE2.out.2.2 rfl)) (cell_grown hg9 HE2.out.2.1 (hne9 HE2.out.2.2 rfl)))
    clear hr9 hg9 hz9 hC9 hc9 h9 hne9 HE2 HN r4 t0 t1 t2 t3 t4 HX e0
    by_cases hz : numP sk.script ((W : Int) + 1) = 0
    ·have HST2 := Lib.hid (HST.out.trans (edgeW_zero HNE.out hz))
     rw [hz]
     clear hz
     go_wp2_with fail
     exact ⟨⟨k + 1, by omega, by go_num, by rw [HST2.out]; exact H9⟩, by simp [intOf]; omega⟩
    ·obtain ⟨j, hj⟩ : ∃ j : Nat, numP sk.script ((W : Int) + 1) = (j : Int) + 1 := ⟨(numP sk.script ((W : Int) + 1) - 1).toNat, by have := HRG.out; omega⟩
     have hjW : j < W := by have := HRG.out; omega
     have HST2 := Lib.hid (HST.out.trans (edgeW_sent HNE.out hj))
     rw [hj]
     have hjb : ((j : Int) + 1 == 0) = false := by simp; omega
     have hj0 : (0 : Int) ≤ j := by omega
     have hjWI : (j : Int) < W := by omega
     clear hz hj
     obtain ⟨t0, t1, t2, t3, t4⟩ := H9.out.2.1.cells
     obtain ⟨f1, f2⟩ := E9.out
     go_upto_region 10 with fail
     have PL := fun w => Lib.hid (plus_any m.2 (tmOf ee.2.2) w)
     have TI := fun w h => Lib.hid (timed_any sA sC ee.2.2 w h)
     simp only [tmV] at PL TI
     have HD := Aside0.mk (below_drew1 (Below.refl w8.heap.size w8))
     refine start_ (n := 12) (S := fun w' => w'.cell? ⟨be, 1, none⟩ = some (.int .i64 ee.2.1) ∧ w'.cell? ⟨be, 2, none⟩ = some (.slice sA ee.2.2.length sC) ∧ w'.cell? ⟨lim, 2, none⟩ = some (.int .i64 m.2.1) ∧ w'.cell? ⟨lim, 3, none⟩ = some (.int .i64 m.2.2.1) ∧ w'.cell? ⟨lim, 4, none⟩ = some (.int .i64 m.2.2.2)) (ds := [11]) (bs 12 0) (by kernel_rfl) rfl (by kernel_rfl) ⟨f1, f2, t2, t3, t4⟩ (fun hHeld => ?_)
     have HS : ∀ V, Below w8.heap.size w8 V → V.cell? ⟨be, 1, none⟩ = some (.int .i64 ee.2.1) ∧ V.cell? ⟨be, 2, none⟩ = some (.slice sA ee.2.2.length sC) ∧ V.cell? ⟨lim, 2, none⟩ = some (.int .i64 m.2.1) ∧ V.cell? ⟨lim, 3, none⟩ = some (.int .i64 m.2.2.1) ∧ V.cell? ⟨lim, 4, none⟩ = some (.int .i64 m.2.2.2) := fun V hb => ⟨pw_cell_below hb f1, pw_cell_below hb f2, pw_cell_below hb t2, pw_cell_below hb t3, pw_cell_below hb t4⟩
     have HSH := Lib.hid HS
     clear HS
     generalize w8.drew = wd at *
     refine pu 0 60 (bs 12 1) ?_
     refine tk5 1 61 (bs 12 3) hHeld ?_
     refine pu 2 62 (bs 12 7) ?_
     refine pu 3 63 (bs 12 15) ?_
     refine tk5 4 64 (bs 12 31) hHeld ?_
     refine pu 5 65 (bs 12 63) ?_
     refine tk5 6 66 (bs 12 127) hHeld ?_
     refine join_ 1 #[true, true, true, true, true, true, true, true, true, true, true, false] (fun g : Nat => [(67, .agg #[.int .i64 (tmOf ee.2.2).1, .int .i64 (tmOf ee.2.2).2.1, .int .i64 (tmOf ee.2.2).2.2]), (68, .agg #[.int .i64 (plusT m.2 (tmOf ee.2.2)).1, .int .i64 (plusT m.2 (tmOf ee.2.2)).2.1, .int .i64 (plusT m.2 (tmOf ee.2.2)).2.2]), (69, .agg #[.int .i64 ee.2.1, .int .i64 (plusT m.2 (tmOf ee.2.2)).1, .int .i64 (plusT m.2 (tmOf ee.2.2)).2.1, .int .i64 (plusT m.2 (tmOf ee.2.2)).2.2]), (9, .pointer (some ⟨g, 0, none⟩))]) (fun g w' => Below w8.heap.size w8 w' ∧ w'.heap[g]? = some (.cells #[.int .i64 0, .int .i64 0, .int .i64 0, .int .i64 0] 101) ∧ w8.heap.size ≤ g) ?_ ?_
     ·rintro g w' ⟨hbw, hbk, hge⟩
      have z0 := (blk_cell hbk 0).trans rfl
      have z1 := (blk_cell hbk 1).trans rfl
      have z2 := (blk_cell hbk 2).trans rfl
      have z3 := (blk_cell hbk 3).trans rfl
      have y0 := blk_frozen hbk 0
      have y1 := blk_frozen hbk 1
      have y2 := blk_frozen hbk 2
      have y3 := blk_frozen hbk 3
      refine norm_ (a' := ?_) ?_ ?_
      rotate_left
      ·show putAll _ _ = _
       simp only [putAll, Act.put, List.setIfInBounds_toArray, List.set_cons_zero, List.set_cons_succ]
       rfl
      refine la0 11 (bs 12 4095) (N := none) fun K hK => ?_
      refine sk0 ?_
      refine hK.out _ _ ?_
      clear hK K
      refine dn0 ?_
      obtain ⟨mk, hmk⟩ : ∃ mk : Mk, mk = (ee.2.1, plusT m.2 (tmOf ee.2.2)) := ⟨_, rfl⟩
      have hbm : ((((w'.setCell ⟨g, 0, none⟩ (.int .i64 ee.2.1)).setCell ⟨g, 1, none⟩ (.int .i64 (plusT m.2 (tmOf ee.2.2)).1)).setCell ⟨g, 2, none⟩ (.int .i64 (plusT m.2 (tmOf ee.2.2)).2.1)).setCell ⟨g, 3, none⟩ (.int .i64 (plusT m.2 (tmOf ee.2.2)).2.2)).heap[g]? = some (.cells #[.int .i64 mk.1, .int .i64 mk.2.1, .int .i64 mk.2.2.1, .int .i64 mk.2.2.2] 101 (0, 0)) := by
       rw [hmk]
       exact blk_put (blk_put (blk_put (blk_put hbk 0 _ rfl) 1 _ rfl) 2 _ rfl) 3 _ rfl
      have hB : Below w8.heap.size w8 ((((w'.setCell ⟨g, 0, none⟩ (.int .i64 ee.2.1)).setCell ⟨g, 1, none⟩ (.int .i64 (plusT m.2 (tmOf ee.2.2)).1)).setCell ⟨g, 2, none⟩ (.int .i64 (plusT m.2 (tmOf ee.2.2)).2.1)).setCell ⟨g, 3, none⟩ (.int .i64 (plusT m.2 (tmOf ee.2.2)).2.2)) := (((hbw.setCell hge _).setCell hge _).setCell hge _).setCell hge _
      have H10 := Aside0.mk (And.intro (H9.out.1.to_below hB) (And.intro (H9.out.2.1.below hB) (And.intro (Kd.R_below H9.out.2.2.1 hB) (And.intro (show lim + 1 ≤ ((((w'.setCell ⟨g, 0, none⟩ (.int .i64 ee.2.1)).setCell ⟨g, 1, none⟩ (.int .i64 (plusT m.2 (tmOf ee.2.2)).1)).setCell ⟨g, 2, none⟩ (.int .i64 (plusT m.2 (tmOf ee.2.2)).2.1)).setCell ⟨g, 3, none⟩ (.int .i64 (plusT m.2 (tmOf ee.2.2)).2.2)).heap.size by have := hB.size; have := H9.out.2.2.2; omega) hbm))))
      clear hB hbm hbw hbk hge z0 z1 z2 z3 y0 y1 y2 y3 hHeld
      generalize ((((w'.setCell ⟨g, 0, none⟩ (.int .i64 ee.2.1)).setCell ⟨g, 1, none⟩ (.int .i64 (plusT m.2 (tmOf ee.2.2)).1)).setCell ⟨g, 2, none⟩ (.int .i64 (plusT m.2 (tmOf ee.2.2)).2.1)).setCell ⟨g, 3, none⟩ (.int .i64 (plusT m.2 (tmOf ee.2.2)).2.2)) = wA at *
      have HMK := Lib.hid hmk
      clear hmk H9 E9 HD HSH PL TI t0 t1 t2 t3 t4 f1 f2
      have hcA := H10.out.1.cells
      obtain ⟨_, _, _, _, _, _, _, _, _, r4, _⟩ := hcA
      obtain ⟨s1, _, s3, _⟩ := H10.out.1.wcells hjW
      have hbm := H10.out.2.2.2.2
      have m0 : wA.cell? ⟨g, 0, none⟩ = some (.int .i64 mk.1) := (blk_cell hbm 0).trans rfl
      have m1 : wA.cell? ⟨g, 1, none⟩ = some (.int .i64 mk.2.1) := (blk_cell hbm 1).trans rfl
      have m2 : wA.cell? ⟨g, 2, none⟩ = some (.int .i64 mk.2.2.1) := (blk_cell hbm 2).trans rfl
      have m3 : wA.cell? ⟨g, 3, none⟩ = some (.int .i64 mk.2.2.2) := (blk_cell hbm 3).trans rfl
      have wj : IntKind.i64.wrap ((j : Int) + 1 - 1) = (j : Int) := by rw [IntKind.wrap_i64]; omega
      have wj2 : IntKind.i64.wrap (j : Int) = (j : Int) := by rw [IntKind.wrap_i64]; omega
      clear hbm
      go_upto_region 11 with fail
      refine start_ (n := 13) (S := fun w' => w'.cell? ⟨G.rb, 4, none⟩ = some (.slice (some ⟨G.wa, 0, none⟩) W G.wc) ∧ w'.cell? ⟨G.wa, j, none⟩ = some (.pointer (some ⟨G.wb j, 0, none⟩)) ∧ w'.cell? ⟨G.wb j, 1, none⟩ = some (.map (some (G.hb j))) ∧ w'.cell? ⟨g, 0, none⟩ = some (.int .i64 mk.1) ∧ w'.cell? ⟨g, 1, none⟩ = some (.int .i64 mk.2.1) ∧ w'.cell? ⟨g, 2, none⟩ = some (.int .i64 mk.2.2.1) ∧ w'.cell? ⟨g, 3, none⟩ = some (.int .i64 mk.2.2.2)) (ds := [12]) (bs 13 0) (by kernel_rfl) rfl (by kernel_rfl) ⟨r4, s1, s3, m0, m1, m2, m3⟩ (fun hHeld => ?_)
      have H11 := Aside0.mk (And.intro H10.out.1.drew (And.intro (show BoxW wA.drew lim i m from H10.out.2.1) (And.intro (Kd.R_drew H10.out.2.2.1) (And.intro (show lim + 1 ≤ wA.drew.heap.size from H10.out.2.2.2.1) (show wA.drew.heap[g]? = _ from H10.out.2.2.2.2)))))
      clear r4 s1 s3 m0 m1 m2 m3 H10
      generalize wA.drew = wB at *
      refine pu 0 70 (bs 13 1) ?_
      refine pu 1 71 (bs 13 3) ?_
      refine pu 2 72 (bs 13 7) ?_
      refine tk7 3 73 (bs 13 15) hHeld ?_
      refine pu 4 74 (bs 13 31) ?_
      refine pu 5 75 (bs 13 63) ?_
      refine pu 6 76 (bs 13 127) ?_
      refine tk7 7 77 (bs 13 255) hHeld ?_
      refine pu 8 78 (bs 13 511) ?_
      refine pu 9 79 (bs 13 1023) ?_
      refine tk7 10 80 (bs 13 2047) hHeld ?_
      refine tk7 11 81 (bs 13 4095) hHeld ?_
      refine la0 12 (bs 13 8191) (N := (some 82)) fun K hK => ?_
      refine gs0 Tryz.func46 #[.agg #[.map (some (G.hb j))], .agg #[.int .i64 mk.1, .int .i64 mk.2.1, .int .i64 mk.2.2.1, .int .i64 mk.2.2.2], .int .i64 1] ?_
      have EN := enter_any (G.hb j) (sk.has.getD j []) mk 1 wB (H11.out.1.has j hjW)
      simp only [mkV] at EN
      refine EN.mono ?_
      clear EN
      rintro e wC ⟨rfl, hgC, hLC⟩
      refine ⟨_, rfl, hK.out _ _ ?_⟩
      clear hK K
      refine dn0 ?_
      have nt : ∀ (t : TypeId) (k : Nat), some (G.hb j) = some k → ¬ Typed wB k t := fun t k hk => by injection hk with hk; subst hk; exact (H11.out.1.has j hjW).not_typed
      have H12 := Aside0.mk (And.intro (H11.out.1.set_has hjW hgC hLC) (And.intro (H11.out.2.1.grown hgC (nt _)) (And.intro (Kd.R_mono (Kd.R_grown (Kd.R_bound H11.out.2.2.1) hgC (fun k hk he => by
        obtain ⟨_, _, _, qq, hq, hcc⟩ := hk
        exact nt qq k he.symm hcc)) (fun _ _ => trivial)) (And.intro (show lim + 1 ≤ wC.heap.size by have := hgC.size; have := H11.out.2.2.2.1; omega) (blk_grown H11.out.2.2.2.2 hgC (fun he => nt 101 g he.symm ⟨_, H11.out.2.2.2.2⟩))))))
      clear hgC hLC nt H11 hHeld
      have hbm := H12.out.2.2.2.2
      have m0 : wC.cell? ⟨g, 0, none⟩ = some (.int .i64 mk.1) := (blk_cell hbm 0).trans rfl
      have m1 : wC.cell? ⟨g, 1, none⟩ = some (.int .i64 mk.2.1) := (blk_cell hbm 1).trans rfl
      have m2 : wC.cell? ⟨g, 2, none⟩ = some (.int .i64 mk.2.2.1) := (blk_cell hbm 2).trans rfl
      have m3 : wC.cell? ⟨g, 3, none⟩ = some (.int .i64 mk.2.2.2) := (blk_cell hbm 3).trans rfl
      have HRn := Aside0.mk H12.out.2.2.1
      have HZC := Lib.hid H12.out.2.2.2.1
      clear hbm
      go_upto_region 13 with (at_builtin; go_must (refine Kd.R_append kEn (w0 := wC) (lim + 1) rfl (.tmp 83) (.tmp 86) _ 213 _ 40 rfl Tryz.underlying214 Tryz.infoEntry rfl (by decide) (by decide) u5 sk.note (mk, 1) _ (fun _ => True) (fun _ => False) rfl rfl (kEn_M _) (fun _ h => h.elim) (fun _ _ => trivial) HRn.out (Below.refl _ _) HZC.out (by have := HNL.out; omega) ?_); intro v13 w13 hR13 hb13 hg13 hat13)
      have hown : ∀ k, u5.ownBlock = some k → lim + 1 ≤ k ∧ Typed wC k 213 := fun k hk => by
       obtain ⟨_, ho⟩ := Kd.R_own HRn.out
       exact ⟨Kd.R_base HRn.out k hk, own_typed ho k hk⟩
      have H13 := Aside0.mk (And.intro (H12.out.1.set_new hg13 (fun k hk => ⟨by have := (hown k hk).1; omega, by have := (hown k hk).1; have := HLW.out; omega, (hown k hk).2⟩)) (And.intro (H12.out.2.1.grown hg13 (fun k hk => not_typed (hown k hk).2 rfl)) (And.intro hR13 (show lim + 1 ≤ w13.heap.size by have := hg13.size; have := HZC.out; omega))))
      clear hR13 hb13 hg13 hat13 hown m0 m1 m2 m3 H12 HRn HZC
      obtain ⟨AD, cD, hCD, hcD, hrD, _, _, k2, _, _, kf⟩ := H13.out.1.cells
      have k2 : w13.cell? ⟨G.rb, 2, none⟩ = some (.int .i64 sk.sent) := k2
      have kf2 := kf 2
      have HD := Lib.hid (And.intro hCD (And.intro hcD hrD))
      clear hCD hcD hrD kf
      go_wp2_with fail
      have hg14 : w13.grownBy (w13.setCell ⟨G.rb, 2, none⟩ (.int .i64 (wrap64 (sk.sent + 1)))) (some G.rb) := setCells_grown G.rb [_] 2 w13
      have hb14 : (w13.setCell ⟨G.rb, 2, none⟩ (.int .i64 (wrap64 (sk.sent + 1)))).heap[G.rb]? = some (.cells (runCells st.works st.nts (w64 (sk.sent + 1)) G.gb (.slice (some ⟨G.wa, 0, none⟩) W G.wc) (.slice AD sk.script.tail.length cD)) 92 (0, 0)) := blk_put HD.out.2.2 2 _ (by rw [w64_eq]; rfl)
      have nr : ∀ (t : TypeId), (92 == t) = false → ∀ k, some G.rb = some k → ¬ Typed w13 k t := fun t ht k hk => by injection hk with hk; subst hk; exact not_typed H13.out.1.t_rb ht
      refine ⟨⟨k + 1, by omega, by go_num, ?_⟩, by simp [intOf]; omega⟩
      rw [HST2.out, ← HMK.out]
      exact ⟨H13.out.1.set_run hg14 hb14 HD.out.1 HD.out.2.1, H13.out.2.1.grown hg14 (nr _ rfl), Kd.R_mono (Kd.R_grown (Kd.R_bound H13.out.2.2.1) hg14 (fun k hk he => by
        obtain ⟨_, _, _, qq, hq, hcc⟩ := hk
        have hq : qq = 213 := by simpa [show kEn.E = [] from rfl] using hq
        subst hq
        exact nr _ rfl k he.symm hcc)) (fun _ _ => trivial), Nat.le_trans H13.out.2.2.2 hg14.size⟩
     ·intro hcont
      simp only [putAll, Act.put, List.setIfInBounds_toArray, List.set_cons_zero, List.set_cons_succ] at hcont
      have HCT := Lib.hid hcont
      clear hcont
      refine two_ (i := 7) (j := 10) (Ni := some 67) (Nj := some 9) #[true, true, true, true, true, true, true, true, false, false, false, false] #[true, true, true, true, true, true, true, false, false, false, true, false] rfl rfl rfl rfl (by kernel_rfl) (by decide) (by decide) (fun K hK => ?_) (fun K hK => ?_)
      ·refine gs0 Tryz.func64 #[.slice sA ee.2.2.length sC] ?_
       refine (TI _ (Kd.C_below HEL.out (below_then H9.out.1.below H9.out.1.below.size HD.out))).out.mono ?_
       rintro e w1 ⟨rfl, hb1⟩
       have hB1 := below_then HD.out HD.out.size hb1
       refine ⟨_, rfl, hK.out _ _ (HSH.out _ hB1) (fun hHeld => ?_)⟩
       clear hK K
       refine nm0 (some 67) ?_
       refine two_ (i := 8) (j := 10) (Ni := some 68) (Nj := some 9) #[true, true, true, true, true, true, true, true, true, false, false, false] #[true, true, true, true, true, true, true, true, false, false, true, false] rfl rfl rfl rfl (by kernel_rfl) (by decide) (by decide) (fun K hK => ?_) (fun K hK => ?_)
       ·refine gs0 Tryz.func75 #[.agg #[.int .i64 m.2.1, .int .i64 m.2.2.1, .int .i64 m.2.2.2], .agg #[.int .i64 (tmOf ee.2.2).1, .int .i64 (tmOf ee.2.2).2.1, .int .i64 (tmOf ee.2.2).2.2]] ?_
        refine (PL _).out.mono ?_
        rintro e w2 ⟨rfl, hb2⟩
        have hB2 := below_then hB1 hB1.size hb2
        refine ⟨_, rfl, hK.out _ _ (HSH.out _ hB2) (fun hHeld => ?_)⟩
        clear hK K
        refine nm0 (some 68) ?_
        refine pu 9 69 (bs 12 1023) ?_
        refine one_ (i := 10) (N := some 9) #[true, true, true, true, true, true, true, true, true, true, true, false] rfl rfl (by kernel_rfl) (by decide) (fun K hK => ?_)
        refine va0 ?_
        have hB3 := below_alloc hB2 (.cells #[.int .i64 0, .int .i64 0, .int .i64 0, .int .i64 0] 101)
        refine hK.out _ _ (HSH.out _ hB3) (fun hHeld => ?_)
        clear hK K
        refine nm0 (some 9) ?_
        exact HCT.out w2.heap.size _ ⟨hB3, heap_alloc_new w2 _, hB2.size⟩
       ·skip
        refine va0 ?_
        have hB2 := below_alloc hB1 (.cells #[.int .i64 0, .int .i64 0, .int .i64 0, .int .i64 0] 101)
        refine hK.out _ _ (HSH.out _ hB2) (fun hHeld => ?_)
        clear hK K
        refine nm0 (some 9) ?_
        refine one_ (i := 8) (N := some 68) #[true, true, true, true, true, true, true, true, true, false, true, false] rfl rfl (by kernel_rfl) (by decide) (fun K hK => ?_)
        refine gs0 Tryz.func75 #[.agg #[.int .i64 m.2.1, .int .i64 m.2.2.1, .int .i64 m.2.2.2], .agg #[.int .i64 (tmOf ee.2.2).1, .int .i64 (tmOf ee.2.2).2.1, .int .i64 (tmOf ee.2.2).2.2]] ?_
        refine (PL _).out.mono ?_
        rintro e w2 ⟨rfl, hb2⟩
        have hB3 := below_then hB2 hB2.size hb2
        refine ⟨_, rfl, hK.out _ _ (HSH.out _ hB3) (fun hHeld => ?_)⟩
        clear hK K
        refine nm0 (some 68) ?_
        refine pu 9 69 (bs 12 2047) ?_
        exact HCT.out w1.heap.size _ ⟨hB3, blk_below (heap_alloc_new w1 _) hb2, hB1.size⟩
      ·skip
       refine va0 ?_
       have hB1 := below_alloc HD.out (.cells #[.int .i64 0, .int .i64 0, .int .i64 0, .int .i64 0] 101)
       refine hK.out _ _ (HSH.out _ hB1) (fun hHeld => ?_)
       clear hK K
       refine nm0 (some 9) ?_
       refine one_ (i := 7) (N := some 67) #[true, true, true, true, true, true, true, true, false, false, true, false] rfl rfl (by kernel_rfl) (by decide) (fun K hK => ?_)
       refine gs0 Tryz.func64 #[.slice sA ee.2.2.length sC] ?_
       refine (TI _ (Kd.C_below HEL.out (below_then H9.out.1.below H9.out.1.below.size hB1))).out.mono ?_
       rintro e w1 ⟨rfl, hb1⟩
       have hB2 := below_then hB1 hB1.size hb1
       refine ⟨_, rfl, hK.out _ _ (HSH.out _ hB2) (fun hHeld => ?_)⟩
       clear hK K
       refine nm0 (some 67) ?_
       refine one_ (i := 8) (N := some 68) #[true, true, true, true, true, true, true, true, true, false, true, false] rfl rfl (by kernel_rfl) (by decide) (fun K hK => ?_)
       refine gs0 Tryz.func75 #[.agg #[.int .i64 m.2.1, .int .i64 m.2.2.1, .int .i64 m.2.2.2], .agg #[.int .i64 (tmOf ee.2.2).1, .int .i64 (tmOf ee.2.2).2.1, .int .i64 (tmOf ee.2.2).2.2]] ?_
       refine (PL _).out.mono ?_
       rintro e w2 ⟨rfl, hb2⟩
       have hB3 := below_then hB2 hB2.size hb2
       refine ⟨_, rfl, hK.out _ _ (HSH.out _ hB3) (fun hHeld => ?_)⟩
       clear hK K
       refine nm0 (some 68) ?_
       refine pu 9 69 (bs 12 2047) ?_
       exact HCT.out wd.heap.size _ ⟨hB3, blk_below (blk_below (heap_alloc_new wd _) hb1) hb2, HD.out.size⟩
   ·have hneb : (ee.1 != m.1) = true := by simpa using hne
    have HNE := Lib.hid hne
    clear hne
    go_wp2_with fail
    exact ⟨⟨k + 1, by omega, by go_num, by rw [HST.out, edgeW_no HNE.out]; exact ⟨HX.out.1, HX.out.2.1, HX.out.2.2.1, HX.out.2.2.2⟩⟩, by simp [intOf]; omega⟩
  ·have hkl : k = E.length := by omega
   subst hkl
   have hkE : ¬ ((E.length : Int) < E.length) := by omega
   have HW := Lib.hid (show E.foldl (edgeW W m) ws0 = workW E W st i m by rw [HS0.out]; rfl)
   have hX2 := hX.out
   rw [List.take_length, HW.out] at hX2
   generalize hsF : workW E W st i m = sF at *
   have HSF := Lib.hid hsF
   clear hX hsF HW HS0
   obtain ⟨h1, h2, h3, h4⟩ := hX2
   obtain ⟨An, cn, rfl⟩ := Kd.R_slice h3
   obtain ⟨lim2, hl2⟩ : ∃ lim2, lim2 = wr.heap.size := ⟨_, rfl⟩
   have hnote : NoteAt w0.heap.size lim2 wr (.slice An sF.note.length cn) sF.note := Kd.R_mono (Kd.R_lower (Kd.R_bound h3) (by have := HLW.out; omega)) (fun k hk => by rw [hl2]; exact hk.2.2.1)
   have H3 := Aside0.mk (And.intro (h1.lift (show lim ≤ lim2 by omega)) (And.intro h2 hnote))
   obtain ⟨_, _, _, _, _, _, _, _, _, r4, _⟩ := h1.cells
   clear h1 h2 h3 h4 hnote hl2 HE hEm
   generalize hnl : sF.note.length = nl at *
   have HNN := Lib.hid hnl
   clear hnl
   go_wp2_with fail
   clear r4
   go_loopw [103] (fun ix wv => ∃ (j : Nat) (q' : Nat → Nat → Value), j ≤ W ∧ ix = .int .i64 j ∧ Aside0 (RunAt w0 G W lim2 { stW st sF with notes := (List.range j).foldl (pushStep i sF.note) st.notes } q' wv ∧ BoxW wv lim i m ∧ NoteAt w0.heap.size lim2 wv (.slice An nl cn) sF.note)) (fun ix _ => W - (intOf ix).toNat)
   case atStart => exact ⟨0, q, Nat.zero_le _, rfl, H3⟩
   case round =>
    clear H3
    obtain ⟨j, q', hjw, rfl, hX⟩ := hrel
    by_cases hjW : j < W
    ·have hj0 : (0 : Int) ≤ j := by omega
     have hjWI : (j : Int) < W := by omega
     obtain ⟨s1, _, _, s4⟩ := hX.out.1.wcells hjW
     obtain ⟨t0, _, _, _, _⟩ := hX.out.2.1.cells
     have HRS := Lib.hid (show (List.range (j + 1)).foldl (pushStep i sF.note) st.notes = pushStep i sF.note ((List.range j).foldl (pushStep i sF.note) st.notes) j by rw [List.range_succ, List.foldl_append]; rfl)
     by_cases hji : j = i
     ·have hb : ((j : Int) != (i : Int)) = false := by simp; omega
      have HRT := Lib.hid (show (List.range (j + 1)).foldl (pushStep i sF.note) st.notes = (List.range j).foldl (pushStep i sF.note) st.notes by rw [HRS.out]; unfold pushStep; rw [if_pos hji])
      clear s4 hji
      go_wp2_with fail
      exact ⟨⟨j + 1, q', by omega, by go_num, by rw [HRT.out]; exact hX⟩, by simp [intOf]; omega⟩
     ·have hb : ((j : Int) != (i : Int)) = true := by simp; omega
      have HRT := Lib.hid (show (List.range (j + 1)).foldl (pushStep i sF.note) st.notes = putQ ((List.range j).foldl (pushStep i sF.note) st.notes) j i (St.queue { stW st sF with notes := (List.range j).foldl (pushStep i sF.note) st.notes } j i ++ [sF.note]) by rw [HRS.out]; unfold pushStep; rw [if_neg hji]; rfl)
      clear hji
      obtain ⟨n1, nf⟩ := hX.out.1.qcell hjW hi
      have HQL := Lib.hid (show (St.queue { stW st sF with notes := (List.range j).foldl (pushStep i sF.note) st.notes } j i).length ≤ 2000000000 by
       have h1 := push_len i sF.note st.notes j i j
       have h2 := hql j i
       have h3 : (qOf st.notes j i).length ≤ 1000000000 := h2
       show (qOf ((List.range j).foldl (pushStep i sF.note) st.notes) j i).length ≤ _
       omega)
      have hqa := hX.out.1.qs j i hjW hi
      generalize hqo : St.queue { stW st sF with notes := (List.range j).foldl (pushStep i sF.note) st.notes } j i = qo at *
      have HQO := Lib.hid hqo
      have HQA := Aside0.mk hqa
      clear hqo hqa
      generalize hqv : q' j i = qv at *
      have HQV := Lib.hid hqv
      clear hqv
      go_upto_region 19 with fail
      refine start_ (n := 19) (S := fun w' => w'.cell? ⟨lim, 0, none⟩ = some (.int .i64 i) ∧ w'.cell? ⟨G.wb j, 2, none⟩ = some (.slice (some ⟨G.nb j, 0, none⟩) W (G.nc j)) ∧ w'.cell? ⟨G.nb j, i, none⟩ = some qv) (ds := [18]) (bs 19 0) (by kernel_rfl) rfl (by kernel_rfl) ⟨t0, s4, n1⟩ (fun hHeld => ?_)
      have HD := Aside0.mk (And.intro hX.out.1.drew (And.intro (show BoxW wr.drew lim i m from hX.out.2.1) (And.intro (show NoteAt w0.heap.size lim2 wr.drew (.slice An nl cn) sF.note from hX.out.2.2.kept (Kept.drew (Kept.refl wr (fun _ => False))) (fun _ h => h.elim)) (show QAt w0.heap.size lim2 wr.drew qv qo from HQA.out.kept (Kept.drew (Kept.refl wr (fun _ => False))) (fun _ h => h.elim) (fun _ _ h => h)))))
      clear t0 s1 s4 n1 nf hX HQA
      generalize wr.drew = wd at *
      refine pu 0 112 (bs 19 1) ?_
      refine pu 1 113 (bs 19 3) ?_
      refine pu 2 114 (bs 19 7) ?_
      refine tk3 3 115 (bs 19 15) hHeld ?_
      refine pu 4 116 (bs 19 31) ?_
      refine tk3 5 117 (bs 19 63) hHeld ?_
      refine pu 6 118 (bs 19 127) ?_
      refine pu 7 119 (bs 19 255) ?_
      refine pu 8 120 (bs 19 511) ?_
      refine tk3 9 121 (bs 19 1023) hHeld ?_
      refine pu 10 122 (bs 19 2047) ?_
      refine tk3 11 123 (bs 19 4095) hHeld ?_
      refine pu 12 124 (bs 19 8191) ?_
      refine tk3 13 125 (bs 19 16383) hHeld ?_
      refine pu 14 126 (bs 19 32767) ?_
      refine on0 15 127 (bs 19 65535) fun K hK => ?_
      refine va0 ?_
      have HD0 := Aside0.mk hHeld
      have b0 := below_new wd (.cells #[.slice An nl cn] 214)
      refine hK.out _ _ ⟨pw_cell_below b0 hHeld.1, pw_cell_below b0 hHeld.2.1, pw_cell_below b0 hHeld.2.2⟩ (fun hHeld => ?_)
      clear hK K
      refine nm0 (some 127) ?_
      refine on0 16 128 (bs 19 131071) fun K hK => ?_
      obtain ⟨vn, w6, hrun, hqn, hg6, hon⟩ := QAt.append 180 (Nat.le_trans HD.out.1.below.size (Nat.le_refl _)) HD.out.2.2.2 HD.out.2.2.1 HQL.out
      have hvs : ∃ A c, vn = Value.slice A (qo ++ [sF.note]).length c := by obtain ⟨A, c, h, _⟩ := hqn; exact ⟨A, c, h⟩
      obtain ⟨A6, c6, rfl⟩ := hvs
      have HQN := Aside0.mk hqn
      clear hqn
      generalize (qo ++ [sF.note]).length = l6 at *
      refine append_step (by rfl) rfl (.tmp 125) (.tmp 127) 180 rfl qv (.slice (some ⟨wd.heap.size, 0, none⟩) 1 1) rfl rfl hrun ?_
      have hqt : ∀ (t : TypeId), (214 == t) = false → ∀ k, qOwn qv = some k → ¬ Typed wd k t := fun t ht k hk => not_typed (HD.out.2.2.2.own_typed hk).2 ht
      have f6 := (HD.out.1.qcell hjW hi).2
      have g0 := cell_grown hg6 HD0.out.1 (fun he => hqt 179 rfl _ he.symm ⟨_, HD.out.2.1⟩)
      have g1 := cell_grown hg6 HD0.out.2.1 (fun he => hqt 97 rfl _ he.symm (HD.out.1.t_wb hjW))
      have g2 := cell_grown hg6 HD0.out.2.2 (fun he => hqt 180 rfl _ he.symm (HD.out.1.t_nb hjW))
      have g3 : w6.frozen? ⟨G.nb j, i, none⟩ = false := by
       obtain ⟨cc, hcc⟩ := HD.out.1.t_nb hjW
       exact blk_frozen (blk_grown hcc hg6 (fun he => hqt 180 rfl _ he.symm (HD.out.1.t_nb hjW))) _
      have H6 := Aside0.mk (And.intro (HD.out.1.set_q hjW hi (by rw [HQV.out]; exact hg6) HQN.out (by rw [HQV.out]; exact .inr (hon.imp id id))) (And.intro (HD.out.2.1.grown hg6 (hqt _ rfl)) (HD.out.2.2.1.kept (S := fun k => qOwn qv = some k) ⟨hg6.size, fun b hb hn => hg6.block b hb (fun he => hn he.symm)⟩ (fun b hb _ => hqt _ rfl b hb))))
      have HT6 := Lib.hid (show Typed w6 (G.nb j) 180 by
       obtain ⟨cc, hcc⟩ := HD.out.1.t_nb hjW
       exact ⟨cc, blk_grown hcc hg6 (fun he => hqt 180 rfl _ he.symm (HD.out.1.t_nb hjW))⟩)
      refine hK.out _ _ ⟨g0, g1, g2⟩ (fun hHeld => ?_)
      clear hrun hg6 hon hqt f6 g0 g1 g2 HD0 HD HQN
      clear hK K
      refine nm0 (some 128) ?_
      refine pu 17 129 (bs 19 262143) ?_
      refine la0 18 (bs 19 524287) (N := none) fun K hK => ?_
      refine sk0 ?_
      refine hK.out _ _ ?_
      clear hK K hHeld
      refine dn0 ?_
      have hg7 : w6.grownBy (w6.setCell ⟨G.nb j, i, none⟩ (.slice A6 l6 c6)) (some (G.nb j)) := setCells_grown (G.nb j) [_] i w6
      have H7 := Aside0.mk (And.intro H6.out.1 (And.intro (H6.out.2.1.grown hg7 (fun k hk => by injection hk with hk; subst hk; exact not_typed HT6.out rfl)) (H6.out.2.2.kept (S := fun k => k = G.nb j) ⟨hg7.size, fun b hb hn => hg7.block b hb (fun he => hn (by injection he))⟩ (fun b hb _ => by subst hb; exact not_typed HT6.out rfl))))
      clear hg7 H6 HT6 g3
      generalize w6.setCell ⟨G.nb j, i, none⟩ (.slice A6 l6 c6) = w7 at *
      go_wp2_with fail
      exact ⟨⟨j + 1, _, by omega, by go_num, by rw [HRT.out]; exact H7⟩, by simp [intOf]; omega⟩
    ·have hjw2 : j = W := by omega
     have hjWI : ¬ ((j : Int) < (W : Int)) := by omega
     obtain ⟨_, s2, _, _⟩ := hX.out.1.wcells hi
     have hC := (Kd.R_reads' hX.out.2.2).2.2
     have hrd := read_any (G.wb i) (G.lb i) (st.ledOf i) An cn sF.note wr s2 (hX.out.1.led i hi) hC
     rw [HNN.out] at hrd
     have HRD := Lib.hid hrd
     clear hC hrd s2
     go_wp2_with fail
     refine HRD.out.mono ?_
     rintro e w8 ⟨rfl, hg8, hL8⟩
     have h8 := Aside0.mk (hX.out.1.set_led hi hg8 hL8)
     obtain ⟨A8, c8, hC8, hc8, hr8, k0, _, _, _, _, kf⟩ := h8.out.cells
     have k0 : w8.cell? ⟨G.rb, 0, none⟩ = some (.int .i64 st.works) := k0
     have kf0 := kf 0
     have HR8 := Lib.hid (And.intro hC8 (And.intro hc8 hr8))
     clear hg8 hL8 HRD kf hC8 hc8 hr8
     go_wp2_with fail
     go_end0
     have hg9 : w8.grownBy (w8.setCell ⟨G.rb, 0, none⟩ (.int .i64 (wrap64 (st.works + 1)))) (some G.rb) := setCells_grown G.rb [_] 0 w8
     have hb9 : (w8.setCell ⟨G.rb, 0, none⟩ (.int .i64 (wrap64 (st.works + 1)))).heap[G.rb]? = some (.cells (runCells (w64 (st.works + 1)) st.nts sF.sent G.gb (.slice (some ⟨G.wa, 0, none⟩) W G.wc) (.slice A8 sF.script.length c8)) 92 (0, 0)) := blk_put HR8.out.2.2 0 _ (by rw [w64_eq]; rfl)
     have h9 := h8.out.set_run hg9 hb9 HR8.out.1 HR8.out.2.1
     have e : workS E W st i m = { { { stW st sF with notes := (List.range j).foldl (pushStep i sF.note) st.notes } with led := st.led.set i (readL (st.ledOf i) sF.note) } with works := w64 (st.works + 1), nts := st.nts, sent := sF.sent, script := sF.script } := by
      simp only [workS, HSF.out, pushAll, hjw2]; rfl
     exact ⟨rfl, by rw [e]; exact ⟨_, h9.relim⟩⟩
end Go.Proofs.YtbkfnmgkcgnifaaGreat
namespace Go.Proofs.YtbkfnmgkcgnifaaGreat
open Go.RowKit Go.Shelf Go.Proofs.YtbkfnmgkcgnifaaGreatW.PrintWords Go.Proofs.YtbkfnmgkcgnifaaGreatW.PrintLast Mdl
section
variable {P : Program} {Q : Exit → Act → World → Prop} {l n : Nat}
def KO (o : Obj) : Bool := match o with
 | .cells _ t _ => t != 144 && t != 147
 | _ => true
def NK (B : Nat) (W W' : World) : Prop := (W'.os = W.os ∧ W'.tape = W.tape ∧ W'.output = W.output) ∧ W.heap.size ≤ W'.heap.size ∧ ∀ (k : Nat) (o : Obj), W.heap[k]? = some o → (k < B ∨ KO o = true) → W'.heap[k]? = some o
theorem NK.refl (B : Nat) (W : World) : NK B W W := ⟨⟨rfl, rfl, rfl⟩, Nat.le_refl _, fun _ _ h _ => h⟩
def SeqK {α : Type} (P : Program) (gf : Nat) (first cap : Array Value) (enc : α → Array Value) (S : List α → Prop) (B : Nat) (w : World) : Prop :=
 ∀ (l : Nat) (J : List α → World → Prop) (W : World), Below w.heap.size w W → Stab W.heap.size J →
  (∀ pre m W1, J pre W1 → (∃ xs, S xs ∧ (pre ++ [m]) <+: xs) → YieldAt Fence.wide 5 P l (enc m) W1 fun e W' => e = .returned (.bool true) ∧ J (pre ++ [m]) W' ∧ NK B W1 W') → J [] W →
  CallsIn Fence.wide 5 P gf (first ++ #[.func (.yield l) #[] #[]] ++ cap) W fun e W' => (∃ v, e = .returned v) ∧ ∃ xs, S xs ∧ J xs W'
def bodyK (B : Nat) (I : World → Prop) (W : World) : Exit → Act → World → Prop
 | .normal, _, W' => NK B W W' ∧ I W'
 | _, _, _ => False
set_option maxHeartbeats 1000000 in
theorem range_keep {α : Type} {g : Operand} {ps : Array Tmp} {assign body : Code} {a : Act} {w : World} {gf : Nat} {first cap : Array Value} (hg : a.eval g = .func (.func gf) first cap) (eg : ∀ args w, (callFunc gf args).run P w = .ok (.enter gf args) w)
  {enc : α → Array Value} (hps : ∀ m, (enc m).size = ps.size) {S : List α → Prop} {B : Nat} (hseq : SeqK P gf first cap enc S B w) (I : List α → World → Prop) (hI : Stab w.heap.size I) (h0 : I [] w)
  (A : List α → α → Act → World → Prop) (hA : ∀ pre m a1, Stab w.heap.size (fun (_ : Unit) W => A pre m a1 W))
  (hassign : ∀ l pre m W (K : Act → World → Prop), w.heap.size ≤ W.heap.size → (∃ xs, S xs ∧ (pre ++ [m]) <+: xs) → I pre W → (∀ a1 W1, NK B W W1 → A pre m a1 W1 → K a1 W1) → assign.wpIn (RF l) 5 P (Exit.then K (fun _ _ _ => False)) { tmps := (ps.zip (enc m)).foldl (fun t (p, v) => t.setIfInBounds p v) a.tmps, defers := [] } W)
  (hbody : ∀ l pre m a1 W, w.heap.size ≤ W.heap.size → (∃ xs, S xs ∧ (pre ++ [m]) <+: xs) → A pre m a1 W → body.wpIn (RF l) 5 P (bodyK B (I (pre ++ [m])) W) a1 W)
  (hdone : ∀ D xs W, w.heap.size ≤ D → S xs → I xs W → W.heap[D]? = some (.deferred (some [])) → Q .normal { a with defers := { target := .collected D, args := #[] } :: a.defers } W) :
  (Code.rangeFunc g ps assign body).wpIn Fence.wide 6 P Q a w := by
 refine wpIn_rangeFunc ?_
 intro fn hfn
 obtain ⟨rec, hrec⟩ : ∃ rec : LoopState → Loop, rec = fun st => { state := st, pending := none, fn, tmps := a.tmps, params := ps, assign, body, defers := w.heap.size } := ⟨_, rfl⟩
 obtain ⟨W1, hW1⟩ : ∃ W1, (w.alloc (.deferred (some []))).alloc (.loop (rec .ready)) = W1 := ⟨_, rfl⟩
 have hL1 : W1.heap[w.heap.size + 1]? = some (.loop (rec .ready)) := by
  rw [← hW1]; have := heap_alloc_new (w.alloc (.deferred (some []))) (.loop (rec .ready)); simpa using this
 have hK1 : W1.heap[w.heap.size]? = some (.deferred (some [])) := by
  rw [← hW1]; exact blk_alloc (heap_alloc_new w _) _
 have hB1 : Below w.heap.size w W1 := by rw [← hW1]; exact two_new
 have hsz1 : W1.heap.size = w.heap.size + 2 := by rw [← hW1]; simp
 have hI1 : I [] W1 := hI _ _ _ (Nat.le_refl _) h0 (.below hB1)
 refine ⟨w.heap.size + 1, [{ target := .collected w.heap.size, args := #[] }], W1, { target := .fn (.func gf) cap, args := first ++ #[.func (.yield (w.heap.size + 1)) #[] #[]] }, W1, gf, first ++ #[.func (.yield (w.heap.size + 1)) #[] #[]] ++ cap, W1, ?_, ?_, fun _ _ => trivial, ?_, fun _ => by omega, ?_⟩
 ·rw [← hW1, hrec]; exact run_enterLoop_outer _ _ _ _ _
 ·simp only [resolve, hg]
  simp [go_sem]
 ·simp [invoke, go_sem, eg]
 ·refine (hseq (w.heap.size + 1) (fun pre W => w.heap.size + 2 ≤ W.heap.size ∧ I pre W ∧ W.heap[w.heap.size + 1]? = some (.loop (rec .ready)) ∧ W.heap[w.heap.size]? = some (.deferred (some []))) W1 hB1 ?_ ?_ ⟨by omega, hI1, hL1, hK1⟩).mono ?_
  ·intro s V V' hV h hq
   exact ⟨Nat.le_trans h.1 hq.size, hI _ _ _ (by omega) h.2.1 (hq.mono (by omega)), hq.same _ _ h.2.2.1 (.inl (by omega)), hq.same _ _ h.2.2.2 (.inl (by omega))⟩
  ·rintro pre m W ⟨hsz, hi, hl, hk⟩ hpx
   have hy := run_yield (P := P) (args := enc m) hl (by rw [hrec]; exact hps m)
   rw [hrec] at hy
   refine ⟨fn, _, assign, body, hy, roundIn_of_wpIn trivial (wpIn_mono (hassign (w.heap.size + 1) pre m W (fun a1 W1 => NK B W W1 ∧ A pre m a1 W1) (by omega) hpx hi (fun a1 W1 h1 h2 => ⟨h1, h2⟩)) ?_)⟩
   rintro e a1 V1 he
   cases e with
   | normal =>
    obtain ⟨hnc, ha⟩ := he
    have hl1 := hnc.2.2 _ _ hl (.inr rfl)
    have hk1 := hnc.2.2 _ _ hk (.inr rfl)
    refine ⟨_, run_beginRound hl1 (by rw [hrec]), wpIn_mono (hbody (w.heap.size + 1) pre m a1 _ (by have := hnc.2.1; rw [World.putObj_size]; omega) hpx (hA pre m a1 () _ _ (by have := hnc.2.1; omega) ha (.putObj hl1 rfl (by omega)))) ?_⟩
    rintro e a2 V2 he
    cases e with
    | normal =>
     obtain ⟨hnc2, hi2⟩ := he
     have hl2 := hnc2.2.2 _ _ (World.putObj_heap_same (blk_lt hl1)) (.inr rfl)
     have hk2 := hnc2.2.2 _ _ ((World.putObj_heap_other (by omega)).trans hk1) (.inr rfl)
     have hr := run_endRound (P := P) none hl2
     have hfin : (V2.putObj (w.heap.size + 1) (.loop { { rec .ready with state := .busy } with state := .ready, pending := none })).heap[w.heap.size + 1]? = some (.loop (rec .ready)) := by
      refine (World.putObj_heap_same (blk_lt hl2)).trans ?_
      rw [hrec]
     refine ⟨_, _, hr, rfl, ⟨?_, hI _ _ _ (by have := hnc.2.1; have := hnc2.2.1; rw [World.putObj_size] at this; omega) hi2 (.putObj hl2 rfl (by omega)), ?_, ?_⟩, ?_⟩
     ·have := hnc.2.1; have := hnc2.2.1
      rw [World.putObj_size] at this ⊢; omega
     ·exact hfin
     ·exact (World.putObj_heap_other (by omega)).trans hk2
     ·refine ⟨⟨hnc2.1.1.trans hnc.1.1, hnc2.1.2.1.trans hnc.1.2.1, hnc2.1.2.2.trans hnc.1.2.2⟩, by have := hnc.2.1; have := hnc2.2.1; rw [World.putObj_size] at this ⊢; omega, fun k o hko ho => ?_⟩
      by_cases hkl : k = w.heap.size + 1
      ·subst hkl
       rw [hl] at hko
       cases hko
       exact hfin
      ·have h1 := hnc.2.2 k o hko ho
       have h2 := hnc2.2.2 k o ((World.putObj_heap_other hkl).trans h1) ho
       exact (World.putObj_heap_other hkl).trans h2
    | _ => exact he.elim
   | _ => exact he.elim
  ·rintro e W2 ⟨⟨v, rfl⟩, xs, hS, hsz, hi, hl, hk⟩
   have he : (Instr.endLoop (w.heap.size + 1)).run P W2 = .ok none (W2.putObj (w.heap.size + 1) (.loop { rec .ready with state := .exhausted })) := by
    have := run_endLoop (P := P) hl (by rw [hrec]; simp)
    rw [hrec] at this ⊢
    exact this
   exact ⟨none, _, he, hdone _ xs _ (Nat.le_refl _) hS (hI _ _ _ (by omega) hi (.putObj hl rfl (by omega))) ((World.putObj_heap_other (by omega)).trans hk)⟩
end
end Go.Proofs.YtbkfnmgkcgnifaaGreat
namespace Go.Proofs.YtbkfnmgkcgnifaaGreat
open Go.RowKit Go.Shelf Go.Proofs.YtbkfnmgkcgnifaaGreatW.PrintWords Go.Proofs.YtbkfnmgkcgnifaaGreatW.PrintLast Mdl Go.ChangeMaps
namespace Mdl
def fW (st : St) (i : Nat) : List Mv := (sortM ((st.hasOf i).map (·.1))).map (Mv.work i)
def gT (st : St) (i k : Nat) : List Mv := if st.queue i k = [] then [] else [Mv.take i k]
def fT (W : Nat) (st : St) (i : Nat) : List Mv := (List.range W).flatMap (gT st i)
theorem movesS_eq (W : Nat) (st : St) : movesS W st = (List.range W).flatMap (fW st) ++ (List.range W).flatMap (fT W st) := rfl
theorem flat_succ {α : Type} (f : Nat → List α) (n : Nat) : (List.range (n + 1)).flatMap f = (List.range n).flatMap f ++ f n := by
 rw [List.range_succ, List.flatMap_append]; simp
theorem pre_flat {α : Type} {f : Nat → List α} {i : Nat} {l : List α} (hl : l <+: f i) : ∀ (n : Nat) (rest : List α), i < n → (List.range i).flatMap f ++ l <+: (List.range n).flatMap f ++ rest
 | 0, _, h => absurd h (Nat.not_lt_zero _)
 | n + 1, rest, h => by
  rw [flat_succ, List.append_assoc]
  rcases Nat.lt_or_eq_of_le (Nat.le_of_lt_succ h) with h | h
  ·exact pre_flat hl n _ h
  ·subst h
   rw [List.prefix_append_right_inj]
   exact hl.trans (List.prefix_append _ _)
end Mdl
def mvV : Mv → Value
 | .work i m => .iface 179 (.agg #[.int .i64 i, .int .i64 m.1, .int .i64 m.2.1, .int .i64 m.2.2.1, .int .i64 m.2.2.2])
 | .take i k => .iface 182 (.agg #[.int .i64 i, .int .i64 k])
theorem RunAt.keeps {B : Nat} {w0 w w' : World} {G : RG} {W lim : Nat} {st : St} {q : Nat → Nat → Value} (h : RunAt w0 G W lim st q w) (hn : NK B w w') (hB : w0.heap.size ≤ B) : RunAt w0 G W lim st q w' := by
 have hk : Kept w w' (fun k => ∃ o, w.heap[k]? = some o ∧ KO o = false) := ⟨hn.2.1, fun i hi hS => by
  have hs := Array.getElem?_eq_getElem hi
  rw [hs]
  refine hn.2.2 i _ hs (.inr ?_)
  cases hko : KO w.heap[i] with
  | true => rfl
  | false => exact absurd ⟨_, hs, hko⟩ hS⟩
 have ht : ∀ {b : Nat} {t : TypeId}, Typed w b t → (t == 144) = false → (t == 147) = false → ¬ ∃ o, w.heap[b]? = some o ∧ KO o = false := by
  rintro b t ⟨c, hc⟩ h1 h2 ⟨o, ho, hko⟩
  rw [hc] at ho; cases ho
  simp [KO, bne, h1, h2] at hko
 have hl : ∀ {b : Nat} {L : Led}, LedAt w b L → ¬ ∃ o, w.heap[b]? = some o ∧ KO o = false := by
  rintro b L ⟨es, ck, hc, _⟩ ⟨o, ho, hko⟩
  rw [hc] at ho; cases ho
  simp [KO] at hko
 have hb : Below w0.heap.size w0 w' := by
  refine ⟨hn.1.1.trans h.below.os, hn.1.2.1.trans h.below.tape, hn.1.2.2.trans h.below.output, Nat.le_trans h.below.size hn.2.1, fun k hk' => ?_⟩
  have hlt : k < w.heap.size := Nat.lt_of_lt_of_le hk' h.below.size
  have hs := Array.getElem?_eq_getElem hlt
  rw [hn.2.2 k _ hs (.inl (by omega)), ← hs]
  exact h.below.block k hk'
 obtain ⟨A, c, r1, r2, r3⟩ := h.run
 obtain ⟨cs, s1, s2⟩ := h.ws
 exact ⟨hb, ⟨A, c, blk_kept r1 hk (ht h.t_rb rfl rfl), r2, r3⟩, ⟨cs, blk_kept s1 hk (ht h.t_wa rfl rfl), s2⟩, fun i hi => blk_kept (h.wk i hi) hk (ht (h.t_wb hi) rfl rfl), fun i hi => (h.led i hi).kept hk (hl (h.led i hi)), fun i hi => (h.has i hi).kept hk (hl (h.has i hi)),
  fun i hi => by obtain ⟨c, n1, n2⟩ := h.nbk i hi; exact ⟨c, blk_kept n1 hk (ht (h.t_nb hi) rfl rfl), n2⟩, fun i k hi hk' => (h.qs i k hi hk').kept hk (fun b hb _ h1 => ht h1 rfl rfl hb) (fun b hb => ht ((h.qs i k hi hk').own_typed hb).2 rfl rfl), h.qdis, h.iwb, h.inb, h.ilb, h.ihb, h.ilh, h.low, h.lens, fun k cs hz => blk_kept (h.frz k cs hz) hk (ht ⟨_, h.frz k cs hz⟩ rfl rfl)⟩
theorem NK.kept {B : Nat} {w w' : World} (hn : NK B w w') : Kept w w' (fun k => ∃ o, w.heap[k]? = some o ∧ KO o = false) := ⟨hn.2.1, fun i hi hS => by
 have hs := Array.getElem?_eq_getElem hi
 rw [hs]
 refine hn.2.2 i _ hs (.inr ?_)
 cases hko : KO w.heap[i] with
 | true => rfl
 | false => exact absurd ⟨_, hs, hko⟩ hS⟩
theorem R_keeps {α : Type} {d : Kd α} {e base B : Nat} {ok : Nat → Prop} {w w' : World} {v : Value} {xs : List α} (hE : ∀ q, q ∈ e :: d.E → (q != 144 && q != 147) = true) (h : d.R e w base ok v xs) (hn : NK B w w') : d.R e w' base ok v xs := by
 refine Kd.R_mono (Kd.R_kept (Kd.R_bound h) hn.kept ?_) (fun _ h => h.1)
 rintro k ⟨_, _, _, q, hq, c, hc⟩ ⟨o, ho, hko⟩
 rw [hc] at ho; cases ho
 have := hE q hq
 simp only [KO] at hko
 rw [hko] at this; cases this
theorem at_mk {w : World} {A : Option Addr} {l : List Mk} (h : kM.C w A l.length l) {k : Nat} (hk : k < l.length) :
  ∃ ad, A = some ad ∧ w.cell? (ad.add (k * 4)) = some (.int .i64 l[k].1) ∧ w.cell? ⟨(ad.add (k * 4)).block, (ad.add (k * 4)).off + 1, none⟩ = some (.int .i64 l[k].2.1) ∧ w.cell? ⟨(ad.add (k * 4)).block, (ad.add (k * 4)).off + 2, none⟩ = some (.int .i64 l[k].2.2.1) ∧
   w.cell? ⟨(ad.add (k * 4)).block, (ad.add (k * 4)).off + 3, none⟩ = some (.int .i64 l[k].2.2.2) := by
 obtain ⟨ad, c, e, hl, hK, hc⟩ := Kd.C_get h (0, 0, 0, 0) (k : Int) (by omega) (by omega)
 rw [Int.toNat_natCast, List.getD_eq_getElem?_getD, List.getElem?_eq_getElem hk] at hK
 rw [Int.toNat_natCast] at hc
 rw [kM_K.1 hK] at hc
 refine ⟨ad, e, ?_, ?_, ?_, ?_⟩
 ·have := hc 0 _ rfl
  rwa [show kM.sz = 4 from rfl, Nat.add_zero] at this
 ·have := hc 1 _ rfl
  rwa [show kM.sz = 4 from rfl, add_field _ _ _ (by omega)] at this
 ·have := hc 2 _ rfl
  rwa [show kM.sz = 4 from rfl, add_field _ _ _ (by omega)] at this
 ·have := hc 3 _ rfl
  rwa [show kM.sz = 4 from rfl, add_field _ _ _ (by omega)] at this
structure HasOk (W : Nat) (st : St) : Prop where
 ok : ∀ i, i < W → ∀ e ∈ st.hasOf i, okM e.1
 len : ∀ i, i < W → (st.hasOf i).length ≤ 1000000000
set_option maxRecDepth 8000 in
set_option maxHeartbeats 8000000 in
theorem moves1_seq (w0 : World) (G : RG) (W lim : Nat) (st : St) (q : Nat → Nat → Value) (bx : Nat) (B : Nat) (w : World) (h : RunAt w0 G W lim st q w) (hB : w0.heap.size ≤ B) (hbx : w.heap[bx]? = some (.cells #[.pointer (some ⟨G.rb, 0, none⟩)] 84 (0, 0))) (hW : W ≤ 4) (hh : HasOk W st) :
  SeqK Tryz.prog 105 #[] #[.pointer (some ⟨bx, 0, none⟩)] (fun m => #[mvV m]) (fun xs => xs = movesS W st) B w := by
 intro l J V hV hJ hY h0
 have H1 := Aside0.mk (And.intro (h.to_below hV) (And.intro (blk_below hbx hV) h0))
 have HY := Lib.hid hY
 clear h hV hY h0 hbx
 refine callsIn_of_wp Tryz.func105 rfl trivial ?_ rfl
 simp only [Tryz.ntmps105, List.size_toArray, List.length_cons, List.length_nil, Nat.reduceAdd, Nat.reduceSub, Array.replicate_succ, Array.replicate_zero, List.push_toArray, List.append_toArray, List.nil_append, List.cons_append, List.append_nil]
 obtain ⟨_, _, _, _, _, _, _, _, _, r4, _⟩ := H1.out.1.cells
 have bc : V.cell? ⟨bx, 0, none⟩ = some (.pointer (some ⟨G.rb, 0, none⟩)) := (blk_cell H1.out.2.1 0).trans rfl
 gi_wp2
 clear r4 bc
 gi_loopw [16] (fun ix wr => ∃ i : Nat, i ≤ W ∧ ix = .int .i64 i ∧ Aside0 (RunAt w0 G W lim st q wr ∧ wr.heap[bx]? = some (.cells #[.pointer (some ⟨G.rb, 0, none⟩)] 84 (0, 0)) ∧ V.heap.size ≤ wr.heap.size ∧ J ((List.range i).flatMap (fW st)) wr)) (fun ix _ => W - (intOf ix).toNat)
 case atStart => exact ⟨0, Nat.zero_le _, rfl, H1.out.1, H1.out.2.1, Nat.le_refl _, H1.out.2.2⟩
 case round =>
  clear H1
  obtain ⟨i, hi, rfl, hX⟩ := hrel
  by_cases hlt : i < W
  ·have hi0 : (0 : Int) ≤ i := by omega
   have hiW : (i : Int) < W := by omega
   obtain ⟨s1, _, s3, _⟩ := hX.out.1.wcells hlt
   have HM := Lib.hid (marks_any (G.hb i) (st.hasOf i) wr (hX.out.1.has i hlt) (hh.ok i hlt) (by have := hh.len i hlt; omega))
   gi_wp2
   refine ⟨trivial, callsIn_wide.2 (HM.out.mono ?_)⟩
   rintro e w1 ⟨v, rfl, hR, hb⟩
   have hJ1 := hJ _ _ _ hX.out.2.2.1 hX.out.2.2.2 (.below hb)
   obtain ⟨Am, cm, rfl⟩ := Kd.R_slice hR
   have H2 := Aside0.mk (And.intro (hX.out.1.to_below hb) (And.intro (blk_below hX.out.2.1 hb) (And.intro (show V.heap.size ≤ w1.heap.size by have := hX.out.2.2.1; have := hb.size; omega) (And.intro hJ1 (Kd.R_lower hR (Nat.zero_le _))))))
   have HFW := Lib.hid (show fW st i = (sortM ((st.hasOf i).map (·.1))).map (Mv.work i) from rfl)
   clear hb hJ1 hR hX HM s1 s3
   generalize sortM ((st.hasOf i).map (·.1)) = ms at *
   obtain ⟨nm, hnm⟩ : ∃ nm, nm = ms.length := ⟨_, rfl⟩
   have HNM := Lib.hid hnm
   rw [← hnm]
   have hmm : nm ≤ 9223372036854775807 := by
    have := (Kd.R_reads' H2.out.2.2.2.2).2.2.2.1
    rw [hnm]; exact this
   clear hnm
   gi_wp2
   gi_loopw [27] (fun ix wv => ∃ k : Nat, k ≤ nm ∧ ix = .int .i64 k ∧ Aside0 (RunAt w0 G W lim st q wv ∧ wv.heap[bx]? = some (.cells #[.pointer (some ⟨G.rb, 0, none⟩)] 84 (0, 0)) ∧ V.heap.size ≤ wv.heap.size ∧ J ((List.range i).flatMap (fW st) ++ (ms.take k).map (Mv.work i)) wv ∧ kM.R 101 wv 0 (fun _ => True) (.slice Am ms.length cm) ms)) (fun ix _ => nm - (intOf ix).toNat)
   case atStart => exact ⟨0, Nat.zero_le _, rfl, H2.out.1, H2.out.2.1, H2.out.2.2.1, by simpa using H2.out.2.2.2.1, H2.out.2.2.2.2⟩
   case round =>
    clear H2
    obtain ⟨k, hk, rfl, hX⟩ := hrel
    by_cases hkn : k < nm
    ·have hk0 : (0 : Int) ≤ k := by omega
     have hknI : (k : Int) < nm := by omega
     have hkm : k < ms.length := by have := HNM.out; omega
     obtain ⟨ad, rfl, c0, c1, c2, c3⟩ := at_mk (Kd.R_reads' hX.out.2.2.2.2).2.2 hkm
     have HTK := Lib.hid (show (ms.take (k + 1)).map (Mv.work i) = (ms.take k).map (Mv.work i) ++ [Mv.work i ms[k]] by rw [List.take_succ_eq_append_getElem hkm, List.map_append]; rfl)
     have HPX := Lib.hid (show (List.range i).flatMap (fW st) ++ (ms.take k).map (Mv.work i) ++ [Mv.work i ms[k]] <+: movesS W st by
      rw [List.append_assoc, ← HTK.out, movesS_eq]
      refine pre_flat ?_ W _ hlt
      rw [HFW.out]
      exact (List.take_prefix _ _).map _)
     generalize ms[k] = mk at *
     have hb1 := below_new wr (.cells #[.int .i64 mk.1, .int .i64 mk.2.1, .int .i64 mk.2.2.1, .int .i64 mk.2.2.2] 101)
     have hJ4 := hJ _ _ _ hX.out.2.2.1 hX.out.2.2.2.1 (.below hb1)
     have H4 := Aside0.mk (And.intro (hX.out.1.to_below hb1) (And.intro (blk_below hX.out.2.1 hb1) (And.intro (show V.heap.size ≤ (wr.alloc (.cells #[.int .i64 mk.1, .int .i64 mk.2.1, .int .i64 mk.2.2.1, .int .i64 mk.2.2.2] 101)).heap.size by have := hX.out.2.2.1; have := hb1.size; omega) (Kd.R_below hX.out.2.2.2.2 hb1))))
     obtain ⟨fn, tmps, assign, body, hy, hR⟩ := HY.out _ (Mv.work i mk) _ hJ4 ⟨_, rfl, HPX.out⟩
     have HR := Lib.hid hR
     simp only [mvV] at hy
     clear hb1 hJ4 hR hX
     gi_wp2
     refine (roundIn_wide HR.out).mono ?_
     rintro e' W' ⟨rfl, hJ', hnk⟩
     have H5 := Aside0.mk (show RunAt w0 G W lim st q W' ∧ W'.heap[bx]? = some (.cells #[.pointer (some ⟨G.rb, 0, none⟩)] 84 (0, 0)) ∧ V.heap.size ≤ W'.heap.size ∧ J ((List.range i).flatMap (fW st) ++ (ms.take (k + 1)).map (Mv.work i)) W' ∧ kM.R 101 W' 0 (fun _ => True) (.slice (some ad) ms.length cm) ms from
      ⟨H4.out.1.keeps hnk hB, hnk.2.2 _ _ H4.out.2.1 (.inr rfl), Nat.le_trans H4.out.2.2.1 hnk.2.1, by rw [HTK.out, ← List.append_assoc]; exact hJ', R_keeps (by intro q hq; rw [show kM.E = [] from rfl] at hq; rw [List.mem_singleton.1 hq]; rfl) H4.out.2.2.2 hnk⟩)
     clear hJ' hnk H4 HR hy
     gi_wp2
     exact ⟨⟨k + 1, by omega, by go_num, H5⟩, by simp [intOf]; omega⟩
    ·have hknI : ¬ ((k : Int) < nm) := by omega
     have hkm : k = ms.length := by have := HNM.out; omega
     gi_wp2
     refine ⟨⟨i + 1, by omega, by go_num, hX.out.1, hX.out.2.1, hX.out.2.2.1, ?_⟩, by simp [intOf]; omega⟩
     rw [flat_succ, HFW.out]
     have := hX.out.2.2.2.1
     rwa [List.take_of_length_le (by omega)] at this
  ·have hiW : ¬ ((i : Int) < W) := by omega
   have hiw : i = W := by omega
   obtain ⟨_, _, _, _, _, _, _, _, _, r4, _⟩ := hX.out.1.cells
   have bc : wr.cell? ⟨bx, 0, none⟩ = some (.pointer (some ⟨G.rb, 0, none⟩)) := (blk_cell hX.out.2.1 0).trans rfl
   have H1 := Aside0.mk (show RunAt w0 G W lim st q wr ∧ wr.heap[bx]? = some (.cells #[.pointer (some ⟨G.rb, 0, none⟩)] 84 (0, 0)) ∧ V.heap.size ≤ wr.heap.size ∧ J ((List.range W).flatMap (fW st)) wr from ⟨hX.out.1, hX.out.2.1, hX.out.2.2.1, by rw [← hiw]; exact hX.out.2.2.2⟩)
   clear hX
   gi_wp2
   clear r4 bc
   gi_loopw [45] (fun ix wv => ∃ a : Nat, a ≤ W ∧ ix = .int .i64 a ∧ Aside0 (RunAt w0 G W lim st q wv ∧ wv.heap[bx]? = some (.cells #[.pointer (some ⟨G.rb, 0, none⟩)] 84 (0, 0)) ∧ V.heap.size ≤ wv.heap.size ∧ J ((List.range W).flatMap (fW st) ++ (List.range a).flatMap (fT W st)) wv)) (fun ix _ => W - (intOf ix).toNat)
   case atStart => exact ⟨0, Nat.zero_le _, rfl, H1.out.1, H1.out.2.1, H1.out.2.2.1, by simpa using H1.out.2.2.2⟩
   case round =>
    clear H1
    obtain ⟨a, ha, rfl, hX⟩ := hrel
    by_cases haW : a < W
    ·have ha0 : (0 : Int) ≤ a := by omega
     have haWI : (a : Int) < W := by omega
     obtain ⟨s1, _, _, s4⟩ := hX.out.1.wcells haW
     gi_wp2
     refine wpIn_wide.2 (wp_scope_straight ((wpIn_wide (n := 5)).1 (wpIn_seq (wpIn_label ?_))))
     show Code.wpIn _ _ _ _ _ _ _
     gi_wp2
     clear s1 s4
     gi_loopw [55] (fun ix wv => ∃ k : Nat, k ≤ W ∧ ix = .int .i64 k ∧ Aside0 (RunAt w0 G W lim st q wv ∧ wv.heap[bx]? = some (.cells #[.pointer (some ⟨G.rb, 0, none⟩)] 84 (0, 0)) ∧ V.heap.size ≤ wv.heap.size ∧ J ((List.range W).flatMap (fW st) ++ ((List.range a).flatMap (fT W st) ++ (List.range k).flatMap (gT st a))) wv)) (fun ix _ => W - (intOf ix).toNat)
     case atStart => exact ⟨0, Nat.zero_le _, rfl, hX.out.1, hX.out.2.1, hX.out.2.2.1, by simpa using hX.out.2.2.2⟩
     case round =>
      clear hX
      obtain ⟨k, hk, rfl, hX⟩ := hrel
      by_cases hkW : k < W
      ·have hk0 : (0 : Int) ≤ k := by omega
       have hkWI : (k : Int) < W := by omega
       obtain ⟨n1, _⟩ := hX.out.1.qcell haW hkW
       obtain ⟨Aq, cq, hqv⟩ : ∃ A c, q a k = .slice A (st.queue a k).length c := by obtain ⟨A, c, h, _⟩ := hX.out.1.qs a k haW hkW; exact ⟨A, c, h⟩
       rw [hqv] at n1
       clear hqv
       by_cases hz : st.queue a k = []
       ·have hlb : (((st.queue a k).length : Int) == 0) = true := by rw [hz]; rfl
        have hlb2 : (st.queue a k).length = 0 := by rw [hz]; rfl
        have HG := Lib.hid (show gT st a k = [] by unfold gT; rw [if_pos hz])
        rw [hlb2] at n1
        clear hlb hlb2 hz
        gi_wp2
        exact ⟨⟨k + 1, by omega, by go_num, hX.out.1, hX.out.2.1, hX.out.2.2.1, by rw [flat_succ, HG.out, List.append_nil]; exact hX.out.2.2.2⟩, by simp [intOf]; omega⟩
       ·have hpos : 0 < (st.queue a k).length := List.length_pos_iff.2 hz
        have HG := Lib.hid (show gT st a k = [Mv.take a k] by unfold gT; rw [if_neg hz])
        have HPX := Lib.hid (show (List.range W).flatMap (fW st) ++ ((List.range a).flatMap (fT W st) ++ (List.range k).flatMap (gT st a)) ++ [Mv.take a k] <+: movesS W st by
         rw [movesS_eq, List.append_assoc, List.append_assoc]
         rw [List.prefix_append_right_inj]
         have := pre_flat (f := fT W st) (i := a) (l := (List.range k).flatMap (gT st a) ++ [Mv.take a k]) (by
          have h1 := pre_flat (f := gT st a) (i := k) (l := [Mv.take a k]) (by rw [HG.out]; exact List.prefix_rfl) W [] hkW
          rwa [List.append_nil] at h1) W [] haW
         rwa [List.append_nil] at this)
        generalize hql : (st.queue a k).length = ql at *
        have hlb : ((ql : Int) == 0) = false := by simp; omega
        obtain ⟨fn, tmps, assign, body, hy, hR⟩ := HY.out _ (Mv.take a k) _ hX.out.2.2.2 ⟨_, rfl, HPX.out⟩
        have HR := Lib.hid hR
        simp only [mvV] at hy
        clear hR hz hpos hql
        gi_wp2
        refine (roundIn_wide HR.out).mono ?_
        rintro e' W' ⟨rfl, hJ', hnk⟩
        have H5 := Aside0.mk (show RunAt w0 G W lim st q W' ∧ W'.heap[bx]? = some (.cells #[.pointer (some ⟨G.rb, 0, none⟩)] 84 (0, 0)) ∧ V.heap.size ≤ W'.heap.size ∧ J ((List.range W).flatMap (fW st) ++ ((List.range a).flatMap (fT W st) ++ (List.range (k + 1)).flatMap (gT st a))) W' from
         ⟨hX.out.1.keeps hnk hB, hnk.2.2 _ _ hX.out.2.1 (.inr rfl), Nat.le_trans hX.out.2.2.1 hnk.2.1, by rw [flat_succ, HG.out, ← List.append_assoc, ← List.append_assoc]; rw [← List.append_assoc] at hJ'; exact hJ'⟩)
        clear hJ' hnk HR hy
        gi_wp2
        exact ⟨⟨k + 1, by omega, by go_num, H5⟩, by simp [intOf]; omega⟩
      ·have hkWI : ¬ ((k : Int) < W) := by omega
       have hkw : k = W := by omega
       gi_wp2
       refine ⟨⟨a + 1, by omega, by go_num, hX.out.1, hX.out.2.1, hX.out.2.2.1, ?_⟩, by simp [intOf]; omega⟩
       rw [flat_succ]
       have := hX.out.2.2.2
       rw [hkw] at this
       exact this
    ·have haWI : ¬ ((a : Int) < W) := by omega
     have haw : a = W := by omega
     gi_wp2
     go_end0
     refine ⟨⟨_, rfl⟩, ?_⟩
     have h := hX.out.2.2.2
     rw [haw] at h
     exact h
end Go.Proofs.YtbkfnmgkcgnifaaGreat
namespace Go.Proofs.YtbkfnmgkcgnifaaGreat
open Go.RowKit Go.Shelf Go.Proofs.YtbkfnmgkcgnifaaGreatW.PrintWords Go.Proofs.YtbkfnmgkcgnifaaGreatW.PrintLast Mdl Go.ChangeMaps
attribute [local go_sem] Oper.semAt_some
section
variable {P : Program} {Q : Exit → Act → World → Prop} {l n : Nat}
theorem listIn_RF {ops : Array Oper} (hQ : ¬ LetsOut Q) : ∀ (os : List Oper) (a : Act) (w : World), os.all noDefer = true → wpList P ops Q os a w → wpListIn (RF l) n P ops Q os a w
 | [], _, _, _, h => h
 | o :: os, a, w, hd, h => by
  rw [List.all_cons, Bool.and_eq_true] at hd
  unfold wpList at h
  unfold wpListIn
  split
  ·rename_i hw
   rw [if_pos hw] at h
   exact Oper.wpIn_mono (fun a w hk => listIn_RF hQ os a w hd.2 hk) (operIn_RF (l := l) (n := n) hd.1 (h.resolve_right (fun h2 => hQ h2.2)))
  ·rename_i hw
   rw [if_neg hw] at h
   exact ⟨fun _ _ => trivial, listIn_RF hQ os _ w hd.2 h⟩
end
theorem mvV_one (m : Mv) : (mvV m).oneCell' = true := by cases m <;> rfl
abbrev kMv : Kd Mv := Kd.scalar mvV mvV_one
theorem Tryz.infoMove : (Tryz.prog.info? 147).map (fun i => (i.zero, i.size, i.bytes)) = some (some .nilIface, 1, 16) := by kernel_rfl
theorem R_quiet {α : Type} {d : Kd α} {e base B : Nat} {ok : Nat → Prop} {W W' : World} {v : Value} {xs : List α} (h : d.R e W base ok v xs) (hq : Quiet B W W') : d.R e W' base ok v xs :=
 Kd.R_mono (Kd.R_move (Kd.R_bound h) (fun k hk => by
  obtain ⟨_, _, _, q, _, cells, hc⟩ := hk
  rw [hc]; exact hq.same _ _ hc (.inr rfl))) (fun _ hk => hk.1)
def ColI (w : World) (bx : Nat) (pre : List Mv) (V : World) : Prop := ∃ A c, V.heap[bx]? = some (.cells #[.slice A pre.length c] 144 (0, 0)) ∧ kMv.R 147 V (bx + 1) (fun _ => True) (.slice A pre.length c) pre ∧ Below w.heap.size w V
set_option maxRecDepth 8000 in
set_option maxHeartbeats 8000000 in
theorem appendSeq_any (w0 : World) (G : RG) (W lim : Nat) (st : St) (q : Nat → Nat → Value) (bx : Nat) (w : World) (h : RunAt w0 G W lim st q w) (hbx : w.heap[bx]? = some (.cells #[.pointer (some ⟨G.rb, 0, none⟩)] 84 (0, 0))) (hW : W ≤ 4) (hh : HasOk W st) (hlen : (movesS W st).length ≤ 1000000000000) :
  Calls Tryz.prog 104 #[.slice none 0 0, .func (.func 105) #[] #[.pointer (some ⟨bx, 0, none⟩)]] w fun e w' => ∃ v, e = .returned v ∧ kMv.R 147 w' w.heap.size (fun _ => True) v (movesS W st) ∧ Below w.heap.size w w' := by
 have hb1 := below_new w (.cells #[.slice none 0 0] 144)
 have H1 := Aside0.mk (And.intro (h.to_below hb1) (And.intro (blk_below hbx hb1) (And.intro (show (w.alloc (.cells #[.slice none 0 0] 144)).heap[w.heap.size]? = some (.cells #[.slice none 0 0] 144 (0, 0)) from heap_alloc_new w _) (And.intro hb1 (show (w.alloc (.cells #[.slice none 0 0] 144)).heap.size = w.heap.size + 1 by simp)))))
 have HB := Lib.hid (show w0.heap.size ≤ w.heap.size from h.below.size)
 have HLN := Lib.hid hlen
 clear h hbx hb1 hlen
 refine (callsIn_wide (n := 6)).1 (callsIn_of_wp_marks Tryz.func104 rfl trivial ?_ rfl)
 refine wpIn_wide.2 ?_
 simp only [Tryz.ntmps104, List.size_toArray, List.length_cons, List.length_nil, Nat.reduceAdd, Nat.reduceSub, Array.replicate_succ, Array.replicate_zero, List.push_toArray, List.append_toArray, List.nil_append, List.cons_append, List.append_nil]
 go_wp2_with fail
 generalize hw1 : w.alloc (.cells #[.slice none 0 0] 144) = w1 at *
 have HSQ := Lib.hid (moves1_seq w0 G W lim st q bx w.heap.size w1 H1.out.1 HB.out H1.out.2.1 hW hh)
 clear hw1
 refine (wpIn_wide (n := 6)).1 ?_
 refine range_keep (P := Tryz.prog) (gf := 105) (first := #[]) (cap := #[.pointer (some ⟨bx, 0, none⟩)]) rfl (enters_of Tryz.func105 (by kernel_rfl) rfl) (enc := fun m => #[mvV m]) (fun _ => rfl) HSQ.out
  (fun pre V => ColI w w.heap.size pre V) ?stab ?start
  (fun pre m a1 V => a1 = { tmps := #[.slice none 0 0, .func (.func 105) #[] #[.pointer (some ⟨bx, 0, none⟩)], .pointer (some ⟨w.heap.size, 0, none⟩), undef, .slice none 0 0, mvV m, .func (.func 105) #[] #[.pointer (some ⟨bx, 0, none⟩)], mvV m, undef, undef, undef, undef, undef], defers := [] } ∧ ColI w w.heap.size pre V)
  ?stab2 ?assign ?body ?done
 case stab =>
  rintro pre V V' hV ⟨A, c, h1, h2, h3⟩ hq
  exact ⟨A, c, hq.same _ _ h1 (.inr rfl), R_quiet h2 hq, h3.trans ((hq.toBelow hV).mono (by have := H1.out.2.2.2.2; omega))⟩
 case start => exact ⟨none, 0, H1.out.2.2.1, Kd.R_nil _ _ _ _ _, H1.out.2.2.2.1⟩
 case stab2 =>
  rintro pre m a1 _ V V' hV ⟨h0, A, c, h1, h2, h3⟩ hq
  exact ⟨h0, A, c, hq.same _ _ h1 (.inr rfl), R_quiet h2 hq, h3.trans ((hq.toBelow hV).mono (by have := H1.out.2.2.2.2; omega))⟩
 case assign =>
  rintro l pre m V K hV hp hI hK
  have HKK := Lib.hid hK
  have HI := Aside0.mk hI
  clear hK hI
  gi_wp2
  exact HKK.out _ _ (NK.refl _ _) ⟨rfl, HI.out⟩
 case body =>
  rintro l pre m a1 V hV hp ⟨rfl, hI⟩
  obtain ⟨A, c, hbk, hR, hB⟩ := hI
  have hpl : pre.length ≤ 1000000000000 := by
   obtain ⟨xs, rfl, hpx⟩ := hp
   have := hpx.length_le
   have := HLN.out
   rw [List.length_append] at *; omega
  have HR := Aside0.mk (And.intro hR (And.intro hB hbk))
  have k0 : V.cell? ⟨w.heap.size, 0, none⟩ = some (.slice A pre.length c) := (blk_cell hbk 0).trans rfl
  have HPL := Lib.hid hpl
  clear hR hB hbk hp hpl
  obtain ⟨t, x, hmv⟩ : ∃ t x, mvV m = .iface t x := by cases m <;> exact ⟨_, _, rfl⟩
  have HMV := Lib.hid hmv
  rw [hmv]
  clear hmv
  refine wpIn_block (wpIn_region_lit (listIn_RF (fun ⟨_, _, h⟩ => h) _ _ _ rfl ?_))
  go_wp2_with (at_builtin; go_must (refine Kd.R_append kMv (w0 := V) (w.heap.size + 1) rfl (.tmp 8) (.tmp 10) _ 147 _ 16 rfl Tryz.underlying144 Tryz.infoMove rfl (by decide) (by decide) (.slice A pre.length c) pre m [.iface t x] (fun _ => True) (fun _ => False) rfl rfl (by show _ = [mvV m]; rw [HMV.out]) (fun _ h => h.elim) (fun _ _ => trivial) HR.out.1 (Below.refl _ _) (by have := H1.out.2.2.2.2; omega) (by have := HPL.out; omega) ?_); intro v6 w6 hR6 hb6 hg6 hat6; obtain ⟨A6, c6, hv6⟩ := Kd.R_slice hR6; have hbk6 := blk_grown HR.out.2.2 hg6 (fun he => by have := Kd.R_base HR.out.1 _ he.symm; omega); have H6 := Aside0.mk (And.intro hR6 (And.intro (HR.out.2.1.trans (hb6.mono (Nat.le_succ _))) (And.intro hbk6 hg6))); clear hR6 hb6 hg6 hat6; generalize hl6 : (pre ++ [m]).length = l6 at *; have HL6 := Lib.hid hl6; subst hv6; have k6 : w6.cell? ⟨w.heap.size, 0, none⟩ = some (.slice A pre.length c) := (blk_cell hbk6 0).trans rfl; have kf6 : w6.frozen? ⟨w.heap.size, 0, none⟩ = false := blk_frozen hbk6 0; clear hbk6 hl6 k0)
  have hg7 : w6.grownBy (w6.setCell ⟨w.heap.size, 0, none⟩ (.slice A6 l6 c6)) (some w.heap.size) := setCells_grown w.heap.size [_] 0 w6
  have hbx7 : (w6.setCell ⟨w.heap.size, 0, none⟩ (.slice A6 l6 c6)).heap[w.heap.size]? = some (.cells #[.slice A6 l6 c6] 144 (0, 0)) := blk_put H6.out.2.2.1 0 _ rfl
  refine ⟨?_, A6, c6, by rw [HL6.out]; exact hbx7, ?_, ?_⟩
  ·refine ⟨⟨hg7.os.trans H6.out.2.2.2.os, hg7.tape.trans H6.out.2.2.2.tape, hg7.output.trans H6.out.2.2.2.output⟩, Nat.le_trans H6.out.2.2.2.size hg7.size, fun k o hk ho => ?_⟩
   have hne : k ≠ w.heap.size := fun he => by
    subst he
    rw [HR.out.2.2] at hk; cases hk
    rcases ho with ho | ho
    ·exact absurd ho (Nat.lt_irrefl _)
    ·simp [KO] at ho
   have hne2 : some k ≠ (Value.slice A pre.length c).ownBlock := fun he => by
    obtain ⟨_, hown⟩ := Kd.R_own HR.out.1
    obtain ⟨cc, hcc⟩ := own_typed hown k he.symm
    rw [hcc] at hk; cases hk
    rcases ho with ho | ho
    ·have := Kd.R_base HR.out.1 k he.symm; omega
    ·simp [KO] at ho
   exact blk_grown (blk_grown hk H6.out.2.2.2 hne2) hg7 (fun he => hne (by injection he))
  ·rw [HL6.out]
   exact Kd.R_grown (Kd.R_bound H6.out.1) hg7 (fun k hk he => by injection he with he; subst he; have := hk.2.1; omega) |> (Kd.R_mono · (fun _ _ => trivial))
  ·exact H6.out.2.1.grown hg7 H6.out.2.1.size (fun k hk => by injection hk with hk; omega)
 case done =>
  rintro D xs V hD rfl hI hK
  obtain ⟨A, c, hbk, hR, hB⟩ := hI
  have k0 : V.cell? ⟨w.heap.size, 0, none⟩ = some (.slice A (movesS W st).length c) := (blk_cell hbk 0).trans rfl
  have HR := Aside0.mk (And.intro hR (And.intro hB hK))
  clear hR hB hK hbk
  generalize hms : movesS W st = ms at *
  have HMS := Lib.hid hms
  clear hms
  obtain ⟨nm, hnm⟩ : ∃ nm, nm = ms.length := ⟨_, rfl⟩
  rw [← hnm] at k0
  have HNM := Lib.hid hnm
  clear hnm
  go_wp2_with fail
  have hq : Quiet w1.heap.size V (V.putObj D (.deferred none)) := .putObj HR.out.2.2 rfl hD
  have hsz := H1.out.2.2.2.2
  have hVs : w1.heap.size ≤ V.heap.size := by have := blk_lt HR.out.2.2; omega
  refine ⟨by simp, .inl ⟨_, _, rfl, run_takeDeferred HR.out.2.2, ?_⟩⟩
  refine ⟨_, results_tmp rfl _ _ _, .slice A ms.length c, ?_, ?_, HR.out.2.1.trans ((hq.toBelow hVs).mono (by omega))⟩
  ·rw [← HNM.out]; rfl
  ·rw [HMS.out]
   exact R_quiet (Kd.R_lower HR.out.1 (Nat.le_succ _)) hq
theorem collect_any (w0 : World) (G : RG) (W lim : Nat) (st : St) (q : Nat → Nat → Value) (bx : Nat) (w : World) (h : RunAt w0 G W lim st q w) (hbx : w.heap[bx]? = some (.cells #[.pointer (some ⟨G.rb, 0, none⟩)] 84 (0, 0))) (hW : W ≤ 4) (hh : HasOk W st) (hlen : (movesS W st).length ≤ 1000000000000) :
  Calls Tryz.prog 79 #[.func (.func 105) #[] #[.pointer (some ⟨bx, 0, none⟩)]] w fun e w' => ∃ v, e = .returned v ∧ kMv.R 147 w' w.heap.size (fun _ => True) v (movesS W st) ∧ Below w.heap.size w w' := by
 have HC := Lib.hid (appendSeq_any w0 G W lim st q bx w h hbx hW hh hlen)
 clear h hbx
 go_enter Tryz.func79, Tryz.ntmps79
 go_wp2_with fail
 refine HC.out.mono ?_
 rintro e w1 ⟨v, rfl, hR, hb⟩
 have HR := Aside0.mk (And.intro hR hb)
 clear hR hb
 go_wp2_with fail
 go_ret
 exact ⟨v, rfl, HR.out.1, HR.out.2⟩
theorem moves_any (rb : Nat) (w : World) : Calls Tryz.prog 80 #[.pointer (some ⟨rb, 0, none⟩)] w fun e w' => e = .returned (.func (.func 105) #[] #[.pointer (some ⟨w.heap.size, 0, none⟩)]) ∧ w'.heap[w.heap.size]? = some (.cells #[.pointer (some ⟨rb, 0, none⟩)] 84 (0, 0)) ∧ Below w.heap.size w w' := by
 have hmf : ∀ (fn : Fn) (first cap : Array Value) (w : World), (Instr.makeFunc fn first cap).run Tryz.prog w = .ok (.func fn first cap) w := fun _ _ _ _ => rfl
 have H := Aside0.mk (And.intro (show (w.alloc (.cells #[.pointer (some ⟨rb, 0, none⟩)] 84)).heap[w.heap.size]? = some (.cells #[.pointer (some ⟨rb, 0, none⟩)] 84 (0, 0)) from heap_alloc_new w _) (below_new w (.cells #[.pointer (some ⟨rb, 0, none⟩)] 84)))
 go_enter Tryz.func80, Tryz.ntmps80
 go_wp2_with fail
 go_ret
 exact ⟨rfl, H.out.1, H.out.2⟩
end Go.Proofs.YtbkfnmgkcgnifaaGreat
namespace Go.Proofs.YtbkfnmgkcgnifaaGreat
open Go.RowKit Go.Shelf Go.Proofs.YtbkfnmgkcgnifaaGreatW.PrintWords Go.Proofs.YtbkfnmgkcgnifaaGreatW.PrintLast Mdl Go.ChangeMaps
namespace Mdl
def MvOk (W : Nat) (st : St) : Mv → Prop
 | .work i m => i < W ∧ ∃ v, (m, v) ∈ st.hasOf i
 | .take i k => i < W ∧ k < W ∧ st.queue i k ≠ []
theorem sortM_mem {l : List Mk} {m : Mk} : m ∈ sortM l ↔ m ∈ l := (sortL_spec ordN (l := l) (fun _ _ => trivial)).2.mem_iff
theorem mem_moves {W : Nat} {st : St} {mv : Mv} (h : mv ∈ movesS W st) : MvOk W st mv := by
 rw [movesS_eq, List.mem_append] at h
 rcases h with h | h
 ·obtain ⟨i, hi, hm⟩ := List.mem_flatMap.1 h
  unfold fW at hm
  obtain ⟨m, hm2, rfl⟩ := List.mem_map.1 hm
  obtain ⟨e, he, rfl⟩ := List.mem_map.1 (sortM_mem.1 hm2)
  exact ⟨List.mem_range.1 hi, e.2, he⟩
 ·obtain ⟨i, hi, hm⟩ := List.mem_flatMap.1 h
  unfold fT at hm
  obtain ⟨k, hk, hm⟩ := List.mem_flatMap.1 hm
  unfold gT at hm
  split at hm
  ·cases hm
  ·rename_i hq
   rw [List.mem_singleton.1 hm]
   exact ⟨List.mem_range.1 hi, List.mem_range.1 hk, hq⟩
end Mdl
theorem at_mv {w : World} {A : Option Addr} {l : List Mv} (h : kMv.C w A l.length l) {k : Nat} (hk : k < l.length) : ∃ ad, A = some ad ∧ w.cell? (ad.add k) = some (mvV l[k]) := by
 obtain ⟨ad, c, e, hl, hK, hc⟩ := Kd.C_get h (Mv.take 0 0) (k : Int) (by omega) (by omega)
 rw [Int.toNat_natCast, List.getD_eq_getElem?_getD, List.getElem?_eq_getElem hk] at hK
 rw [Int.toNat_natCast] at hc
 have hK : c = [mvV l[k]] := hK
 subst hK
 refine ⟨ad, e, ?_⟩
 have := hc 0 _ rfl
 rwa [show kMv.sz = 1 from rfl, Nat.mul_one, Nat.add_zero] at this
def StepPost (w0 : World) (G : RG) (W : Nat) (E : List Ed) (st : St) (e : Ending) (w' : World) : Prop := match stepS E W st with
 | none => e = .returned (.bool false) ∧ RunOk w0 G W st w'
 | some st' => e = .returned (.bool true) ∧ RunOk w0 G W st' w'
set_option maxRecDepth 8000 in
set_option maxHeartbeats 4000000 in
theorem step_any (w0 : World) (G : RG) (W : Nat) (st : St) (N Wd : Int) (E : List Ed) (ways : Ways) (w : World) (h : RunOk w0 G W st w) (hG : GraphAt w0 G.gb N Wd E ways) (hW : W ≤ 4) (h16 : E.length ≤ 16) (hql : ∀ j k, (st.queue j k).length ≤ 1000000000) (hh : HasOk W st) (hlen : (movesS W st).length ≤ 1000000) :
  Calls Tryz.prog 61 #[.pointer (some ⟨G.rb, 0, none⟩)] w (StepPost w0 G W E st) := by
 obtain ⟨q, h⟩ := h
 have HM := Lib.hid (moves_any G.rb w)
 have HR := Aside0.mk h
 have HG := Aside0.mk hG
 have HLN := Lib.hid hlen
 clear h hG hlen
 go_enter Tryz.func61, Tryz.ntmps61
 go_wp2_with fail
 refine HM.out.mono ?_
 rintro e w1 ⟨rfl, hbx, hb1⟩
 have H1 := Aside0.mk (HR.out.to_below hb1)
 have HC := Lib.hid (collect_any w0 G W _ st q _ w1 H1.out hbx hW hh (by have := HLN.out; omega))
 clear hbx hb1 HM HR
 go_wp2_with fail
 refine HC.out.mono ?_
 rintro e w2 ⟨v, rfl, hR2, hb2⟩
 have H2 := Aside0.mk (And.intro (H1.out.to_below hb2) hR2)
 obtain ⟨Am, cm, rfl⟩ := Kd.R_slice hR2
 clear hR2 hb2 HC H1
 obtain ⟨ms, hms⟩ : ∃ ms, movesS W st = ms := ⟨_, rfl⟩
 have HMS := Lib.hid hms
 rw [hms] at H2 HLN ⊢
 clear hms
 cases ms with
 | nil =>
  go_wp2_with fail
  go_ret
  unfold StepPost stepS
  rw [HMS.out]
  exact ⟨rfl, q, H2.out.1.relim⟩
 | cons a l =>
  obtain ⟨nm, hnm⟩ : ∃ nm, nm = l.length := ⟨_, rfl⟩
  have hnz : (((a :: l).length : Nat) : Int) = (nm : Int) + 1 := by rw [List.length_cons, hnm]; omega
  have hnl : (a :: l).length = nm + 1 := by rw [List.length_cons, hnm]
  have HNM := Lib.hid hnm
  rw [hnl]
  have hz : ((nm : Int) + 1 == 0) = false := by simp; omega
  have hnmb : nm ≤ 1000000 := by have := HLN.out; rw [hnl] at this; omega
  obtain ⟨A8, c8, hC8, hc8, hr8, _⟩ := H2.out.1.cells
  have HN := Lib.hid (number_any G.rb _ _ _ G.gb _ A8 c8 st.script ((nm : Int) + 1) w0 w2 H2.out.1.below (by omega) (by have := HLN.out; rw [hnl] at this; omega) hr8 hC8 hc8)
  have HRG := Lib.hid (numP_range st.script (show (1 : Int) ≤ (nm : Int) + 1 by omega))
  clear hC8 hc8 hr8 hnz hnm hnl
  go_wp2_with fail
  refine HN.out.mono ?_
  rintro e w3 ⟨rfl, A9, c9, hr9, hg9, hz9, hC9, hc9⟩
  obtain ⟨k, hk⟩ : ∃ k : Nat, numP st.script ((nm : Int) + 1) = k := ⟨(numP st.script ((nm : Int) + 1)).toNat, by have := HRG.out; omega⟩
  rw [hk]
  have hkn : k < (a :: l).length := by have := HRG.out; have := HNM.out; rw [List.length_cons]; omega
  have hk0 : (0 : Int) ≤ k := by omega
  have hk1 : (k : Int) < (nm : Int) + 1 := by have := HRG.out; omega
  have hst : stepS E W st = some (moveS E W { st with script := st.script.tail } (a :: l)[k]) := by
   unfold stepS
   rw [HMS.out]
   simp only
   rw [← HNM.out, hk, Int.toNat_natCast, List.getD_eq_getElem?_getD, List.getElem?_eq_getElem hkn]
   rfl
  have hmo : MvOk W st (a :: l)[k] := mem_moves (by rw [HMS.out]; exact List.getElem_mem hkn)
  have h3 := H2.out.1.set_run hg9 hr9 hC9 hc9
  have hR3 : kMv.R 147 w3 0 (fun _ => True) (.slice Am (a :: l).length cm) (a :: l) := by
   refine Kd.R_mono (Kd.R_grown (Kd.R_bound (Kd.R_lower H2.out.2 (Nat.zero_le _))) hg9 (fun j hj he => ?_)) (fun _ _ => trivial)
   obtain ⟨_, _, _, qq, hq, cc, hcc⟩ := hj
   have hq : qq = 147 := by simpa [show kMv.E = [] from rfl] using hq
   subst hq
   injection he with he
   subst he
   exact not_typed H2.out.1.t_rb rfl ⟨cc, hcc⟩
  obtain ⟨ad, rfl, hcell⟩ := at_mv (Kd.R_reads' hR3).2.2 hkn
  have H3 := Aside0.mk (And.intro h3.relim (And.intro hst hmo))
  clear h3 hst hmo hR3 hr9 hg9 hz9 hC9 hc9 HN H2 hk HRG
  generalize (a :: l)[k] = mv at *
  cases mv with
  | work i m =>
   simp only [mvV] at hcell
   have hm : ∀ w, (method 317 179 (.agg #[.int .i64 i, .int .i64 m.1, .int .i64 m.2.1, .int .i64 m.2.2.1, .int .i64 m.2.2.2]) "deltaworks/progress.make").run Tryz.prog w = .ok (144, .agg #[.int .i64 i, .int .i64 m.1, .int .i64 m.2.1, .int .i64 m.2.2.1, .int .i64 m.2.2.2]) w := fun _ => by kernel_rfl
   have HWM := Lib.hid (workMake_any w0 G W { st with script := st.script.tail } i m N Wd E ways w3 ⟨q, H3.out.1⟩ HG.out H3.out.2.2.1 hW h16 hql)
   go_wp2_with fail
   refine HWM.out.mono ?_
   rintro e w4 ⟨rfl, h4⟩
   have H4 := Aside0.mk h4
   clear h4 HWM
   go_wp2_with fail
   go_ret
   unfold StepPost
   rw [H3.out.2.1]
   exact ⟨rfl, H4.out⟩
  | take i j =>
   simp only [mvV] at hcell
   have hm : ∀ w, (method 317 182 (.agg #[.int .i64 i, .int .i64 j]) "deltaworks/progress.make").run Tryz.prog w = .ok (146, .agg #[.int .i64 i, .int .i64 j]) w := fun _ => by kernel_rfl
   obtain ⟨n, r, hnr⟩ : ∃ n r, st.queue i j = n :: r := by
    cases hq : st.queue i j with
    | nil => exact absurd hq H3.out.2.2.2.2
    | cons n r => exact ⟨n, r, rfl⟩
   have HWM := Lib.hid (takeMake_any w0 G W { st with script := st.script.tail } i j n r w3 ⟨q, H3.out.1⟩ H3.out.2.2.1 H3.out.2.2.2.1 hW hnr)
   clear hnr
   go_wp2_with fail
   refine HWM.out.mono ?_
   rintro e w4 ⟨rfl, h4⟩
   have H4 := Aside0.mk h4
   clear h4 HWM
   go_wp2_with fail
   go_ret
   unfold StepPost
   rw [H3.out.2.1]
   exact ⟨rfl, H4.out⟩
end Go.Proofs.YtbkfnmgkcgnifaaGreat
namespace Go.Proofs.YtbkfnmgkcgnifaaGreat
open Go.RowKit Go.Shelf Go.Proofs.YtbkfnmgkcgnifaaGreatW.PrintWords Go.Proofs.YtbkfnmgkcgnifaaGreatW.PrintLast Mdl Go.ChangeMaps
namespace Mdl
abbrev Msg := (Int × List Int) × Int
def msgOk (N Wd workers : Int) (m : Msg) : Bool := decide (0 ≤ m.1.1 ∧ m.1.1 < N) && (decide ((m.1.2.length : Int) = Wd) && (withinB 1048576 m.1.2 && (decide (0 ≤ m.2) && decide (m.2 < workers))))
def restOk (workers : Int) (n : Nat) : Prop := 1 ≤ workers ∧ workers ≤ 4 ∧ n ≤ 8
instance (workers : Int) (n : Nat) : Decidable (restOk workers n) := by unfold restOk; infer_instance
structure Plan where
 N : Int
 Wd : Int
 E : List Ed
 workers : Int
 start : List Msg
def plannedP (p : Plan) : Option Ways :=
 match openedP p.N p.Wd p.E with
 | none => none
 | some ways => if restOk p.workers p.start.length ∧ p.start.all (msgOk p.N p.Wd p.workers) = true then some ways else none
theorem planned_bad {p : Plan} {ways : Ways} (ho : openedP p.N p.Wd p.E = some ways) {m : Msg} (h : m ∈ p.start) (hb : msgOk p.N p.Wd p.workers m = false) : plannedP p = none := by
 unfold plannedP
 rw [ho]
 simp only
 rw [if_neg]
 rintro ⟨_, h2⟩
 have := List.all_eq_true.1 h2 m h
 rw [hb] at this; cases this
end Mdl
def kMs : Kd Msg := Kd.pair (Kd.pair kI kLI) kI
theorem at_msg {w : World} {A : Option Addr} {l : List Msg} (h : kMs.C w A l.length l) {k : Nat} (hk : k < l.length) :
  ∃ ad sA sC, A = some ad ∧ w.cell? (ad.add (k * 3)) = some (.int .i64 l[k].1.1) ∧ w.cell? ⟨(ad.add (k * 3)).block, (ad.add (k * 3)).off + 1, none⟩ = some (.slice sA l[k].1.2.length sC) ∧ w.cell? ⟨(ad.add (k * 3)).block, (ad.add (k * 3)).off + 2, none⟩ = some (.int .i64 l[k].2) ∧ kI.C w sA l[k].1.2.length l[k].1.2 ∧ l[k].1.2.length ≤ sC := by
 obtain ⟨ad, c, e, hl, hK, hc⟩ := Kd.C_get h ((0, []), 0) (k : Int) (by omega) (by omega)
 rw [Int.toNat_natCast, List.getD_eq_getElem?_getD, List.getElem?_eq_getElem hk] at hK
 rw [Int.toNat_natCast] at hc
 obtain ⟨_, c3, rfl, ⟨c0, c1, rfl, h0, h1⟩, h2⟩ := hK
 cases h0; cases h2
 obtain ⟨sA, sC, rfl, hle, hC⟩ := h1
 refine ⟨ad, sA, sC, e, ?_, ?_, ?_, hC, hle⟩
 ·have := hc 0 _ rfl
  rwa [show kMs.sz = 3 from rfl, Nat.add_zero] at this
 ·have := hc 1 _ rfl
  rwa [show kMs.sz = 3 from rfl, add_field _ _ _ (by omega)] at this
 ·have := hc 2 _ rfl
  rwa [show kMs.sz = 3 from rfl, add_field _ _ _ (by omega)] at this
def planV (p : Plan) (eA : Option Addr) (eC : Nat) (mA : Option Addr) (mC : Nat) : Value := .agg #[.int .i64 p.N, .int .i64 p.Wd, .slice eA p.E.length eC, .int .i64 p.workers, .slice mA p.start.length mC]
structure PlanAt (w : World) (p : Plan) (eA mA : Option Addr) : Prop where
 hE : kE.C w eA p.E.length p.E
 hS : kMs.C w mA p.start.length p.start
theorem PlanAt.below {w w' : World} {p : Plan} {eA mA : Option Addr} (h : PlanAt w p eA mA) (hb : Below w.heap.size w w') : PlanAt w' p eA mA := ⟨Kd.C_below h.hE hb, Kd.C_below h.hS hb⟩
set_option maxRecDepth 8000 in
set_option maxHeartbeats 8000000 in
theorem planned_any (p : Plan) (eA mA : Option Addr) (eC mC : Nat) (w : World) (hp : PlanAt w p eA mA) :
  Calls Tryz.prog 37 #[planV p eA eC mA mC] w (OpenPost w p.N p.Wd p.E (plannedP p)) := by
 obtain ⟨N, Wd, E, wk, ms⟩ := p
 obtain ⟨hE, hS⟩ := hp
 simp only [planV] at hE hS ⊢
 have hSm := Kd.C_max hS
 have b1 := below_new w (.cells #[.int .i64 N, .int .i64 Wd, .slice eA E.length eC, .int .i64 wk, .slice mA ms.length mC] 27)
 have hbk : (w.alloc (.cells #[.int .i64 N, .int .i64 Wd, .slice eA E.length eC, .int .i64 wk, .slice mA ms.length mC] 27)).heap[w.heap.size]? = some (.cells #[.int .i64 N, .int .i64 Wd, .slice eA E.length eC, .int .i64 wk, .slice mA ms.length mC] 27 (0, 0)) := heap_alloc_new w _
 have HO := Lib.hid (opened_any N Wd E eA eC _ (Kd.C_below hE b1))
 have HS := Aside0.mk hS
 have H1 := Aside0.mk (And.intro b1 hbk)
 clear hE hS b1 hbk
 go_enter Tryz.func37, Tryz.ntmps37
 go_upto_region 1 with fail
 generalize w.alloc (.cells #[.int .i64 N, .int .i64 Wd, .slice eA E.length eC, .int .i64 wk, .slice mA ms.length mC] 27) = w1 at *
 have p0 : w1.cell? ⟨w.heap.size, 0, none⟩ = some (.int .i64 N) := (blk_cell H1.out.2 0).trans rfl
 have p1 : w1.cell? ⟨w.heap.size, 1, none⟩ = some (.int .i64 Wd) := (blk_cell H1.out.2 1).trans rfl
 have p2 : w1.cell? ⟨w.heap.size, 2, none⟩ = some (.slice eA E.length eC) := (blk_cell H1.out.2 2).trans rfl
 go_wp2_with fail
 refine HO.out.mono ?_
 rintro e w2 ⟨hb2, h2⟩
 cases ho : openedP N Wd E with
 | none =>
  rw [ho] at h2
  subst h2
  refine ⟨rfl, below_then H1.out.1 H1.out.1.size hb2, ?_⟩
  rw [show plannedP ⟨N, Wd, E, wk, ms⟩ = none by simp only [plannedP, ho]]
 | some ways =>
  rw [ho] at h2
  obtain ⟨gb, rfl, hgb, hG⟩ := h2
  have HG := Aside0.mk hG
  have H2 := Aside0.mk (And.intro (below_then H1.out.1 H1.out.1.size hb2) (blk_below H1.out.2 hb2))
  have HGB := Lib.hid (show w.heap.size ≤ gb by have := H1.out.1.size; omega)
  have HOP := Lib.hid ho
  clear ho hb2 hG hgb p0 p1 p2 HO
  have p3 : w2.cell? ⟨w.heap.size, 3, none⟩ = some (.int .i64 wk) := (blk_cell H2.out.2 3).trans rfl
  have p4 : w2.cell? ⟨w.heap.size, 4, none⟩ = some (.slice mA ms.length mC) := (blk_cell H2.out.2 4).trans rfl
  have HBAD := Lib.hid (fun (hn : ¬ restOk wk ms.length) => show plannedP ⟨N, Wd, E, wk, ms⟩ = none by simp only [plannedP, HOP.out]; rw [if_neg (fun h => hn h.1)])
  by_cases g0 : 1 ≤ wk
  rotate_left
  ·have f0 : decide (1 ≤ wk) = false := by simp; omega
   have n0 : wk < 1 := by omega
   have HB := Lib.hid (HBAD.out (fun h => g0 h.1))
   clear g0
   go_wp2_with fail
   refine (must_false _ _).mono ?_
   rintro e wm ⟨rfl, rfl⟩
   refine ⟨rfl, H2.out.1, ?_⟩
   rw [HB.out]
  by_cases g1 : wk ≤ 4
  rotate_left
  ·have f1 : decide (wk ≤ 4) = false := by simp; omega
   have n1 : 4 < wk := by omega
   have HB := Lib.hid (HBAD.out (fun h => g1 h.2.1))
   clear g1
   go_wp2_with fail
   refine (must_false _ _).mono ?_
   rintro e wm ⟨rfl, rfl⟩
   refine ⟨rfl, H2.out.1, ?_⟩
   rw [HB.out]
  by_cases g2 : ms.length ≤ 8
  rotate_left
  ·have f2 : decide ((ms.length : Int) ≤ 8) = false := by simp; omega
   have n2 : 8 < (ms.length : Int) := by omega
   have HB := Lib.hid (HBAD.out (fun h => g2 h.2.2))
   clear g2
   go_wp2_with fail
   refine (must_false _ _).mono ?_
   rintro e wm ⟨rfl, rfl⟩
   refine ⟨rfl, H2.out.1, ?_⟩
   rw [HB.out]
  have g3 : (ms.length : Int) ≤ 8 := by omega
  go_wp2_with fail
  refine (must_true _ _).mono ?_
  rintro e wm ⟨rfl, rfl⟩
  go_wp2_with fail
  go_loopw [27] (fun i wr => ∃ k : Nat, k ≤ ms.length ∧ i = .int .i64 k ∧ Aside0 ((∀ m ∈ ms.take k, msgOk N Wd wk m = true) ∧ Below w2.heap.size w2 wr)) (fun i _ => ms.length - (intOf i).toNat)
  case atStart => exact ⟨0, Nat.zero_le _, rfl, ⟨by simp, Below.refl _ _⟩⟩
  case round =>
   obtain ⟨k, hk, rfl, hX⟩ := hrel
   by_cases hlt : k < ms.length
   ·obtain ⟨ad, sA, sC, rfl, he0, he1, he2, heL, heC⟩ := at_msg (Kd.C_below HS.out (below_then H2.out.1 H2.out.1.size hX.out.2)) hlt
    have hkE : (k : Int) < ms.length := by omega
    have hk0 : (0 : Int) ≤ k := by omega
    have HEK := Aside0.mk (show ms.take (k + 1) = ms.take k ++ [ms[k]] ∧ ms[k] ∈ ms from ⟨List.take_succ_eq_append_getElem hlt, List.getElem_mem _⟩)
    generalize ms[k] = mm at *
    have q3 := pw_cell_below hX.out.2 p3
    have q0 := pw_cell_below hX.out.2 HG.out.c0
    have q1 := pw_cell_below hX.out.2 HG.out.c1
    have HQ := Lib.hid (And.intro q0 (And.intro q1 q3))
    clear q0 q1 q3
    go_upto_region 6 with fail
    have bE := below_new wr (.cells #[.int .i64 mm.1.1, .slice sA mm.1.2.length sC, .int .i64 mm.2] 77)
    have e0 : (wr.alloc (.cells #[.int .i64 mm.1.1, .slice sA mm.1.2.length sC, .int .i64 mm.2] 77)).cell? ⟨wr.heap.size, 0, none⟩ = some (.int .i64 mm.1.1) := new_cell wr _ _ 0
    have e1 : (wr.alloc (.cells #[.int .i64 mm.1.1, .slice sA mm.1.2.length sC, .int .i64 mm.2] 77)).cell? ⟨wr.heap.size, 1, none⟩ = some (.slice sA mm.1.2.length sC) := new_cell wr _ _ 1
    have e2 : (wr.alloc (.cells #[.int .i64 mm.1.1, .slice sA mm.1.2.length sC, .int .i64 mm.2] 77)).cell? ⟨wr.heap.size, 2, none⟩ = some (.int .i64 mm.2) := new_cell wr _ _ 2
    have f0 := pw_cell_below bE HQ.out.1
    have f1 := pw_cell_below bE HQ.out.2.1
    have f3 := pw_cell_below bE HQ.out.2.2
    have HEL := Aside0.mk (Kd.C_below heL bE)
    have HB := Lib.hid (below_then hX.out.2 hX.out.2.size bE)
    clear heL bE he0 he1 he2
    generalize wr.alloc (.cells #[.int .i64 mm.1.1, .slice sA mm.1.2.length sC, .int .i64 mm.2] 77) = wq at *
    have HPN := Lib.hid (fun w' (h : Below wq.heap.size wq w') => below_then (below_then H2.out.1 H2.out.1.size HB.out) (below_then H2.out.1 H2.out.1.size HB.out).size h)
    have HWI := fun w' hb => Lib.hid (within_any sA sC mm.1.2 1048576 w' (Kd.C_below HEL.out hb))
    refine start_ (n := 36) (S := fun w' => w'.cell? ⟨gb, 0, none⟩ = some (.int .i64 N) ∧ w'.cell? ⟨gb, 1, none⟩ = some (.int .i64 Wd) ∧ w'.cell? ⟨wr.heap.size, 0, none⟩ = some (.int .i64 mm.1.1) ∧ w'.cell? ⟨wr.heap.size, 1, none⟩ = some (.slice sA mm.1.2.length sC) ∧ w'.cell? ⟨wr.heap.size, 2, none⟩ = some (.int .i64 mm.2) ∧ w'.cell? ⟨w.heap.size, 3, none⟩ = some (.int .i64 wk)) (ds := []) (bs 36 0) (by kernel_rfl) rfl (by kernel_rfl) ⟨f0, f1, e0, e1, e2, f3⟩ (fun hHeld => ?_)
    have HD := Aside0.mk (below_drew1 (Below.refl wq.heap.size wq))
    generalize wq.drew = wd at *
    refine pu 0 31 (bs 36 1) ?_
    refine pu 1 32 (bs 36 3) ?_
    refine pu 2 33 (bs 36 7) ?_
    refine tk6 3 34 (bs 36 15) hHeld ?_
    refine on0 4 35 (bs 36 31) fun K hK => ?_
    refine gs0 Tryz.func32 #[.pointer (some ⟨gb, 0, none⟩), .int .i64 mm.1.1] ?_
    cases hF : decide (0 ≤ mm.1.1 ∧ mm.1.1 < N)
    ·refine (is_false _ mm.1.1 N _ hHeld.1 (by have := of_decide_eq_false hF; omega)).mono ?_
     rintro e w1 ⟨rfl, rfl⟩
     refine ⟨_, rfl, hK.out _ _ hHeld (fun _ => ?_)⟩
     clear hK K
     refine nm0 (some 35) ?_
     refine pu 5 36 (bs 36 63) ?_
     refine uf0 6 37 (bs 36 127) ?_
     refine uf0 7 38 (bs 36 255) ?_
     refine uf0 8 39 (bs 36 511) ?_
     refine uf0 9 40 (bs 36 1023) ?_
     refine uf0 10 41 (bs 36 2047) ?_
     refine uf0 11 42 (bs 36 4095) ?_
     refine uf0 12 43 (bs 36 8191) ?_
     refine uf0 13 44 (bs 36 16383) ?_
     refine uf0 14 45 (bs 36 32767) ?_
     refine uf0 15 46 (bs 36 65535) ?_
     refine pu 16 47 (bs 36 131071) ?_
     refine pu 17 48 (bs 36 262143) ?_
     refine uf0 18 49 (bs 36 524287) ?_
     refine uf0 19 50 (bs 36 1048575) ?_
     refine uf0 20 51 (bs 36 2097151) ?_
     refine uf0 21 52 (bs 36 4194303) ?_
     refine pu 22 53 (bs 36 8388607) ?_
     refine pu 23 54 (bs 36 16777215) ?_
     refine uf0 24 55 (bs 36 33554431) ?_
     refine uf0 25 56 (bs 36 67108863) ?_
     refine uf0 26 57 (bs 36 134217727) ?_
     refine pu 27 58 (bs 36 268435455) ?_
     refine pu 28 59 (bs 36 536870911) ?_
     refine uf0 29 60 (bs 36 1073741823) ?_
     refine uf0 30 61 (bs 36 2147483647) ?_
     refine uf0 31 62 (bs 36 4294967295) ?_
     refine uf0 32 63 (bs 36 8589934591) ?_
     refine uf0 33 64 (bs 36 17179869183) ?_
     refine pu 34 65 (bs 36 34359738367) ?_
     refine on0 35 66 (bs 36 68719476735) fun K hK => ?_
     refine dies_ Tryz.func31 (by kernel_rfl) rfl #[.bool false, .int .i64 1] (by rfl) rfl (by (try simp only [List.map_toArray, List.map_cons, List.map_nil]); first | done | rfl) ?_
     refine (must_false _ _).mono ?_
     rintro e w1 ⟨rfl, rfl⟩
     refine ⟨_, rfl, ?_⟩
     have hop : plannedP ⟨N, Wd, E, wk, ms⟩ = none := planned_bad (p := ⟨N, Wd, E, wk, ms⟩) HOP.out HEK.out.2 (by simp only [msgOk, hF, Bool.false_and, Bool.true_and, Bool.and_false])
     refine ⟨rfl, HPN.out _ HD.out, ?_⟩
     rw [hop]
    ·skip
     have hF2 : 0 ≤ mm.1.1 ∧ mm.1.1 < N := of_decide_eq_true hF
     refine (is_true _ mm.1.1 N _ hHeld.1 hF2.1 hF2.2).mono ?_
     rintro e w1 ⟨rfl, rfl⟩
     refine ⟨_, rfl, hK.out _ _ hHeld (fun _ => ?_)⟩
     clear hK K
     refine nm0 (some 35) ?_
     refine pu 5 36 (bs 36 63) ?_
     refine pu 6 37 (bs 36 127) ?_
     refine pu 7 38 (bs 36 255) ?_
     refine tk6 8 39 (bs 36 511) hHeld ?_
     refine pu 9 40 (bs 36 1023) ?_
     refine pu 10 41 (bs 36 2047) ?_
     refine pu 11 42 (bs 36 4095) ?_
     refine pu 12 43 (bs 36 8191) ?_
     refine pu 13 44 (bs 36 16383) ?_
     refine tk6 14 45 (bs 36 32767) hHeld ?_
     cases hL : decide ((mm.1.2.length : Int) = Wd)
     ·have hLb : ((mm.1.2.length : Int) == Wd) = false := by simpa using hL
      refine pu 15 46 (bs 36 65535) ?_
      refine pu 16 47 (bs 36 131071) ?_
      refine pu 17 48 (bs 36 262143) ?_
      refine uf0 18 49 (bs 36 524287) ?_
      refine uf0 19 50 (bs 36 1048575) ?_
      refine uf0 20 51 (bs 36 2097151) ?_
      refine uf0 21 52 (bs 36 4194303) ?_
      refine pu 22 53 (bs 36 8388607) ?_
      refine pu 23 54 (bs 36 16777215) ?_
      refine uf0 24 55 (bs 36 33554431) ?_
      refine uf0 25 56 (bs 36 67108863) ?_
      refine uf0 26 57 (bs 36 134217727) ?_
      refine pu 27 58 (bs 36 268435455) ?_
      refine pu 28 59 (bs 36 536870911) ?_
      refine uf0 29 60 (bs 36 1073741823) ?_
      refine uf0 30 61 (bs 36 2147483647) ?_
      refine uf0 31 62 (bs 36 4294967295) ?_
      refine uf0 32 63 (bs 36 8589934591) ?_
      refine uf0 33 64 (bs 36 17179869183) ?_
      refine pu 34 65 (bs 36 34359738367) ?_
      refine on0 35 66 (bs 36 68719476735) fun K hK => ?_
      refine dies_ Tryz.func31 (by kernel_rfl) rfl #[.bool false, .int .i64 1] (by rfl) rfl (by (try simp only [List.map_toArray, List.map_cons, List.map_nil]); first | done | rfl) ?_
      refine (must_false _ _).mono ?_
      rintro e w1 ⟨rfl, rfl⟩
      refine ⟨_, rfl, ?_⟩
      have hop : plannedP ⟨N, Wd, E, wk, ms⟩ = none := planned_bad (p := ⟨N, Wd, E, wk, ms⟩) HOP.out HEK.out.2 (by simp only [msgOk, hF, hL, Bool.false_and, Bool.true_and, Bool.and_false])
      refine ⟨rfl, HPN.out _ HD.out, ?_⟩
      rw [hop]
     ·skip
      have hLb : ((mm.1.2.length : Int) == Wd) = true := by simpa using hL
      refine pu 15 46 (bs 36 65535) ?_
      refine pu 16 47 (bs 36 131071) ?_
      refine pu 17 48 (bs 36 262143) ?_
      refine pu 18 49 (bs 36 524287) ?_
      refine pu 19 50 (bs 36 1048575) ?_
      refine tk6 20 51 (bs 36 2097151) hHeld ?_
      refine on0 21 52 (bs 36 4194303) fun K hK => ?_
      refine gs0 Tryz.func63 #[.slice sA mm.1.2.length sC, .int .i64 1048576] ?_
      cases hA : withinB 1048576 mm.1.2
      ·rw [hA] at HWI
       refine (HWI _ HD.out).out.mono ?_
       rintro e w1 ⟨rfl, hb1⟩
       have HD := Aside0.mk (below_then HD.out HD.out.size hb1)
       refine ⟨_, rfl, hK.out _ _ ⟨pw_cell_below hb1 hHeld.1, pw_cell_below hb1 hHeld.2.1, pw_cell_below hb1 hHeld.2.2.1, pw_cell_below hb1 hHeld.2.2.2.1, pw_cell_below hb1 hHeld.2.2.2.2.1, pw_cell_below hb1 hHeld.2.2.2.2.2⟩ (fun hHeld => ?_)⟩
       clear hK K
       refine nm0 (some 52) ?_
       refine pu 22 53 (bs 36 8388607) ?_
       refine pu 23 54 (bs 36 16777215) ?_
       refine uf0 24 55 (bs 36 33554431) ?_
       refine uf0 25 56 (bs 36 67108863) ?_
       refine uf0 26 57 (bs 36 134217727) ?_
       refine pu 27 58 (bs 36 268435455) ?_
       refine pu 28 59 (bs 36 536870911) ?_
       refine uf0 29 60 (bs 36 1073741823) ?_
       refine uf0 30 61 (bs 36 2147483647) ?_
       refine uf0 31 62 (bs 36 4294967295) ?_
       refine uf0 32 63 (bs 36 8589934591) ?_
       refine uf0 33 64 (bs 36 17179869183) ?_
       refine pu 34 65 (bs 36 34359738367) ?_
       refine on0 35 66 (bs 36 68719476735) fun K hK => ?_
       refine dies_ Tryz.func31 (by kernel_rfl) rfl #[.bool false, .int .i64 1] (by rfl) rfl (by (try simp only [List.map_toArray, List.map_cons, List.map_nil]); first | done | rfl) ?_
       refine (must_false _ _).mono ?_
       rintro e w1 ⟨rfl, rfl⟩
       refine ⟨_, rfl, ?_⟩
       have hop : plannedP ⟨N, Wd, E, wk, ms⟩ = none := planned_bad (p := ⟨N, Wd, E, wk, ms⟩) HOP.out HEK.out.2 (by simp only [msgOk, hF, hL, hA, Bool.false_and, Bool.true_and, Bool.and_false])
       refine ⟨rfl, HPN.out _ HD.out, ?_⟩
       rw [hop]
      ·skip
       rw [hA] at HWI
       refine (HWI _ HD.out).out.mono ?_
       rintro e w1 ⟨rfl, hb1⟩
       have HD := Aside0.mk (below_then HD.out HD.out.size hb1)
       refine ⟨_, rfl, hK.out _ _ ⟨pw_cell_below hb1 hHeld.1, pw_cell_below hb1 hHeld.2.1, pw_cell_below hb1 hHeld.2.2.1, pw_cell_below hb1 hHeld.2.2.2.1, pw_cell_below hb1 hHeld.2.2.2.2.1, pw_cell_below hb1 hHeld.2.2.2.2.2⟩ (fun hHeld => ?_)⟩
       clear hK K
       refine nm0 (some 52) ?_
       refine pu 22 53 (bs 36 8388607) ?_
       refine pu 23 54 (bs 36 16777215) ?_
       refine pu 24 55 (bs 36 33554431) ?_
       refine tk6 25 56 (bs 36 67108863) hHeld ?_
       cases hV : decide (0 ≤ mm.2)
       ·have hV2 : mm.2 < 0 := by have := of_decide_eq_false hV; omega
        refine pu 26 57 (bs 36 134217727) ?_
        refine pu 27 58 (bs 36 268435455) ?_
        refine pu 28 59 (bs 36 536870911) ?_
        refine uf0 29 60 (bs 36 1073741823) ?_
        refine uf0 30 61 (bs 36 2147483647) ?_
        refine uf0 31 62 (bs 36 4294967295) ?_
        refine uf0 32 63 (bs 36 8589934591) ?_
        refine uf0 33 64 (bs 36 17179869183) ?_
        refine pu 34 65 (bs 36 34359738367) ?_
        refine on0 35 66 (bs 36 68719476735) fun K hK => ?_
        refine dies_ Tryz.func31 (by kernel_rfl) rfl #[.bool false, .int .i64 1] (by rfl) rfl (by (try simp only [List.map_toArray, List.map_cons, List.map_nil]); first | done | rfl) ?_
        refine (must_false _ _).mono ?_
        rintro e w1 ⟨rfl, rfl⟩
        refine ⟨_, rfl, ?_⟩
        have hop : plannedP ⟨N, Wd, E, wk, ms⟩ = none := planned_bad (p := ⟨N, Wd, E, wk, ms⟩) HOP.out HEK.out.2 (by simp only [msgOk, hF, hL, hA, hV, Bool.false_and, Bool.true_and, Bool.and_false])
        refine ⟨rfl, HPN.out _ HD.out, ?_⟩
        rw [hop]
       ·skip
        have hV2 : 0 ≤ mm.2 := of_decide_eq_true hV
        refine pu 26 57 (bs 36 134217727) ?_
        refine pu 27 58 (bs 36 268435455) ?_
        refine pu 28 59 (bs 36 536870911) ?_
        refine pu 29 60 (bs 36 1073741823) ?_
        refine tk6 30 61 (bs 36 2147483647) hHeld ?_
        refine pu 31 62 (bs 36 4294967295) ?_
        refine tk6 32 63 (bs 36 8589934591) hHeld ?_
        cases hU : decide (mm.2 < wk)
        ·have hU2 : wk ≤ mm.2 := by have := of_decide_eq_false hU; omega
         refine pu 33 64 (bs 36 17179869183) ?_
         refine pu 34 65 (bs 36 34359738367) ?_
         refine on0 35 66 (bs 36 68719476735) fun K hK => ?_
         refine dies_ Tryz.func31 (by kernel_rfl) rfl #[.bool false, .int .i64 1] (by rfl) rfl (by (try simp only [List.map_toArray, List.map_cons, List.map_nil]); first | done | rfl) ?_
         refine (must_false _ _).mono ?_
         rintro e w1 ⟨rfl, rfl⟩
         refine ⟨_, rfl, ?_⟩
         have hop : plannedP ⟨N, Wd, E, wk, ms⟩ = none := planned_bad (p := ⟨N, Wd, E, wk, ms⟩) HOP.out HEK.out.2 (by simp only [msgOk, hF, hL, hA, hV, hU, Bool.false_and, Bool.true_and, Bool.and_false])
         refine ⟨rfl, HPN.out _ HD.out, ?_⟩
         rw [hop]
        ·skip
         have hU2 : mm.2 < wk := of_decide_eq_true hU
         refine pu 33 64 (bs 36 17179869183) ?_
         refine pu 34 65 (bs 36 34359738367) ?_
         refine on0 35 66 (bs 36 68719476735) fun K hK => ?_
         refine gs0 Tryz.func31 #[.bool true, .int .i64 1] ?_
         refine (must_true _ _).mono ?_
         rintro e w3 ⟨rfl, rfl⟩
         refine ⟨_, rfl, hK.out _ _ hHeld (fun _ => ?_)⟩
         clear hK K
         refine nm0 (some 66) ?_
         refine dn0 ?_
         have HX2 := Aside0.mk (show (∀ m ∈ ms.take (k + 1), msgOk N Wd wk m = true) ∧ Below w2.heap.size w2 w1 from ⟨by
          rw [HEK.out.1]
          intro m hm
          rcases List.mem_append.1 hm with hm | hm
          ·exact hX.out.1 m hm
          ·rw [List.mem_singleton.1 hm]
           simp only [msgOk, hF, hL, hA, hV, hU, Bool.and_self], below_then HB.out HB.out.size HD.out⟩)
         go_wp2_with fail
         exact ⟨⟨k + 1, by omega, by go_num, HX2⟩, by simp [intOf]; omega⟩
   ·have hkE : ¬ ((k : Int) < ms.length) := by omega
    have hall : ms.all (msgOk N Wd wk) = true := by
     have hkl : k = ms.length := by omega
     have h := hX.out.1
     rw [hkl, List.take_length] at h
     exact List.all_eq_true.2 h
    have HP := Lib.hid (show plannedP ⟨N, Wd, E, wk, ms⟩ = some ways by simp only [plannedP, HOP.out]; rw [if_pos ⟨⟨g0, g1, g2⟩, hall⟩])
    go_wp2_with fail
    go_ret
    refine ⟨below_then H2.out.1 H2.out.1.size hX.out.2, ?_⟩
    rw [HP.out]
    obtain ⟨eA', eC', c2, c2'⟩ := HG.out.c2
    obtain ⟨wA, wC, c3, c3'⟩ := HG.out.c3
    exact ⟨gb, rfl, HGB.out, pw_cell_below hX.out.2 HG.out.c0, pw_cell_below hX.out.2 HG.out.c1, ⟨eA', eC', pw_cell_below hX.out.2 c2, Kd.C_below c2' hX.out.2⟩, ⟨wA, wC, pw_cell_below hX.out.2 c3, Kd.C_below c3' hX.out.2⟩⟩
end Go.Proofs.YtbkfnmgkcgnifaaGreat
namespace Go.Proofs.YtbkfnmgkcgnifaaGreat
open Go.RowKit Go.Shelf Go.Proofs.YtbkfnmgkcgnifaaGreatW.PrintWords Go.Proofs.YtbkfnmgkcgnifaaGreatW.PrintLast Mdl Go.ChangeMaps
namespace Mdl
def startMk (m : Msg) : Mk := (m.1.1, tmOf m.1.2)
def startLed (ms : List Msg) : Led := ms.foldl (fun L m => enterL L (startMk m) 1) []
def hasStep (hs : List Led) (m : Msg) : List Led := hs.set m.2.toNat (enterL (hs.getD m.2.toNat []) (startMk m) 1)
def startHas (W : Nat) (ms : List Msg) : List Led := ms.foldl hasStep (List.replicate W [])
def beginS (W : Nat) (ms : List Msg) (script : List Int) : St :=
 {led := List.replicate W (startLed ms), has := startHas W ms, notes := List.replicate W (List.replicate W []), script := script, works := 0, nts := 0, sent := 0 }
def begunP (p : Plan) (script : List Int) (n who : Int) : Except Int Ways :=
 match plannedP p with
 | none => .error 1
 | some ways => if script.length ≤ 300 then if 0 ≤ n ∧ 0 ≤ who ∧ who < p.workers then .ok ways else .error 2 else .error 3
theorem startLed_succ {ms : List Msg} {k : Nat} (h : k < ms.length) : startLed (ms.take (k + 1)) = enterL (startLed (ms.take k)) (startMk ms[k]) 1 := by
 unfold startLed
 rw [List.take_succ_eq_append_getElem h, List.foldl_append]
 rfl
theorem startHas_succ {W : Nat} {ms : List Msg} {k : Nat} (h : k < ms.length) : startHas W (ms.take (k + 1)) = hasStep (startHas W (ms.take k)) ms[k] := by
 unfold startHas
 rw [List.take_succ_eq_append_getElem h, List.foldl_append]
 rfl
theorem planned_ok {p : Plan} {ways : Ways} (h : plannedP p = some ways) : openedP p.N p.Wd p.E = some ways ∧ restOk p.workers p.start.length ∧ ∀ m ∈ p.start, msgOk p.N p.Wd p.workers m = true := by
 unfold plannedP at h
 cases ho : openedP p.N p.Wd p.E with
 | none => rw [ho] at h; cases h
 | some w =>
  rw [ho] at h
  simp only at h
  split at h
  ·rename_i hc
   injection h with h
   subst h
   exact ⟨rfl, hc.1, fun m hm => List.all_eq_true.1 hc.2 m hm⟩
  ·cases h
theorem msgOk_who {N Wd workers : Int} {m : Msg} (h : msgOk N Wd workers m = true) : 0 ≤ m.2 ∧ m.2 < workers := by
 simp only [msgOk, Bool.and_eq_true, decide_eq_true_eq] at h
 exact ⟨h.2.2.2.1, h.2.2.2.2⟩
end Mdl
structure WG where
 wb : Nat
 lb : Nat
 hb : Nat
 nb : Nat
 nc : Nat
instance : Inhabited WG := ⟨⟨0, 0, 0, 0, 0⟩⟩
structure OneAt (w : World) (W : Nat) (L : Led) (d : WG) : Prop where
 wk : w.heap[d.wb]? = some (.cells #[.map (some d.lb), .map (some d.hb), .slice (some ⟨d.nb, 0, none⟩) W d.nc] 97 (0, 0))
 led : LedAt w d.lb L
 has : LedAt w d.hb []
 nbk : ∃ cells, w.heap[d.nb]? = some (.cells cells 180 (0, 0)) ∧ ∀ k, k < W → cells[k]? = some (.slice none 0 0)
theorem OneAt.kept {w w' : World} {W : Nat} {L : Led} {d : WG} {S : Nat → Prop} (h : OneAt w W L d) (hk : Kept w w' S) (hS : ¬ S d.wb ∧ ¬ S d.lb ∧ ¬ S d.hb ∧ ¬ S d.nb) : OneAt w' W L d :=
 ⟨blk_kept h.wk hk hS.1, h.led.kept hk hS.2.1, h.has.kept hk hS.2.2.1, by obtain ⟨c, h1, h2⟩ := h.nbk; exact ⟨c, blk_kept h1 hk hS.2.2.2, h2⟩⟩
theorem OneAt.below {w w' : World} {W : Nat} {L : Led} {d : WG} (h : OneAt w W L d) (hb : Below w.heap.size w w') : OneAt w' W L d := h.kept (Kept.of_below hb (fun _ => False)) ⟨id, id, id, id⟩
def WGlow (B : Nat) (d : WG) : Prop := B ≤ d.wb ∧ B ≤ d.lb ∧ B ≤ d.hb ∧ B ≤ d.nb
def WGhigh (B : Nat) (d : WG) : Prop := d.wb < B ∧ d.lb < B ∧ d.hb < B ∧ d.nb < B
theorem OneAt.t_nb {w : World} {W : Nat} {L : Led} {d : WG} (h : OneAt w W L d) : Typed w d.nb 180 := by
 obtain ⟨c, h1, _⟩ := h.nbk
 exact ⟨c, h1⟩
theorem OneAt.high {w : World} {W : Nat} {L : Led} {d : WG} (h : OneAt w W L d) : WGhigh w.heap.size d := by
 obtain ⟨c, h1, _⟩ := h.nbk
 exact ⟨blk_lt h.wk, h.led.lt, h.has.lt, blk_lt h1⟩
theorem OneAt.enter {w w' : World} {W : Nat} {L L' : Led} {d : WG} (h : OneAt w W L d) (hg : w.grownBy w' (some d.lb)) (hL : LedAt w' d.lb L') (hne : d.lb ≠ d.hb) : OneAt w' W L' d := by
 have hk : Kept w w' (fun k => k = d.lb) := ⟨hg.size, fun i hi hn => hg.block i hi (fun he => hn (by injection he))⟩
 obtain ⟨c, h1, h2⟩ := h.nbk
 exact ⟨blk_kept h.wk hk (Ne.symm (led_ne h.led ⟨_, h.wk⟩)), hL, h.has.kept hk (Ne.symm hne), c, blk_kept h1 hk (Ne.symm (led_ne h.led h.t_nb)), h2⟩
def WGdis (d e : WG) : Prop := d.wb ≠ e.wb ∧ d.nb ≠ e.nb ∧ d.lb ≠ e.lb ∧ d.hb ≠ e.hb ∧ d.lb ≠ e.hb ∧ d.hb ≠ e.lb
structure DoneAt (B W lim : Nat) (L : Led) (ds : List WG) (w : World) : Prop where
 one : ∀ d ∈ ds, OneAt w W L d ∧ WGlow B d ∧ WGhigh lim d ∧ d.lb ≠ d.hb
 dis : ds.Pairwise WGdis
theorem DoneAt.kept {B W lim : Nat} {L : Led} {ds : List WG} {w w' : World} {S : Nat → Prop} (h : DoneAt B W lim L ds w) (hk : Kept w w' S) (hS : ∀ k, S k → lim ≤ k ∨ Typed w k 92 ∨ Typed w k 93) : DoneAt B W lim L ds w' := by
 refine ⟨fun d hd => ?_, h.dis⟩
 obtain ⟨h1, h2, h3, h4⟩ := h.one d hd
 have hn : ∀ k, k < lim → ¬ Typed w k 92 → ¬ Typed w k 93 → ¬ S k := fun k hlt t1 t2 hs => by
  rcases hS k hs with h | h | h
  ·omega
  ·exact t1 h
  ·exact t2 h
 exact ⟨h1.kept hk ⟨hn _ h3.1 (not_typed ⟨_, h1.wk⟩ rfl) (not_typed ⟨_, h1.wk⟩ rfl), hn _ h3.2.1 h1.led.not_typed h1.led.not_typed, hn _ h3.2.2.1 h1.has.not_typed h1.has.not_typed, hn _ h3.2.2.2 (not_typed h1.t_nb rfl) (not_typed h1.t_nb rfl)⟩, h2, h3, h4⟩
theorem DoneAt.below {B W lim : Nat} {L : Led} {ds : List WG} {w w' : World} (h : DoneAt B W lim L ds w) (hb : Below w.heap.size w w') : DoneAt B W lim L ds w' := h.kept (Kept.of_below hb (fun _ => False)) (fun _ h => h.elim)
theorem DoneAt.snoc {B W lim lim' : Nat} {L : Led} {ds : List WG} {d : WG} {w : World} (h : DoneAt B W lim L ds w) (h1 : OneAt w W L d) (hB : B ≤ lim) (h2 : WGlow lim d) (h3 : WGhigh lim' d) (h4 : d.lb ≠ d.hb) (hl : lim ≤ lim') : DoneAt B W lim' L (ds ++ [d]) w := by
 refine ⟨fun x hx => ?_, ?_⟩
 ·rcases List.mem_append.1 hx with hx | hx
  ·obtain ⟨g1, g2, ⟨g3, g4, g5, g6⟩, g7⟩ := h.one x hx
   exact ⟨g1, g2, ⟨by omega, by omega, by omega, by omega⟩, g7⟩
  ·rw [List.mem_singleton.1 hx]
   obtain ⟨g3, g4, g5, g6⟩ := h2
   exact ⟨h1, ⟨by omega, by omega, by omega, by omega⟩, h3, h4⟩
 ·refine List.pairwise_append.2 ⟨h.dis, List.pairwise_singleton _ _, fun x hx y hy => ?_⟩
  rw [List.mem_singleton.1 hy]
  obtain ⟨_, _, ⟨g3, g4, g5, g6⟩, _⟩ := h.one x hx
  obtain ⟨k3, k4, k5, k6⟩ := h2
  exact ⟨by omega, by omega, by omega, by omega, by omega, by omega⟩
theorem ptr_one (b : Nat) : (Value.pointer (some ⟨b, 0, none⟩)).oneCell' = true := rfl
abbrev kP : Kd Nat := Kd.scalar (fun b => .pointer (some ⟨b, 0, none⟩)) ptr_one
theorem Tryz.infoPworker : (Tryz.prog.info? 93).map (fun i => (i.zero, i.size, i.bytes)) = some (some (.pointer none), 1, 8) := by kernel_rfl
theorem Tryz.infoL2 : (Tryz.prog.info? 180).map (fun i => (i.zero, i.size, i.bytes)) = some (some (.slice none 0 0), 1, 24) := by kernel_rfl
theorem made_cell {z : Value} {m k : Nat} (h : k < m) : (madeCells #[z] m)[k]? = some z := by
 simp [madeCells, h, Nat.mod_one]
theorem made_l2 (m : Nat) (h : m ≤ 4) : ∀ W : World, (Instr.makeSlice 95 (.int .i64 (m : Int)) (.int .i64 (m : Int))).run Tryz.prog W = .ok (.slice (some ⟨W.heap.size, 0, none⟩) m m) (W.alloc (.cells (madeCells #[.slice none 0 0] m) 180)) :=
 print_make_of 95 180 _ 24 Tryz.underlying95 Tryz.infoL2 rfl (by decide) m (by omega)
theorem pairwise_get {α : Type} {R : α → α → Prop} {l : List α} (h : l.Pairwise R) {i j : Nat} (hij : i < j) (hj : j < l.length) : R (l[i]'(by omega)) l[j] := List.pairwise_iff_getElem.1 h i j (by omega) hj hij
def mkG (rb wa wc gb : Nat) (ds : List WG) : RG :=
 {rb := rb, wa := wa, wc := wc, gb := gb, wb := fun i => (ds.getD i default).wb, lb := fun i => (ds.getD i default).lb, hb := fun i => (ds.getD i default).hb, nb := fun i => (ds.getD i default).nb, nc := fun i => (ds.getD i default).nc }
theorem DoneAt.run {w0 w : World} {W lim gb rb sC : Nat} {ms : List Msg} {script : List Int} {sA : Option Addr} {A : Option Addr} {c : Nat} {ds : List WG} {ok : Nat → Prop} (h : DoneAt w0.heap.size W lim (startLed ms) ds w) (hl : ds.length = W) (hW : 1 ≤ W) (hb : Below w0.heap.size w0 w)
  (hr : w.heap[rb]? = some (.cells (runCells 0 0 0 gb (.slice A W c) (.slice sA script.length sC)) 92 (0, 0))) (hrb : w0.heap.size ≤ rb) (hR : kP.R 93 w w0.heap.size ok (.slice A W c) (ds.map (·.wb))) (hC : kI.C w0 sA script.length script) (hc : script.length ≤ sC) :
  ∃ G : RG, G.rb = rb ∧ G.gb = gb ∧ RunAt w0 G W lim { beginS W ms script with has := startHas W [] } (fun _ _ => .slice none 0 0) w := by
 have hlen : (ds.map (·.wb)).length = W := by simpa using hl
 obtain ⟨g, cap, hv, hg1, hg2, cells, hcell⟩ := Kd.R_form hR (by rw [hlen]; omega)
 injection hv with hv1 hv2 hv3
 subst hv1
 have hCC := (Kd.R_reads' hR).2.2
 have hds : ∀ i, (hi : i < W) → ds.getD i default = ds[i]'(by omega) := fun i hi => by rw [List.getD_eq_getElem?_getD, List.getElem?_eq_getElem (by omega)]; rfl
 have hone : ∀ i, i < W → OneAt w W (startLed ms) (ds.getD i default) ∧ WGlow w0.heap.size (ds.getD i default) ∧ (ds.getD i default).lb ≠ (ds.getD i default).hb := fun i hi => by
  rw [hds i hi]
  obtain ⟨h1, h2, _, h4⟩ := h.one _ (List.getElem_mem (by omega : i < ds.length))
  exact ⟨h1, h2, h4⟩
 have hdis : ∀ i j, i < W → j < W → i ≠ j → WGdis (ds.getD i default) (ds.getD j default) := fun i j hi hj hne => by
  rw [hds i hi, hds j hj]
  rcases Nat.lt_or_gt_of_ne hne with hlt | hgt
  ·exact pairwise_get h.dis hlt (by omega)
  ·obtain ⟨a1, a2, a3, a4, a5, a6⟩ := pairwise_get h.dis hgt (by omega)
   exact ⟨a1.symm, a2.symm, a3.symm, a4.symm, a6.symm, a5.symm⟩
 have hrep : ∀ i, i < W → (List.replicate W (startLed ms)).getD i [] = startLed ms := fun i hi => by rw [List.getD_eq_getElem?_getD, List.getElem?_replicate, if_pos hi]; rfl
 have hrep2 : ∀ i, (List.replicate W ([] : Led)).getD i [] = [] := fun i => by
  rw [List.getD_eq_getElem?_getD, List.getElem?_replicate]
  split <;> rfl
 have hq : ∀ i k, St.queue { beginS W ms script with has := startHas W [] } i k = [] := fun i k => by
  simp only [St.queue, beginS]
  rw [List.getD_eq_getElem?_getD (l := List.replicate W (List.replicate W [])), List.getElem?_replicate]
  split
  ·rw [Option.getD_some, List.getD_eq_getElem?_getD, List.getElem?_replicate]
   split <;> rfl
  ·rfl
 refine ⟨mkG rb g cap gb ds, rfl, rfl, ⟨hb, ⟨sA, sC, by rw [hlen] at *; rw [hv3] at hr; exact hr, hC, hc⟩, ⟨cells, hcell, fun i hi => ?_⟩, fun i hi => (hone i hi).1.wk, fun i hi => ?_, fun i hi => ?_, fun i hi => (hone i hi).1.nbk, fun i k _ _ => by rw [hq]; exact QAt.nil _ _ _, fun _ _ _ _ _ _ _ _ _ => .inl rfl,
  fun i j hi hj he => ?_, fun i j hi hj he => ?_, fun i j hi hj he => ?_, fun i j hi hj he => ?_, fun i j hi hj he => ?_, ⟨hrb, hg1, fun i hi => (hone i hi).2.1⟩, ⟨by simp [beginS], by simp [startHas], by simp [beginS], fun r hr => ?_⟩, fun k cs hz => hz.elim⟩⟩
 ·have hcc : kP.C w (some ⟨g, 0, none⟩) (ds.map (·.wb)).length (ds.map (·.wb)) := hCC
  obtain ⟨ad, c1, e, _, hK, hcl⟩ := Kd.C_get hcc 0 (i : Int) (by omega) (by rw [hlen]; omega)
  injection e with e
  subst e
  rw [Int.toNat_natCast, List.getD_eq_getElem?_getD, List.getElem?_map, List.getElem?_eq_getElem (by omega : i < ds.length)] at hK
  have hK : c1 = [.pointer (some ⟨(ds[i]'(by omega)).wb, 0, none⟩)] := hK
  have := hcl 0 (.pointer (some ⟨(ds[i]'(by omega)).wb, 0, none⟩)) (by rw [hK]; rfl)
  rw [Int.toNat_natCast, show kP.sz = 1 from rfl, Nat.mul_one, Nat.add_zero, Addr.add_lit, blk_cell hcell, Nat.zero_add] at this
  rw [this]
  show _ = some (Value.pointer (some ⟨(ds.getD i default).wb, 0, none⟩))
  rw [hds i hi]
 ·rw [show St.ledOf { beginS W ms script with has := startHas W [] } i = startLed ms from hrep i hi]
  exact (hone i hi).1.led
 ·rw [show St.hasOf { beginS W ms script with has := startHas W [] } i = [] from hrep2 i]
  exact (hone i hi).1.has
 ·exact Classical.byContradiction fun hne => (hdis i j hi hj hne).1 he
 ·exact Classical.byContradiction fun hne => (hdis i j hi hj hne).2.1 he
 ·exact Classical.byContradiction fun hne => (hdis i j hi hj hne).2.2.1 he
 ·exact Classical.byContradiction fun hne => (hdis i j hi hj hne).2.2.2.1 he
 ·by_cases hij : i = j
  ·subst hij
   exact (hone i hi).2.2 he
  ·exact (hdis i j hi hj hij).2.2.2.2.1 he
 ·have := List.eq_of_mem_replicate (show r ∈ List.replicate W (List.replicate W []) from hr)
  subst this
  simp
structure PreAt (w0 : World) (W lim gb : Nat) (sv : Value) (L : Led) (ds : List WG) (A : Option Addr) (c : Nat) (w : World) : Prop where
 below : Below w0.heap.size w0 w
 run : w.heap[w0.heap.size]? = some (.cells (runCells 0 0 0 gb (.slice A ds.length c) sv) 92 (0, 0))
 row : kP.R 93 w w0.heap.size (fun k => k ≠ w0.heap.size) (.slice A ds.length c) (ds.map (·.wb))
 done : DoneAt w0.heap.size W lim L ds w
theorem R_keptP {w w' : World} {base : Nat} {ok S : Nat → Prop} {v : Value} {xs : List Nat} (h : kP.R 93 w base ok v xs) (hk : Kept w w' S) (hS : ∀ k, S k → ¬ Typed w k 93) : kP.R 93 w' base ok v xs := by
 refine Kd.R_mono (Kd.R_kept (Kd.R_bound h) hk (fun k hk' hs => ?_)) (fun _ h => h.1)
 obtain ⟨_, _, _, q, hq, hc⟩ := hk'
 have hq : q = 93 := by
  rw [show kP.E = [] from rfl] at hq
  simpa using hq
 subst hq
 exact hS k hs hc
theorem PreAt.to_below {w0 w w' : World} {W lim gb c : Nat} {sv : Value} {L : Led} {ds : List WG} {A : Option Addr} (h : PreAt w0 W lim gb sv L ds A c w) (hb : Below w.heap.size w w') : PreAt w0 W lim gb sv L ds A c w' :=
 ⟨below_then h.below h.below.size hb, blk_below h.run hb, Kd.R_below h.row hb, h.done.below hb⟩
theorem PreAt.enter {w0 w w' : World} {W lim gb c b : Nat} {sv : Value} {L L' : Led} {ds : List WG} {A : Option Addr} (h : PreAt w0 W lim gb sv L ds A c w) (hg : w.grownBy w' (some b)) (hL : LedAt w b L') (hb : lim ≤ b) (hlim : w0.heap.size ≤ lim) : PreAt w0 W lim gb sv L ds A c w' := by
 have hk : Kept w w' (fun k => k = b) := ⟨hg.size, fun i hi hn => hg.block i hi (fun he => hn (by injection he))⟩
 exact ⟨below_of_grown h.below hg (by omega), blk_kept h.run hk (Ne.symm (led_ne hL ⟨_, h.run⟩)), R_keptP h.row hk (fun k hk => by subst hk; exact hL.not_typed), h.done.kept hk (fun k hk => .inl (by omega))⟩
theorem PreAt.cells {w0 w : World} {W lim gb c : Nat} {sv : Value} {L : Led} {ds : List WG} {A : Option Addr} (h : PreAt w0 W lim gb sv L ds A c w) : w.cell? ⟨w0.heap.size, 4, none⟩ = some (.slice A ds.length c) ∧ w.frozen? ⟨w0.heap.size, 4, none⟩ = false := ⟨(blk_cell h.run 4).trans rfl, blk_frozen h.run 4⟩
theorem PreAt.lift {w0 w : World} {W lim lim' gb c : Nat} {sv : Value} {L : Led} {ds : List WG} {A : Option Addr} (h : PreAt w0 W lim gb sv L ds A c w) (hl : lim ≤ lim') : PreAt w0 W lim' gb sv L ds A c w :=
 ⟨h.below, h.run, h.row, fun d hd => by obtain ⟨h1, h2, ⟨h3, h4, h5, h6⟩, h7⟩ := h.done.one d hd; exact ⟨h1, h2, ⟨by omega, by omega, by omega, by omega⟩, h7⟩, h.done.dis⟩
theorem PreAt.snoc {w0 w w1 : World} {W lim gb c c1 : Nat} {sv : Value} {L : Led} {ds : List WG} {d : WG} {A A1 : Option Addr} {l1 : Nat} (h : PreAt w0 W lim gb sv L ds A c w) (h1 : OneAt w W L d) (hlim : w0.heap.size ≤ lim) (h2 : WGlow lim d) (h4 : d.lb ≠ d.hb) (hb1 : Below w0.heap.size w0 w1)
  (hR : kP.R 93 w1 w0.heap.size (fun k => k ≠ w0.heap.size) (.slice A1 l1 c1) (ds.map (·.wb) ++ [d.wb])) (hg : w.grownBy w1 (Value.slice A ds.length c).ownBlock) (hl : l1 = ds.length + 1) :
  PreAt w0 W w.heap.size gb sv L (ds ++ [d]) A1 c1 (w1.setCell ⟨w0.heap.size, 4, none⟩ (.slice A1 l1 c1)) := by
 have hk : Kept w w1 (fun k => (Value.slice A ds.length c).ownBlock = some k) := ⟨hg.size, fun i hi hn => hg.block i hi (fun he => hn he.symm)⟩
 have hown : ∀ k, (Value.slice A ds.length c).ownBlock = some k → Typed w k 93 := fun k hk => own_typed (Kd.R_own h.row).choose_spec k hk
 have hrun := blk_kept h.run hk (fun he => not_typed (hown _ he) rfl ⟨_, h.run⟩)
 have hg2 : w1.grownBy (w1.setCell ⟨w0.heap.size, 4, none⟩ (.slice A1 l1 c1)) (some w0.heap.size) := setCells_grown w0.heap.size [_] 4 w1
 have hk2 : Kept w (w1.setCell ⟨w0.heap.size, 4, none⟩ (.slice A1 l1 c1)) (fun k => (Value.slice A ds.length c).ownBlock = some k ∨ k = w0.heap.size) :=
  Kept.then_ (S2 := fun b => b = w0.heap.size) (hk.mono (fun _ hb => .inl hb)) ⟨hg2.size, fun b hb hn => hg2.block b hb (fun he => hn (by injection he))⟩ (fun b hb => .inl (.inr hb))
 have hS : ∀ k, ((Value.slice A ds.length c).ownBlock = some k ∨ k = w0.heap.size) → Typed w k 92 ∨ Typed w k 93 := fun k hk => by
  rcases hk with hk | hk
  ·exact .inr (hown k hk)
  ·subst hk; exact .inl ⟨_, h.run⟩
 have hn : ∀ {t : TypeId} {k : Nat}, Typed w k t → (92 == t) = false → (93 == t) = false → ¬ ((Value.slice A ds.length c).ownBlock = some k ∨ k = w0.heap.size) := fun ht e1 e2 hk => by
  rcases hS _ hk with hk | hk
  ·exact not_typed hk e1 ht
  ·exact not_typed hk e2 ht
 have hnl : ∀ {L' : Led} {k : Nat}, LedAt w k L' → ¬ ((Value.slice A ds.length c).ownBlock = some k ∨ k = w0.heap.size) := fun hL hk => by
  rcases hS _ hk with hk | hk
  ·exact hL.not_typed hk
  ·exact hL.not_typed hk
 have hhigh : lim ≤ w.heap.size := by
  obtain ⟨h3, _⟩ := h1.high
  have := h2.1; omega
 have hD : DoneAt w0.heap.size W w.heap.size L (ds ++ [d]) w := h.done.snoc h1 hlim h2 h1.high h4 hhigh
 refine ⟨below_of_grown hb1 hg2 (Nat.le_refl _), ?_, ?_, hD.kept hk2 (fun k hk => .inr (hS k hk))⟩
 ·rw [List.length_append, List.length_singleton, ← hl]
  exact blk_put hrun 4 _ rfl
 ·rw [List.length_append, List.length_singleton, ← hl, List.map_append]
  refine R_keptP hR (S := fun b => b = w0.heap.size) ⟨hg2.size, fun b hb hn => hg2.block b hb (fun he => hn (by injection he))⟩ (fun k hk => ?_)
  subst hk
  exact not_typed ⟨_, hrun⟩ rfl
end Go.Proofs.YtbkfnmgkcgnifaaGreat
