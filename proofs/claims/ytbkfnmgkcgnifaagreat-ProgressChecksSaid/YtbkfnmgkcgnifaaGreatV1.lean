/- Part 1 of the proof of ProgressChecks. -/
import Derived.OrdersHeld
import Derived.Deep.RegionHeld3
import Derived.Laws.BitsLemmas
import Derived.RowKit
import Derived.KernelRfl
import Derived.Tactics
import Derived.Below
import Derived.Deep.Draws
import Derived.Deep.AppendLies
import Derived.Maps.AppendAt
import Derived.OwnWalk
import Derived.Laws.BytesArg
import Derived.Laws.MakeOwn
import Derived.Laws.OwnMore
import Derived.Deep.OwnRows
import Derived.Lib.ConvBytes
import Derived.Laws.Slices
import Derived.WalkKit
import Derived.RowKit3
import Derived.Deep.LoopGhost
import Derived.Deep.QuietTactic
import Derived.BigQuiet
import Derived.WideLaws
import Derived.Deep.DeepCutAuto
import Derived.Deep.CutBlock
import Derived.Laws.Rows
import Derived.Lib.AppendStr
import Derived.ArgAppend
import Derived.Laws.IdiomCopy
import Derived.Test.YtbkfnmgkcgnifaaGreatProg
import Derived.WalkSpells
import Derived.WalkLawsBesides
import Derived.Laws.CopyOwn
import Derived.Lib.Hide
import Derived.Shelf.Abstract
import Derived.Laws.EntriesVeiled
import Derived.Laws.StructEq
import Derived.MapKept
import Derived.ChangeMaps4
import Derived.Maps.RangeRun
set_option linter.all false
namespace Go.Proofs.YtbkfnmgkcgnifaaGreatW.PrintLast
section
variable {P : Program} {ops : Array Oper} {Q : Exit → Act → World → Prop} {md : Region.Mode} {S : World → Prop} {ds : List Nat}
def Region.reachB (md : Region.Mode) (ops : Array Oper) (i : Nat) : Nat → Nat → Bool
 | 0, _ => false
 | fuel + 1, d => match ops[d]? with
  | some o => o.after.any fun e => Region.binds md e && (e.on == i || Region.reachB md ops i fuel e.on)
  | none => false
def Region.closedB (md : Region.Mode) (ops : Array Oper) (listed : Array Bool) : Bool :=
 (List.range ops.size).all fun j => !listed.getD j false || match ops[j]? with
  | some o => o.after.all fun e => !Region.binds md e || listed.getD e.on false
  | none => true
def Region.lastB (md : Region.Mode) (ops : Array Oper) (listed : Array Bool) (ds : List Nat) (i : Nat) : Bool :=
 ds.all fun d => listed.getD d true || Region.reachB md ops i ops.size d
def ListedClosed (md : Region.Mode) (ops : Array Oper) (listed : Array Bool) : Prop :=
 ∀ j oj, ops[j]? = some oj → listed.getD j false = true → ∀ e ∈ oj.after, Region.binds md e = true → listed.getD e.on false = true
theorem Region.closedB_spec {listed : Array Bool} (h : Region.closedB md ops listed = true) : ListedClosed md ops listed := by
 intro j oj hj hl e he hb
 have hlt : j < ops.size := (Array.getElem?_eq_some_iff.1 hj).1
 have h1 := List.all_eq_true.1 h j (List.mem_range.2 hlt)
 simp only [hl, hj, Bool.not_true, Bool.false_or] at h1
 have h2 := Array.all_eq_true_iff_forall_mem.1 h1 e he
 simpa [hb] using h2
theorem ListedClosed.set {listed : Array Bool} {i : Nat} (h : ListedClosed md ops listed) (hi : i ∈ Region.ready md ops listed) : ListedClosed md ops (listed.setIfInBounds i true) := by
 obtain ⟨_, oi, hoi, hall⟩ := mem_ready.1 hi
 intro j oj hj hl e he hb
 by_cases hij : i = j
 ·subst hij
  have : oj = oi := Option.some.inj (hj.symm.trans hoi)
  subst this
  exact getD_set_true (hall e he hb)
 ·rw [getD_set_ne false hij] at hl
  exact getD_set_true (h j oj hj hl e he hb)
theorem Region.reach_listed {listed : Array Bool} {i : Nat} (hc : ListedClosed md ops listed) : ∀ (fuel d : Nat), Region.reachB md ops i fuel d = true → listed.getD d false = true → listed.getD i false = true
 | 0, _, h, _ => by simp [Region.reachB] at h
 | fuel + 1, d, h, hl => by
  unfold Region.reachB at h
  cases ho : ops[d]? with
  | none => rw [ho] at h; simp at h
  | some o =>
   rw [ho] at h
   obtain ⟨e, he, h1⟩ := Array.any_eq_true'.1 h
   simp only [Bool.and_eq_true, Bool.or_eq_true, beq_iff_eq] at h1
   have hle := hc d o ho hl e he h1.1
   rcases h1.2 with h2 | h2
   ·rw [← h2]; exact hle
   ·exact Region.reach_listed hc fuel e.on h2 hle
theorem Region.reach_not_ready {listed : Array Bool} {i d fuel : Nat} (hc : ListedClosed md ops listed) (hr : Region.reachB md ops i fuel d = true) (hun : listed.getD i true = false) : d ∉ Region.ready md ops listed := by
 intro hd
 obtain ⟨_, o, ho, hall⟩ := mem_ready.1 hd
 have hi : listed.getD i false = true := by
  cases fuel with
  | zero => simp [Region.reachB] at hr
  | succ n =>
   unfold Region.reachB at hr
   rw [ho] at hr
   obtain ⟨e, he, h1⟩ := Array.any_eq_true'.1 hr
   simp only [Bool.and_eq_true, Bool.or_eq_true, beq_iff_eq] at h1
   have hle := hall e he h1.1
   rcases h1.2 with h2 | h2
   ·rw [← h2]; exact hle
   ·exact Region.reach_listed hc n e.on h2 hle
 rcases Nat.lt_or_ge i listed.size with h' | h'
 ·simp [h'] at hun hi
  rw [hun] at hi
  cases hi
 ·simp [Array.getElem?_eq_none h'] at hun
def wpAnyLast (P : Program) (md : Region.Mode) (ops : Array Oper) (Q : Exit → Act → World → Prop) (S : World → Prop) (ds : List Nat) : Nat → Array Bool → Act → World → Prop
 | 0, listed, a, w => Region.ready md ops listed = [] ∧ Q .normal a w
 | fuel + 1, listed, a, w =>
  (Region.ready md ops listed = [] → Q .normal a w) ∧
  ∀ i ∈ Region.ready md ops listed, wpOp P ops Q i (fun a' w' => (i ∉ ds → S w → S w') ∧ wpAnyLast P md ops Q S ds fuel (listed.setIfInBounds i true) a' w') a w
theorem wpAny_of_last : ∀ (fuel : Nat) (listed : Array Bool) (a : Act) (w : World), wpAnyLast P md ops Q S ds fuel listed a w → wpAny P md ops Q fuel listed a w
 | 0, _, _, _, h => h
 | fuel + 1, _, _, _, h => ⟨h.1, fun i hi => wpOp_mono (fun a' w' h' => wpAny_of_last fuel _ a' w' h'.2) (h.2 i hi)⟩
theorem wpAnyLast_first {i : Nat} {oi : Oper} {v : Value} (hi : ops[i]? = some oi) (hsel : ∀ (j : Nat) (o : Oper) cs b, ops[j]? = some o → o.op ≠ .select cs b)
  (hQ : ∀ c a w, Q (.panic c) (a.put oi.dst v) w → Q (.panic c) a w) (n : Nat) :
  ∀ (fuel : Nat) (listed : Array Bool) (a : Act) (w : World),
   (∀ j oj, ops[j]? = some oj → j ≠ i → listed.getD j true = false → (∀ e ∈ oj.after, Region.binds md e = true → e.on ≠ i) → oi.apart ops oj = true) →
   ListedClosed md ops listed → (∀ d ∈ ds, listed.getD d true = false → Region.reachB md ops i n d = true) →
   i ∈ Region.ready md ops listed → YieldsIf P ops S oi v a → S w →
   wpAnyLast P md ops Q S ds fuel (listed.setIfInBounds i true) (a.put oi.dst v) w → wpAnyLast P md ops Q S ds (fuel + 1) listed a w := by
 intro fuel
 induction fuel with
 | zero =>
  intro listed a w _ _ _ hr hy hS H
  refine ⟨fun h => (by rw [h] at hr; cases hr), fun j hj => ?_⟩
  by_cases hji : j = i
  ·subst hji; exact hy.wpOp hi hS ⟨fun _ h => h, H⟩
  ·have := ready_mono hj hji
   rw [H.1] at this
   cases this
 | succ fuel ih =>
  intro listed a w hfree hc hd hr hy hS H
  refine ⟨fun h => (by rw [h] at hr; cases hr), fun j hj => ?_⟩
  by_cases hji : j = i
  ·subst hji; exact hy.wpOp hi hS ⟨fun _ h => h, H⟩
  ·have h1 := H.2 j (ready_mono hj hji)
   obtain ⟨hjun, oj, hoj, hall⟩ := mem_ready.1 hj
   have hiun := (mem_ready.1 hr).1
   have hnot : ∀ e ∈ oj.after, Region.binds md e = true → e.on ≠ i := fun e he hb heq => by
    have h1 := hall e he hb
    rw [heq] at h1
    rcases Nat.lt_or_ge i listed.size with h' | h'
    ·simp [h'] at hiun h1; rw [hiun] at h1; cases h1
    ·simp [Array.getElem?_eq_none h'] at h1
   have hjd : j ∉ ds := fun hm => Region.reach_not_ready hc (hd j hm hjun) hiun hj
   have h2 := wpOp_putIf hoj (hfree j oj hoj hji hjun hnot) (fun cs b => hsel i oi cs b hi) (fun cs b => hsel j oj cs b hoj) hQ hy h1
   have hfree' : ∀ k ok, ops[k]? = some ok → k ≠ i → (listed.setIfInBounds j true).getD k true = false →
     (∀ e ∈ ok.after, Region.binds md e = true → e.on ≠ i) → oi.apart ops ok = true := fun k ok hk hki hun hno => by
    refine hfree k ok hk hki ?_ hno
    by_cases hjk : j = k
    ·subst hjk; exact hjun
    ·rw [getD_set_ne true hjk] at hun; exact hun
   have hd' : ∀ d ∈ ds, (listed.setIfInBounds j true).getD d true = false → Region.reachB md ops i n d = true := fun d hm hun => by
    refine hd d hm ?_
    by_cases hjk : j = d
    ·subst hjk; exact hjun
    ·rw [getD_set_ne true hjk] at hun; exact hun
   refine wpOp_mono (fun a' w' h3 => ⟨h3.2.1, ih (listed.setIfInBounds j true) a' w' hfree' (hc.set hj) hd' (ready_mono hr (Ne.symm hji)) h3.1 (h3.2.1 hjd hS) ?_⟩) h2
   rw [Array.setIfInBounds_comm _ _ hji]
   exact h3.2.2
theorem wpAnyLast_any {i : Nat} {oi : Oper} {v : Value} (hi : ops[i]? = some oi) (hsel : ∀ (j : Nat) (o : Oper) cs b, ops[j]? = some o → o.op ≠ .select cs b)
  (hQ : ∀ c a w, Q (.panic c) (a.put oi.dst v) w → Q (.panic c) a w) :
  ∀ (fuel : Nat) (listed : Array Bool) (a : Act) (w : World),
   (∀ j oj, ops[j]? = some oj → j ≠ i → listed.getD j true = false → (∀ e ∈ oj.after, Region.binds md e = true → e.on ≠ i) → oi.apart ops oj = true) →
   i ∈ Region.ready md ops listed → Yields P ops oi v a →
   wpAnyLast P md ops Q S ds fuel (listed.setIfInBounds i true) (a.put oi.dst v) w → wpAnyLast P md ops Q S ds (fuel + 1) listed a w := by
 intro fuel
 induction fuel with
 | zero =>
  intro listed a w _ hr hy H
  refine ⟨fun h => (by rw [h] at hr; cases hr), fun j hj => ?_⟩
  by_cases hji : j = i
  ·subst hji; exact (hy.yieldsIf (S := fun _ => True)).wpOp hi trivial ⟨fun _ h => h, H⟩
  ·have := ready_mono hj hji
   rw [H.1] at this
   cases this
 | succ fuel ih =>
  intro listed a w hfree hr hy H
  refine ⟨fun h => (by rw [h] at hr; cases hr), fun j hj => ?_⟩
  by_cases hji : j = i
  ·subst hji; exact (hy.yieldsIf (S := fun _ => True)).wpOp hi trivial ⟨fun _ h => h, H⟩
  ·have h1 := H.2 j (ready_mono hj hji)
   obtain ⟨hjun, oj, hoj, hall⟩ := mem_ready.1 hj
   have hiun := (mem_ready.1 hr).1
   have hnot : ∀ e ∈ oj.after, Region.binds md e = true → e.on ≠ i := fun e he hb heq => by
    have h1 := hall e he hb
    rw [heq] at h1
    rcases Nat.lt_or_ge i listed.size with h' | h'
    ·simp [h'] at hiun h1; rw [hiun] at h1; cases h1
    ·simp [Array.getElem?_eq_none h'] at h1
   have h2 := wpOp_put hoj (hfree j oj hoj hji hjun hnot) (fun cs b => hsel i oi cs b hi) (fun cs b => hsel j oj cs b hoj) hQ hy h1
   have hfree' : ∀ k ok, ops[k]? = some ok → k ≠ i → (listed.setIfInBounds j true).getD k true = false →
     (∀ e ∈ ok.after, Region.binds md e = true → e.on ≠ i) → oi.apart ops ok = true := fun k ok hk hki hun hno => by
    refine hfree k ok hk hki ?_ hno
    by_cases hjk : j = k
    ·subst hjk; exact hjun
    ·rw [getD_set_ne true hjk] at hun; exact hun
   refine wpOp_mono (fun a' w' h3 => ⟨h3.2.1, ih (listed.setIfInBounds j true) a' w' hfree' (ready_mono hr (Ne.symm hji)) h3.1 ?_⟩) h2
   rw [Array.setIfInBounds_comm _ _ hji]
   exact h3.2.2
theorem wpAnyLast_take {i : Nat} {oi : Oper} {v : Value} {fuel : Nat} {listed : Array Bool} {a : Act} {w : World} (hi : ops[i]? = some oi)
  (hs : Region.noSelect ops = true) (hf : Region.free md ops listed i = true) (hr : (Region.ready md ops listed).contains i = true)
  (hc : Region.closedB md ops listed = true) (hl : Region.lastB md ops listed ds i = true)
  (hQ : ∀ c a w, Q (.panic c) (a.put oi.dst v) w → Q (.panic c) a w) (hy : YieldsIf P ops S oi v a) (hS : S w)
  (h : wpAnyLast P md ops Q S ds fuel (listed.setIfInBounds i true) (a.put oi.dst v) w) : wpAnyLast P md ops Q S ds (fuel + 1) listed a w :=
 wpAnyLast_first hi (Region.noSelect_spec hs) hQ ops.size fuel listed a w (Region.free_spec hi hf) (Region.closedB_spec hc)
  (fun d hm hun => by have := List.all_eq_true.1 hl d hm; rw [hun] at this; simpa using this) (by simpa using hr) hy hS h
theorem wpAnyLast_all {rs : List Nat} {fuel : Nat} {listed : Array Bool} {a : Act} {w : World} (hr : Region.ready md ops listed = rs) (hne : rs ≠ [])
  (h : ∀ i ∈ rs, wpOp P ops Q i (fun a' w' => (i ∉ ds → S w → S w') ∧ wpAnyLast P md ops Q S ds fuel (listed.setIfInBounds i true) a' w') a w) : wpAnyLast P md ops Q S ds (fuel + 1) listed a w :=
 ⟨fun h0 => absurd (hr ▸ h0) hne, hr ▸ h⟩
theorem wpAnyLast_done {listed : Array Bool} {a : Act} {w : World} (hr : Region.ready md ops listed = []) (h : Q .normal a w) :
  ∀ fuel, wpAnyLast P md ops Q S ds fuel listed a w
 | 0 => ⟨hr, h⟩
 | _ + 1 => ⟨fun _ => h, by rw [hr]; simp⟩
theorem wp_region_last {id : Nat} {a : Act} {w : World} (hm : P.follows .mixedOrders = true)
  (h : wpAnyLast P .any ops Q S ds ops.size (Array.replicate ops.size false) a { w with drawn := w.drawn + 1 }) : (Code.region id ops true).wp P Q a w :=
 wp_region_any hm (wpAny_of_last _ _ _ _ h)
end
section
variable {P : Program} {ops : Array Oper} {Q : Exit → Act → World → Prop} {md : Region.Mode} {S : World → Prop} {ds : List Nat}
def AllReadyL (P : Program) (md : Region.Mode) (ops : Array Oper) (Q : Exit → Act → World → Prop) (S : World → Prop) (ds : List Nat) (fuel : Nat) (listed : Array Bool) (a : Act) (w : World) (rs : List Nat) : Prop :=
 ∀ i ∈ rs, wpOp P ops Q i (fun a' w' => (i ∉ ds → S w → S w') ∧ wpAnyLast P md ops Q S ds fuel (listed.setIfInBounds i true) a' w') a w
theorem AllReadyL.nil {fuel : Nat} {listed : Array Bool} {a : Act} {w : World} : AllReadyL P md ops Q S ds fuel listed a w [] := fun _ h => by cases h
theorem AllReadyL.cons {fuel : Nat} {listed : Array Bool} {a : Act} {w : World} {i : Nat} {o : Oper} {rs : List Nat} (ho : ops[i]? = some o) (hd : i ∉ ds)
  (h : ∀ K' : Act → World → Prop, Shut (∀ a w, S w → (S w → wpAnyLast P md ops Q S ds fuel (listed.setIfInBounds i true) a w) → K' a w) → if Region.wanted o (yielded ops a.tmps) = true then Oper.wp P o a w K' Q else K' (a.put o.dst undef) w)
  (hs : AllReadyL P md ops Q S ds fuel listed a w rs) : AllReadyL P md ops Q S ds fuel listed a w (i :: rs) := fun j hj => by
 rcases List.mem_cons.1 hj with rfl | hj
 ·exact wpOp_step ho (fun K' hK => h K' (fun a w hS hW => hK a w ⟨fun _ _ => hS, hW hS⟩))
 ·exact hs j hj
theorem AllReadyL.cons_last {fuel : Nat} {listed : Array Bool} {a : Act} {w : World} {i : Nat} {o : Oper} {rs : List Nat} (ho : ops[i]? = some o) (hd : i ∈ ds)
  (h : ∀ K' : Act → World → Prop, Shut (∀ a w, wpAnyLast P md ops Q S ds fuel (listed.setIfInBounds i true) a w → K' a w) → if Region.wanted o (yielded ops a.tmps) = true then Oper.wp P o a w K' Q else K' (a.put o.dst undef) w)
  (hs : AllReadyL P md ops Q S ds fuel listed a w rs) : AllReadyL P md ops Q S ds fuel listed a w (i :: rs) := fun j hj => by
 rcases List.mem_cons.1 hj with rfl | hj
 ·exact wpOp_step ho (fun K' hK => h K' (fun a w hW => hK a w ⟨fun hn => absurd hd hn, hW⟩))
 ·exact hs j hj
theorem wpAnyLast_ready {rs : List Nat} {fuel : Nat} {listed : Array Bool} {a : Act} {w : World} (hr : Region.ready md ops listed = rs) (hne : rs ≠ [])
  (h : AllReadyL P md ops Q S ds fuel listed a w rs) : wpAnyLast P md ops Q S ds (fuel + 1) listed a w := wpAnyLast_all hr hne h
theorem start_ {id n : Nat} {a : Act} {w : World} (l : Array Bool) (hm : P.follows .mixedOrders = true) (hn : ops.size = n) (hl : Array.replicate n false = l) (hS : S w.drew)
  (h : S w.drew → wpAnyLast P .any ops Q S ds n l a w.drew) : (Code.region id ops true).wp P Q a w := by
 subst hn
 subst hl
 exact wp_region_last hm (h hS)
def takeB (md : Region.Mode) (ops : Array Oper) (ds : List Nat) (l l' : Array Bool) (i : Nat) : Bool :=
 Region.noSelect ops && Region.free md ops l i && (Region.ready md ops l).contains i && Region.closedB md ops l && Region.lastB md ops l ds i && (l.setIfInBounds i true == l')
theorem take_ {i : Nat} {N : Option Tmp} {oi : Oper} {v : Value} {fuel : Nat} {l : Array Bool} {a : Act} {w : World} (l' : Array Bool) (hi : ops[i]? = some oi) (hN : oi.dst = N) (hc : takeB md ops ds l l' i = true)
  (hQ : ∀ c a w, Q (.panic c) (a.put oi.dst v) w → Q (.panic c) a w) (hy : YieldsIf P ops S oi v a) (hS : S w) {a' : Act} (ha : a.put N v = a')
  (h : wpAnyLast P md ops Q S ds fuel l' a' w) : wpAnyLast P md ops Q S ds (fuel + 1) l a w := by
 subst ha
 subst hN
 simp only [takeB, Bool.and_eq_true, beq_iff_eq] at hc
 obtain ⟨⟨⟨⟨⟨h1, h2⟩, h3⟩, h4⟩, h5⟩, h6⟩ := hc
 subst h6
 exact wpAnyLast_take hi h1 h2 h3 h4 h5 hQ hy hS h
def anyB (md : Region.Mode) (ops : Array Oper) (l l' : Array Bool) (i : Nat) : Bool :=
 Region.noSelect ops && Region.free md ops l i && (Region.ready md ops l).contains i && (l.setIfInBounds i true == l')
theorem pure_ {i : Nat} {N : Option Tmp} {oi : Oper} {v : Value} {fuel : Nat} {l : Array Bool} {a : Act} {w : World} (l' : Array Bool) (hi : ops[i]? = some oi) (hN : oi.dst = N) (hc : anyB md ops l l' i = true)
  (hQ : ∀ c a w, Q (.panic c) (a.put oi.dst v) w → Q (.panic c) a w) (hy : Yields P ops oi v a) {a' : Act} (ha : a.put N v = a')
  (h : wpAnyLast P md ops Q S ds fuel l' a' w) : wpAnyLast P md ops Q S ds (fuel + 1) l a w := by
 subst ha
 subst hN
 simp only [anyB, Bool.and_eq_true, beq_iff_eq] at hc
 obtain ⟨⟨⟨h1, h2⟩, h3⟩, h6⟩ := hc
 subst h6
 exact wpAnyLast_any hi (Region.noSelect_spec h1) hQ fuel l a w (Region.free_spec hi h2) (by simpa using h3) hy h
def readyB (md : Region.Mode) (ops : Array Oper) (l l' : Array Bool) (i : Nat) : Bool := (Region.ready md ops l == [i]) && (l.setIfInBounds i true == l')
theorem one_ {i : Nat} {N : Option Tmp} {oi : Oper} {fuel : Nat} {l : Array Bool} {a : Act} {w : World} (l' : Array Bool) (hi : ops[i]? = some oi) (hN : oi.dst = N) (hc : readyB md ops l l' i = true) (hd : i ∉ ds)
  (h : ∀ K : Act → World → Prop, Shut (∀ a' w', S w' → (S w' → wpAnyLast P md ops Q S ds fuel l' a' w') → K a' w') → if Region.wanted oi (yielded ops a.tmps) = true then Oper.wp P oi a w K Q else K (a.put N undef) w) :
  wpAnyLast P md ops Q S ds (fuel + 1) l a w := by
 subst hN
 simp only [readyB, Bool.and_eq_true, beq_iff_eq] at hc
 obtain ⟨h1, h2⟩ := hc
 subst h2
 exact wpAnyLast_ready h1 (by simp) (AllReadyL.cons hi hd (fun K hK => h K hK) AllReadyL.nil)
theorem last_ {i : Nat} {N : Option Tmp} {oi : Oper} {fuel : Nat} {l : Array Bool} {a : Act} {w : World} (l' : Array Bool) (hi : ops[i]? = some oi) (hN : oi.dst = N) (hc : readyB md ops l l' i = true) (hd : i ∈ ds)
  (h : ∀ K : Act → World → Prop, Shut (∀ a' w', wpAnyLast P md ops Q S ds fuel l' a' w' → K a' w') → if Region.wanted oi (yielded ops a.tmps) = true then Oper.wp P oi a w K Q else K (a.put N undef) w) :
  wpAnyLast P md ops Q S ds (fuel + 1) l a w := by
 subst hN
 simp only [readyB, Bool.and_eq_true, beq_iff_eq] at hc
 obtain ⟨h1, h2⟩ := hc
 subst h2
 exact wpAnyLast_ready h1 (by simp) (AllReadyL.cons_last hi hd (fun K hK => h K hK) AllReadyL.nil)
theorem done_ {l : Array Bool} {a : Act} {w : World} {n : Nat} (hr : (Region.ready md ops l == []) = true) (h : Q .normal a w) : wpAnyLast P md ops Q S ds n l a w := wpAnyLast_done (by simpa using hr) h n
theorem two_ {i j : Nat} {Ni Nj : Option Tmp} {oi oj : Oper} {fuel : Nat} {l : Array Bool} {a : Act} {w : World} (li lj : Array Bool) (hi : ops[i]? = some oi) (hj : ops[j]? = some oj) (hNi : oi.dst = Ni) (hNj : oj.dst = Nj)
  (hc : (Region.ready md ops l == [i, j] && l.setIfInBounds i true == li && l.setIfInBounds j true == lj) = true) (hdi : i ∉ ds) (hdj : j ∉ ds)
  (h1 : ∀ K : Act → World → Prop, Shut (∀ a' w', S w' → (S w' → wpAnyLast P md ops Q S ds fuel li a' w') → K a' w') → if Region.wanted oi (yielded ops a.tmps) = true then Oper.wp P oi a w K Q else K (a.put Ni undef) w)
  (h2 : ∀ K : Act → World → Prop, Shut (∀ a' w', S w' → (S w' → wpAnyLast P md ops Q S ds fuel lj a' w') → K a' w') → if Region.wanted oj (yielded ops a.tmps) = true then Oper.wp P oj a w K Q else K (a.put Nj undef) w) :
  wpAnyLast P md ops Q S ds (fuel + 1) l a w := by
 subst hNi
 subst hNj
 simp only [Bool.and_eq_true, beq_iff_eq] at hc
 obtain ⟨⟨h3, h4⟩, h5⟩ := hc
 subst h4
 subst h5
 exact wpAnyLast_ready h3 (by simp) (AllReadyL.cons hi hdi (fun K hK => h1 K hK) (AllReadyL.cons hj hdj (fun K hK => h2 K hK) AllReadyL.nil))
def putAll : Act → List (Tmp × Value) → Act
 | a, [] => a
 | a, (n, v) :: r => putAll (a.put (some n) v) r
theorem join_ {σ : Type} {fuel : Nat} {l : Array Bool} {a : Act} {w : World} (fuel' : Nat) (l' : Array Bool) (ns : σ → List (Tmp × Value)) (F : σ → World → Prop)
  (hcont : ∀ s w', F s w' → wpAnyLast P md ops Q S ds fuel' l' (putAll a (ns s)) w')
  (h : (∀ s w', F s w' → wpAnyLast P md ops Q S ds fuel' l' (putAll a (ns s)) w') → wpAnyLast P md ops Q S ds fuel l a w) : wpAnyLast P md ops Q S ds fuel l a w := h hcont
theorem norm_ {fuel : Nat} {l : Array Bool} {a a' : Act} {w : World} (ha : a = a') (h : wpAnyLast P md ops Q S ds fuel l a' w) : wpAnyLast P md ops Q S ds fuel l a w := by
 subst ha
 exact h
theorem call_ {oi : Oper} {N : Option Tmp} {a : Act} {w : World} {K : Act → World → Prop} (f : FuncId) (args : Array Value) (hw : Region.wanted oi (yielded ops a.tmps) = true) (hN : oi.dst = N) (hrun : (execOp a.eval oi).run P w = .ok (.enter f args) w)
  (h : Calls P f args w fun e w' => ∃ v, e = .returned v ∧ K (a.put N v) w') : if Region.wanted oi (yielded ops a.tmps) = true then Oper.wp P oi a w K Q else K (a.put N undef) w := by
 rw [if_pos hw]
 subst hN
 unfold Oper.wp
 rw [hrun, Oper.upon_enter]
 refine h.mono fun e w'' hh => ?_
 obtain ⟨v, rfl, hk⟩ := hh
 exact hk
theorem enters_ {f : FuncId} {fn : Func} (hf : P.funcs[f]? = some fn) (hname : (fn.name == "runtime.NumGoroutine") = false) (hb : fn.body.isSome = true) (args : Array Value) (w : World) : (callFunc f args).run P w = .ok (.enter f args) w := by
 have h1 : fn.name ≠ "runtime.NumGoroutine" := by simpa using hname
 obtain ⟨c, hc⟩ := Option.isSome_iff_exists.1 hb
 simp [callFunc, hf, h1, hc]
theorem goes_ {oi : Oper} {N : Option Tmp} {a : Act} {w : World} {K : Act → World → Prop} {f : FuncId} {fn : Func} {xas : Array Operand} {ts : Array TypeId} (hf : P.funcs[f]? = some fn) (hname : (fn.name == "runtime.NumGoroutine") = false) (hb : fn.body.isSome = true) (args : Array Value)
  (hw : Region.wanted oi (yielded ops a.tmps) = true) (hN : oi.dst = N) (hop : oi.op = .call { callee := .value (.func f), args := xas, argTypes := ts }) (hargs : xas.map a.eval = args)
  (h : Calls P f args w fun e w' => ∃ v, e = .returned v ∧ K (a.put N v) w') : if Region.wanted oi (yielded ops a.tmps) = true then Oper.wp P oi a w K Q else K (a.put N undef) w := by
 refine call_ f args hw hN ?_ h
 have he := enters_ hf hname hb args w
 unfold execOp
 simp [hop, resolve, Deferred.ofValue, invoke, Act.eval, hargs, he]
theorem value_ {oi : Oper} {N : Option Tmp} {a : Act} {w w1 : World} {v : Value} {K : Act → World → Prop} (hw : Region.wanted oi (yielded ops a.tmps) = true) (hN : oi.dst = N) (hrun : (execOp a.eval oi).run P w = .ok (.value v) w1)
  (h : K (a.put N v) w1) : if Region.wanted oi (yielded ops a.tmps) = true then Oper.wp P oi a w K Q else K (a.put N undef) w := by
 rw [if_pos hw]
 subst hN
 unfold Oper.wp
 rw [hrun]
 exact h
theorem skip_ {oi : Oper} {a : Act} {w w1 : World} {K : Act → World → Prop} (hw : Region.wanted oi (yielded ops a.tmps) = true) (hN : oi.dst = none) (hrun : (execOp a.eval oi).run P w = .ok .skip w1)
  (h : K a w1) : if Region.wanted oi (yielded ops a.tmps) = true then Oper.wp P oi a w K Q else K (a.put none undef) w := by
 rw [if_pos hw]
 unfold Oper.wp
 rw [hrun]
 show K (a.put oi.dst undef) w1
 rw [hN]
 exact h
theorem i64_w (n : Int) : IntKind.i64.wrap n = Go.RowKit.wrap64 n := by unfold Go.RowKit.wrap64; exact IntKind.wrap_i64 n
theorem i32_w (n : Int) : IntKind.i32.wrap n = Go.RowKit.wrap32 n := by unfold Go.RowKit.wrap32; exact IntKind.wrap_i32 n
end
end Go.Proofs.YtbkfnmgkcgnifaaGreatW.PrintLast
namespace Go.Proofs.YtbkfnmgkcgnifaaGreat
open Go.RowKit Go.Proofs.YtbkfnmgkcgnifaaGreatW.PrintLast
def bs (n k : Nat) : Array Bool := ((List.range n).map (fun i => k.testBit i)).toArray
section
variable {P : Program} {ops : Array Oper} {Q : Exit → Act → World → Prop} {md : Region.Mode} {S : World → Prop} {ds : List Nat} {oi : Oper} {fuel : Nat} {l : Array Bool} {a : Act} {w : World}
theorem pu (i N : Nat) (l' : Array Bool) {v : Value} {a' : Act} (h : wpAnyLast P md ops Q S ds fuel l' a' w) (hi : ops[i]? = some oi := by rfl) (hN : oi.dst = some N := by rfl) (hc : anyB md ops l l' i = true := by kernel_rfl) (hQ : ∀ c a w, Q (.panic c) (a.put oi.dst v) w → Q (.panic c) a w := by exact fun _ _ _ h => h) (hy : Yields P ops oi v a := by exact .inl ⟨by rfl, by intro w'; go_simp; with_reducible rfl⟩) (ha : a.put (some N) v = a' := by go_simp; rfl) :
  wpAnyLast P md ops Q S ds (fuel + 1) l a w := pure_ l' hi hN hc hQ hy ha h
theorem uf0 (i N : Nat) (l' : Array Bool) {a' : Act} (h : wpAnyLast P md ops Q S ds fuel l' a' w) (hi : ops[i]? = some oi := by rfl) (hN : oi.dst = some N := by rfl) (hc : anyB md ops l l' i = true := by kernel_rfl) (hQ : ∀ c a w, Q (.panic c) (a.put oi.dst undef) w → Q (.panic c) a w := by exact fun _ _ _ h => h) (hy : Yields P ops oi undef a := by exact Or.inr ⟨by rfl, rfl⟩) (ha : a.put (some N) undef = a' := by simp only [Act.put, List.setIfInBounds_toArray, List.set_cons_zero, List.set_cons_succ, i64_w, i32_w]; rfl) :
  wpAnyLast P md ops Q S ds (fuel + 1) l a w := pure_ l' hi hN hc hQ hy ha h
theorem tk1 (i N : Nat) (l' : Array Bool) (hS : S w) {v : Value} {a' : Act} (h : wpAnyLast P md ops Q S ds fuel l' a' w) (hi : ops[i]? = some oi := by rfl) (hN : oi.dst = some N := by rfl) (hc : takeB md ops ds l l' i = true := by kernel_rfl) (hQ : ∀ c a w, Q (.panic c) (a.put oi.dst v) w → Q (.panic c) a w := by exact fun _ _ _ h => h) (hy : YieldsIf P ops S oi v a := by exact .inl ⟨by rfl, by rintro w' s0; go_simp; with_reducible rfl⟩) (ha : a.put (some N) v = a' := by go_simp; rfl) :
  wpAnyLast P md ops Q S ds (fuel + 1) l a w := take_ l' hi hN hc hQ hy hS ha h
theorem tk2 (i N : Nat) (l' : Array Bool) (hS : S w) {v : Value} {a' : Act} (h : wpAnyLast P md ops Q S ds fuel l' a' w) (hi : ops[i]? = some oi := by rfl) (hN : oi.dst = some N := by rfl) (hc : takeB md ops ds l l' i = true := by kernel_rfl) (hQ : ∀ c a w, Q (.panic c) (a.put oi.dst v) w → Q (.panic c) a w := by exact fun _ _ _ h => h) (hy : YieldsIf P ops S oi v a := by exact .inl ⟨by rfl, by rintro w' ⟨s0, s1⟩; go_simp; with_reducible rfl⟩) (ha : a.put (some N) v = a' := by go_simp; rfl) :
  wpAnyLast P md ops Q S ds (fuel + 1) l a w := take_ l' hi hN hc hQ hy hS ha h
theorem tk3 (i N : Nat) (l' : Array Bool) (hS : S w) {v : Value} {a' : Act} (h : wpAnyLast P md ops Q S ds fuel l' a' w) (hi : ops[i]? = some oi := by rfl) (hN : oi.dst = some N := by rfl) (hc : takeB md ops ds l l' i = true := by kernel_rfl) (hQ : ∀ c a w, Q (.panic c) (a.put oi.dst v) w → Q (.panic c) a w := by exact fun _ _ _ h => h) (hy : YieldsIf P ops S oi v a := by exact .inl ⟨by rfl, by rintro w' ⟨s0, s1, s2⟩; go_simp; with_reducible rfl⟩) (ha : a.put (some N) v = a' := by go_simp; rfl) :
  wpAnyLast P md ops Q S ds (fuel + 1) l a w := take_ l' hi hN hc hQ hy hS ha h
theorem tk4 (i N : Nat) (l' : Array Bool) (hS : S w) {v : Value} {a' : Act} (h : wpAnyLast P md ops Q S ds fuel l' a' w) (hi : ops[i]? = some oi := by rfl) (hN : oi.dst = some N := by rfl) (hc : takeB md ops ds l l' i = true := by kernel_rfl) (hQ : ∀ c a w, Q (.panic c) (a.put oi.dst v) w → Q (.panic c) a w := by exact fun _ _ _ h => h) (hy : YieldsIf P ops S oi v a := by exact .inl ⟨by rfl, by rintro w' ⟨s0, s1, s2, s3⟩; go_simp; with_reducible rfl⟩) (ha : a.put (some N) v = a' := by go_simp; rfl) :
  wpAnyLast P md ops Q S ds (fuel + 1) l a w := take_ l' hi hN hc hQ hy hS ha h
theorem tk5 (i N : Nat) (l' : Array Bool) (hS : S w) {v : Value} {a' : Act} (h : wpAnyLast P md ops Q S ds fuel l' a' w) (hi : ops[i]? = some oi := by rfl) (hN : oi.dst = some N := by rfl) (hc : takeB md ops ds l l' i = true := by kernel_rfl) (hQ : ∀ c a w, Q (.panic c) (a.put oi.dst v) w → Q (.panic c) a w := by exact fun _ _ _ h => h) (hy : YieldsIf P ops S oi v a := by exact .inl ⟨by rfl, by rintro w' ⟨s0, s1, s2, s3, s4⟩; go_simp; with_reducible rfl⟩) (ha : a.put (some N) v = a' := by go_simp; rfl) :
  wpAnyLast P md ops Q S ds (fuel + 1) l a w := take_ l' hi hN hc hQ hy hS ha h
theorem tk6 (i N : Nat) (l' : Array Bool) (hS : S w) {v : Value} {a' : Act} (h : wpAnyLast P md ops Q S ds fuel l' a' w) (hi : ops[i]? = some oi := by rfl) (hN : oi.dst = some N := by rfl) (hc : takeB md ops ds l l' i = true := by kernel_rfl) (hQ : ∀ c a w, Q (.panic c) (a.put oi.dst v) w → Q (.panic c) a w := by exact fun _ _ _ h => h) (hy : YieldsIf P ops S oi v a := by exact .inl ⟨by rfl, by rintro w' ⟨s0, s1, s2, s3, s4, s5⟩; go_simp; with_reducible rfl⟩) (ha : a.put (some N) v = a' := by go_simp; rfl) :
  wpAnyLast P md ops Q S ds (fuel + 1) l a w := take_ l' hi hN hc hQ hy hS ha h
theorem tk7 (i N : Nat) (l' : Array Bool) (hS : S w) {v : Value} {a' : Act} (h : wpAnyLast P md ops Q S ds fuel l' a' w) (hi : ops[i]? = some oi := by rfl) (hN : oi.dst = some N := by rfl) (hc : takeB md ops ds l l' i = true := by kernel_rfl) (hQ : ∀ c a w, Q (.panic c) (a.put oi.dst v) w → Q (.panic c) a w := by exact fun _ _ _ h => h) (hy : YieldsIf P ops S oi v a := by exact .inl ⟨by rfl, by rintro w' ⟨s0, s1, s2, s3, s4, s5, s6⟩; go_simp; with_reducible rfl⟩) (ha : a.put (some N) v = a' := by go_simp; rfl) :
  wpAnyLast P md ops Q S ds (fuel + 1) l a w := take_ l' hi hN hc hQ hy hS ha h
theorem tk8 (i N : Nat) (l' : Array Bool) (hS : S w) {v : Value} {a' : Act} (h : wpAnyLast P md ops Q S ds fuel l' a' w) (hi : ops[i]? = some oi := by rfl) (hN : oi.dst = some N := by rfl) (hc : takeB md ops ds l l' i = true := by kernel_rfl) (hQ : ∀ c a w, Q (.panic c) (a.put oi.dst v) w → Q (.panic c) a w := by exact fun _ _ _ h => h) (hy : YieldsIf P ops S oi v a := by exact .inl ⟨by rfl, by rintro w' ⟨s0, s1, s2, s3, s4, s5, s6, s7⟩; go_simp; with_reducible rfl⟩) (ha : a.put (some N) v = a' := by go_simp; rfl) :
  wpAnyLast P md ops Q S ds (fuel + 1) l a w := take_ l' hi hN hc hQ hy hS ha h
theorem on0 (i N : Nat) (l' : Array Bool) (h : ∀ K : Act → World → Prop, Shut (∀ a' w', S w' → (S w' → wpAnyLast P md ops Q S ds fuel l' a' w') → K a' w') → if Region.wanted oi (yielded ops a.tmps) = true then Oper.wp P oi a w K Q else K (a.put (some N) undef) w) (hi : ops[i]? = some oi := by rfl) (hN : oi.dst = some N := by rfl) (hc : readyB md ops l l' i = true := by kernel_rfl) (hd : i ∉ ds := by decide) :
  wpAnyLast P md ops Q S ds (fuel + 1) l a w := one_ l' hi hN hc hd h
theorem la0 (i : Nat) (l' : Array Bool) {N : Option Tmp} (h : ∀ K : Act → World → Prop, Shut (∀ a' w', wpAnyLast P md ops Q S ds fuel l' a' w' → K a' w') → if Region.wanted oi (yielded ops a.tmps) = true then Oper.wp P oi a w K Q else K (a.put N undef) w) (hi : ops[i]? = some oi := by rfl) (hN : oi.dst = N := by rfl) (hc : readyB md ops l l' i = true := by kernel_rfl) (hd : i ∈ ds := by decide) :
  wpAnyLast P md ops Q S ds (fuel + 1) l a w := last_ l' hi hN hc hd h
theorem nm0 (N : Option Tmp) {v : Value} {a' : Act} (h : wpAnyLast P md ops Q S ds fuel l a' w) (ha : a.put N v = a' := by simp only [Act.put, List.setIfInBounds_toArray, List.set_cons_zero, List.set_cons_succ, i64_w, i32_w]; rfl) : wpAnyLast P md ops Q S ds fuel l (a.put N v) w := by subst ha; exact h
theorem va0 {N : Option Tmp} {w1 : World} {v : Value} {K : Act → World → Prop} (h : K (a.put N v) w1) (hw : Region.wanted oi (yielded ops a.tmps) = true := by rfl) (hN : oi.dst = N := by rfl) (hrun : (execOp a.eval oi).run P w = .ok (.value v) w1 := by go_simp; constructor <;> rfl) : if Region.wanted oi (yielded ops a.tmps) = true then Oper.wp P oi a w K Q else K (a.put N undef) w := value_ hw hN hrun h
theorem gs0 {N : Option Tmp} {K : Act → World → Prop} {f : FuncId} {fn : Func} {xas : Array Operand} {ts : Array TypeId} (hf : P.funcs[f]? = some fn) (args : Array Value) (h : Calls P f args w fun e w' => ∃ v, e = .returned v ∧ K (a.put N v) w') (hname : (fn.name == "runtime.NumGoroutine") = false := by kernel_rfl) (hb : fn.body.isSome = true := by rfl)
  (hw : Region.wanted oi (yielded ops a.tmps) = true := by rfl) (hN : oi.dst = N := by rfl) (hop : oi.op = .call { callee := .value (.func f), args := xas, argTypes := ts } := by rfl) (hargs : xas.map a.eval = args := by (try simp only [List.map_toArray, List.map_cons, List.map_nil]); first | done | rfl) : if Region.wanted oi (yielded ops a.tmps) = true then Oper.wp P oi a w K Q else K (a.put N undef) w := goes_ hf hname hb args hw hN hop hargs h
theorem sk0 {w1 : World} {K : Act → World → Prop} (h : K a w1) (hw : Region.wanted oi (yielded ops a.tmps) = true := by rfl) (hN : oi.dst = none := by rfl) (hrun : (execOp a.eval oi).run P w = .ok .skip w1 := by go_simp; rfl) : if Region.wanted oi (yielded ops a.tmps) = true then Oper.wp P oi a w K Q else K (a.put none undef) w := skip_ hw hN hrun h
theorem dn0 {n : Nat} (h : Q .normal a w) (hr : (Region.ready md ops l == []) = true := by kernel_rfl) : wpAnyLast P md ops Q S ds n l a w := done_ hr h
end
end Go.Proofs.YtbkfnmgkcgnifaaGreat
set_option linter.unusedVariables false
set_option linter.unusedSimpArgs false
namespace Go.Proofs.YtbkfnmgkcgnifaaGreatW.PrintWords
open Go.RowKit
structure Aside0 (p : Prop) : Prop where mk :: (out : p)
def rd (xs : List Int) (i : Int) : Int := xs.getD i.toNat 0
theorem below_alloc {w W : World} (h : Below w.heap.size w W) (o : Obj) : Below w.heap.size w (W.alloc o) := h.alloc h.size o
theorem below_drew {B : Nat} {w W : World} (h : Below B w W) : Below B w W.drew := ⟨h.os, h.tape, h.output, h.size, h.block⟩
theorem pw_below_drewN {B : Nat} {w W : World} (h : Below B w W) (n : Nat) : Below B w (W.drewN n) := ⟨h.os, h.tape, h.output, h.size, h.block⟩
theorem below_then {B : Nat} {w w1 w2 : World} (h : Below B w w1) (hB : B ≤ w1.heap.size) (k : Below w1.heap.size w1 w2) : Below B w w2 :=
 h.trans ⟨k.os, k.tape, k.output, k.size, fun i hi => k.block i (Nat.lt_of_lt_of_le hi hB)⟩
theorem pw_cell_below {w w1 : World} (h : Below w.heap.size w w1) {a : Addr} {v : Value} (hc : w.cell? a = some v) : w1.cell? a = some v := (h.cell (World.block_lt_of_cell? w a hc)).trans hc
theorem add_plain (g j : Nat) : (⟨g, 0, none⟩ : Addr).add j = ⟨g, j, none⟩ := by unfold Addr.add; split <;> simp_all
theorem own_nil (W : World) (base : Nat) (e : TypeId) (size : Nat) : W.ownsRow base e size (.slice none 0 0) 0 [] := ⟨by simp, .inl ⟨rfl, rfl⟩⟩
theorem own_base {w : World} {base : Nat} {e : TypeId} {size n : Nat} {v : Value} {xs : List Value} (h : w.ownsRow base e size v n xs) (k : Nat) (hk : v.ownBlock = some k) : base ≤ k := by
 rcases h.2 with ⟨rfl, _⟩ | ⟨g, cap, cur, rfl, hb, _⟩
 ·simp [Value.ownBlock] at hk
 ·have : g = k := by simpa [Value.ownBlock] using hk
  omega
theorem own_lt {w : World} {base : Nat} {e : TypeId} {size n : Nat} {v : Value} {xs : List Value} (h : w.ownsRow base e size v n xs) (k : Nat) (hk : v.ownBlock = some k) : k < w.heap.size := by
 rcases h.2 with ⟨rfl, _⟩ | ⟨g, cap, cur, rfl, hb, hh, _⟩
 ·simp [Value.ownBlock] at hk
 ·have : g = k := by simpa [Value.ownBlock] using hk
  subst this
  exact (Array.getElem?_eq_some_iff.1 hh).1
def Reps {α : Type} (R : α → List Value → Prop) (size : Nat) (ps : List α) (cs : List Value) : Prop :=
 cs.length = ps.length * size ∧ ∀ j p, ps[j]? = some p → R p ((cs.drop (j * size)).take size)
theorem Reps.none {α : Type} (R : α → List Value → Prop) (size : Nat) : Reps R size [] [] := ⟨by simp, fun j p h => by simp at h⟩
theorem Reps.snoc {α : Type} {R : α → List Value → Prop} {size : Nat} {ps : List α} {cs c : List Value} {p : α} (h : Reps R size ps cs) (hp : R p c) (hc : c.length = size) : Reps R size (ps ++ [p]) (cs ++ c) := by
 refine ⟨by rw [List.length_append, h.1, hc, List.length_append, List.length_singleton, Nat.add_mul, Nat.one_mul], fun j q hq => ?_⟩
 rcases Nat.lt_or_ge j ps.length with hj | hj
 ·rw [List.getElem?_append_left hj] at hq
  have h1 : j * size + size ≤ cs.length := by rw [h.1, ← Nat.succ_mul]; exact Nat.mul_le_mul_right _ hj
  have h2 := h.2 j q hq
  rw [List.drop_append_of_le_length (by omega), List.take_append_of_le_length (by rw [List.length_drop]; omega)]
  exact h2
 ·have hj' : j = ps.length := by
   have := (List.getElem?_eq_some_iff.1 hq).1
   rw [List.length_append, List.length_singleton] at this
   omega
  subst hj'
  have hq' : p = q := by simpa using hq
  subst hq'
  rw [← h.1, List.drop_left, ← hc, List.take_length]
  exact hp
theorem Reps.imp_ {α : Type} {R R' : α → List Value → Prop} {size : Nat} {ps : List α} {cs : List Value} (h : Reps R size ps cs) (hR : ∀ p c, R p c → R' p c) : Reps R' size ps cs := ⟨h.1, fun j p hj => hR _ _ (h.2 j p hj)⟩
def ReadsRow {α : Type} (R : α → List Value → Prop) (size : Nat) (w : World) (A : Option Addr) (n : Nat) (ps : List α) : Prop :=
 ps.length = n ∧ n ≤ 9223372036854775807 ∧ (0 < n → ∃ ad, A = some ad ∧ ∀ j p, ps[j]? = some p → ∃ c, c.length = size ∧ R p c ∧ ∀ i u, c[i]? = some u → w.cell? (ad.add (j * size + i)) = some u)
theorem ReadsRow.get_ {α : Type} {R : α → List Value → Prop} {size : Nat} {w : World} {A : Option Addr} {n : Nat} {ps : List α} (h : ReadsRow R size w A n ps) (d : α) (i : Int) (h0 : 0 ≤ i) (h1 : i < n) :
  ∃ ad c, A = some ad ∧ c.length = size ∧ R (ps.getD i.toNat d) c ∧ ∀ j u, c[j]? = some u → w.cell? (ad.add (i.toNat * size + j)) = some u := by
 obtain ⟨ad, e, hc⟩ := h.2.2 (by omega)
 have hl : i.toNat < ps.length := by have := h.1; omega
 obtain ⟨c, hs, hr, hcell⟩ := hc i.toNat _ (List.getElem?_eq_getElem hl)
 refine ⟨ad, c, e, hs, ?_, hcell⟩
 rw [List.getD_eq_getElem?_getD, List.getElem?_eq_getElem hl]
 exact hr
theorem ReadsRow.imp_ {α : Type} {R R' : α → List Value → Prop} {size : Nat} {w w1 : World} {A : Option Addr} {n : Nat} {ps : List α} (h : ReadsRow R size w A n ps) (hb : Below w.heap.size w w1) (hR : ∀ p c, R p c → R' p c) : ReadsRow R' size w1 A n ps :=
 ⟨h.1, h.2.1, fun hn => by
  obtain ⟨ad, e, hc⟩ := h.2.2 hn
  refine ⟨ad, e, fun j p hj => ?_⟩
  obtain ⟨c, hs, hr, hcell⟩ := hc j p hj
  exact ⟨c, hs, hR _ _ hr, fun i u hu => pw_cell_below hb (hcell i u hu)⟩⟩
theorem own_reads_row {α : Type} {R : α → List Value → Prop} {w : World} {base n size : Nat} {e : TypeId} {v : Value} {ps : List α} {cs : List Value} (h : w.ownsRow base e size v n cs) (hR : Reps R size ps cs) (hn : ps.length = n) :
  ∃ A c, v = .slice A n c ∧ ReadsRow R size w A n ps := by
 rcases Nat.eq_zero_or_pos n with h0 | h0
 ·rcases h.2 with ⟨rfl, rfl⟩ | ⟨g, cap, cur, rfl, _⟩
  ·exact ⟨none, 0, rfl, hn, by omega, fun hp => absurd hp (by omega)⟩
  ·exact ⟨_, cap, rfl, hn, by omega, fun hp => absurd hp (by omega)⟩
 ·obtain ⟨g, cap, rfl, _, _⟩ := h.form h0
  have hm : n ≤ 9223372036854775807 := by
   rcases h.2 with ⟨_, h1⟩ | ⟨g', cap', cur, he, _, _, h1, h2, _⟩
   ·omega
   ·simp only [maxLen] at h2
    omega
  refine ⟨_, cap, rfl, hn, hm, fun _ => ⟨_, rfl, fun j p hj => ⟨(cs.drop (j * size)).take size, ?_, hR.2 j p hj, fun i u hu => ?_⟩⟩⟩
  ·have hjl := (List.getElem?_eq_some_iff.1 hj).1
   have h1 : j * size + size ≤ cs.length := by rw [hR.1, ← Nat.succ_mul]; exact Nat.mul_le_mul_right _ hjl
   rw [List.length_take, List.length_drop]
   omega
  ·refine h.cells (g := g) rfl _ u ?_
   rw [List.getElem?_take] at hu
   split at hu
   ·rw [List.getElem?_drop] at hu
    exact hu
   ·cases hu
theorem add_field (ad : Addr) (m j : Nat) (hj : 0 < j) : ad.add (m + j) = ⟨(ad.add m).block, (ad.add m).off + j, none⟩ := by
 unfold Addr.add
 by_cases hm : m = 0
 ·subst hm
  simp [Nat.ne_of_gt hj]
 ·simp [hm, Nat.add_assoc]
section
variable {P : Program} {ops : Array Oper} {rest : List Oper} {o : Oper} {a : Act} {Q : Exit → Act → World → Prop}
theorem print_append_cells {w0 W : World} (base : Nat) (hgd : o.guard = none) (s x : Operand) (t e : TypeId) (z : Value) (size bytes : Nat)
  (ho : o.op = .call { callee := .builtin .append, args := #[s, x], argTypes := #[t, t] })
  (ht : P.underlying t = some (.slice e)) (hinfo : (P.info? e).map (fun i => (i.zero, i.size, i.bytes)) = some (some z, size, bytes)) (hz : z.cells.size = size) (hs0 : 0 < size) (hb0 : 0 < bytes)
  (v : Value) (n : Nat) (xs ys : List Value) (hs : a.eval s = v) (hx : a.eval x = .slice (some ⟨W.heap.size, 0, none⟩) 1 1) (hys : ys.length = size) (h1 : ∀ u ∈ ys, u.oneCell' = true)
  (HO : W.ownsRow base e size v n xs) (HB : Below base w0 W) (hbase : base ≤ W.heap.size) (hl : (n + 1) * bytes ≤ 140737488355328)
  (h : ∀ v1 w1, w1.ownsRow base e size v1 (n + 1) (xs ++ ys) → Below base w0 w1 → W.grownBy w1 v.ownBlock → (v1.ownBlock = v.ownBlock ∨ ∃ b, v1.ownBlock = some b ∧ W.heap.size ≤ b) → wpList P ops Q rest (a.put o.dst v1) w1) :
  wpList P ops Q (o :: rest) a (W.alloc (.cells ys.toArray e)) := by
 obtain ⟨i0, hi, hzz⟩ := Option.map_eq_some_iff.1 hinfo
 simp only [Prod.mk.injEq] at hzz
 obtain ⟨hz0, hz1, hz2⟩ := hzz
 have hlen : n + 1 ≤ 140737488355328 := Nat.le_trans (Nat.le_mul_of_pos_right _ hb0) hl
 refine wpList_append_own_at (W.alloc (.cells ys.toArray e)) hgd s x t ho base e i0 z size bytes ht hi hz0 hz1 hz2 hz hs0 v n xs hs (HO.alloc _) ⟨W.heap.size, 0, none⟩ 1 1 ys hx (by rw [hys]; simp)
  (by simpa using World.news_of_block (cs := ys.toArray) (t := e) (fr := (0, 0)) (heap_alloc_new W (.cells ys.toArray e))) h1 (by simp only [maxLen]; omega) hl (by simp; omega) ?_
 intro v1 w1 hown hg _ hat
 refine h v1 w1 hown ((HB.alloc hbase _).grown hg (by simp; omega) (own_base HO)) (World.grownBy.trans (World.grownBy_alloc W _ _) hg) ?_
 rcases hat with hat | hat
 ·exact .inl hat
 ·exact .inr ⟨_, hat, by simp⟩
end
theorem own_ne {w : World} {base : Nat} {e t : TypeId} {size n g : Nat} {v : Value} {xs : List Value} {cs : Array Value} (h : w.ownsRow base e size v n xs) (hg : w.heap[g]? = some (.cells cs t (0, 0))) (hne : e ≠ t) : some g ≠ v.ownBlock := by
 rcases h.2 with ⟨rfl, _⟩ | ⟨g', cap, cur, rfl, _, hh, _⟩
 ·simp [Value.ownBlock]
 ·intro he
  have : g = g' := by simpa [Value.ownBlock] using he
  subst this
  rw [hg] at hh
  injection hh with hh
  injection hh with _ ht
  exact hne ht.symm
theorem blk_set {w : World} {g : Nat} {t : TypeId} {cs : Array Value} (h : w.heap[g]? = some (.cells cs t (0, 0))) (i : Nat) (u : Value) : (w.setCell ⟨g, i, none⟩ u).heap[g]? = some (.cells (cs.setIfInBounds i u) t (0, 0)) := by
 simp [World.setCell, Array.getElem?_modify, h]
theorem blk_lt {w : World} {g : Nat} {o : Obj} (h : w.heap[g]? = some o) : g < w.heap.size := (Array.getElem?_eq_some_iff.1 h).1
theorem blk_cell {w : World} {g : Nat} {t : TypeId} {cs : Array Value} (h : w.heap[g]? = some (.cells cs t (0, 0))) (i : Nat) : w.cell? ⟨g, i, none⟩ = cs[i]? := cell_of_row w g i cs t (0, 0) h
theorem blk_frozen {w : World} {g : Nat} {t : TypeId} {cs : Array Value} (h : w.heap[g]? = some (.cells cs t (0, 0))) (i : Nat) : w.frozen? ⟨g, i, none⟩ = false := by simp [World.frozen?, h]
theorem blk_grown {w w1 : World} {g : Nat} {o : Obj} {row : Option Nat} (h : w.heap[g]? = some o) (hg : w.grownBy w1 row) (hne : some g ≠ row) : w1.heap[g]? = some o := (hg.block g (blk_lt h) hne).trans h
section
variable {P : Program} {ops : Array Oper} {o : Oper} {a : Act} {Q : Exit → Act → World → Prop} {K : Act → World → Prop}
theorem step_append_cells {w0 W : World} (base : Nat) (hw : Region.wanted o (yielded ops a.tmps) = true) (s x : Operand) (t e : TypeId) (z : Value) (size bytes : Nat)
  (ho : o.op = .call { callee := .builtin .append, args := #[s, x], argTypes := #[t, t] })
  (ht : P.underlying t = some (.slice e)) (hinfo : (P.info? e).map (fun i => (i.zero, i.size, i.bytes)) = some (some z, size, bytes)) (hz : z.cells.size = size) (hs0 : 0 < size) (hb0 : 0 < bytes)
  (v : Value) (n : Nat) (xs ys : List Value) (hs : a.eval s = v) (hx : a.eval x = .slice (some ⟨W.heap.size, 0, none⟩) 1 1) (hys : ys.length = size) (h1 : ∀ u ∈ ys, u.oneCell' = true)
  (HO : W.ownsRow base e size v n xs) (HB : Below base w0 W) (hbase : base ≤ W.heap.size) (hl : (n + 1) * bytes ≤ 140737488355328)
  (h : ∀ v1 w1, w1.ownsRow base e size v1 (n + 1) (xs ++ ys) → Below base w0 w1 → W.grownBy w1 v.ownBlock → (v1.ownBlock = v.ownBlock ∨ ∃ b, v1.ownBlock = some b ∧ W.heap.size ≤ b) → K (a.put o.dst v1) w1) :
  if Region.wanted o (yielded ops a.tmps) = true then Oper.wp P o a (W.alloc (.cells ys.toArray e)) K Q else K (a.put o.dst undef) (W.alloc (.cells ys.toArray e)) := by
 obtain ⟨i0, hi, hzz⟩ := Option.map_eq_some_iff.1 hinfo
 simp only [Prod.mk.injEq] at hzz
 obtain ⟨hz0, hz1, hz2⟩ := hzz
 have hlen : n + 1 ≤ 140737488355328 := Nat.le_trans (Nat.le_mul_of_pos_right _ hb0) hl
 rw [if_pos hw]
 obtain ⟨v1, w1, hr, hown, hg, _, hat⟩ := run_append_own_at (P := P) (W.alloc (.cells ys.toArray e)) base t o.type e i0 z size bytes ht hi hz0 hz1 hz2 hz hs0 v n xs (HO.alloc _) ⟨W.heap.size, 0, none⟩ 1 1 ys (by rw [hys]; simp)
  (by simpa using World.news_of_block (cs := ys.toArray) (t := e) (fr := (0, 0)) (heap_alloc_new W (.cells ys.toArray e))) h1 (by simp only [maxLen]; omega) hl (by simp; omega)
 unfold Oper.wp execOp
 simp only [ho, resolve, invoke, builtin, Sem.run_bind, Sem.run_pure, Result.andThen_ok, List.map_toArray, List.map_cons, List.map_nil, hs, hx, hr]
 refine h v1 w1 hown ((HB.alloc hbase _).grown hg (by simp; omega) (own_base HO)) (World.grownBy.trans (World.grownBy_alloc W _ _) hg) ?_
 rcases hat with hat | hat
 ·exact .inl hat
 ·exact .inr ⟨_, hat, by simp⟩
end
theorem own_weaken {w : World} {base base' : Nat} {e : TypeId} {size n : Nat} {v : Value} {xs : List Value} (h : w.ownsRow base e size v n xs) (hb : base' ≤ base) : w.ownsRow base' e size v n xs := by
 obtain ⟨h1, h2⟩ := h
 refine ⟨h1, ?_⟩
 rcases h2 with h2 | ⟨g, cap, cur, rfl, hg, r⟩
 ·exact .inl h2
 ·exact .inr ⟨g, cap, cur, rfl, Nat.le_trans hb hg, r⟩
section
variable {α : Type} {enc : α → Value} {d : α}
def rdOf (d : α) (xs : List α) (i : Int) : α := xs.getD i.toNat d
def ReadsOf (enc : α → Value) (d : α) (w : World) (A : Option Addr) (n : Nat) (xs : List α) : Prop :=
 xs.length = n ∧ n ≤ 9223372036854775807 ∧ (0 < n → ∃ ad, A = some ad ∧ ∀ j, j < n → w.cell? (ad.add j) = some (enc (xs.getD j d)))
theorem ReadsOf.at_ {w : World} {A : Option Addr} {n : Nat} {xs : List α} (h : ReadsOf enc d w A n xs) (i : Int) (h0 : 0 ≤ i) (h1 : i < n) : ∃ ad, A = some ad ∧ w.cell? (ad.add i.toNat) = some (enc (rdOf d xs i)) := by
 obtain ⟨ad, e, hc⟩ := h.2.2 (by omega)
 exact ⟨ad, e, hc _ (by omega)⟩
theorem print_make_of {P : Program} (t e : TypeId) (z : Value) (bytes : Nat) (ht : P.underlying t = some (.slice e)) (hinfo : (P.info? e).map (fun i => (i.zero, i.size, i.bytes)) = some (some z, 1, bytes)) (hz : z.cells = #[z]) (hb0 : 0 < bytes)
  (m : Nat) (hn : m * bytes ≤ 281474976710656) :
  ∀ W : World, (Instr.makeSlice t (.int .i64 (m : Int)) (.int .i64 (m : Int))).run P W = .ok (.slice (some ⟨W.heap.size, 0, none⟩) m m) (W.alloc (.cells (madeCells #[z] m) e)) := by
 intro W
 have hm : m ≤ 281474976710656 := Nat.le_trans (Nat.le_mul_of_pos_right _ hb0) hn
 exact run_make_row' t e z bytes ht hinfo hz .i64 .i64 m (by rw [Nat.mul_comm]; exact hn) (by omega) W
end
theorem blk_alloc {w : World} {g : Nat} {o : Obj} (h : w.heap[g]? = some o) (o' : Obj) : (w.alloc o').heap[g]? = some o := (Below.heap_alloc w o' g (blk_lt h)).trans h
theorem blk_below {w w1 : World} {g : Nat} {o : Obj} (h : w.heap[g]? = some o) (hb : Below w.heap.size w w1) : w1.heap[g]? = some o := (hb.block g (blk_lt h)).trans h
theorem own_le {w : World} {base n m c size : Nat} {e : TypeId} {A : Option Addr} {xs : List Value} (h : w.ownsRow base e size (.slice A m c) n xs) : m ≤ c := by
 rcases h.2 with ⟨he, _⟩ | ⟨g, cap, cur, he, _, _, hnc, _⟩
 ·injection he with _ h2 h3
  omega
 ·injection he with _ h2 h3
  omega
def OwnRow {α : Type} (R : α → List Value → Prop) (e : TypeId) (size : Nat) (w : World) (base : Nat) (v : Value) (ps : List α) : Prop :=
 ∃ inner, w.ownsRow base e size v ps.length inner ∧ Reps R size ps inner
section
variable {α : Type} {R R' : α → List Value → Prop} {e : TypeId} {size : Nat} {w w1 : World} {base : Nat} {v : Value} {ps : List α}
theorem OwnRow.none_ (R : α → List Value → Prop) (e : TypeId) (size : Nat) (w : World) (base : Nat) : OwnRow R e size w base (.slice none 0 0) [] := ⟨[], own_nil _ _ _ _, Reps.none _ _⟩
theorem OwnRow.imp_ (h : OwnRow R e size w base v ps) (hR : ∀ p c, R p c → R' p c) : OwnRow R' e size w base v ps := by
 obtain ⟨inner, ho, hr⟩ := h
 exact ⟨inner, ho, hr.imp_ hR⟩
theorem OwnRow.reads (h : OwnRow R e size w base v ps) : ∃ A c, v = .slice A ps.length c ∧ ps.length ≤ c ∧ ReadsRow R size w A ps.length ps := by
 obtain ⟨inner, ho, hr⟩ := h
 obtain ⟨A, c, rfl, hrow⟩ := own_reads_row ho hr rfl
 exact ⟨A, c, rfl, own_le ho, hrow⟩
theorem OwnRow.ne_block (h : OwnRow R e size w base v ps) {g : Nat} {t : TypeId} {cells : Array Value} (hb : w.heap[g]? = some (.cells cells t (0, 0))) (ht : e ≠ t) : some g ≠ v.ownBlock := by
 obtain ⟨inner, ho, hr⟩ := h
 exact own_ne ho hb ht
end
theorem ReadsRow.inner_ {α : Type} {R : α → List Value → Prop} {size : Nat} {w : World} {ad : Addr} {n : Nat} {ps : List α} (h : ReadsRow R size w (some ad) n ps) :
  ∃ inner, Reps R size ps inner ∧ ∀ j u, inner[j]? = some u → w.cell? (ad.add j) = some u := by
 have key : ∀ m, m ≤ ps.length → ∃ inner, Reps R size (ps.take m) inner ∧ ∀ j u, inner[j]? = some u → w.cell? (ad.add j) = some u := by
  intro m
  induction m with
  | zero => exact fun _ => ⟨[], Reps.none _ _, fun j u hu => by simp at hu⟩
  | succ m ih =>
   intro hm
   obtain ⟨inner, hr, hc⟩ := ih (by omega)
   obtain ⟨ad', he, hcell⟩ := h.2.2 (by have := h.1; omega)
   injection he with he
   subst he
   obtain ⟨c, hcl, hp, hcc⟩ := hcell m _ (List.getElem?_eq_getElem (show m < ps.length by omega))
   refine ⟨inner ++ c, ?_, fun j u hu => ?_⟩
   ·rw [List.take_succ_eq_append_getElem (show m < ps.length by omega)]
    exact hr.snoc hp hcl
   ·have hil : inner.length = m * size := by rw [hr.1, List.length_take, Nat.min_eq_left (by omega)]
    rcases Nat.lt_or_ge j inner.length with hj | hj
    ·rw [List.getElem?_append_left hj] at hu
     exact hc j u hu
    ·rw [List.getElem?_append_right hj] at hu
     have := hcc (j - inner.length) u hu
     rwa [hil, Nat.add_sub_cancel' (by omega)] at this
 obtain ⟨inner, hr, hc⟩ := key ps.length (Nat.le_refl _)
 rw [List.take_length] at hr
 exact ⟨inner, hr, hc⟩
structure Kd (α : Type) where
 sz : Nat
 E : List Nat
 K : World → α → List Value → Prop
 M : World → Nat → (Nat → Prop) → α → List Value → Prop
 K_len : ∀ {w x cs}, K w x cs → cs.length = sz
 K_one : ∀ {w x cs}, K w x cs → ∀ u ∈ cs, u.oneCell' = true
 K_below : ∀ {w w1 : World} {x cs}, Below w.heap.size w w1 → K w x cs → K w1 x cs
 K_of_M : ∀ {w base ok x cs}, M w base ok x cs → K w x cs
 M_mono : ∀ {w base ok ok' x cs}, (∀ k, ok k → ok' k) → M w base ok x cs → M w base ok' x cs
 M_bound : ∀ {w : World} {base ok x cs}, M w base ok x cs → M w base (fun k => ok k ∧ base ≤ k ∧ k < w.heap.size ∧ ∃ q, q ∈ E ∧ ∃ cells, w.heap[k]? = some (.cells cells q (0, 0))) x cs
 M_move : ∀ {w w1 : World} {base ok x cs}, (∀ k, ok k → w1.heap[k]? = w.heap[k]?) → M w base ok x cs → M w1 base ok x cs
 M_lower : ∀ {w base base' ok x cs}, base' ≤ base → M w base ok x cs → M w base' ok x cs
theorem own_move {w w1 : World} {base : Nat} {e : TypeId} {size n : Nat} {v : Value} {xs : List Value} (h : w.ownsRow base e size v n xs) (hm : ∀ k, v.ownBlock = some k → w1.heap[k]? = w.heap[k]?) : w1.ownsRow base e size v n xs := by
 obtain ⟨h1, h2⟩ := h
 refine ⟨h1, ?_⟩
 rcases h2 with h2 | ⟨g, cap, cur, rfl, hg, hh, r⟩
 ·exact .inl h2
 ·exact .inr ⟨g, cap, cur, rfl, hg, (hm g (by simp [Value.ownBlock])).trans hh, r⟩
theorem own_typed {w : World} {base : Nat} {e : TypeId} {size n : Nat} {v : Value} {xs : List Value} (h : w.ownsRow base e size v n xs) (k : Nat) (hk : v.ownBlock = some k) : ∃ cells, w.heap[k]? = some (.cells cells e (0, 0)) := by
 rcases h.2 with ⟨rfl, _⟩ | ⟨g, cap, cur, rfl, hg, hh, r⟩
 ·simp [Value.ownBlock] at hk
 ·have : g = k := by simpa [Value.ownBlock] using hk
  subst this
  exact ⟨cur, hh⟩
namespace Kd
def C {α : Type} (d : Kd α) (w : World) (A : Option Addr) (n : Nat) (xs : List α) : Prop := ReadsRow (d.K w) d.sz w A n xs
def R {α : Type} (d : Kd α) (e : Nat) (w : World) (base : Nat) (ok : Nat → Prop) (v : Value) (xs : List α) : Prop :=
 (∀ k, v.ownBlock = some k → ok k) ∧ OwnRow (d.M w base (fun k => ok k ∧ some k ≠ v.ownBlock)) e d.sz w base v xs
section
variable {α : Type} {d : Kd α} {e : Nat} {w w1 : World} {base : Nat} {ok ok' : Nat → Prop} {v : Value} {xs : List α}
theorem C_below {A : Option Addr} {n : Nat} (h : d.C w A n xs) (hb : Below w.heap.size w w1) : d.C w1 A n xs := ReadsRow.imp_ h hb (fun _ _ hp => d.K_below hb hp)
theorem R_nil (d : Kd α) (e : Nat) (w : World) (base : Nat) (ok : Nat → Prop) : d.R e w base ok (.slice none 0 0) [] := ⟨fun k hk => by simp [Value.ownBlock] at hk, OwnRow.none_ _ _ _ _ _⟩
theorem R_mono (h : d.R e w base ok v xs) (hok : ∀ k, ok k → ok' k) : d.R e w base ok' v xs := ⟨fun k hk => hok k (h.1 k hk), h.2.imp_ (fun _ _ hp => d.M_mono (fun k hk => ⟨hok k hk.1, hk.2⟩) hp)⟩
theorem R_bound (h : d.R e w base ok v xs) : d.R e w base (fun k => ok k ∧ base ≤ k ∧ k < w.heap.size ∧ ∃ q, q ∈ e :: d.E ∧ ∃ cells, w.heap[k]? = some (.cells cells q (0, 0))) v xs := by
 obtain ⟨h0, inner, ho, hr⟩ := h
 refine ⟨fun k hk => ?_, inner, ho, hr.imp_ (fun _ _ hp => d.M_mono (fun k hk => ?_) (d.M_bound hp))⟩
 ·obtain ⟨cells, hc⟩ := own_typed ho k hk
  exact ⟨h0 k hk, own_base ho k hk, own_lt ho k hk, e, List.mem_cons_self, cells, hc⟩
 ·obtain ⟨⟨h1, h2⟩, h3, h4, q, hq, hc⟩ := hk
  exact ⟨⟨h1, h3, h4, q, List.mem_cons_of_mem _ hq, hc⟩, h2⟩
theorem R_move (h : d.R e w base ok v xs) (hm : ∀ k, ok k → w1.heap[k]? = w.heap[k]?) : d.R e w1 base ok v xs := by
 obtain ⟨h0, inner, ho, hr⟩ := h
 exact ⟨h0, inner, own_move ho (fun k hk => hm k (h0 k hk)), hr.imp_ (fun _ _ hp => d.M_move (fun k hk => hm k hk.1) hp)⟩
theorem R_lower {base' : Nat} (h : d.R e w base ok v xs) (hb : base' ≤ base) : d.R e w base' ok v xs := by
 obtain ⟨h0, inner, ho, hr⟩ := h
 exact ⟨h0, inner, own_weaken ho hb, hr.imp_ (fun _ _ hp => d.M_lower hb hp)⟩
theorem R_step (h : d.R e w base ok v xs) (hm : ∀ k, ok k → k < w.heap.size → w1.heap[k]? = w.heap[k]?) : d.R e w1 base ok v xs :=
 R_mono (R_move (R_bound h) (fun k hk => hm k hk.1 hk.2.2.1)) (fun _ hk => hk.1)
theorem M_step {x : α} {cs : List Value} (h : d.M w base ok x cs) (hm : ∀ k, ok k → k < w.heap.size → w1.heap[k]? = w.heap[k]?) : d.M w1 base ok x cs :=
 d.M_mono (fun _ hk => hk.1) (d.M_move (fun k hk => hm k hk.1 hk.2.2.1) (d.M_bound h))
theorem R_below (h : d.R e w base ok v xs) (hb : Below w.heap.size w w1) : d.R e w1 base ok v xs := R_step h (fun k _ hk => hb.block k hk)
theorem M_below {x : α} {cs : List Value} (h : d.M w base ok x cs) (hb : Below w.heap.size w w1) : d.M w1 base ok x cs := M_step h (fun k _ hk => hb.block k hk)
theorem R_grown (h : d.R e w base ok v xs) {row : Option Nat} (hg : w.grownBy w1 row) (hok : ∀ k, ok k → some k ≠ row) : d.R e w1 base ok v xs := R_step h (fun k ho hk => hg.block k hk (hok k ho))
theorem R_far (h : d.R e w base ok v xs) {p : Addr} (hok : ∀ k, ok k → k ≠ p.block) (u : Value) : d.R e (w.setCell p u) base ok v xs := R_step h (fun k ho _ => Below.heap_setCell w p u k (hok k ho))
theorem R_reads (h : d.R e w base ok v xs) : ∃ A c, v = .slice A xs.length c ∧ xs.length ≤ c ∧ d.C w A xs.length xs := by
 obtain ⟨A, c, he, hl, hr⟩ := OwnRow.reads h.2
 exact ⟨A, c, he, hl, hr.imp_ (Below.refl _ _) (fun _ _ hp => d.K_of_M hp)⟩
theorem R_slice (h : d.R e w base ok v xs) : ∃ A c, v = .slice A xs.length c := by
 obtain ⟨A, c, he, _⟩ := R_reads h
 exact ⟨A, c, he⟩
theorem R_own (h : d.R e w base ok v xs) : ∃ inner, w.ownsRow base e d.sz v xs.length inner := by
 obtain ⟨_, inner, ho, _⟩ := h
 exact ⟨inner, ho⟩
theorem R_ne (h : d.R e w base ok v xs) {g t : Nat} {cells : Array Value} (hb : w.heap[g]? = some (.cells cells t (0, 0))) (ht : e ≠ t) : some g ≠ v.ownBlock := OwnRow.ne_block h.2 hb ht
theorem R_new {W : World} {b e0 s0 n0 : Nat} {u : Value} {ys : List Value} (h : d.R e w W.heap.size ok v xs) (ho : W.ownsRow b e0 s0 u n0 ys) : d.R e w W.heap.size (fun k => ok k ∧ some k ≠ u.ownBlock) v xs :=
 R_mono (R_bound h) (fun k hk => ⟨hk.1, fun e => by have := own_lt ho k e.symm; omega⟩)
end
def scalar {α : Type} (enc : α → Value) (h1 : ∀ x, (enc x).oneCell' = true) : Kd α where
 sz := 1
 E := []
 K := fun _ x cs => cs = [enc x]
 M := fun _ _ _ x cs => cs = [enc x]
 K_len := fun h => by rw [h]; rfl
 K_one := fun h u hu => by
  rw [h] at hu
  rw [List.mem_singleton.1 hu]
  exact h1 _
 K_below := fun _ h => h
 K_of_M := fun h => h
 M_mono := fun _ h => h
 M_bound := fun h => h
 M_move := fun _ h => h
 M_lower := fun _ h => h
def int (k : IntKind) : Kd Int := scalar (Value.int k) (fun _ => rfl)
def bool : Kd Bool := scalar Value.bool (fun _ => rfl)
def slice {α : Type} (e : Nat) (d : Kd α) : Kd (List α) where
 sz := 1
 E := e :: d.E
 K := fun w xs cs => ∃ A c, cs = [.slice A xs.length c] ∧ xs.length ≤ c ∧ d.C w A xs.length xs
 M := fun w base ok xs cs => ∃ v, cs = [v] ∧ d.R e w base ok v xs
 K_len := by
  rintro w x cs ⟨A, c, rfl, _⟩
  rfl
 K_one := by
  rintro w x cs ⟨A, c, rfl, _⟩ u hu
  rw [List.mem_singleton.1 hu]
  rfl
 K_below := by
  rintro w w1 x cs hb ⟨A, c, rfl, hl, hr⟩
  exact ⟨A, c, rfl, hl, C_below hr hb⟩
 K_of_M := by
  rintro w base ok x cs ⟨v, rfl, h⟩
  obtain ⟨A, c, rfl, hl, hr⟩ := R_reads h
  exact ⟨A, c, rfl, hl, hr⟩
 M_mono := by
  rintro w base ok ok' x cs hok ⟨v, rfl, h⟩
  exact ⟨v, rfl, R_mono h hok⟩
 M_bound := by
  rintro w base ok x cs ⟨v, rfl, h⟩
  exact ⟨v, rfl, R_bound h⟩
 M_move := by
  rintro w w1 base ok x cs hm ⟨v, rfl, h⟩
  exact ⟨v, rfl, R_move h hm⟩
 M_lower := by
  rintro w base base' ok x cs hb ⟨v, rfl, h⟩
  exact ⟨v, rfl, R_lower h hb⟩
def pair {α β : Type} (a : Kd α) (b : Kd β) : Kd (α × β) where
 sz := a.sz + b.sz
 E := a.E ++ b.E
 K := fun w x cs => ∃ c0 c1, cs = c0 ++ c1 ∧ a.K w x.1 c0 ∧ b.K w x.2 c1
 M := fun w base ok x cs => ∃ c0 c1, cs = c0 ++ c1 ∧ a.M w base ok x.1 c0 ∧ b.M w base ok x.2 c1
 K_len := by
  rintro w x cs ⟨c0, c1, rfl, h0, h1⟩
  rw [List.length_append, a.K_len h0, b.K_len h1]
 K_one := by
  rintro w x cs ⟨c0, c1, rfl, h0, h1⟩ u hu
  rcases List.mem_append.1 hu with hu | hu
  ·exact a.K_one h0 u hu
  ·exact b.K_one h1 u hu
 K_below := by
  rintro w w1 x cs hb ⟨c0, c1, rfl, h0, h1⟩
  exact ⟨c0, c1, rfl, a.K_below hb h0, b.K_below hb h1⟩
 K_of_M := by
  rintro w base ok x cs ⟨c0, c1, rfl, h0, h1⟩
  exact ⟨c0, c1, rfl, a.K_of_M h0, b.K_of_M h1⟩
 M_mono := by
  rintro w base ok ok' x cs hok ⟨c0, c1, rfl, h0, h1⟩
  exact ⟨c0, c1, rfl, a.M_mono hok h0, b.M_mono hok h1⟩
 M_bound := by
  rintro w base ok x cs ⟨c0, c1, rfl, h0, h1⟩
  refine ⟨c0, c1, rfl, a.M_mono ?_ (a.M_bound h0), b.M_mono ?_ (b.M_bound h1)⟩
  ·rintro k ⟨h2, h3, h4, q, hq, hc⟩
   exact ⟨h2, h3, h4, q, List.mem_append_left _ hq, hc⟩
  ·rintro k ⟨h2, h3, h4, q, hq, hc⟩
   exact ⟨h2, h3, h4, q, List.mem_append_right _ hq, hc⟩
 M_move := by
  rintro w w1 base ok x cs hm ⟨c0, c1, rfl, h0, h1⟩
  exact ⟨c0, c1, rfl, a.M_move hm h0, b.M_move hm h1⟩
 M_lower := by
  rintro w base base' ok x cs hb ⟨c0, c1, rfl, h0, h1⟩
  exact ⟨c0, c1, rfl, a.M_lower hb h0, b.M_lower hb h1⟩
theorem C_get {α : Type} {d : Kd α} {w : World} {A : Option Addr} {n : Nat} {xs : List α} (h : d.C w A n xs) (z : α) (i : Int) (h0 : 0 ≤ i) (h1 : i < n) :
  ∃ ad c, A = some ad ∧ c.length = d.sz ∧ d.K w (xs.getD i.toNat z) c ∧ ∀ j u, c[j]? = some u → w.cell? (ad.add (i.toNat * d.sz + j)) = some u := ReadsRow.get_ h z i h0 h1
theorem R_appended {α : Type} {d : Kd α} {e base : Nat} {ok okp : Nat → Prop} {W w1 : World} {v v1 : Value} {xs : List α} {p : α} {inner cs : List Value} (h0 : ∀ k, v.ownBlock = some k → ok k) (hr : Reps (d.M W base (fun k => ok k ∧ some k ≠ v.ownBlock)) d.sz xs inner) (hp : d.M W base okp p cs) (hokp : ∀ k, okp k → ok k ∧ some k ≠ v.ownBlock) (hfresh : ∀ k, W.heap.size ≤ k → ok k)
  (hown : w1.ownsRow base e d.sz v1 (xs.length + 1) (inner ++ cs)) (hg : W.grownBy w1 v.ownBlock) (hat : v1.ownBlock = v.ownBlock ∨ ∃ b, v1.ownBlock = some b ∧ W.heap.size ≤ b) : d.R e w1 base ok v1 (xs ++ [p]) := by
 have hne : ∀ k, some k ≠ v.ownBlock → k < W.heap.size → some k ≠ v1.ownBlock := by
  intro k hk hlt
  rcases hat with hat | ⟨b, hb, hle⟩
  ·rw [hat]; exact hk
  ·rw [hb]
   intro he
   injection he with he
   omega
 have step : ∀ {q : α} {c : List Value} {o : Nat → Prop}, d.M W base o q c → (∀ k, o k → ok k ∧ some k ≠ v.ownBlock) → d.M w1 base (fun k => ok k ∧ some k ≠ v1.ownBlock) q c := by
  intro q c o hq ho
  have h1 := d.M_move (w1 := w1) (fun k hk => hg.block k hk.2.2.1 (ho k hk.1).2) (d.M_bound hq)
  exact d.M_mono (fun k hk => ⟨(ho k hk.1).1, hne k (ho k hk.1).2 hk.2.2.1⟩) h1
 refine ⟨fun k hk => ?_, inner ++ cs, by rw [List.length_append, List.length_singleton]; exact hown, ?_⟩
 ·rcases hat with hat | ⟨b, hb, hle⟩
  ·exact h0 k (hat ▸ hk)
  ·rw [hb] at hk
   injection hk with hk
   exact hfresh k (by omega)
 ·exact (hr.imp_ (fun _ _ hq => step hq (fun _ hk => hk))).snoc (step hp hokp) (d.K_len (d.K_of_M hp))
section
variable {P : Program} {ops : Array Oper} {rest : List Oper} {o : Oper} {a : Act} {Q : Exit → Act → World → Prop} {α : Type}
theorem R_append (d : Kd α) {w0 W : World} (base : Nat) (hgd : o.guard = none) (s x : Operand) (t e : TypeId) (z : Value) (bytes : Nat)
  (ho : o.op = .call { callee := .builtin .append, args := #[s, x], argTypes := #[t, t] })
  (ht : P.underlying t = some (.slice e)) (hinfo : (P.info? e).map (fun i => (i.zero, i.size, i.bytes)) = some (some z, d.sz, bytes)) (hz : z.cells.size = d.sz) (hs0 : 0 < d.sz) (hb0 : 0 < bytes)
  (v : Value) (xs : List α) (p : α) (cs : List Value) (ok okp : Nat → Prop) (hs : a.eval s = v) (hx : a.eval x = .slice (some ⟨W.heap.size, 0, none⟩) 1 1) (hp : d.M W base okp p cs) (hokp : ∀ k, okp k → ok k ∧ some k ≠ v.ownBlock) (hfresh : ∀ k, W.heap.size ≤ k → ok k)
  (HO : d.R e W base ok v xs) (HB : Below base w0 W) (hbase : base ≤ W.heap.size) (hl : (xs.length + 1) * bytes ≤ 140737488355328)
  (h : ∀ v1 w1, d.R e w1 base ok v1 (xs ++ [p]) → Below base w0 w1 → W.grownBy w1 v.ownBlock → (v1.ownBlock = v.ownBlock ∨ ∃ b, v1.ownBlock = some b ∧ W.heap.size ≤ b) → wpList P ops Q rest (a.put o.dst v1) w1) :
  wpList P ops Q (o :: rest) a (W.alloc (.cells cs.toArray e)) := by
 obtain ⟨h0, inner, hown, hr⟩ := HO
 refine print_append_cells base hgd s x t e z d.sz bytes ho ht hinfo hz hs0 hb0 v xs.length inner cs hs hx (d.K_len (d.K_of_M hp)) (d.K_one (d.K_of_M hp)) hown HB hbase hl ?_
 intro v1 w1 hown1 hb1 hg1 hat1
 exact h v1 w1 (R_appended h0 hr hp hokp hfresh hown1 hg1 hat1) hb1 hg1 hat1
end
section
variable {P : Program} {ops : Array Oper} {o : Oper} {a : Act} {Q : Exit → Act → World → Prop} {Kc : Act → World → Prop} {α : Type}
theorem R_append_step (d : Kd α) {w0 W : World} (base : Nat) (hw : Region.wanted o (yielded ops a.tmps) = true) (s x : Operand) (t e : TypeId) (z : Value) (bytes : Nat)
  (ho : o.op = .call { callee := .builtin .append, args := #[s, x], argTypes := #[t, t] })
  (ht : P.underlying t = some (.slice e)) (hinfo : (P.info? e).map (fun i => (i.zero, i.size, i.bytes)) = some (some z, d.sz, bytes)) (hz : z.cells.size = d.sz) (hs0 : 0 < d.sz) (hb0 : 0 < bytes)
  (v : Value) (xs : List α) (p : α) (cs : List Value) (ok okp : Nat → Prop) (hs : a.eval s = v) (hx : a.eval x = .slice (some ⟨W.heap.size, 0, none⟩) 1 1) (hp : d.M W base okp p cs) (hokp : ∀ k, okp k → ok k ∧ some k ≠ v.ownBlock) (hfresh : ∀ k, W.heap.size ≤ k → ok k)
  (HO : d.R e W base ok v xs) (HB : Below base w0 W) (hbase : base ≤ W.heap.size) (hl : (xs.length + 1) * bytes ≤ 140737488355328)
  (h : ∀ v1 w1, d.R e w1 base ok v1 (xs ++ [p]) → Below base w0 w1 → W.grownBy w1 v.ownBlock → (v1.ownBlock = v.ownBlock ∨ ∃ b, v1.ownBlock = some b ∧ W.heap.size ≤ b) → Kc (a.put o.dst v1) w1) :
  if Region.wanted o (yielded ops a.tmps) = true then Oper.wp P o a (W.alloc (.cells cs.toArray e)) Kc Q else Kc (a.put o.dst undef) (W.alloc (.cells cs.toArray e)) := by
 obtain ⟨h0, inner, hown, hr⟩ := HO
 refine step_append_cells base hw s x t e z d.sz bytes ho ht hinfo hz hs0 hb0 v xs.length inner cs hs hx (d.K_len (d.K_of_M hp)) (d.K_one (d.K_of_M hp)) hown HB hbase hl ?_
 intro v1 w1 hown1 hb1 hg1 hat1
 exact h v1 w1 (R_appended h0 hr hp hokp hfresh hown1 hg1 hat1) hb1 hg1 hat1
end
theorem reads_of_C {α : Type} {enc : α → Value} {d : α} {h1 : ∀ x, (enc x).oneCell' = true} {w : World} {A : Option Addr} {n : Nat} {xs : List α} (h : (scalar enc h1).C w A n xs) : ReadsOf enc d w A n xs := by
 refine ⟨h.1, h.2.1, fun hn => ?_⟩
 obtain ⟨ad, e, hc⟩ := h.2.2 hn
 refine ⟨ad, e, fun j hj => ?_⟩
 have hl : j < xs.length := by have := h.1; omega
 obtain ⟨c, _, hK, hcell⟩ := hc j _ (List.getElem?_eq_getElem hl)
 have hK' : c = [enc xs[j]] := hK
 subst hK'
 have := hcell 0 _ rfl
 simpa [scalar, List.getD_eq_getElem?_getD, List.getElem?_eq_getElem hl] using this
end Kd
namespace Kd
section
variable {α β : Type} {d : Kd α} {d' : Kd β} {e e' : Nat} {w w1 W : World} {base b b' : Nat} {ok ok' okv oku : Nat → Prop} {v u : Value} {xs : List α} {ys : List β}
theorem R_drew (h : d.R e w base ok v xs) : d.R e w.drew base ok v xs := R_below h (below_drew (Below.refl _ _))
theorem C_nil (d : Kd α) (w : World) : d.C w none ([] : List α).length [] := ⟨rfl, by simp, fun h => absurd h (Nat.lt_irrefl 0)⟩
theorem C_max {A : Option Addr} {n : Nat} (h : d.C w A n xs) : n ≤ 9223372036854775807 := h.2.1
theorem R_reads' {A : Option Addr} {n c : Nat} (h : d.R e w base ok (.slice A n c) xs) : n = xs.length ∧ n ≤ c ∧ d.C w A xs.length xs := by
 obtain ⟨A', c', he, hl, hr⟩ := R_reads h
 injection he with h1 h2 h3
 subst h1
 exact ⟨h2, by omega, hr⟩
theorem R_lt (h : d.R e w base ok v xs) : ∀ k, v.ownBlock = some k → k < w.heap.size := by
 obtain ⟨inner, ho⟩ := R_own h
 exact own_lt ho
theorem R_base (h : d.R e w base ok v xs) : ∀ k, v.ownBlock = some k → base ≤ k := by
 obtain ⟨inner, ho⟩ := R_own h
 exact own_base ho
theorem R_form (h : d.R e w base ok v xs) (hp : 0 < xs.length) : ∃ g cap, v = .slice (some ⟨g, 0, none⟩) xs.length cap ∧ base ≤ g ∧ g < w.heap.size ∧ ∃ cells, w.heap[g]? = some (.cells cells e (0, 0)) := by
 obtain ⟨inner, ho⟩ := R_own h
 obtain ⟨g, cap, he, hb, hl⟩ := ho.form hp
 obtain ⟨cells, hc⟩ := own_typed ho g (by rw [he]; simp [Value.ownBlock])
 exact ⟨g, cap, he, hb, hl, cells, hc⟩
theorem R_over (h : d.R e W b ok u xs) (hv : d'.R e' W b' ok' v ys) (ht : ∀ q, q ∈ e :: d.E → q ≠ e') (hg : W.grownBy w1 v.ownBlock) : d.R e w1 b ok u xs := by
 obtain ⟨inner, ho⟩ := R_own hv
 refine R_mono (R_move (R_bound h) (fun k hk => hg.block k hk.2.2.1 (fun he => ?_))) (fun _ hk => hk.1)
 obtain ⟨_, _, _, q, hq, cells, hc⟩ := hk
 obtain ⟨cells', hc'⟩ := own_typed ho k he.symm
 rw [hc] at hc'
 injection hc' with hc'
 injection hc' with _ hc'
 exact ht q hq hc'
theorem R_newR (h : d.R e w1 W.heap.size ok v xs) (hu : d'.R e' W b oku u ys) : d.R e w1 W.heap.size (fun k => ok k ∧ some k ≠ u.ownBlock) v xs := by
 obtain ⟨inner, ho⟩ := R_own hu
 exact R_new h ho
end
section
variable {w W : World} {A : Option Addr} {n : Nat}
theorem at_int {k : IntKind} {xs : List Int} (h : (Kd.int k).C w A n xs) (i : Int) (h0 : 0 ≤ i) (h1 : i < n) : ∃ ad, A = some ad ∧ w.cell? (ad.add i.toNat) = some (.int k (rd xs i)) :=
 ReadsOf.at_ (reads_of_C (enc := Value.int k) (d := (0 : Int)) (h1 := fun _ => rfl) h) i h0 h1
variable {α : Type} {enc : α → Value} {h1 : ∀ x, (enc x).oneCell' = true} {e base g cap : Nat} {ok : Nat → Prop} {xs : List α}
end
section
variable {P : Program} {ops : Array Oper} {rest : List Oper} {o : Oper} {a : Act} {Q : Exit → Act → World → Prop}
theorem event_run {W w1 : World} {v : Value} (hgd : o.guard = none) (hrun : (execOp a.eval o).run P W = .ok (.value v) w1) (h : wpList P ops Q rest (a.put o.dst v) w1) : wpList P ops Q (o :: rest) a W := by
 refine wpList_plain hgd fun K hK => ?_
 unfold Oper.wp
 rw [hrun]
 exact hK _ _ h
variable {α : Type}
theorem R_lit (d : Kd α) {w0 W : World} (base e : Nat) (hgd : o.guard = none) {N : Tmp} (_hd : o.dst = some N) {xs : List α} {inner : List Value} {ok okp : Nat → Prop}
  (hrun : (execOp a.eval o).run P W = .ok (.value (.slice (some ⟨W.heap.size, 0, none⟩) xs.length xs.length)) (W.alloc (.cells inner.toArray e)))
  (hrep : Reps (d.M W base okp) d.sz xs inner) (hok : ∀ k, okp k → ok k) (hfresh : ok W.heap.size) (HB : Below base w0 W) (hbase : base ≤ W.heap.size) (hm : xs.length ≤ 9223372036854775807)
  (h : ∀ v1 w1, d.R e w1 base ok v1 xs → Below base w0 w1 → W.grownBy w1 none → (∃ b, v1.ownBlock = some b ∧ W.heap.size ≤ b) → wpList P ops Q rest (a.put o.dst v1) w1) : wpList P ops Q (o :: rest) a W := by
 refine event_run hgd hrun (h _ _ ⟨fun k hk => ?_, inner, ?_, ?_⟩ (HB.alloc hbase _) (World.grownBy_alloc W _ none) ⟨W.heap.size, by simp [Value.ownBlock], Nat.le_refl _⟩)
 ·have : W.heap.size = k := by simpa [Value.ownBlock] using hk
  subst this
  exact hfresh
 ·have h2 := World.ownsRow_lit (base := base) (e := e) (size := d.sz) W inner.toArray xs.length hbase (by simpa [maxLen] using hm) (by simpa using hrep.1)
  simpa using h2
 ·refine hrep.imp_ (fun p c hp => d.M_mono (fun k hk => ⟨hok k hk.1, fun he => ?_⟩) (M_below (d.M_bound hp) (below_alloc (Below.refl _ _) _)))
  have h3 : k = W.heap.size := by simpa [Value.ownBlock] using he
  have := hk.2.2.1
  omega
theorem reps_made {α : Type} {R : α → List Value → Prop} {z : Value} {size : Nat} {z0 : α} (hz : z.cells.size = size) (hs : 0 < size) (h0 : R z0 z.cells.toList) (m : Nat) : Reps R size (List.replicate m z0) (madeCells z.cells (m * size)).toList := by
 refine ⟨by simp [size_madeCells], fun j p hj => ?_⟩
 obtain ⟨hjl, hp⟩ := List.getElem?_eq_some_iff.1 hj
 have hjm : j < m := by simpa using hjl
 have hp' : z0 = p := by simpa using hp
 subst hp'
 have hle : j * size + size ≤ m * size := by rw [← Nat.succ_mul]; exact Nat.mul_le_mul_right _ hjm
 have : ((madeCells z.cells (m * size)).toList.drop (j * size)).take size = z.cells.toList := by
  apply List.ext_getElem
  ·simp [size_madeCells, hz]
   omega
  ·intro i h1 h2
   have hi : i < size := by rw [Array.length_toList, hz] at h2; exact h2
   have hmod : (j * size + i) % size = i := by
    rw [Nat.mul_comm, Nat.mul_add_mod]
    exact Nat.mod_eq_of_lt hi
   simp [madeCells, hz, hmod]
   rw [getElem!_pos z.cells i (by omega)]
 rw [this]
 exact h0
theorem R_make (d : Kd α) {w0 W : World} (base e : Nat) (hgd : o.guard = none) {N : Tmp} (hd : o.dst = some N) (t : TypeId) (x y : Operand) (ho : o.op = .makeSlice t x y) (n : Int) (hx : a.eval x = .int .i64 n) (hy : a.eval y = .int .i64 n)
  (ht : P.underlying t = some (.slice e)) (z : Value) (bytes : Nat) (hinfo : (P.info? e).map (fun i => (i.zero, i.size, i.bytes)) = some (some z, d.sz, bytes)) (hz : z.cells.size = d.sz) (hs0 : 0 < d.sz) (hb0 : 0 < bytes)
  (z0 : α) {ok okp : Nat → Prop} (hzero : d.M W base okp z0 z.cells.toList) (hok : ∀ k, okp k → ok k) (hfresh : ok W.heap.size) (h0 : 0 ≤ n) (hl : n.toNat * bytes ≤ 281474976710656) (HB : Below base w0 W) (hbase : base ≤ W.heap.size)
  (h : ∀ v1 w1, d.R e w1 base ok v1 (List.replicate n.toNat z0) → Below base w0 w1 → W.grownBy w1 none → (∃ b, v1.ownBlock = some b ∧ W.heap.size ≤ b) → wpList P ops Q rest (a.put o.dst v1) w1) : wpList P ops Q (o :: rest) a W := by
 obtain ⟨m, rfl⟩ := Int.eq_ofNat_of_zero_le h0
 simp only [Int.toNat_natCast] at hl h
 obtain ⟨i0, hi, hzz⟩ := Option.map_eq_some_iff.1 hinfo
 simp only [Prod.mk.injEq] at hzz
 obtain ⟨hz0, hz1, hz2⟩ := hzz
 have hm : m ≤ 281474976710656 := Nat.le_trans (Nat.le_mul_of_pos_right _ hb0) hl
 have hr := run_make (P := P) W t e i0 z ht hi hz0 .i64 .i64 (m : Int) (m : Int) (by omega) (by omega)
  (by
   have h3 : ((i0.bytes * m : Nat) : Int) ≤ 281474976710656 := by rw [hz2, Nat.mul_comm]; omega
   rwa [Int.natCast_mul] at h3) (by omega)
 simp only [Int.toNat_natCast] at hr
 rw [hz1] at hr
 refine R_lit d base e hgd hd (xs := List.replicate m z0) (inner := (madeCells z.cells (m * d.sz)).toList) (okp := okp) (ok := ok) ?_ (reps_made hz hs0 hzero m) hok hfresh HB hbase (by simp; omega) h
 simp [execOp, ho, hx, hy, hr]
end
end Kd
section
variable {w w1 : World} {base n size : Nat} {e : TypeId} {v : Value} {xs : List Value}
theorem setCells_far {g : Nat} : ∀ (vs : List Value) (o : Nat) {w : World} (k : Nat), k ≠ g → (w.setCells g o vs).heap[k]? = w.heap[k]?
 | [], _, _, _, _ => rfl
 | v :: r, o, w, k, hk => by
  rw [World.setCells, setCells_far r (o + 1) k hk]
  exact Below.heap_setCell w ⟨g, o, none⟩ v k hk
theorem setCells_same (g : Nat) : ∀ (vs : List Value) (o : Nat) (w : World), (w.setCells g o vs).os = w.os ∧ (w.setCells g o vs).tape = w.tape ∧ (w.setCells g o vs).output = w.output ∧ (w.setCells g o vs).heap.size = w.heap.size
 | [], _, _ => ⟨rfl, rfl, rfl, rfl⟩
 | v :: r, o, w => by
  obtain ⟨h1, h2, h3, h4⟩ := setCells_same g r (o + 1) (w.setCell ⟨g, o, none⟩ v)
  rw [World.setCells]
  exact ⟨h1, h2, h3, by rw [h4]; simp [World.setCell]⟩
theorem setCells_row {g : Nat} {e : TypeId} : ∀ (vs : List Value) (o : Nat) (w : World) (cur : Array Value), w.heap[g]? = some (.cells cur e (0, 0)) → o + vs.length ≤ cur.size →
  ∃ cur', (w.setCells g o vs).heap[g]? = some (.cells cur' e (0, 0)) ∧ cur'.size = cur.size ∧ cur'.toList = cur.toList.take o ++ vs ++ cur.toList.drop (o + vs.length)
 | [], o, w, cur, h, _ => ⟨cur, h, rfl, by simp⟩
 | v :: r, o, w, cur, h, hl => by
  have h2 := blk_set h o v
  simp only [List.length_cons] at hl
  obtain ⟨cur', h3, h4, h5⟩ := setCells_row r (o + 1) (w.setCell ⟨g, o, none⟩ v) _ h2 (by simp; omega)
  refine ⟨cur', h3, by rw [h4]; simp, ?_⟩
  rw [h5, Array.toList_setIfInBounds]
  have ho : o < cur.toList.length := by rw [Array.length_toList]; omega
  rw [List.take_set, List.drop_set_of_lt (by omega)]
  simp only [List.length_cons]
  rw [show o + 1 + r.length = o + (r.length + 1) by omega]
  congr 1
  rw [List.take_succ_eq_append_getElem ho, List.set_append_right _ _ (by rw [List.length_take]; omega)]
  have ho' : o < cur.size := by omega
  simp [Nat.min_eq_left (Nat.le_of_lt ho')]
end
namespace Kd
section
variable {α : Type} {d : Kd α} {e e' : Nat} {w w1 W : World} {base : Nat} {ok : Nat → Prop} {u v : Value} {xs : List α}
theorem R_typed (h : d.R e w base ok v xs) : ∀ k, v.ownBlock = some k → ∃ cells, w.heap[k]? = some (.cells cells e (0, 0)) := by
 obtain ⟨inner, ho⟩ := R_own h
 exact fun k hk => own_typed ho k hk
end
end Kd
theorem seg_get {α : Type} (a seg : List α) (o : Nat) (h : o + seg.length ≤ a.length) (q : Nat) :
  (a.take o ++ seg ++ a.drop (o + seg.length))[q]? = if q < o then a[q]? else if q < o + seg.length then seg[q - o]? else a[q]? := by
 have hl : (a.take o).length = o := by rw [List.length_take]; omega
 rw [List.append_assoc]
 by_cases h1 : q < o
 ·rw [if_pos h1, List.getElem?_append_left (by omega), List.getElem?_take, if_pos h1]
 ·rw [if_neg h1, List.getElem?_append_right (by omega), hl]
  by_cases h2 : q < o + seg.length
  ·rw [if_pos h2, List.getElem?_append_left (by omega)]
  ·rw [if_neg h2, List.getElem?_append_right (by omega), List.getElem?_drop]
   congr 1
   omega
namespace Kd
section
variable {α : Type} {d : Kd α} {e base g n cap : Nat} {ok okp : Nat → Prop} {W : World} {xs : List α}
theorem R_elem (h : d.R e W base ok (.slice (some ⟨g, 0, none⟩) n cap) xs) (z : α) (i : Int) (h0 : 0 ≤ i) (h1 : i < n) :
  ∃ c, c.length = d.sz ∧ d.M W base (fun k => ok k ∧ k ≠ g) (xs.getD i.toNat z) c ∧ (∀ j u, c[j]? = some u → W.cell? ⟨g, i.toNat * d.sz + j, none⟩ = some u) ∧ ∀ j, W.frozen? ⟨g, i.toNat * d.sz + j, none⟩ = false := by
 obtain ⟨hn, hnc, hC⟩ := R_reads' h
 obtain ⟨_, inner, ho, hr⟩ := h
 have hil : i.toNat < xs.length := by omega
 have hseg : i.toNat * d.sz + d.sz ≤ inner.length := by rw [hr.1, ← Nat.succ_mul]; exact Nat.mul_le_mul_right _ hil
 have hM := hr.2 i.toNat _ (List.getElem?_eq_getElem hil)
 refine ⟨(inner.drop (i.toNat * d.sz)).take d.sz, by rw [List.length_take, List.length_drop]; omega, ?_, fun j u hu => ?_, fun j => ?_⟩
 ·rw [List.getD_eq_getElem?_getD, List.getElem?_eq_getElem hil]
  exact d.M_mono (fun k hk => ⟨hk.1, fun he => hk.2 (by rw [he]; simp [Value.ownBlock])⟩) hM
 ·rw [List.getElem?_take] at hu
  split at hu
  ·rw [List.getElem?_drop] at hu
   have := ho.cells (g := g) (by simp [Value.ownBlock]) _ u hu
   rwa [add_plain] at this
  ·cases hu
 ·obtain ⟨cells, hc⟩ := own_typed ho g (by simp [Value.ownBlock])
  exact blk_frozen hc _
theorem R_seg (h : d.R e W base ok (.slice (some ⟨g, 0, none⟩) n cap) xs) (i : Int) (h0 : 0 ≤ i) (h1 : i < n) {c seg : List Value} {j : Nat} (hcl : c.length = d.sz) (hcc : ∀ j u, c[j]? = some u → W.cell? ⟨g, i.toNat * d.sz + j, none⟩ = some u)
  (hj : j + seg.length ≤ d.sz) {x' : α} (hM : d.M W base okp x' (c.take j ++ seg ++ c.drop (j + seg.length))) (hokp : ∀ k, okp k → ok k ∧ k ≠ g) :
  d.R e (W.setCells g (i.toNat * d.sz + j) seg) base ok (.slice (some ⟨g, 0, none⟩) n cap) (xs.set i.toNat x') ∧ W.grownBy (W.setCells g (i.toNat * d.sz + j) seg) (some g) := by
 obtain ⟨hn, hnc, _⟩ := R_reads' h
 obtain ⟨hok, inner, ho, hr⟩ := h
 have hil : i.toNat < xs.length := by omega
 have hseg : i.toNat * d.sz + d.sz ≤ inner.length := by rw [hr.1, ← Nat.succ_mul]; exact Nat.mul_le_mul_right _ hil
 have hin : inner.length = n * d.sz := by rw [hr.1, hn]
 obtain ⟨ho1, ho2⟩ := ho
 rcases ho2 with ⟨hv, _⟩ | ⟨g', cap', cur, hv, hb, hh, hnc', hcm, hcs, ht⟩
 ·cases hv
 injection hv with ha _ hc
 injection ha with ha
 injection ha with hg
 subst hg; subst hc
 have hfit : i.toNat * d.sz + j + seg.length ≤ cur.size := by
  have : n * d.sz ≤ cap * d.sz := Nat.mul_le_mul_right _ hnc
  omega
 obtain ⟨cur', h3, h4, h5⟩ := setCells_row seg (i.toNat * d.sz + j) W cur hh hfit
 obtain ⟨s1, s2, s3, s4⟩ := setCells_same g seg (i.toNat * d.sz + j) W
 have hfar : ∀ k, k ≠ g → (W.setCells g (i.toNat * d.sz + j) seg).heap[k]? = W.heap[k]? := fun k hk => setCells_far seg _ k hk
 have hcin : ∀ q, q < d.sz → c[q]? = inner[i.toNat * d.sz + q]? := by
  intro q hq
  have hq' : q < c.length := by omega
  have h6 := hcc q _ (List.getElem?_eq_getElem hq')
  rw [cell_of_row W g _ cur e (0, 0) hh] at h6
  rw [List.getElem?_eq_getElem hq', ← h6, ← ht, List.getElem?_take, if_pos (by rw [← hn]; omega), Array.getElem?_toList]
 refine ⟨⟨hok, inner.take (i.toNat * d.sz + j) ++ seg ++ inner.drop (i.toNat * d.sz + j + seg.length), ⟨?_, .inr ⟨g, cap, cur', by rw [List.length_set, hn], hb, h3, by rw [List.length_set, ← hn]; exact hnc, hcm, by rw [h4, hcs], ?_⟩⟩, ?_⟩,
  ⟨s1, s2, s3, by rw [s4]; exact Nat.le_refl _, fun k _ hk => hfar k (fun he => hk (by rw [he]))⟩⟩
 ·rw [List.length_set]
  simp only [List.length_append, List.length_take, List.length_drop]
  rw [hr.1] at hseg ⊢
  omega
 ·rw [List.length_set, ← hn]
  apply List.ext_getElem?
  intro q
  rw [List.getElem?_take, h5]
  rw [seg_get cur.toList seg (i.toNat * d.sz + j) (by rw [Array.length_toList]; omega) q, seg_get inner seg (i.toNat * d.sz + j) (by omega) q]
  have hcur : ∀ q, q < n * d.sz → cur.toList[q]? = inner[q]? := by
   intro q hq
   rw [← ht, List.getElem?_take, if_pos (by rw [← hn]; exact hq)]
  by_cases hq : q < n * d.sz
  ·rw [if_pos hq, hcur q hq]
  ·rw [if_neg hq, if_neg (by omega), if_neg (by omega), List.getElem?_eq_none (by omega)]
 ·refine ⟨?_, fun m p hm => ?_⟩
  ·rw [List.length_set]
   simp only [List.length_append, List.length_take, List.length_drop]
   rw [hr.1] at hseg ⊢
   omega
  ·have hml : m < xs.length := by
    have := (List.getElem?_eq_some_iff.1 hm).1
    rwa [List.length_set] at this
   have hmfit : m * d.sz + d.sz ≤ inner.length := by rw [hr.1, ← Nat.succ_mul]; exact Nat.mul_le_mul_right _ hml
   have hgo : some g = (Value.slice (some ⟨g, 0, none⟩) n cap).ownBlock := by simp [Value.ownBlock]
   by_cases hmi : m = i.toNat
   ·subst hmi
    rw [List.getElem?_set_self (by omega)] at hm
    injection hm with hm
    subst hm
    have hcells : ((inner.take (i.toNat * d.sz + j) ++ seg ++ inner.drop (i.toNat * d.sz + j + seg.length)).drop (i.toNat * d.sz)).take d.sz = c.take j ++ seg ++ c.drop (j + seg.length) := by
     apply List.ext_getElem?
     intro q
     rw [List.getElem?_take, List.getElem?_drop, seg_get inner seg _ (by omega), seg_get c seg j (by omega) q]
     by_cases hq : q < d.sz
     ·rw [if_pos hq, hcin q hq]
      by_cases hq1 : q < j
      ·rw [if_pos (by omega), if_pos hq1]
      ·rw [if_neg (by omega), if_neg hq1]
       by_cases hq2 : q < j + seg.length
       ·rw [if_pos (by omega), if_pos hq2]
        congr 1
        omega
       ·rw [if_neg (by omega), if_neg hq2]
     ·rw [if_neg hq, if_neg (by omega), if_neg (by omega), List.getElem?_eq_none (by omega)]
    rw [hcells]
    refine d.M_mono (fun k hk => ?_) (d.M_move (w1 := W.setCells g (i.toNat * d.sz + j) seg) (fun k hk => hfar k (hokp k hk).2) hM)
    exact ⟨(hokp k hk).1, fun he => (hokp k hk).2 (by rw [← hgo] at he; injection he)⟩
   ·rw [List.getElem?_set_ne (by omega)] at hm
    have hold := hr.2 m p hm
    have hcells : ((inner.take (i.toNat * d.sz + j) ++ seg ++ inner.drop (i.toNat * d.sz + j + seg.length)).drop (m * d.sz)).take d.sz = (inner.drop (m * d.sz)).take d.sz := by
     apply List.ext_getElem?
     intro q
     rw [List.getElem?_take, List.getElem?_take, List.getElem?_drop, List.getElem?_drop, seg_get inner seg _ (by omega)]
     by_cases hq : q < d.sz
     ·rw [if_pos hq, if_pos hq]
      rcases Nat.lt_or_gt_of_ne hmi with hlt | hgt
      ·have : m * d.sz + d.sz ≤ i.toNat * d.sz := by rw [← Nat.succ_mul]; exact Nat.mul_le_mul_right _ hlt
       rw [if_pos (by omega)]
      ·have : i.toNat * d.sz + d.sz ≤ m * d.sz := by rw [← Nat.succ_mul]; exact Nat.mul_le_mul_right _ hgt
       rw [if_neg (by omega), if_neg (by omega)]
     ·rw [if_neg hq, if_neg hq]
    rw [hcells]
    refine d.M_move (fun k hk => hfar k (fun he => hk.2 (by rw [he]; exact hgo))) hold
end
end Kd
namespace Kd
theorem reps_append {α : Type} {R : α → List Value → Prop} {size : Nat} {ps qs : List α} {cs ds : List Value} (h : Reps R size ps cs) (h' : Reps R size qs ds) : Reps R size (ps ++ qs) (cs ++ ds) := by
 refine ⟨by rw [List.length_append, List.length_append, h.1, h'.1, Nat.add_mul], fun j p hj => ?_⟩
 rcases Nat.lt_or_ge j ps.length with hlt | hge
 ·rw [List.getElem?_append_left hlt] at hj
  have hle : j * size + size ≤ cs.length := by rw [h.1, ← Nat.succ_mul]; exact Nat.mul_le_mul_right _ hlt
  rw [List.drop_append_of_le_length (by omega), List.take_append_of_le_length (by rw [List.length_drop]; omega)]
  exact h.2 j p hj
 ·rw [List.getElem?_append_right hge] at hj
  have h2 := h'.2 (j - ps.length) p hj
  have hle : ps.length * size ≤ j * size := Nat.mul_le_mul_right _ hge
  rw [List.drop_append, List.drop_eq_nil_of_le (by rw [h.1]; exact hle), List.nil_append, h.1, ← Nat.sub_mul]
  exact h2
section
variable {P : Program} {ops : Array Oper} {rest : List Oper} {o : Oper} {a : Act} {Q : Exit → Act → World → Prop} {α : Type}
theorem R_append_rows (d : Kd α) {Rr : α → List Value → Prop} {w0 W : World} (base : Nat) (hgd : o.guard = none) (s x : Operand) (t e : TypeId) (z : Value) (bytes : Nat)
  (ho : o.op = .call { callee := .builtin .append, args := #[s, x], argTypes := #[t, t] })
  (ht : P.underlying t = some (.slice e)) (hinfo : (P.info? e).map (fun i => (i.zero, i.size, i.bytes)) = some (some z, d.sz, bytes)) (hz : z.cells.size = d.sz) (hs0 : 0 < d.sz) (hb0 : 0 < bytes)
  (v : Value) (xs ys : List α) (A : Option Addr) (m c : Nat) (ok okp : Nat → Prop) (hs : a.eval s = v) (hx : a.eval x = .slice A m c)
  (HO : d.R e W base ok v xs) (HR : ReadsRow Rr d.sz W A m ys) (hKM : ∀ x cs, Rr x cs → d.M W base okp x cs) (hokp : ∀ k, okp k → ok k ∧ some k ≠ v.ownBlock) (hfresh : ∀ k, W.heap.size ≤ k → ok k)
  (HB : Below base w0 W) (hbase : base ≤ W.heap.size) (hl : (xs.length + m) * bytes ≤ 140737488355328)
  (h : ∀ v1 w1, d.R e w1 base ok v1 (xs ++ ys) → Below base w0 w1 → W.grownBy w1 v.ownBlock → (v1.ownBlock = v.ownBlock ∨ ∃ b, v1.ownBlock = some b ∧ W.heap.size ≤ b) → wpList P ops Q rest (a.put o.dst v1) w1) :
  wpList P ops Q (o :: rest) a W := by
 obtain ⟨i0, hi, hzz⟩ := Option.map_eq_some_iff.1 hinfo
 simp only [Prod.mk.injEq] at hzz
 obtain ⟨hz0, hz1, hz2⟩ := hzz
 have hm : ys.length = m := HR.1
 have hlen : xs.length + m ≤ 140737488355328 := Nat.le_trans (Nat.le_mul_of_pos_right _ hb0) hl
 obtain ⟨hok, inner, hown, hr⟩ := HO
 have hrun : ∃ v1 w1, (Builtin.append_ #[t, t] o.type #[v, .slice A m c]).run P W = .ok v1 w1 ∧ d.R e w1 base ok v1 (xs ++ ys) ∧ W.grownBy w1 v.ownBlock ∧ (v1.ownBlock = v.ownBlock ∨ ∃ b, v1.ownBlock = some b ∧ W.heap.size ≤ b) := by
  rcases A with _ | ad
  ·have h0 : m = 0 := by
    rcases Nat.eq_zero_or_pos m with h0 | h0
    ·exact h0
    ·obtain ⟨ad, h, _⟩ := HR.2.2 h0
     cases h
   subst h0
   obtain rfl : ys = [] := List.eq_nil_of_length_eq_zero hm
   refine ⟨v, W, ?_, by rw [List.append_nil]; exact ⟨hok, inner, hown, hr⟩, World.grownBy.refl W _, .inl rfl⟩
   rcases hown.2 with ⟨rfl, hn⟩ | ⟨g, cap, cur, rfl, _, _, hnc, _⟩
   ·simp [Builtin.append_, run_underlying ht, sizeOf, typeInfo, hi, Builtin.lenOf, Builtin.firstCells]
   ·simp [Builtin.append_, run_underlying ht, sizeOf, typeInfo, hi, Builtin.lenOf, Builtin.firstCells, hnc, storeCells]
  ·obtain ⟨news, hnr, hnc⟩ := ReadsRow.inner_ HR
   have hnM : Reps (d.M W base okp) d.sz ys news := hnr.imp_ (fun p c hp => hKM p c hp)
   have hone : ∀ u ∈ news, u.oneCell' = true := by
    intro u hu
    obtain ⟨q, hq, rfl⟩ := List.mem_iff_getElem.1 hu
    have hql : q / d.sz < ys.length := by
     rw [Nat.div_lt_iff_lt_mul hs0]
     rw [← hnM.1]
     exact hq
    have hc := hnM.2 (q / d.sz) _ (List.getElem?_eq_getElem hql)
    refine d.K_one (d.K_of_M hc) _ ?_
    rw [List.mem_iff_getElem?]
    refine ⟨q % d.sz, ?_⟩
    rw [List.getElem?_take, if_pos (Nat.mod_lt _ hs0), List.getElem?_drop, Nat.mul_comm, Nat.div_add_mod, List.getElem?_eq_getElem hq]
   obtain ⟨v1, w1, hrun, h2, hg, _, hat⟩ := run_append_own_at (P := P) W base t o.type e i0 z d.sz bytes ht hi hz0 hz1 hz2 hz hs0 v xs.length inner hown ad m c news (by rw [hnM.1, hm]) hnc hone (by simp only [maxLen]; omega) hl hbase
   have hat' : v1.ownBlock = v.ownBlock ∨ ∃ b, v1.ownBlock = some b ∧ W.heap.size ≤ b := by
    rcases hat with hat | hat
    ·exact .inl hat
    ·exact .inr ⟨_, hat, Nat.le_refl _⟩
   have hne : ∀ k, some k ≠ v.ownBlock → k < W.heap.size → some k ≠ v1.ownBlock := by
    intro k hk hlt
    rcases hat' with hat | ⟨b, hb, hle⟩
    ·rw [hat]; exact hk
    ·rw [hb]
     intro he
     injection he with he
     omega
   have step : ∀ {q : α} {c : List Value} {o : Nat → Prop}, d.M W base o q c → (∀ k, o k → ok k ∧ some k ≠ v.ownBlock) → d.M w1 base (fun k => ok k ∧ some k ≠ v1.ownBlock) q c := by
    intro q c o hq ho
    have h1 := d.M_move (w1 := w1) (fun k hk => hg.block k hk.2.2.1 (ho k hk.1).2) (d.M_bound hq)
    exact d.M_mono (fun k hk => ⟨(ho k hk.1).1, hne k (ho k hk.1).2 hk.2.2.1⟩) h1
   refine ⟨v1, w1, hrun, ⟨fun k hk => ?_, inner ++ news, by rw [List.length_append, hm]; exact h2, reps_append (hr.imp_ (fun _ _ hq => step hq (fun _ hk => hk))) (hnM.imp_ (fun _ _ hq => step hq hokp))⟩, hg, hat'⟩
   rcases hat' with hat | ⟨b, hb, hle⟩
   ·exact hok k (hat ▸ hk)
   ·rw [hb] at hk
    injection hk with hk
    exact hfresh k (by omega)
 obtain ⟨v1, w1, hr1, h1, hg, hat⟩ := hrun
 refine wpList_plain hgd fun K hK => ?_
 unfold Oper.wp execOp
 simp only [ho, resolve, invoke, builtin, Sem.run_bind, Sem.run_pure, Result.andThen_ok, List.map_toArray, List.map_cons, List.map_nil, hs, hx, hr1]
 exact hK _ _ (h v1 w1 h1 (HB.grown hg hbase (own_base hown)) hg hat)
end
end Kd
theorem add_add (a : Addr) (i j : Nat) : (a.add i).add j = a.add (i + j) := by
 unfold Addr.add
 by_cases h1 : i = 0 <;> by_cases h2 : j = 0 <;> simp [h1, h2, Nat.add_assoc]
namespace Kd
section
variable {α : Type} {k : Kd α} {w : World} {A : Option Addr} {xs : List α} {m c : Nat}
theorem C_take (h : k.C w A xs.length xs) (hm : m ≤ xs.length) : k.C w A (xs.take m).length (xs.take m) := by
 have hl : (xs.take m).length = m := by rw [List.length_take]; omega
 refine ⟨rfl, by rw [hl]; have := h.2.1; omega, fun hp => ?_⟩
 obtain ⟨ad, e, hc⟩ := h.2.2 (by omega)
 refine ⟨ad, e, fun j p hj => hc j p ?_⟩
 rw [List.getElem?_take] at hj
 split at hj
 ·exact hj
 ·cases hj
theorem C_drop (h : k.C w A xs.length xs) (hm : m ≤ xs.length) (hc : xs.length ≤ c) : k.C w (if c = m then A else A.map (·.add (m * k.sz))) (xs.drop m).length (xs.drop m) := by
 have hl : (xs.drop m).length = xs.length - m := List.length_drop
 refine ⟨rfl, by rw [hl]; have := h.2.1; omega, fun hp => ?_⟩
 rw [hl] at hp
 obtain ⟨ad, rfl, hcell⟩ := h.2.2 (by omega)
 rw [if_neg (by omega)]
 refine ⟨ad.add (m * k.sz), rfl, fun j p hj => ?_⟩
 rw [List.getElem?_drop] at hj
 obtain ⟨cs, h1, h2, h3⟩ := hcell (m + j) p hj
 refine ⟨cs, h1, h2, fun i u hu => ?_⟩
 rw [add_add, show m * k.sz + (j * k.sz + i) = (m + j) * k.sz + i by rw [Nat.add_mul]; omega]
 exact h3 i u hu
end
end Kd
theorem blk_put {w : World} {g : Nat} {t : TypeId} {cs cs' : Array Value} (h : w.heap[g]? = some (.cells cs t (0, 0))) (i : Nat) (u : Value) (e : cs.setIfInBounds i u = cs') : (w.setCell ⟨g, i, none⟩ u).heap[g]? = some (.cells cs' t (0, 0)) := e ▸ blk_set h i u
theorem below_drew1 {base : Nat} {w W : World} (h : Below base w W) : Below base w W.drew := h.drew
section
variable {P : Program} {ops : Array Oper} {o : Oper} {a : Act} {Q : Exit → Act → World → Prop} {Kc : Act → World → Prop}
namespace Kd
variable {α : Type}
theorem R_append_rows_step (d : Kd α) {Rr : α → List Value → Prop} {w0 W : World} (base : Nat) (hw : Region.wanted o (yielded ops a.tmps) = true) (s x : Operand) (t e : TypeId) (z : Value) (bytes : Nat)
  (ho : o.op = .call { callee := .builtin .append, args := #[s, x], argTypes := #[t, t] })
  (ht : P.underlying t = some (.slice e)) (hinfo : (P.info? e).map (fun i => (i.zero, i.size, i.bytes)) = some (some z, d.sz, bytes)) (hz : z.cells.size = d.sz) (hs0 : 0 < d.sz) (hb0 : 0 < bytes)
  (v : Value) (xs ys : List α) (A : Option Addr) (m c : Nat) (ok okp : Nat → Prop) (hs : a.eval s = v) (hx : a.eval x = .slice A m c)
  (HO : d.R e W base ok v xs) (HR : ReadsRow Rr d.sz W A m ys) (hKM : ∀ x cs, Rr x cs → d.M W base okp x cs) (hokp : ∀ k, okp k → ok k ∧ some k ≠ v.ownBlock) (hfresh : ∀ k, W.heap.size ≤ k → ok k)
  (HB : Below base w0 W) (hbase : base ≤ W.heap.size) (hl : (xs.length + m) * bytes ≤ 140737488355328)
  (h : ∀ v1 w1, d.R e w1 base ok v1 (xs ++ ys) → Below base w0 w1 → W.grownBy w1 v.ownBlock → (v1.ownBlock = v.ownBlock ∨ ∃ b, v1.ownBlock = some b ∧ W.heap.size ≤ b) → Kc (a.put o.dst v1) w1) :
  if Region.wanted o (yielded ops a.tmps) = true then Oper.wp P o a W Kc Q else Kc (a.put o.dst undef) W := by
 obtain ⟨i0, hi, hzz⟩ := Option.map_eq_some_iff.1 hinfo
 simp only [Prod.mk.injEq] at hzz
 obtain ⟨hz0, hz1, hz2⟩ := hzz
 have hm : ys.length = m := HR.1
 have hlen : xs.length + m ≤ 140737488355328 := Nat.le_trans (Nat.le_mul_of_pos_right _ hb0) hl
 obtain ⟨hok, inner, hown, hr⟩ := HO
 have hrun : ∃ v1 w1, (Builtin.append_ #[t, t] o.type #[v, .slice A m c]).run P W = .ok v1 w1 ∧ d.R e w1 base ok v1 (xs ++ ys) ∧ W.grownBy w1 v.ownBlock ∧ (v1.ownBlock = v.ownBlock ∨ ∃ b, v1.ownBlock = some b ∧ W.heap.size ≤ b) := by
  rcases A with _ | ad
  ·have h0 : m = 0 := by
    rcases Nat.eq_zero_or_pos m with h0 | h0
    ·exact h0
    ·obtain ⟨ad, h, _⟩ := HR.2.2 h0
     cases h
   subst h0
   obtain rfl : ys = [] := List.eq_nil_of_length_eq_zero hm
   refine ⟨v, W, ?_, by rw [List.append_nil]; exact ⟨hok, inner, hown, hr⟩, World.grownBy.refl W _, .inl rfl⟩
   rcases hown.2 with ⟨rfl, hn⟩ | ⟨g, cap, cur, rfl, _, _, hnc, _⟩
   ·simp [Builtin.append_, run_underlying ht, sizeOf, typeInfo, hi, Builtin.lenOf, Builtin.firstCells]
   ·simp [Builtin.append_, run_underlying ht, sizeOf, typeInfo, hi, Builtin.lenOf, Builtin.firstCells, hnc, storeCells]
  ·obtain ⟨news, hnr, hnc⟩ := ReadsRow.inner_ HR
   have hnM : Reps (d.M W base okp) d.sz ys news := hnr.imp_ (fun p c hp => hKM p c hp)
   have hone : ∀ u ∈ news, u.oneCell' = true := by
    intro u hu
    obtain ⟨q, hq, rfl⟩ := List.mem_iff_getElem.1 hu
    have hql : q / d.sz < ys.length := by
     rw [Nat.div_lt_iff_lt_mul hs0]
     rw [← hnM.1]
     exact hq
    have hc := hnM.2 (q / d.sz) _ (List.getElem?_eq_getElem hql)
    refine d.K_one (d.K_of_M hc) _ ?_
    rw [List.mem_iff_getElem?]
    refine ⟨q % d.sz, ?_⟩
    rw [List.getElem?_take, if_pos (Nat.mod_lt _ hs0), List.getElem?_drop, Nat.mul_comm, Nat.div_add_mod, List.getElem?_eq_getElem hq]
   obtain ⟨v1, w1, hrun, h2, hg, _, hat⟩ := run_append_own_at (P := P) W base t o.type e i0 z d.sz bytes ht hi hz0 hz1 hz2 hz hs0 v xs.length inner hown ad m c news (by rw [hnM.1, hm]) hnc hone (by simp only [maxLen]; omega) hl hbase
   have hat' : v1.ownBlock = v.ownBlock ∨ ∃ b, v1.ownBlock = some b ∧ W.heap.size ≤ b := by
    rcases hat with hat | hat
    ·exact .inl hat
    ·exact .inr ⟨_, hat, Nat.le_refl _⟩
   have hne : ∀ k, some k ≠ v.ownBlock → k < W.heap.size → some k ≠ v1.ownBlock := by
    intro k hk hlt
    rcases hat' with hat | ⟨b, hb, hle⟩
    ·rw [hat]; exact hk
    ·rw [hb]
     intro he
     injection he with he
     omega
   have step : ∀ {q : α} {c : List Value} {o : Nat → Prop}, d.M W base o q c → (∀ k, o k → ok k ∧ some k ≠ v.ownBlock) → d.M w1 base (fun k => ok k ∧ some k ≠ v1.ownBlock) q c := by
    intro q c o hq ho
    have h1 := d.M_move (w1 := w1) (fun k hk => hg.block k hk.2.2.1 (ho k hk.1).2) (d.M_bound hq)
    exact d.M_mono (fun k hk => ⟨(ho k hk.1).1, hne k (ho k hk.1).2 hk.2.2.1⟩) h1
   refine ⟨v1, w1, hrun, ⟨fun k hk => ?_, inner ++ news, by rw [List.length_append, hm]; exact h2, reps_append (hr.imp_ (fun _ _ hq => step hq (fun _ hk => hk))) (hnM.imp_ (fun _ _ hq => step hq hokp))⟩, hg, hat'⟩
   rcases hat' with hat | ⟨b, hb, hle⟩
   ·exact hok k (hat ▸ hk)
   ·rw [hb] at hk
    injection hk with hk
    exact hfresh k (by omega)
 obtain ⟨v1, w1, hr1, h1, hg, hat⟩ := hrun
 rw [if_pos hw]
 unfold Oper.wp execOp
 simp only [ho, resolve, invoke, builtin, Sem.run_bind, Sem.run_pure, Result.andThen_ok, List.map_toArray, List.map_cons, List.map_nil, hs, hx, hr1]
 exact h v1 w1 h1 (HB.grown hg hbase (own_base hown)) hg hat
end Kd
end
end Go.Proofs.YtbkfnmgkcgnifaaGreatW.PrintWords
namespace Go.Proofs.YtbkfnmgkcgnifaaGreat.Mdl
abbrev Tm := Int × Int × Int
abbrev Mk := Int × Tm
def w64 (n : Int) : Int := (n + 9223372036854775808) % 18446744073709551616 - 9223372036854775808
theorem w64_in {n : Int} (h0 : -9223372036854775808 ≤ n) (h1 : n ≤ 9223372036854775807) : w64 n = n := by unfold w64; omega
def plusT (a b : Tm) : Tm := (w64 (a.1 + b.1), w64 (a.2.1 + b.2.1), w64 (a.2.2 + b.2.2))
def leT (a b : Tm) : Bool := decide (a.1 ≤ b.1) && decide (a.2.1 ≤ b.2.1) && decide (a.2.2 ≤ b.2.2)
theorem leT_true {a b : Tm} (h0 : a.1 ≤ b.1) (h1 : a.2.1 ≤ b.2.1) (h2 : a.2.2 ≤ b.2.2) : leT a b = true := by simp [leT, h0, h1, h2]
theorem leT_f0 {a b : Tm} (h : b.1 < a.1) : leT a b = false := by
 unfold leT; rw [decide_eq_false (by omega)]; rfl
theorem leT_f1 {a b : Tm} (h : b.2.1 < a.2.1) : leT a b = false := by
 unfold leT; rw [decide_eq_false (p := a.2.1 ≤ b.2.1) (by omega)]; simp
theorem leT_f2 {a b : Tm} (h : b.2.2 < a.2.2) : leT a b = false := by
 unfold leT; rw [decide_eq_false (p := a.2.2 ≤ b.2.2) (by omega)]; simp
def cmp3 (x y : Int) : Int := if x < y then -1 else if y < x then 1 else 0
def cmpT (a b : Tm) : Int := if cmp3 a.1 b.1 ≠ 0 then cmp3 a.1 b.1 else if cmp3 a.2.1 b.2.1 ≠ 0 then cmp3 a.2.1 b.2.1 else cmp3 a.2.2 b.2.2
def cmpN (a b : Mk) : Int := if a.1 ≠ b.1 then a.1 - b.1 else cmpT a.2 b.2
def cmpM (a b : Mk) : Int := if a.1 ≠ b.1 then w64 (a.1 - b.1) else cmpT a.2 b.2
def insL {α : Type} (cmp : α → α → Int) (x : α) : List α → List α
 | [] => [x]
 | y :: r => if cmp y x ≤ 0 then y :: insL cmp x r else x :: y :: r
def sortL {α : Type} (cmp : α → α → Int) (l : List α) : List α := l.foldl (fun a x => insL cmp x a) []
def sortT (l : List Tm) : List Tm := sortL cmpT l
def sortM (l : List Mk) : List Mk := sortL cmpN l
def dedup : List Tm → List Tm
 | [] => []
 | [x] => [x]
 | x :: y :: r => if x = y then dedup (y :: r) else x :: dedup (y :: r)
def stepF (out : List Tm) (t : Tm) : List Tm := if out.any (fun o => leT o t) then out else out ++ [t]
def firstsT (l : List Tm) : List Tm := (dedup (sortT l)).foldl stepF []
theorem length_insL {α : Type} (cmp : α → α → Int) (x : α) : ∀ l : List α, (insL cmp x l).length = l.length + 1
 | [] => rfl
 | y :: r => by
  unfold insL
  split
  ·simp [length_insL cmp x r]
  ·rfl
theorem length_foldl_insL {α : Type} (cmp : α → α → Int) : ∀ (l a : List α), (l.foldl (fun a x => insL cmp x a) a).length = a.length + l.length
 | [], a => by simp
 | x :: r, a => by rw [List.foldl_cons, length_foldl_insL cmp r, length_insL, List.length_cons]; omega
theorem length_sortT (l : List Tm) : (sortT l).length = l.length := by simp [sortT, sortL, length_foldl_insL]
theorem length_dedup : ∀ l : List Tm, (dedup l).length ≤ l.length
 | [] => by simp [dedup]
 | [x] => by simp [dedup]
 | x :: y :: r => by
  have h := length_dedup (y :: r)
  unfold dedup
  split <;> simp at h ⊢ <;> omega
theorem length_stepF (out : List Tm) (t : Tm) : (stepF out t).length ≤ out.length + 1 := by
 unfold stepF; split <;> simp
theorem length_foldl_stepF : ∀ (l out : List Tm), (l.foldl stepF out).length ≤ out.length + l.length
 | [], out => by simp
 | x :: r, out => by
  have h := length_foldl_stepF r (stepF out x)
  have h2 := length_stepF out x
  simp only [List.foldl_cons, List.length_cons]; omega
theorem foldl_take_succ {α β : Type} (f : β → α → β) (b : β) (l : List α) {k : Nat} (hk : k < l.length) : (l.take (k + 1)).foldl f b = f ((l.take k).foldl f b) l[k] := by
 rw [List.take_succ_eq_append_getElem hk, List.foldl_append]; rfl
theorem stepF_yes {out : List Tm} {t : Tm} (h : out.any (fun o => leT o t) = true) : stepF out t = out := by simp only [stepF, h, if_true]
theorem stepF_no {out : List Tm} {t : Tm} (h : out.any (fun o => leT o t) = false) : stepF out t = out ++ [t] := by simp only [stepF, h]; rfl
theorem length_firstsT (l : List Tm) : (firstsT l).length ≤ l.length := by
 have h1 := length_foldl_stepF (dedup (sortT l)) []
 have h2 := length_dedup (sortT l)
 rw [length_sortT] at h2
 simp only [List.length_nil] at h1
 unfold firstsT; omega
def numsT (wide : Nat) (t : Tm) : List Int := [t.1, t.2.1, t.2.2].take wide
theorem length_numsT {wide : Nat} (t : Tm) (h : wide ≤ 3) : (numsT wide t).length = wide := by simp [numsT]; omega
def tmOf (l : List Int) : Tm := (l.getD 0 0, l.getD 1 0, l.getD 2 0)
end Go.Proofs.YtbkfnmgkcgnifaaGreat.Mdl
namespace Go.Proofs.YtbkfnmgkcgnifaaGreat
open Go.RowKit Go.Proofs.YtbkfnmgkcgnifaaGreatW.PrintWords Mdl
def tmV (t : Tm) : Value := .agg #[.int .i64 t.1, .int .i64 t.2.1, .int .i64 t.2.2]
def mkV (m : Mk) : Value := .agg #[.int .i64 m.1, .int .i64 m.2.1, .int .i64 m.2.2.1, .int .i64 m.2.2.2]
theorem ret_bool {a b : Bool} (h : a = b) : Ending.returned (.bool a) = Ending.returned (.bool b) := by rw [h]
theorem ret_int {k : IntKind} {a b : Int} (h : a = b) : Ending.returned (.int k a) = Ending.returned (.int k b) := by rw [h]
def stopE (e : Int) : List PanicEntry := [{ v := .iface 126 (.agg #[.int .i64 e]), recovered := false }]
set_option maxHeartbeats 400000 in
theorem must_true (e : Int) (w : World) : Calls Tryz.prog 31 #[.bool true, .int .i64 e] w fun e w' => e = .returned (.tuple #[]) ∧ w = w' := by
 go_enter Tryz.func31, Tryz.ntmps31
 go_wp2
 go_end0
 exact ⟨rfl, rfl⟩
set_option maxHeartbeats 400000 in
theorem must_false (e : Int) (w : World) : Calls Tryz.prog 31 #[.bool false, .int .i64 e] w fun r w' => r = .panicked (stopE e) ∧ w = w' := by
 go_enter Tryz.func31, Tryz.ntmps31
 go_wp2
 exact ⟨rfl, rfl, rfl⟩
set_option maxHeartbeats 400000 in
theorem is_true (a : Addr) (n k : Int) (w : World) (hc : w.cell? a = some (.int .i64 k)) (h0 : 0 ≤ n) (h1 : n < k) : Calls Tryz.prog 32 #[.pointer (some a), .int .i64 n] w fun r w' => r = .returned (.bool true) ∧ w = w' := by
 go_enter Tryz.func32, Tryz.ntmps32
 go_wp2
 go_ret
 exact ⟨rfl, rfl⟩
set_option maxHeartbeats 400000 in
theorem is_false (a : Addr) (n k : Int) (w : World) (hc : w.cell? a = some (.int .i64 k)) (h : n < 0 ∨ k ≤ n) : Calls Tryz.prog 32 #[.pointer (some a), .int .i64 n] w fun r w' => r = .returned (.bool false) ∧ w = w' := by
 by_cases h0 : n < 0
 ·clear h
  go_enter Tryz.func32, Tryz.ntmps32
  go_wp2
  go_ret
  exact ⟨rfl, rfl⟩
 ·have h1 : k ≤ n := by omega
  have h2 : 0 ≤ n := by omega
  have hd : decide (n < k) = false := by simp; omega
  clear h h0
  go_enter Tryz.func32, Tryz.ntmps32
  go_wp2
  go_ret
  exact ⟨rfl, rfl⟩
theorem two_new {w : World} {o o' : Obj} : Below w.heap.size w ((w.alloc o).alloc o') := ((Below.refl _ _).alloc (Nat.le_refl _) _).alloc (by simp) _
set_option maxHeartbeats 800000 in
theorem early_any (t u : Tm) (w : World) : Calls Tryz.prog 86 #[tmV t, tmV u] w fun r w' => r = .returned (.bool (leT t u)) ∧ Below w.heap.size w w' := by
 obtain ⟨a, b, c⟩ := t
 obtain ⟨x, y, z⟩ := u
 have i0 : ∀ w, (Instr.index 99 (.agg #[.int .i64 a, .int .i64 b, .int .i64 c]) (.int .i64 0)).run Tryz.prog w = .ok (.int .i64 a) w := fun _ => by kernel_rfl
 have i1 : ∀ w, (Instr.index 99 (.agg #[.int .i64 a, .int .i64 b, .int .i64 c]) (.int .i64 1)).run Tryz.prog w = .ok (.int .i64 b) w := fun _ => by kernel_rfl
 have i2 : ∀ w, (Instr.index 99 (.agg #[.int .i64 a, .int .i64 b, .int .i64 c]) (.int .i64 2)).run Tryz.prog w = .ok (.int .i64 c) w := fun _ => by kernel_rfl
 simp only [tmV]
 go_enter Tryz.func86, Tryz.ntmps86
 go_wp2
 refine wp_loop_rounds 4 ?_
 rw [rounds_succ]
 go_wp2
 ·go_ret
  exact ⟨ret_bool (leT_f0 (by assumption)).symm, two_new⟩
 rw [rounds_succ]
 go_wp2
 ·go_ret
  exact ⟨ret_bool (leT_f1 (by assumption)).symm, two_new⟩
 rw [rounds_succ]
 go_wp2
 ·go_ret
  exact ⟨ret_bool (leT_f2 (by assumption)).symm, two_new⟩
 rw [rounds_succ]
 go_wp2
 go_ret
 exact ⟨ret_bool (leT_true (by assumption) (by assumption) (by assumption)).symm, two_new⟩
theorem w64_eq (n : Int) : wrap64 n = w64 n := by unfold wrap64 w64; rfl
theorem three_new {w : World} {o o' o'' : Obj} : Below w.heap.size w (((w.alloc o).alloc o').alloc o'') := two_new.alloc (by simp; omega) _
set_option maxHeartbeats 800000 in
theorem plus_any (t u : Tm) (w : World) : Calls Tryz.prog 75 #[tmV t, tmV u] w fun r w' => r = .returned (tmV (plusT t u)) ∧ Below w.heap.size w w' := by
 obtain ⟨a, b, c⟩ := t
 obtain ⟨x, y, z⟩ := u
 have i0 : ∀ w, (Instr.index 99 (.agg #[.int .i64 x, .int .i64 y, .int .i64 z]) (.int .i64 0)).run Tryz.prog w = .ok (.int .i64 x) w := fun _ => by kernel_rfl
 have i1 : ∀ w, (Instr.index 99 (.agg #[.int .i64 x, .int .i64 y, .int .i64 z]) (.int .i64 1)).run Tryz.prog w = .ok (.int .i64 y) w := fun _ => by kernel_rfl
 have i2 : ∀ w, (Instr.index 99 (.agg #[.int .i64 x, .int .i64 y, .int .i64 z]) (.int .i64 2)).run Tryz.prog w = .ok (.int .i64 z) w := fun _ => by kernel_rfl
 simp only [tmV, plusT]
 go_enter Tryz.func75, Tryz.ntmps75
 go_wp2
 refine wp_loop_rounds 4 ?_
 rw [rounds_succ]
 go_wp2
 rw [rounds_succ]
 go_wp2
 rw [rounds_succ]
 go_wp2
 rw [rounds_succ]
 go_wp2
 simp only [w64_eq]
 exact bodyPost_ret (v := .agg #[.int .i64 (w64 (a + x)), .int .i64 (w64 (b + y)), .int .i64 (w64 (c + z))]) (by simp [results, Tryz.results75, go_sem]) rfl ⟨rfl, three_new⟩
theorem splice_tm (l : List Int) : splice [.int .i64 0, .int .i64 0, .int .i64 0] 0 ((l.take 3).map (Value.int .i64)) = [.int .i64 (tmOf l).1, .int .i64 (tmOf l).2.1, .int .i64 (tmOf l).2.2] := by
 match l with
 | [] => simp [splice, tmOf]
 | [a] => simp [splice, tmOf]
 | [a, b] => simp [splice, tmOf]
 | a :: b :: c :: r => simp [splice, tmOf]
theorem ints_one (l : List Int) : ∀ v ∈ l.map (Value.int .i64), v.oneCell' = true := by
 intro v hv
 obtain ⟨x, _, rfl⟩ := List.mem_map.1 hv
 rfl
theorem src_int {A : Option Addr} {l : List Int} {w : World} (h : (Kd.int .i64).C w A l.length l) (o : Obj) (k : Nat) (x : Option Addr) :
  0 < ((l.take k).map (Value.int .i64)).length → x = x ∧ ∃ ad, A = some ad ∧ ∀ j v, ((l.take k).map (Value.int .i64))[j]? = some v → (w.alloc o).cell? (ad.add j) = some v := by
 intro hp
 have hp' : 0 < l.length := by simp at hp; omega
 obtain ⟨ad, e, hc⟩ := (Kd.reads_of_C (enc := Value.int .i64) (d := (0 : Int)) (h1 := fun _ => rfl) h).2.2 hp'
 refine ⟨rfl, ad, e, fun j v hj => ?_⟩
 obtain ⟨hl, hv⟩ := List.getElem?_eq_some_iff.1 hj
 have hjl : j < l.length := by simp at hl; omega
 have h2 := hc j hjl
 have h3 : v = Value.int .i64 (l.getD j 0) := by
  rw [← hv]; simp [List.getD_eq_getElem?_getD, hjl]
 rw [h3]
 exact pw_cell_below ((Below.refl w.heap.size w).alloc (Nat.le_refl _) o) h2
theorem tm_cells {w : World} {g : Nat} {t : TypeId} {a b c : Value} (h : w.heap[g]? = some (.cells [a, b, c].toArray t (0, 0))) :
  w.cell? ⟨g, 0, none⟩ = some a ∧ w.cell? ⟨g, 1, none⟩ = some b ∧ w.cell? ⟨g, 2, none⟩ = some c ∧ w.frozen? ⟨g, 0, none⟩ = false ∧ w.frozen? ⟨g, 1, none⟩ = false ∧ w.frozen? ⟨g, 2, none⟩ = false := by
 refine ⟨?_, ?_, ?_, ?_, ?_, ?_⟩ <;> simp [World.cell?, World.frozen?, h]
set_option maxHeartbeats 800000 in
theorem timed_any (A : Option Addr) (c : Nat) (l : List Int) (w : World) (hl : (Kd.int .i64).C w A l.length l) :
  Calls Tryz.prog 64 #[.slice A l.length c] w fun r w' => r = .returned (tmV (tmOf l)) ∧ Below w.heap.size w w' := by
 simp only [tmV]
 have HS : Hid ((Tryz.prog.info? 3).map (·.size) = some 1) := Lib.hid (by kernel_rfl)
 have HM : Hid (((l.take 3).map (Value.int .i64)).length = Nat.min l.length 3) := Lib.hid (by simp [Nat.min_comm])
 have HL := Aside0.mk hl
 clear hl
 go_enter Tryz.func64, Tryz.ntmps64
 go_wp2_with (with_reducible refine wpList_copy_splice rfl (.tmp 3) (.tmp 4) _ _ rfl 3 Tryz.underlying36 HS.out _ _ _ _ _ _ rfl rfl w.heap.size 0 [.int .i64 0, .int .i64 0, .int .i64 0] 99 (heap_alloc_new w _) _ HM.out (src_int HL.out _ 3 _) (by simp; omega) (ints_one _) w.heap.size w ((Below.refl _ _).alloc (Nat.le_refl _) _) (Nat.le_refl _) ?_; intro w1 hg1 hb1; obtain ⟨c0, c1, c2, f0, f1, f2⟩ := tm_cells (splice_tm l ▸ hg1.out); clear hg1)
 refine bodyPost_ret (v := .agg #[.int .i64 (tmOf l).1, .int .i64 (tmOf l).2.1, .int .i64 (tmOf l).2.2]) (by simp [results, Tryz.results64, go_sem, c0, c1, c2]) rfl ⟨rfl, ?_⟩
 exact ((hb1.setCell (p := ⟨w.heap.size, 0, none⟩) (Nat.le_refl _) _).setCell (p := ⟨w.heap.size, 1, none⟩) (Nat.le_refl _) _).setCell (p := ⟨w.heap.size, 2, none⟩) (Nat.le_refl _) _
end Go.Proofs.YtbkfnmgkcgnifaaGreat
namespace Go.Proofs.YtbkfnmgkcgnifaaGreat
open Go.RowKit Go.Shelf Go.Proofs.YtbkfnmgkcgnifaaGreatW.PrintWords Mdl
abbrev kI : Kd Int := Kd.int .i64
def kT : Kd Tm := Kd.pair kI (Kd.pair kI kI)
def kM : Kd Mk := Kd.pair kI kT
theorem kT_K {w : World} {t : Tm} {cs : List Value} : kT.K w t cs ↔ cs = [.int .i64 t.1, .int .i64 t.2.1, .int .i64 t.2.2] := by
 constructor
 ·rintro ⟨c0, c1, rfl, h0, c2, c3, rfl, h2, h3⟩
  cases h0; cases h2; cases h3; rfl
 ·rintro rfl
  exact ⟨[_], [_, _], rfl, rfl, [_], [_], rfl, rfl, rfl⟩
theorem kM_K {w : World} {t : Mk} {cs : List Value} : kM.K w t cs ↔ cs = [.int .i64 t.1, .int .i64 t.2.1, .int .i64 t.2.2.1, .int .i64 t.2.2.2] := by
 constructor
 ·rintro ⟨c0, c1, rfl, h0, h1⟩
  cases h0; rw [kT_K.1 h1]; rfl
 ·rintro rfl
  exact ⟨[_], [_, _, _], rfl, rfl, kT_K.2 rfl⟩
theorem at_time {w : World} {A : Option Addr} {l : List Tm} (h : kT.C w A l.length l) {k : Nat} (hk : k < l.length) :
  ∃ ad, A = some ad ∧ w.cell? (ad.add (k * 3)) = some (.int .i64 l[k].1) ∧ w.cell? ⟨(ad.add (k * 3)).block, (ad.add (k * 3)).off + 1, none⟩ = some (.int .i64 l[k].2.1) ∧ w.cell? ⟨(ad.add (k * 3)).block, (ad.add (k * 3)).off + 2, none⟩ = some (.int .i64 l[k].2.2) := by
 obtain ⟨ad, c, e, hl, hK, hc⟩ := Kd.C_get h (0, 0, 0) (k : Int) (by omega) (by omega)
 rw [Int.toNat_natCast, List.getD_eq_getElem?_getD, List.getElem?_eq_getElem hk] at hK
 rw [Int.toNat_natCast] at hc
 rw [kT_K.1 hK] at hc
 refine ⟨ad, e, ?_, ?_, ?_⟩
 ·have := hc 0 _ rfl
  rwa [show kT.sz = 3 from rfl, Nat.add_zero] at this
 ·have := hc 1 _ rfl
  rwa [show kT.sz = 3 from rfl, add_field _ _ _ (by omega)] at this
 ·have := hc 2 _ rfl
  rwa [show kT.sz = 3 from rfl, add_field _ _ _ (by omega)] at this
theorem at_num {w : World} {A : Option Addr} {l : List Int} (h : kI.C w A l.length l) {k : Nat} (hk : k < l.length) : ∃ ad, A = some ad ∧ w.cell? (ad.add k) = some (.int .i64 l[k]) := by
 obtain ⟨ad, e, hc⟩ := Kd.at_int h (k : Int) (by omega) (by omega)
 refine ⟨ad, e, ?_⟩
 rw [Int.toNat_natCast] at hc
 simpa [rd, List.getD_eq_getElem?_getD, hk] using hc
def PredOk {α : Type} (g : Nat) (lb : Array Value) (enc : α → Value) (p : α → Bool) (w : World) : Prop :=
 ∀ x w', Below w.heap.size w w' → Calls Tryz.prog g (#[enc x] ++ lb) w' fun e w'' => e = .returned (.bool (p x)) ∧ Below w'.heap.size w' w''
theorem all_snoc {α : Type} {p : α → Bool} {l : List α} {k : Nat} (h : ∀ x ∈ l.take k, p x = false) (hk : k < l.length) (hp : p l[k] = false) : ∀ x ∈ l.take (k + 1), p x = false := by
 intro x hx
 rw [List.take_succ_eq_append_getElem hk] at hx
 rcases List.mem_append.1 hx with hx | hx
 ·exact h x hx
 ·rw [List.mem_singleton.1 hx]; exact hp
theorem any_found {α : Type} {p : α → Bool} {l : List α} {k : Nat} (hk : k < l.length) (hp : p l[k] = true) : decide (0 ≤ (k : Int)) = l.any p := by
 rw [decide_eq_true (by omega)]
 exact (List.any_eq_true.2 ⟨_, List.getElem_mem hk, hp⟩).symm
theorem any_none {α : Type} {p : α → Bool} {l : List α} (h : ∀ x ∈ l.take l.length, p x = false) : decide (0 ≤ (-1 : Int)) = l.any p := by
 rw [List.take_length] at h
 rw [decide_eq_false (by omega)]
 exact (List.any_eq_false.2 (fun x hx => by rw [h x hx]; simp)).symm
def Found (b : Bool) (w : World) (e : Ending) (w' : World) : Prop := ∃ r : Int, e = .returned (.int .i64 r) ∧ decide (0 ≤ r) = b ∧ Below w.heap.size w w'
set_option maxHeartbeats 1000000 in
theorem indexI_any (A : Option Addr) (c : Nat) (l : List Int) (g : Nat) (lb : Array Value) (p : Int → Bool) (w : World) (hl : kI.C w A l.length l)
  (hp : PredOk g lb (Value.int .i64) p w) (he : ∀ args w, (callFunc g args).run Tryz.prog w = .ok (.enter g args) w) :
  Calls Tryz.prog 106 #[.slice A l.length c, .func (.func g) #[] lb] w (Found (l.any p) w) := by
 have HL := Aside0.mk hl
 have hm := Kd.C_max hl
 have HP := Lib.hid hp
 clear hl hp
 go_enter Tryz.func106, Tryz.ntmps106
 go_wp2
 go_loopw [8] (fun i wr => ∃ k : Nat, k ≤ l.length ∧ i = .int .i64 k ∧ Aside0 (∀ x ∈ l.take k, p x = false) ∧ Below w.heap.size w wr) (fun i _ => l.length - (intOf i).toNat)
 case atStart => exact ⟨0, Nat.zero_le _, rfl, ⟨by simp⟩, Below.refl _ _⟩
 case round =>
  obtain ⟨k, hk, rfl, hall, hb⟩ := hrel
  by_cases hlt : k < l.length
  ·obtain ⟨ad, rfl, hc⟩ := at_num (Kd.C_below HL.out hb) hlt
   have hcall := HP.out l[k] wr hb
   cases hpk : p l[k]
   ·rw [hpk] at hcall
    have hpk := Lib.hid hpk
    have HC := Lib.hid hcall
    clear hcall
    go_wp2_with fail
    refine HC.out.mono ?_
    rintro e w1 ⟨rfl, hb1⟩
    go_wp2_with fail
    go_roundw
    case rel => exact ⟨k + 1, by omega, by go_num, ⟨all_snoc hall.out hlt hpk.out⟩, below_then hb hb.size hb1⟩
    case measure => simp [intOf]; omega
   ·rw [hpk] at hcall
    have hpk := Lib.hid hpk
    have HC := Lib.hid hcall
    clear hcall
    go_wp2_with fail
    refine HC.out.mono ?_
    rintro e w1 ⟨rfl, hb1⟩
    go_wp2_with fail
    go_ret
    exact ⟨k, rfl, any_found hlt hpk.out, below_then hb hb.size hb1⟩
  ·go_wp2
   go_ret
   exact ⟨-1, rfl, any_none (by have : k = l.length := (by omega); subst this; exact hall.out), hb⟩
set_option maxHeartbeats 400000 in
theorem containsI_any (A : Option Addr) (c : Nat) (l : List Int) (g : Nat) (lb : Array Value) (p : Int → Bool) (w : World) (hl : kI.C w A l.length l)
  (hp : PredOk g lb (Value.int .i64) p w) (he : ∀ args w, (callFunc g args).run Tryz.prog w = .ok (.enter g args) w) :
  Calls Tryz.prog 82 #[.slice A l.length c, .func (.func g) #[] lb] w fun e w' => e = .returned (.bool (l.any p)) ∧ Below w.heap.size w w' := by
 have H := Lib.hid (indexI_any A c l g lb p w hl hp he)
 clear hl hp
 go_enter Tryz.func82, Tryz.ntmps82
 go_wp2_with fail
 refine H.out.mono ?_
 rintro e w1 ⟨r, rfl, hr, hb⟩
 go_wp2_with fail
 go_ret
 exact ⟨rfl, hb⟩
def outB (high : Int) (n : Int) : Bool := decide (n < 0) || decide (high < n)
theorem outB_low {high n : Int} (h : n < 0) : outB high n = true := by simp [outB, h]
theorem outB_high {high n : Int} (h : high < n) : outB high n = true := by simp [outB, h]
theorem outB_in {high n : Int} (h0 : 0 ≤ n) (h1 : n ≤ high) : outB high n = false := by
 unfold outB; rw [decide_eq_false (by omega), decide_eq_false (by omega)]; rfl
set_option maxHeartbeats 400000 in
theorem within1_any (n high : Int) (a : Addr) (w : World) (hc : w.cell? a = some (.int .i64 high)) :
  Calls Tryz.prog 83 #[.int .i64 n, .pointer (some a)] w fun e w' => e = .returned (.bool (outB high n)) ∧ Below w.heap.size w w' := by
 by_cases h0 : n < 0
 ·go_enter Tryz.func83, Tryz.ntmps83
  go_wp2
  go_ret
  exact ⟨ret_bool (outB_low h0).symm, Below.refl _ _⟩
 ·have h0' : 0 ≤ n := by omega
  have h0f : decide (n < 0) = false := by simp; omega
  clear h0
  by_cases h1 : high < n
  ·go_enter Tryz.func83, Tryz.ntmps83
   go_wp2
   go_ret
   exact ⟨ret_bool (outB_high h1).symm, Below.refl _ _⟩
  ·have h1' : n ≤ high := by omega
   have h1f : decide (high < n) = false := by simp; omega
   clear h1
   go_enter Tryz.func83, Tryz.ntmps83
   go_wp2
   go_ret
   exact ⟨ret_bool (outB_in h0' h1').symm, Below.refl _ _⟩
theorem new_cell (w : World) (cs : Array Value) (t : TypeId) (i : Nat) : (w.alloc (.cells cs t)).cell? ⟨w.heap.size, i, none⟩ = cs[i]? := cell_of_row _ _ i cs t (0, 0) (heap_alloc_new w _)
theorem below_new (w : World) (o : Obj) : Below w.heap.size w (w.alloc o) := (Below.refl _ _).alloc (Nat.le_refl _) _
def withinB (high : Int) (l : List Int) : Bool := !(l.any (outB high))
set_option maxHeartbeats 400000 in
theorem within_any (A : Option Addr) (c : Nat) (l : List Int) (high : Int) (w : World) (hl : kI.C w A l.length l) :
  Calls Tryz.prog 63 #[.slice A l.length c, .int .i64 high] w fun e w' => e = .returned (.bool (withinB high l)) ∧ Below w.heap.size w w' := by
 have hmf : ∀ (fn : Fn) (first cap : Array Value) (w : World), (Instr.makeFunc fn first cap).run Tryz.prog w = .ok (.func fn first cap) w := fun _ _ _ _ => rfl
 have hb0 := below_new w (.cells #[.int .i64 high] 3)
 have HP : Hid (PredOk 83 #[.pointer (some ⟨w.heap.size, 0, none⟩)] (Value.int .i64) (outB high) (w.alloc (.cells #[.int .i64 high] 3))) := Lib.hid (fun x w' hb =>
  within1_any x high _ w' (pw_cell_below hb (new_cell w #[.int .i64 high] 3 0)))
 have H := Lib.hid (containsI_any A c l 83 #[.pointer (some ⟨w.heap.size, 0, none⟩)] (outB high) (w.alloc (.cells #[.int .i64 high] 3)) (Kd.C_below hl hb0) HP.out (enters_of Tryz.func83 (by kernel_rfl) rfl))
 clear hl HP
 go_enter Tryz.func63, Tryz.ntmps63
 go_wp2_with fail
 refine H.out.mono ?_
 rintro e w1 ⟨rfl, hb⟩
 go_wp2_with fail
 go_ret
 exact ⟨rfl, below_then hb0 hb0.size hb⟩
end Go.Proofs.YtbkfnmgkcgnifaaGreat
namespace Go.Proofs.YtbkfnmgkcgnifaaGreat
open Go.RowKit Go.Shelf Go.Proofs.YtbkfnmgkcgnifaaGreatW.PrintWords Mdl
set_option maxHeartbeats 400000 in
theorem isNaN_any (x : Int) (w : World) : Calls Tryz.prog 124 #[.int .i64 x] w fun e w' => e = .returned (.bool false) ∧ w = w' := by
 go_enter Tryz.func124, Tryz.ntmps124
 go_wp2
 go_ret
 exact ⟨rfl, rfl⟩
theorem cmp3_lt {x y : Int} (h : x < y) : cmp3 x y = -1 := by simp [cmp3, h]
theorem cmp3_gt {x y : Int} (h : y < x) : cmp3 x y = 1 := by unfold cmp3; rw [if_neg (by omega), if_pos h]
theorem cmp3_eq {x y : Int} (h : y ≤ x) (h' : x ≤ y) : cmp3 x y = 0 := by unfold cmp3; rw [if_neg (by omega), if_neg (by omega)]
set_option maxHeartbeats 400000 in
theorem cmpI_any (x y : Int) (w : World) : Calls Tryz.prog 119 #[.int .i64 x, .int .i64 y] w fun e w' => e = .returned (.int .i64 (cmp3 x y)) ∧ w = w' := by
 go_enter Tryz.func119, Tryz.ntmps119
 go_wp2_with (first | (go_at_call 124; refine (isNaN_any _ _).mono ?_; rintro e w' ⟨rfl, rfl⟩))
 ·go_ret
  exact ⟨ret_int (cmp3_lt (by assumption)).symm, rfl⟩
 ·go_ret
  exact ⟨ret_int (cmp3_gt (by assumption)).symm, rfl⟩
 ·go_ret
  exact ⟨ret_int (cmp3_eq (by assumption) (by assumption)).symm, rfl⟩
theorem cmpT_0 {a b c x y z : Int} (h : (cmp3 a x != 0) = true) : cmpT (a, b, c) (x, y, z) = cmp3 a x := by
 have h : cmp3 a x ≠ 0 := by simpa using h
 simp [cmpT, h]
theorem cmpT_1 {a b c x y z : Int} (h : (cmp3 a x != 0) = false) (h1 : (cmp3 b y != 0) = true) : cmpT (a, b, c) (x, y, z) = cmp3 b y := by
 have h : cmp3 a x = 0 := by simpa using h
 have h1 : cmp3 b y ≠ 0 := by simpa using h1
 simp [cmpT, h, h1]
theorem cmpT_2 {a b c x y z : Int} (h : (cmp3 a x != 0) = false) (h1 : (cmp3 b y != 0) = false) : cmpT (a, b, c) (x, y, z) = cmp3 c z := by
 have h : cmp3 a x = 0 := by simpa using h
 have h1 : cmp3 b y = 0 := by simpa using h1
 simp [cmpT, h, h1]
theorem cmpT_3 {a b c x y z : Int} (h : (cmp3 a x != 0) = false) (h1 : (cmp3 b y != 0) = false) (h2 : (cmp3 c z != 0) = false) : cmpT (a, b, c) (x, y, z) = 0 := by
 rw [cmpT_2 h h1]; simpa using h2
set_option maxHeartbeats 1600000 in
theorem compare_three (b1 b2 : Nat) (t u : Tm) (w : World)
  (x0 : w.cell? ⟨b1, 0, none⟩ = some (.int .i64 t.1)) (x1 : w.cell? ⟨b1, 1, none⟩ = some (.int .i64 t.2.1)) (x2 : w.cell? ⟨b1, 2, none⟩ = some (.int .i64 t.2.2))
  (y0 : w.cell? ⟨b2, 0, none⟩ = some (.int .i64 u.1)) (y1 : w.cell? ⟨b2, 1, none⟩ = some (.int .i64 u.2.1)) (y2 : w.cell? ⟨b2, 2, none⟩ = some (.int .i64 u.2.2)) :
  Calls Tryz.prog 116 #[.slice (some ⟨b1, 0, none⟩) 3 3, .slice (some ⟨b2, 0, none⟩) 3 3] w fun e w' => e = .returned (.int .i64 (cmpT t u)) ∧ w = w' := by
 obtain ⟨a, b, c⟩ := t
 obtain ⟨x, y, z⟩ := u
 dsimp only at x0 x1 x2 y0 y1 y2
 go_enter Tryz.func116, Tryz.ntmps116
 go_wp2
 refine wp_loop_rounds 4 ?_
 rw [rounds_succ]
 go_wp2_with (first | (go_at_call 119; refine (cmpI_any _ _ _).mono ?_; rintro e w' ⟨rfl, rfl⟩))
 ·go_ret
  exact ⟨ret_int (cmpT_0 (by assumption)).symm, rfl⟩
 rw [rounds_succ]
 go_wp2_with (first | (go_at_call 119; refine (cmpI_any _ _ _).mono ?_; rintro e w' ⟨rfl, rfl⟩))
 ·go_ret
  exact ⟨ret_int (cmpT_1 (by assumption) (by assumption)).symm, rfl⟩
 rw [rounds_succ]
 go_wp2_with (first | (go_at_call 119; refine (cmpI_any _ _ _).mono ?_; rintro e w' ⟨rfl, rfl⟩))
 ·go_ret
  exact ⟨ret_int (cmpT_2 (by assumption) (by assumption)).symm, rfl⟩
 rw [rounds_succ]
 go_wp2
 go_ret
 exact ⟨ret_int (cmpT_3 (by assumption) (by assumption) (by assumption)).symm, rfl⟩
set_option maxHeartbeats 800000 in
theorem byTime1_any (t u : Tm) (w : World) : Calls Tryz.prog 115 #[tmV t, tmV u] w fun e w' => e = .returned (.int .i64 (cmpT t u)) ∧ Below w.heap.size w w' := by
 simp only [tmV]
 go_enter Tryz.func115, Tryz.ntmps115
 go_wp2
 go_quiet ((go_at_call 116; exact Calls.quiet_of_same ((compare_three _ _ t u _ (by go_simp) (by go_simp) (by go_simp) (by go_simp) (by go_simp) (by go_simp)).mono (by rintro e w' ⟨rfl, rfl⟩; exact ⟨rfl, rfl⟩))))
 go_wp2
 go_ret
 exact ⟨rfl, pw_below_drewN two_new _⟩
set_option maxHeartbeats 400000 in
theorem byTime_any (w : World) : Calls Tryz.prog 100 #[] w fun e w' => e = .returned (.agg #[.func (.func 115) #[] #[]]) ∧ Below w.heap.size w w' := by
 go_enter Tryz.func100, Tryz.ntmps100
 go_wp2
 exact bodyPost_ret (v := .agg #[.func (.func 115) #[] #[]]) (by simp [results, Tryz.results100, go_sem]) rfl ⟨rfl, below_new _ _⟩
set_option maxHeartbeats 400000 in
theorem byMark_any (w : World) : Calls Tryz.prog 78 #[] w fun e w' => e = .returned (.agg #[.func (.func 103) #[] #[]]) ∧ Below w.heap.size w w' := by
 go_enter Tryz.func78, Tryz.ntmps78
 go_wp2
 exact bodyPost_ret (v := .agg #[.func (.func 103) #[] #[]]) (by simp [results, Tryz.results78, go_sem]) rfl ⟨rfl, below_new _ _⟩
theorem cmpM_ne {m n : Mk} (h : (m.1 != n.1) = true) : cmpM m n = w64 (m.1 - n.1) := by
 have h : m.1 ≠ n.1 := by simpa using h
 simp [cmpM, h]
theorem cmpM_eq {m n : Mk} (h : (m.1 != n.1) = false) : cmpM m n = cmpT m.2 n.2 := by
 have h : m.1 = n.1 := by simpa using h
 simp [cmpM, h]
set_option maxHeartbeats 1600000 in
theorem byMark1_any (m n : Mk) (w : World) : Calls Tryz.prog 103 #[mkV m, mkV n] w fun e w' => e = .returned (.int .i64 (cmpM m n)) ∧ Below w.heap.size w w' := by
 obtain ⟨m0, t⟩ := m
 obtain ⟨n0, u⟩ := n
 simp only [mkV]
 cases hmn : (m0 != n0)
 ·have HM := Lib.hid hmn
  have hf : ∀ w, (Instr.field 173 (.agg #[.func (.func 115) #[] #[]]) 0).run Tryz.prog w = .ok (.func (.func 115) #[] #[]) w := fun _ => by kernel_rfl
  go_enter Tryz.func103, Tryz.ntmps103
  go_wp2
  go_region_held3 (fun w' => w'.cell? ⟨w.heap.size, 1, none⟩ = some (.int .i64 t.1) ∧ w'.cell? ⟨w.heap.size, 2, none⟩ = some (.int .i64 t.2.1) ∧ w'.cell? ⟨w.heap.size, 3, none⟩ = some (.int .i64 t.2.2)
    ∧ w'.cell? ⟨w.heap.size + 1, 1, none⟩ = some (.int .i64 u.1) ∧ w'.cell? ⟨w.heap.size + 1, 2, none⟩ = some (.int .i64 u.2.1) ∧ w'.cell? ⟨w.heap.size + 1, 3, none⟩ = some (.int .i64 u.2.2)) (first | go_keep | (go_split_ands; refine ⟨?_, ?_, ?_, ?_, ?_, ?_⟩ <;> (first | (refine pw_cell_below hb2 ?_; assumption) | (refine pw_cell_below hb1 ?_; assumption))))
   (first | (go_at_call 100; refine (byTime_any _).mono ?_; rintro e w1 ⟨rfl, hb1⟩) | (go_at_call 115; refine (byTime1_any t u _).mono ?_; rintro e w2 ⟨rfl, hb2⟩))
  go_wp2
  go_ret
  have h1 := below_then (below_drew two_new) (below_drew two_new).size hb1
  exact ⟨ret_int (cmpM_eq (m := (m0, t)) (n := (n0, u)) HM.out).symm, below_then h1 h1.size hb2⟩
 ·have HM := Lib.hid hmn
  go_enter Tryz.func103, Tryz.ntmps103
  go_wp2
  go_ret
  exact ⟨ret_int (by rw [cmpM_ne HM.out, w64_eq]), two_new⟩
end Go.Proofs.YtbkfnmgkcgnifaaGreat
namespace Go.Proofs.YtbkfnmgkcgnifaaGreat
open Go.RowKit Go.Shelf Go.Proofs.YtbkfnmgkcgnifaaGreatW.PrintWords Mdl
set_option maxHeartbeats 1000000 in
theorem indexT_any (A : Option Addr) (c : Nat) (l : List Tm) (g : Nat) (lb : Array Value) (p : Tm → Bool) (w : World) (hl : kT.C w A l.length l)
  (hp : PredOk g lb tmV p w) (he : ∀ args w, (callFunc g args).run Tryz.prog w = .ok (.enter g args) w) :
  Calls Tryz.prog 107 #[.slice A l.length c, .func (.func g) #[] lb] w (Found (l.any p) w) := by
 have HL := Aside0.mk hl
 have hm := Kd.C_max hl
 have HP := Lib.hid hp
 clear hl hp
 go_enter Tryz.func107, Tryz.ntmps107
 go_wp2
 go_loopw [8] (fun i wr => ∃ k : Nat, k ≤ l.length ∧ i = .int .i64 k ∧ Aside0 (∀ x ∈ l.take k, p x = false) ∧ Below w.heap.size w wr) (fun i _ => l.length - (intOf i).toNat)
 case atStart => exact ⟨0, Nat.zero_le _, rfl, ⟨by simp⟩, Below.refl _ _⟩
 case round =>
  obtain ⟨k, hk, rfl, hall, hb⟩ := hrel
  by_cases hlt : k < l.length
  ·obtain ⟨ad, rfl, hc0, hc1, hc2⟩ := at_time (Kd.C_below HL.out hb) hlt
   have hcall := HP.out l[k] wr hb
   simp only [tmV] at hcall
   cases hpk : p l[k]
   ·rw [hpk] at hcall
    have HK := Lib.hid hpk
    have HC := Lib.hid hcall
    clear hcall hpk
    go_wp2_with fail
    refine HC.out.mono ?_
    rintro e w1 ⟨rfl, hb1⟩
    go_wp2_with fail
    go_roundw
    case rel => exact ⟨k + 1, by omega, by go_num, ⟨all_snoc hall.out hlt HK.out⟩, below_then hb hb.size hb1⟩
    case measure => simp [intOf]; omega
   ·rw [hpk] at hcall
    have HK := Lib.hid hpk
    have HC := Lib.hid hcall
    clear hcall hpk
    go_wp2_with fail
    refine HC.out.mono ?_
    rintro e w1 ⟨rfl, hb1⟩
    go_wp2_with fail
    go_ret
    exact ⟨k, rfl, any_found hlt HK.out, below_then hb hb.size hb1⟩
  ·go_wp2
   go_ret
   exact ⟨-1, rfl, any_none (by have : k = l.length := (by omega); subst this; exact hall.out), hb⟩
set_option maxHeartbeats 400000 in
theorem containsT_any (A : Option Addr) (c : Nat) (l : List Tm) (g : Nat) (lb : Array Value) (p : Tm → Bool) (w : World) (hl : kT.C w A l.length l)
  (hp : PredOk g lb tmV p w) (he : ∀ args w, (callFunc g args).run Tryz.prog w = .ok (.enter g args) w) :
  Calls Tryz.prog 84 #[.slice A l.length c, .func (.func g) #[] lb] w fun e w' => e = .returned (.bool (l.any p)) ∧ Below w.heap.size w w' := by
 have H := Lib.hid (indexT_any A c l g lb p w hl hp he)
 clear hl hp
 go_enter Tryz.func84, Tryz.ntmps84
 go_wp2_with fail
 refine H.out.mono ?_
 rintro e w1 ⟨r, rfl, hr, hb⟩
 go_wp2_with fail
 go_ret
 exact ⟨rfl, hb⟩
set_option maxHeartbeats 400000 in
theorem firsts1_any (o t : Tm) (a : Nat) (w : World) (c0 : w.cell? ⟨a, 0, none⟩ = some (.int .i64 t.1)) (c1 : w.cell? ⟨a, 1, none⟩ = some (.int .i64 t.2.1)) (c2 : w.cell? ⟨a, 2, none⟩ = some (.int .i64 t.2.2)) :
  Calls Tryz.prog 101 #[tmV o, .pointer (some ⟨a, 0, none⟩)] w fun e w' => e = .returned (.bool (leT o t)) ∧ Below w.heap.size w w' := by
 have H := fun w => Lib.hid (early_any o t w)
 simp only [tmV] at H ⊢
 have d0 := fun o => pw_cell_below (below_new w o) c0
 have d1 := fun o => pw_cell_below (below_new w o) c1
 have d2 := fun o => pw_cell_below (below_new w o) c2
 go_enter Tryz.func101, Tryz.ntmps101
 go_wp2_with fail
 refine (H _).out.mono ?_
 rintro e w1 ⟨rfl, hb⟩
 go_wp2_with fail
 go_ret
 exact ⟨rfl, below_then (below_new _ _) (below_new _ _).size hb⟩
theorem Tryz.infoTime : (Tryz.prog.info? 99).map (fun i => (i.zero, i.size, i.bytes)) = some (some (.agg #[.int .i64 0, .int .i64 0, .int .i64 0]), 3, 24) := by kernel_rfl
theorem kT_M {w : World} {base : Nat} {ok : Nat → Prop} (t : Tm) : kT.M w base ok t [.int .i64 t.1, .int .i64 t.2.1, .int .i64 t.2.2] := ⟨[_], [_, _], rfl, rfl, [_], [_], rfl, rfl, rfl⟩
theorem grownBy_below {w w1 : World} {row : Option Nat} (h : Below w.heap.size w w1) : w.grownBy w1 row := ⟨h.os, h.tape, h.output, h.size, fun k hk _ => h.block k hk⟩
theorem _root_.Go.World.grownBy.both {a b c : World} {row : Option Nat} (h : a.grownBy b row) (k : b.grownBy c row) : a.grownBy c row :=
 ⟨k.os.trans h.os, k.tape.trans h.tape, k.output.trans h.output, Nat.le_trans h.size k.size, fun i hi hn => (k.block i (Nat.lt_of_lt_of_le hi h.size) hn).trans (h.block i hi hn)⟩
end Go.Proofs.YtbkfnmgkcgnifaaGreat
namespace Go.Proofs.YtbkfnmgkcgnifaaGreatW.PrintWords
open Go.RowKit
section
variable {P : Program} {d : Nat} {xs ys : Array Value} {f : Field} {fs : List Field} {a b : Value} {r s : Bool} {w : World}
theorem eqf_last (hn : (f.name == "_") = false) (ha : (part f.type xs f.offset).run P w = .ok a w) (hb : (part f.type ys f.offset).run P w = .ok b w) (he : (Op.equalIn d f.type a b).run P w = .ok r w) : (Op.eqFields d xs ys [f]).run P w = .ok r w := by
 have hn' : f.name ≠ "_" := by simpa using hn
 simp only [Op.eqFields, if_pos hn', Sem.run_bind, ha, hb, he, Result.andThen_ok]
 cases r <;> simp
theorem eqf_cons (hn : (f.name == "_") = false) (ha : (part f.type xs f.offset).run P w = .ok a w) (hb : (part f.type ys f.offset).run P w = .ok b w) (he : (Op.equalIn d f.type a b).run P w = .ok r w) (hr : (Op.eqFields d xs ys fs).run P w = .ok s w) : (Op.eqFields d xs ys (f :: fs)).run P w = .ok (r && s) w := by
 have hn' : f.name ≠ "_" := by simpa using hn
 rw [Op.eqFields]
 simp only [if_pos hn', Sem.run_bind, ha, hb, he, Result.andThen_ok]
 cases r
 ·simp
 ·simpa using hr
theorem eqA_of {t : TypeId} {fs : Array Field} (hu : P.underlying t = some (.struct fs)) (hp : P.stoodInHeld t = false) (h : (Op.eqFields d xs ys fs.toList).run P w = .ok r w) : (Op.equalIn (d + 1) t (.agg xs) (.agg ys)).run P w = .ok r w := by
 have hf : P.fieldsOf t = fs := by simp [Program.fieldsOf, hu]
 rw [run_equalIn_struct (P := P) w d t xs ys (by rw [hf]; exact hu) hp, hf]
 exact h
end
end Go.Proofs.YtbkfnmgkcgnifaaGreatW.PrintWords
namespace Go.Proofs.YtbkfnmgkcgnifaaGreat
open Go.RowKit Go.Shelf Go.Proofs.YtbkfnmgkcgnifaaGreatW.PrintWords Mdl
theorem eq_int (d : Nat) (a b : Int) (w : World) : (Op.equalIn (d + 1) 3 (.int .i64 a) (.int .i64 b)).run Tryz.prog w = .ok (a == b) w := by
 rw [Op.equalIn]
 simp [go_sem, underlying, Tryz.underlying3]
theorem eq_time (d : Nat) (t u : Tm) (w : World) : (Op.equalIn (d + 2) 99 (tmV t) (tmV u)).run Tryz.prog w = .ok (t == u) w := by
 obtain ⟨a, b, c⟩ := t
 obtain ⟨x, y, z⟩ := u
 have hs : ∀ w, (sizeOf 3).run Tryz.prog w = .ok 1 w := fun _ => by kernel_rfl
 simp only [tmV]
 rw [Op.equalIn]
 have hu : ∀ w, (underlying 99).run Tryz.prog w = .ok (.array 3 3) w := fun _ => by kernel_rfl
 simp only [Sem.run_bind, hu, Result.andThen_ok, hs]
 simp [go_sem, Std.Legacy.Range.forIn_eq_forIn_range', List.range', eq_int]
 by_cases h0 : a = x <;> by_cases h1 : b = y <;> by_cases h2 : c = z <;> simp [h0, h1, h2]
theorem eq_mark (d : Nat) (t u : Mk) (w : World) : (Op.equalIn (d + 3) 101 (mkV t) (mkV u)).run Tryz.prog w = .ok (t == u) w := by
 obtain ⟨n, a, b, c⟩ := t
 obtain ⟨m, x, y, z⟩ := u
 have h : (Op.equalIn (d + 3) 101 (.agg #[.int .i64 n, .int .i64 a, .int .i64 b, .int .i64 c]) (.agg #[.int .i64 m, .int .i64 x, .int .i64 y, .int .i64 z])).run Tryz.prog w = .ok ((n == m) && ((a, b, c) == (x, y, z))) w := by
  refine eqA_of Tryz.underlying101 (by kernel_rfl) ?_
  refine eqf_cons (a := .int .i64 n) (b := .int .i64 m) (by rfl) (by kernel_rfl) (by kernel_rfl) (eq_int _ _ _ _) ?_
  exact eqf_last (a := tmV (a, b, c)) (b := tmV (x, y, z)) (by rfl) (by kernel_rfl) (by kernel_rfl) (eq_time _ _ _ _)
 exact h
theorem run_eq_time (t u : Tm) (w : World) : (binOp .eql 99 (tmV t) (tmV u)).run Tryz.prog w = .ok (.bool (t == u)) w := by
 have h := run_eql_struct (P := Tryz.prog) (w := w) 99 #[.int .i64 t.1, .int .i64 t.2.1, .int .i64 t.2.2] #[.int .i64 u.1, .int .i64 u.2.1, .int .i64 u.2.2]
 have e := eq_time 9998 t u w
 simp only [tmV] at e ⊢
 rw [h, e]; rfl
theorem run_ne_time (t u : Tm) (w : World) : (binOp .neq 99 (tmV t) (tmV u)).run Tryz.prog w = .ok (.bool (!(t == u))) w := by
 have h := run_neq_struct (P := Tryz.prog) (w := w) 99 #[.int .i64 t.1, .int .i64 t.2.1, .int .i64 t.2.2] #[.int .i64 u.1, .int .i64 u.2.1, .int .i64 u.2.2]
 have e := eq_time 9998 t u w
 simp only [tmV] at e ⊢
 rw [h, e]; rfl
end Go.Proofs.YtbkfnmgkcgnifaaGreat
namespace Go.Proofs.YtbkfnmgkcgnifaaGreatW.PrintWords
open Go.RowKit
namespace Kd
def tag {α : Type} (f : Nat → Nat) (d : Kd α) : Kd (α × Nat) where
 sz := d.sz
 E := d.E
 K := fun w x cs => d.K w x.1 cs
 M := fun w base ok x cs => d.M w base (fun k => ok k ∧ f k = x.2) x.1 cs
 K_len := fun h => d.K_len h
 K_one := fun h => d.K_one h
 K_below := fun hb h => d.K_below hb h
 K_of_M := fun h => d.K_of_M h
 M_mono := fun hok h => d.M_mono (fun k hk => ⟨hok k hk.1, hk.2⟩) h
 M_bound := fun h => d.M_mono (fun _ hk => ⟨⟨hk.1.1, hk.2⟩, hk.1.2⟩) (d.M_bound h)
 M_move := fun hm h => d.M_move (fun k hk => hm k hk.1) h
 M_lower := fun hb h => d.M_lower hb h
def bare {α : Type} (d : Kd α) : Kd α where
 sz := d.sz
 E := d.E
 K := d.K
 M := fun w base _ x cs => d.M w base (fun _ => False) x cs
 K_len := fun h => d.K_len h
 K_one := fun h => d.K_one h
 K_below := fun hb h => d.K_below hb h
 K_of_M := fun h => d.K_of_M h
 M_mono := fun _ h => h
 M_bound := fun h => h
 M_move := fun _ h => d.M_move (fun _ hk => hk.elim) h
 M_lower := fun hb h => d.M_lower hb h
def raw (sz : Nat) : Kd (List Value) where
 sz := sz
 E := []
 K := fun _ x cs => cs = x ∧ cs.length = sz ∧ ∀ u ∈ cs, u.oneCell' = true
 M := fun _ _ _ x cs => cs = x ∧ cs.length = sz ∧ ∀ u ∈ cs, u.oneCell' = true
 K_len := fun h => h.2.1
 K_one := fun h => h.2.2
 K_below := fun _ h => h
 K_of_M := fun h => h
 M_mono := fun _ h => h
 M_bound := fun h => h
 M_move := fun _ h => h
 M_lower := fun _ h => h
def S {α : Type} (d : Kd α) (e : Nat) (w : World) (base : Nat) (ok : Nat → Prop) (v : Value) (xs : List α) : Prop := ∃ f, (tag f d).R e w base ok v xs.zipIdx
section
variable {α β : Type} {d : Kd α} {d' : Kd β} {e e' : Nat} {w w1 W : World} {base b : Nat} {ok ok' okv oku : Nat → Prop} {u v : Value} {xs : List α} {ys : List β}
theorem zip_at {xs : List α} {j : Nat} {p : α} (h : xs[j]? = some p) : xs.zipIdx[j]? = some (p, j) := by rw [List.getElem?_zipIdx, h, Nat.zero_add]; rfl
theorem S_R (h : S d e w base ok v xs) : d.R e w base ok v xs := by
 obtain ⟨f, h0, inner, ho, hr⟩ := h
 rw [List.length_zipIdx] at ho
 exact ⟨h0, inner, ho, by have := hr.1; rw [List.length_zipIdx] at this; exact this, fun j p hj => d.M_mono (fun _ hk => hk.1) (hr.2 j (p, j) (zip_at hj))⟩
theorem R_tight (hE : d.E = []) (h : d.R e w base ok v xs) : d.R e w base (fun k => some k = v.ownBlock) v xs := by
 obtain ⟨h0, inner, ho, hr⟩ := h
 refine ⟨fun k hk => hk.symm, inner, ho, hr.imp_ (fun p c hp => d.M_mono (fun k hk => ?_) (d.M_bound hp))⟩
 obtain ⟨_, _, _, q, hq, _⟩ := hk
 rw [hE] at hq
 cases hq
theorem S_mono (h : S d e w base ok v xs) (hok : ∀ k, ok k → ok' k) : S d e w base ok' v xs := by
 obtain ⟨f, h⟩ := h
 exact ⟨f, R_mono h hok⟩
theorem S_bound (h : S d e w base ok v xs) : S d e w base (fun k => ok k ∧ base ≤ k ∧ k < w.heap.size ∧ ∃ q, q ∈ e :: d.E ∧ ∃ cells, w.heap[k]? = some (.cells cells q (0, 0))) v xs := by
 obtain ⟨f, h⟩ := h
 exact ⟨f, R_bound h⟩
theorem S_move (h : S d e w base ok v xs) (hm : ∀ k, ok k → w1.heap[k]? = w.heap[k]?) : S d e w1 base ok v xs := by
 obtain ⟨f, h⟩ := h
 exact ⟨f, R_move h hm⟩
theorem S_step (h : S d e w base ok v xs) (hm : ∀ k, ok k → k < w.heap.size → w1.heap[k]? = w.heap[k]?) : S d e w1 base ok v xs :=
 S_mono (S_move (S_bound h) (fun k hk => hm k hk.1 hk.2.2.1)) (fun _ hk => hk.1)
theorem S_below (h : S d e w base ok v xs) (hb : Below w.heap.size w w1) : S d e w1 base ok v xs := S_step h (fun k _ hk => hb.block k hk)
theorem S_drew (h : S d e w base ok v xs) : S d e w.drew base ok v xs := S_below h (below_drew (Below.refl _ _))
theorem S_grown (h : S d e w base ok v xs) {row : Option Nat} (hg : w.grownBy w1 row) (hok : ∀ k, ok k → some k ≠ row) : S d e w1 base ok v xs := S_step h (fun k ho hk => hg.block k hk (hok k ho))
theorem S_typed (h : S d e w base ok v xs) : ∀ k, v.ownBlock = some k → ∃ cells, w.heap[k]? = some (.cells cells e (0, 0)) := R_typed (S_R h)
theorem S_bare (h : (bare d).R e w base ok v xs) : S d e w base ok v xs := by
 obtain ⟨h0, inner, ho, hr⟩ := h
 refine ⟨fun _ => 0, h0, inner, by rw [List.length_zipIdx]; exact ho, by rw [List.length_zipIdx]; exact hr.1, fun j p hj => ?_⟩
 rw [List.getElem?_zipIdx, Nat.zero_add] at hj
 obtain ⟨x, hx, rfl⟩ := Option.map_eq_some_iff.1 hj
 exact d.M_mono (fun _ hk => hk.elim) (hr.2 j x hx)
end
section
variable {α β : Type} {d : Kd α} {d' : Kd β} {e e' g : Nat} {w w1 W : World} {base b : Nat} {ok ok' okv oku : Nat → Prop} {u v : Value} {xs : List α} {ys : List β}
theorem S_form (h : S d e w base ok v xs) (hp : 0 < xs.length) : ∃ g cap, v = .slice (some ⟨g, 0, none⟩) xs.length cap ∧ base ≤ g ∧ g < w.heap.size ∧ ∃ cells, w.heap[g]? = some (.cells cells e (0, 0)) := R_form (S_R h) hp
theorem S_elderB (h : S d e w base ok v xs) (a : Nat) (ha : w.heap.size ≤ a) : S d e w base (fun k => ok k ∧ k ≠ a) v xs := S_mono (S_bound h) (fun k hk => ⟨hk.1, by have := hk.2.2.1; omega⟩)
end
section
variable {P : Program} {ops : Array Oper} {rest : List Oper} {o : Oper} {a : Act} {Q : Exit → Act → World → Prop} {Kc : Act → World → Prop} {α : Type}
theorem S_make (d : Kd α) {w0 W : World} (base e : Nat) (hgd : o.guard = none) {N : Tmp} (hd : o.dst = some N) (t : TypeId) (x y : Operand) (ho : o.op = .makeSlice t x y) (n : Int) (hx : a.eval x = .int .i64 n) (hy : a.eval y = .int .i64 n)
  (ht : P.underlying t = some (.slice e)) (z : Value) (bytes : Nat) (hinfo : (P.info? e).map (fun i => (i.zero, i.size, i.bytes)) = some (some z, d.sz, bytes)) (hz : z.cells.size = d.sz) (hs0 : 0 < d.sz) (hb0 : 0 < bytes)
  (z0 : α) {ok okp : Nat → Prop} (hzero : d.M W base (fun _ => False) z0 z.cells.toList) (_hok : ∀ k, okp k → ok k) (hfresh : ok W.heap.size) (h0 : 0 ≤ n) (hl : n.toNat * bytes ≤ 281474976710656) (HB : Below base w0 W) (hbase : base ≤ W.heap.size)
  (h : ∀ v1 w1, S d e w1 base ok v1 (List.replicate n.toNat z0) → Below base w0 w1 → W.grownBy w1 none → (∃ b, v1.ownBlock = some b ∧ W.heap.size ≤ b) → wpList P ops Q rest (a.put o.dst v1) w1) : wpList P ops Q (o :: rest) a W :=
 R_make (bare d) base e hgd hd t x y ho n hx hy ht z bytes hinfo hz hs0 hb0 z0 (ok := ok) (okp := ok) hzero (fun _ hk => hk) hfresh h0 hl HB hbase (fun v1 w1 hr => h v1 w1 (S_bare hr))
end
def gap {α : Type} (f : Nat → Nat) (d : Kd α) (i : Nat) (c : List Value) : Kd (α × Nat) where
 sz := d.sz
 E := d.E
 K := fun w x cs => (x.2 = i → cs = c ∧ cs.length = d.sz ∧ ∀ u ∈ cs, u.oneCell' = true) ∧ (x.2 ≠ i → d.K w x.1 cs)
 M := fun w base ok x cs => (x.2 = i → cs = c ∧ cs.length = d.sz ∧ ∀ u ∈ cs, u.oneCell' = true) ∧ (x.2 ≠ i → d.M w base (fun k => ok k ∧ f k = x.2) x.1 cs)
 K_len := fun {w x cs} h => by
  by_cases hx : x.2 = i
  ·exact (h.1 hx).2.1
  ·exact d.K_len (h.2 hx)
 K_one := fun {w x cs} h => by
  by_cases hx : x.2 = i
  ·exact (h.1 hx).2.2
  ·exact d.K_one (h.2 hx)
 K_below := fun hb h => ⟨h.1, fun hx => d.K_below hb (h.2 hx)⟩
 K_of_M := fun h => ⟨h.1, fun hx => d.K_of_M (h.2 hx)⟩
 M_mono := fun hok h => ⟨h.1, fun hx => d.M_mono (fun k hk => ⟨hok k hk.1, hk.2⟩) (h.2 hx)⟩
 M_bound := fun h => ⟨h.1, fun hx => d.M_mono (fun _ hk => ⟨⟨hk.1.1, hk.2⟩, hk.1.2⟩) (d.M_bound (h.2 hx))⟩
 M_move := fun hm h => ⟨h.1, fun hx => d.M_move (fun k hk => hm k hk.1) (h.2 hx)⟩
 M_lower := fun hb h => ⟨h.1, fun hx => d.M_lower hb (h.2 hx)⟩
def H {α : Type} (d : Kd α) (e : Nat) (w : World) (base : Nat) (ok : Nat → Prop) (v : Value) (xs : List α) (i : Int) (oki : Nat → Prop) (c : List Value) : Prop :=
 (∀ k, oki k → ok k) ∧ ∃ f, (gap f d i.toNat c).R e w base (fun k => ok k ∧ ¬ oki k) v xs.zipIdx
section
variable {α β : Type} {d : Kd α} {e e' g n cap : Nat} {w w1 W : World} {base : Nat} {ok ok' oki okp : Nat → Prop} {u v : Value} {xs : List α} {i : Int} {c : List Value}
theorem S_lend (h : S d e W base ok (.slice (some ⟨g, 0, none⟩) n cap) xs) (z : α) (i : Int) (h0 : 0 ≤ i) (h1 : i < n) :
  ∃ (oki : Nat → Prop) (c : List Value), c.length = d.sz ∧ d.M W base oki (xs.getD i.toNat z) c ∧ (∀ j u, c[j]? = some u → W.cell? ⟨g, i.toNat * d.sz + j, none⟩ = some u) ∧ (∀ k, oki k → ok k ∧ k ≠ g) ∧ H d e W base ok (.slice (some ⟨g, 0, none⟩) n cap) xs i oki c := by
 obtain ⟨f, hR⟩ := h
 have hn := (R_reads' hR).1
 rw [List.length_zipIdx] at hn
 have hgo : some g = (Value.slice (some ⟨g, 0, none⟩) n cap).ownBlock := by simp [Value.ownBlock]
 obtain ⟨hok0, inner, ho, hr⟩ := hR
 have hil : i.toNat < xs.length := by omega
 have hlen : inner.length = xs.length * d.sz := by have := hr.1; rw [List.length_zipIdx] at this; exact this
 have hseg : i.toNat * d.sz + d.sz ≤ inner.length := by rw [hlen, ← Nat.succ_mul]; exact Nat.mul_le_mul_right _ hil
 have hM := hr.2 i.toNat _ (zip_at (List.getElem?_eq_getElem hil))
 have hkg : ∀ k, some k ≠ (Value.slice (some ⟨g, 0, none⟩) n cap).ownBlock → k ≠ g := fun k hk he => hk (by rw [he]; exact hgo)
 refine ⟨fun k => (ok k ∧ k ≠ g) ∧ f k = i.toNat, (inner.drop (i.toNat * d.sz)).take d.sz, by rw [List.length_take, List.length_drop]; omega, ?_, fun j u hu => ?_, fun k hk => hk.1, fun k hk => hk.1.1, f, fun k hk => ⟨hok0 k hk, fun h2 => h2.1.2 ?_⟩, inner, ho, hr.1, fun m p hm => ?_⟩
 ·rw [List.getD_eq_getElem?_getD, List.getElem?_eq_getElem hil]
  exact d.M_mono (fun k hk => ⟨⟨hk.1.1, hkg k hk.1.2⟩, hk.2⟩) hM
 ·rw [List.getElem?_take] at hu
  split at hu
  ·rw [List.getElem?_drop] at hu
   have := ho.cells (g := g) hgo.symm _ u hu
   rwa [add_plain] at this
  ·cases hu
 ·rw [← hgo] at hk; injection hk with hk; exact hk.symm
 ·have hold := hr.2 m p hm
  have hp2 : p.2 = m := by
   rw [List.getElem?_zipIdx, Nat.zero_add] at hm
   obtain ⟨q, _, rfl⟩ := Option.map_eq_some_iff.1 hm
   rfl
  refine ⟨fun hx => ?_, fun hx => d.M_mono (fun k hk => ⟨⟨⟨hk.1.1, fun h2 => hx ?_⟩, hk.1.2⟩, hk.2⟩) hold⟩
  ·have hmi : m = i.toNat := by omega
   subst hmi
   exact ⟨rfl, d.K_len (d.K_of_M hM), d.K_one (d.K_of_M hM)⟩
  ·rw [← hk.2]; exact h2.2
open Classical in
theorem H_back (h : H d e w base ok v xs i oki c) {x' : α} (hM : d.M w base okp x' c) (hok : ∀ k, okp k → oki k) : S d e w base ok v (xs.set i.toNat x') := by
 obtain ⟨ho, f, h0, inner, hown, hr⟩ := h
 refine ⟨fun k => if oki k then i.toNat else f k, fun k hk => (h0 k hk).1, inner, by rw [List.length_zipIdx, List.length_set]; rw [List.length_zipIdx] at hown; exact hown, by have := hr.1; rw [List.length_zipIdx] at this; rw [List.length_zipIdx, List.length_set]; exact this, fun m p hm => ?_⟩
 rw [List.getElem?_zipIdx, Nat.zero_add] at hm
 obtain ⟨q, hq, rfl⟩ := Option.map_eq_some_iff.1 hm
 have hml : m < xs.length := by
  have := (List.getElem?_eq_some_iff.1 hq).1
  rwa [List.length_set] at this
 by_cases hmi : m = i.toNat
 ·subst hmi
  rw [List.getElem?_set_self hml] at hq
  injection hq with hq
  subst hq
  have hc := ((hr.2 i.toNat _ (zip_at (List.getElem?_eq_getElem hml))).1 rfl).1
  show d.M w base _ x' ((inner.drop (i.toNat * d.sz)).take d.sz)
  rw [show (inner.drop (i.toNat * d.sz)).take d.sz = c from hc]
  exact d.M_mono (fun k hk => ⟨⟨ho k (hok k hk), fun he => (h0 k he.symm).2 (hok k hk)⟩, if_pos (hok k hk)⟩) hM
 ·rw [List.getElem?_set_ne (Ne.symm hmi)] at hq
  exact d.M_mono (fun k hk => ⟨⟨hk.1.1.1, hk.1.2⟩, (if_neg hk.1.1.2).trans hk.2⟩) ((hr.2 m (q, m) (zip_at hq)).2 hmi)
theorem H_widen (h : H d e w base ok v xs i oki c) : H d e w base ok v xs i (fun k => oki k ∨ ok k ∧ w.heap.size ≤ k) c := by
 obtain ⟨ho, f, h⟩ := h
 exact ⟨fun k hk => hk.elim (ho k) (fun h2 => h2.1), f, R_mono (R_bound h) (fun k hk => ⟨hk.1.1, fun h2 => h2.elim hk.1.2 (fun h3 => by have := hk.2.2.1; omega)⟩)⟩
theorem H_step (h : H d e w base ok v xs i oki c) (hm : ∀ k, ok k → ¬ oki k → k < w.heap.size → w1.heap[k]? = w.heap[k]?) : H d e w1 base ok v xs i oki c := by
 obtain ⟨ho, f, h⟩ := h
 exact ⟨ho, f, R_step h (fun k hk hlt => hm k hk.1 hk.2 hlt)⟩
theorem H_grown (h : H d e w base ok v xs i oki c) {row : Option Nat} (hg : w.grownBy w1 row) (hrow : ∀ k, row = some k → oki k) : H d e w1 base ok v xs i oki c :=
 H_step h (fun k _ hn hlt => hg.block k hlt (fun he => hn (hrow k he.symm)))
theorem H_below (h : H d e w base ok v xs i oki c) (hb : Below w.heap.size w w1) : H d e w1 base ok v xs i oki c := H_step h (fun k _ _ hlt => hb.block k hlt)
theorem H_drew (h : H d e w base ok v xs i oki c) : H d e w.drew base ok v xs i oki c := H_below h (below_drew (Below.refl _ _))
theorem H_mono (h : H d e w base ok v xs i oki c) (hok : ∀ k, ok k → ok' k) : H d e w base ok' v xs i oki c := by
 obtain ⟨ho, f, h⟩ := h
 exact ⟨fun k hk => hok k (ho k hk), f, R_mono h (fun k hk => ⟨hok k hk.1, hk.2⟩)⟩
theorem H_more {okg : Nat → Prop} (h : H d e w base (fun k => ok k ∧ ¬ okg k) v xs i oki c) (hg : ∀ k, okg k → ok k) : H d e w base ok v xs i (fun k => oki k ∨ okg k) c := by
 obtain ⟨ho, f, h⟩ := h
 exact ⟨fun k hk => hk.elim (fun h2 => (ho k h2).1) (hg k), f, R_mono h (fun k hk => ⟨hk.1.1, fun h2 => h2.elim hk.2 hk.1.2⟩)⟩
theorem S_elem (h : S d e W base ok (.slice (some ⟨g, 0, none⟩) n cap) xs) (z : α) (i : Int) (h0 : 0 ≤ i) (h1 : i < n) :
  ∃ (oki : Nat → Prop) (c : List Value), c.length = d.sz ∧ d.M W base oki (xs.getD i.toNat z) c ∧ (∀ j u, c[j]? = some u → W.cell? ⟨g, i.toNat * d.sz + j, none⟩ = some u) ∧ (∀ j, W.frozen? ⟨g, i.toNat * d.sz + j, none⟩ = false) ∧ (∀ k, oki k → ok k ∧ k ≠ g) ∧ H d e W base ok (.slice (some ⟨g, 0, none⟩) n cap) xs i oki c := by
 obtain ⟨_, _, _, _, hfr⟩ := R_elem (S_R h) z i h0 h1
 obtain ⟨oki, c, hcl, hM, hcc, hoki, hH⟩ := S_lend h z i h0 h1
 exact ⟨oki, c, hcl, hM, hcc, hfr, hoki, hH⟩
theorem H_raw (h : H d e W base ok (.slice (some ⟨g, 0, none⟩) n cap) xs i oki c) (h0 : 0 ≤ i) (h1 : i < n) :
  ∃ rows : List (List Value), rows.length = xs.length ∧ (raw d.sz).R e W base (fun _ => True) (.slice (some ⟨g, 0, none⟩) n cap) rows ∧ c.length = d.sz ∧ (∀ u ∈ c, u.oneCell' = true) ∧ (∀ j u, c[j]? = some u → W.cell? ⟨g, i.toNat * d.sz + j, none⟩ = some u) ∧
   ∀ w1 c', W.grownBy w1 (some g) → (raw d.sz).R e w1 base (fun _ => True) (.slice (some ⟨g, 0, none⟩) n cap) (rows.set i.toNat c') → H d e w1 base ok (.slice (some ⟨g, 0, none⟩) n cap) xs i oki c' := by
 obtain ⟨hoo, f, hR⟩ := h
 have hn := (R_reads' hR).1
 rw [List.length_zipIdx] at hn
 have hgo : some g = (Value.slice (some ⟨g, 0, none⟩) n cap).ownBlock := by simp [Value.ownBlock]
 obtain ⟨hok0, inner, ho, hr⟩ := hR
 have hil : i.toNat < xs.length := by omega
 have hlen : inner.length = xs.length * d.sz := by have := hr.1; rw [List.length_zipIdx] at this; exact this
 have hkg : ∀ k, some k ≠ (Value.slice (some ⟨g, 0, none⟩) n cap).ownBlock → k ≠ g := fun k hk he => hk (by rw [he]; exact hgo)
 have hci := (hr.2 i.toNat _ (zip_at (List.getElem?_eq_getElem hil))).1 rfl
 rw [hci.1] at hci
 have hc := ((hr.2 i.toNat _ (zip_at (List.getElem?_eq_getElem hil))).1 rfl).1
 refine ⟨(List.range xs.length).map fun j => (inner.drop (j * d.sz)).take d.sz, by rw [List.length_map, List.length_range], ⟨fun _ _ => trivial, inner, ?_, ?_, fun j p hj => ?_⟩, hci.2.1, hci.2.2, fun j u hu => ?_, fun w1 c' hg hraw => ?_⟩
 ·rw [List.length_map, List.length_range]; rw [List.length_zipIdx] at ho; exact ho
 ·rw [List.length_map, List.length_range]; exact hlen
 ·rw [List.getElem?_map] at hj
  obtain ⟨j', hj', rfl⟩ := Option.map_eq_some_iff.1 hj
  obtain ⟨hl, he⟩ := List.getElem?_eq_some_iff.1 hj'
  rw [List.getElem_range] at he
  subst he
  rw [List.length_range] at hl
  have hm := (gap f d i.toNat c).K_of_M (hr.2 j _ (zip_at (List.getElem?_eq_getElem hl)))
  exact ⟨rfl, (gap f d i.toNat c).K_len hm, (gap f d i.toNat c).K_one hm⟩
 ·rw [← hc, List.getElem?_take] at hu
  split at hu
  ·rw [List.getElem?_drop] at hu
   have := ho.cells (g := g) hgo.symm _ u hu
   rwa [add_plain] at this
  ·cases hu
 ·obtain ⟨_, inner', ho', hr'⟩ := hraw
  have hl' : inner'.length = xs.length * d.sz := by have := hr'.1; rw [List.length_set, List.length_map, List.length_range] at this; exact this
  rw [List.length_set, List.length_map, List.length_range] at ho'
  refine ⟨hoo, f, hok0, inner', by rw [List.length_zipIdx]; exact ho', by rw [List.length_zipIdx]; exact hl', fun m p hm => ?_⟩
  rw [List.getElem?_zipIdx, Nat.zero_add] at hm
  obtain ⟨q, hq, rfl⟩ := Option.map_eq_some_iff.1 hm
  have hml : m < xs.length := (List.getElem?_eq_some_iff.1 hq).1
  have hold := hr.2 m (q, m) (zip_at hq)
  refine ⟨fun hx => ?_, fun hx => ?_⟩
  ·have hx' : m = i.toNat := hx
   subst hx'
   exact hr'.2 i.toNat c' (List.getElem?_set_self (by rw [List.length_map, List.length_range]; exact hml))
  ·have hx' : m ≠ i.toNat := hx
   have hcm := (hr'.2 m ((inner.drop (m * d.sz)).take d.sz) (by
    rw [List.getElem?_set_ne (Ne.symm hx'), List.getElem?_map, List.getElem?_eq_getElem (by rw [List.length_range]; exact hml), List.getElem_range]
    rfl)).1
   show d.M w1 base _ q ((inner'.drop (m * d.sz)).take d.sz)
   rw [show (inner'.drop (m * d.sz)).take d.sz = _ from hcm]
   exact d.M_mono (fun k hk => hk.1) (d.M_move (w1 := w1) (fun k hk => hg.block k hk.2.2.1 (fun he => hkg k hk.1.1.2 (by injection he))) (d.M_bound (hold.2 hx)))
theorem H_seg (h : H d e W base ok (.slice (some ⟨g, 0, none⟩) n cap) xs i oki c) (h0 : 0 ≤ i) (h1 : i < n) {seg : List Value} {j : Nat} (hj : j + seg.length ≤ d.sz) (hone : ∀ q ∈ seg, q.oneCell' = true) :
  H d e (W.setCells g (i.toNat * d.sz + j) seg) base ok (.slice (some ⟨g, 0, none⟩) n cap) xs i oki (c.take j ++ seg ++ c.drop (j + seg.length)) ∧ W.grownBy (W.setCells g (i.toNat * d.sz + j) seg) (some g) := by
 obtain ⟨rows, _, hraw, hcl, hco, hcc, hback⟩ := H_raw h h0 h1
 obtain ⟨h2, h3⟩ := R_seg hraw i h0 h1 (c := c) (seg := seg) (j := j) (x' := c.take j ++ seg ++ c.drop (j + seg.length)) (okp := fun _ => False) hcl hcc hj
  ⟨rfl, by
   show (c.take j ++ seg ++ c.drop (j + seg.length)).length = d.sz
   simp only [List.length_append, List.length_take, List.length_drop]; omega, fun u hu => by
   rcases List.mem_append.1 hu with hu | hu
   ·rcases List.mem_append.1 hu with hu | hu
    ·exact hco u (List.mem_of_mem_take hu)
    ·exact hone u hu
   ·exact hco u (List.mem_of_mem_drop hu)⟩ (fun _ hk => hk.elim)
 exact ⟨hback _ _ h3 h2, h3⟩
theorem S_seg {okg : Nat → Prop} (hH : H d e W base (fun k => ok k ∧ ¬ okg k) (.slice (some ⟨g, 0, none⟩) n cap) xs i oki c) (h0 : 0 ≤ i) (h1 : i < n) {seg : List Value} {j : Nat} (hj : j + seg.length ≤ d.sz)
  {x' : α} (hM : d.M W base okp x' (c.take j ++ seg ++ c.drop (j + seg.length))) (hokp : ∀ k, okp k → oki k ∨ okg k) (hg : ∀ k, okg k → ok k ∧ k ≠ g) :
  S d e (W.setCells g (i.toNat * d.sz + j) seg) base ok (.slice (some ⟨g, 0, none⟩) n cap) (xs.set i.toNat x') ∧ W.grownBy (W.setCells g (i.toNat * d.sz + j) seg) (some g) := by
 have hne : ∀ k, oki k ∨ okg k → k ≠ g := by
  intro k hk he
  subst he
  rcases hk with hk | hk
  ·obtain ⟨_, f, hR⟩ := hH
   exact (hR.1 k (by simp [Value.ownBlock])).2 hk
  ·exact (hg k hk).2 rfl
 obtain ⟨h2, h3⟩ := H_seg (H_more hH (fun k hk => (hg k hk).1)) h0 h1 hj (fun q hq => d.K_one (d.K_of_M hM) q (List.mem_append_left _ (List.mem_append_right _ hq)))
 exact ⟨H_back h2 (M_step hM (fun k hk hlt => h3.block k hlt (fun he => hne k (hokp k hk) (by injection he)))) hokp, h3⟩
end
end Kd
end Go.Proofs.YtbkfnmgkcgnifaaGreatW.PrintWords
namespace Go.Proofs.YtbkfnmgkcgnifaaGreatW.PrintWords
open Go.RowKit
def Kept (w W : World) (S : Nat → Prop) : Prop := w.heap.size ≤ W.heap.size ∧ ∀ i, i < w.heap.size → ¬ S i → W.heap[i]? = w.heap[i]?
section
variable {w W W2 : World} {S S2 S' : Nat → Prop}
theorem Kept.refl (w : World) (S : Nat → Prop) : Kept w w S := ⟨Nat.le_refl _, fun _ _ _ => rfl⟩
theorem Kept.of_below (h : Below w.heap.size w W) (S : Nat → Prop) : Kept w W S := ⟨h.size, fun i hi _ => h.block i hi⟩
theorem Kept.mono (h : Kept w W S) (hs : ∀ k, S k → S' k) : Kept w W S' := ⟨h.1, fun i hi hn => h.2 i hi (fun hk => hn (hs i hk))⟩
theorem Kept.then_ (h : Kept w W S) (k : Kept W W2 S2) (hs : ∀ k, S2 k → S k ∨ w.heap.size ≤ k) : Kept w W2 S :=
 ⟨Nat.le_trans h.1 k.1, fun i hi hn => (k.2 i (Nat.lt_of_lt_of_le hi h.1) (fun h2 => (hs i h2).elim hn (fun h3 => by omega))).trans (h.2 i hi hn)⟩
theorem Kept.of_grown {row : Option Nat} (hg : W.grownBy W2 row) (h : Kept w W S) (hr : ∀ k, row = some k → S k ∨ w.heap.size ≤ k) : Kept w W2 S :=
 h.then_ (S2 := fun k => row = some k) ⟨hg.size, fun i hi hn => hg.block i hi (fun he => hn he.symm)⟩ hr
theorem Kept.below (h : Kept w W S) (hb : Below W.heap.size W W2) : Kept w W2 S := h.then_ (Kept.of_below hb (fun _ => False)) (fun _ hk => hk.elim)
theorem Kept.drew (h : Kept w W S) : Kept w W.drew S := h
theorem blk_kept {g : Nat} {o : Obj} (hb : W.heap[g]? = some o) (hk : Kept W W2 S) (hne : ¬ S g) : W2.heap[g]? = some o := (hk.2 g (blk_lt hb) hne).trans hb
theorem cellKept {a : Addr} {v : Value} (hc : W.cell? a = some v) (hk : Kept W W2 S) (hne : ¬ S a.block) : W2.cell? a = some v := by
 have := hk.2 a.block (World.block_lt_of_cell? W a hc) hne
 simpa [World.cell?, this] using hc
end
namespace Kd
section
variable {α : Type} {d : Kd α} {e base n c : Nat} {ok oki S S2 : Nat → Prop} {w w0 W W1 W2 : World} {v : Value} {A : Option Addr} {xs : List α} {i : Int} {cs : List Value}
theorem R_kept (h : d.R e W base ok v xs) (hk : Kept W W2 S) (hne : ∀ k, ok k → ¬ S k) : d.R e W2 base ok v xs := R_step h (fun k ho hlt => hk.2 k hlt (hne k ho))
theorem S_kept (h : Kd.S d e W base ok v xs) (hk : Kept W W2 S) (hne : ∀ k, ok k → ¬ S k) : Kd.S d e W2 base ok v xs := S_step h (fun k ho hlt => hk.2 k hlt (hne k ho))
end
end Kd
end Go.Proofs.YtbkfnmgkcgnifaaGreatW.PrintWords
namespace Go.Proofs.YtbkfnmgkcgnifaaGreat
open Go.RowKit Go.Shelf Go.Proofs.YtbkfnmgkcgnifaaGreatW.PrintWords Mdl Go.ChangeMaps
namespace Mdl
abbrev Led := List (Mk × Int)
def getL (L : Led) (m : Mk) : Int := ((L.find? (fun e => e.1 == m)).map (·.2)).getD 0
def insK (m : Mk) (s : Int) : Led → Led
 | [] => [(m, s)]
 | y :: r => if 0 ≤ cmpM m y.1 then y :: insK m s r else (m, s) :: y :: r
def enterL (L : Led) (m : Mk) (n : Int) : Led :=
 if w64 (getL L m + n) = 0 then L.filter (fun e => !(e.1 == m)) else insK m (w64 (getL L m + n)) (L.filter (fun e => !(e.1 == m)))
theorem insK_perm (m : Mk) (s : Int) : ∀ L : Led, (insK m s L).Perm ((m, s) :: L)
 | [] => List.Perm.refl _
 | y :: r => by
  unfold insK
  split
  ·exact ((insK_perm m s r).cons y).trans (List.Perm.swap _ _ _)
  ·exact List.Perm.refl _
theorem filter_none {L : Led} {m : Mk} (h : ∀ e ∈ L, e.1 ≠ m) : L.filter (fun e => !(e.1 == m)) = L := List.filter_eq_self.2 (fun e he => by simpa using h e he)
theorem getL_none {L : Led} {m : Mk} (h : ∀ e ∈ L, e.1 ≠ m) : getL L m = 0 := by
 unfold getL
 rw [List.find?_eq_none.2 (fun e he => by simpa using h e he)]; rfl
theorem getL_mem {L : Led} {m : Mk} {v : Int} (hn : (L.map (·.1)).Nodup) (h : (m, v) ∈ L) : getL L m = v := by
 induction L with
 | nil => cases h
 | cons y r ih =>
  rw [List.map_cons, List.nodup_cons] at hn
  unfold getL
  by_cases hy : y.1 = m
  ·rw [List.find?_cons_of_pos (by simpa using hy)]
   rcases List.mem_cons.1 h with h | h
   ·subst h; rfl
   ·exact absurd (List.mem_map.2 ⟨(m, v), h, hy.symm⟩) hn.1
  ·rw [List.find?_cons_of_neg (by simpa using hy)]
   rcases List.mem_cons.1 h with h | h
   ·subst h; exact absurd rfl hy
   ·exact ih hn.2 h
end Mdl
abbrev Ent := Mk × Int × Nat
def entV (e : Ent) : MapEntry := { key := mkV e.1, val := .int .i64 e.2.1, born := e.2.2 }
def prs (es : List Ent) : Led := es.map fun e => (e.1, e.2.1)
def LedAt (w : World) (b : Nat) (L : Led) : Prop :=
 ∃ (es : List Ent) (clock : Nat), w.heap[b]? = some (.map (es.map entV).toArray clock) ∧ (es.map (·.2.2)).Nodup ∧ (∀ e ∈ es, e.2.2 < clock) ∧ (prs es).Perm L ∧ (L.map (·.1)).Nodup
def findI (m : Mk) : List Ent → Nat → Option (Nat × Value)
 | [], _ => none
 | e :: es, i => if (m == e.1) = true then some (i, .int .i64 e.2.1) else findI m es (i + 1)
theorem findI_spec (m : Mk) : ∀ (es : List Ent) (i : Nat), (findI m es i = none ∧ ∀ e ∈ es, e.1 ≠ m) ∨ ∃ A e B, es = A ++ e :: B ∧ e.1 = m ∧ (∀ a ∈ A, a.1 ≠ m) ∧ findI m es i = some (i + A.length, .int .i64 e.2.1)
 | [], i => .inl ⟨rfl, by simp⟩
 | e :: es, i => by
  by_cases h : (m == e.1) = true
  ·exact .inr ⟨[], e, es, rfl, (by simpa using h : m = e.1).symm, by simp, by simp [findI, h]⟩
  ·rcases findI_spec m es (i + 1) with ⟨h1, h2⟩ | ⟨A, e', B, h1, h2, h3, h4⟩
   ·refine .inl ⟨by simp [findI, h, h1], fun x hx => ?_⟩
    rcases List.mem_cons.1 hx with rfl | hx
    ·intro he; exact h (by simp [he])
    ·exact h2 x hx
   ·refine .inr ⟨e :: A, e', B, by rw [h1]; rfl, h2, fun x hx => ?_, ?_⟩
    ·rcases List.mem_cons.1 hx with rfl | hx
     ·intro he; exact h (by simp [he])
     ·exact h3 x hx
    ·rw [List.length_cons, show i + (A.length + 1) = i + 1 + A.length by omega, ← h4]
     simp only [findI]
     rw [if_neg h]
theorem run_check (b : Bool) (m : Mk) (w : World) : (Instr.checkKey b 10000 101 (mkV m)).run Tryz.prog w = .ok () w := by kernel_rfl
theorem run_asking (m : Mk) (w : World) : ∀ (es : List Ent) (i : Nat), (Instr.findAsking 101 (mkV m) (es.map entV) i).run Tryz.prog w = .ok (findI m es i) w
 | [], i => rfl
 | e :: es, i => by
  have h : (Op.equal 101 (mkV m) (mkV e.1)).run Tryz.prog w = .ok (m == e.1) w := eq_mark 9997 m e.1 w
  simp only [List.map_cons, entV, Instr.findAsking, Sem.run_bind, h, Result.andThen_ok, findI]
  cases hm : (m == e.1)
  ·simp only [Bool.false_eq_true, if_false]
   exact run_asking m w es (i + 1)
  ·rfl
theorem run_find (m : Mk) (es : List Ent) (w : World) : (Instr.findKey 101 (mkV m) (es.map entV)).run Tryz.prog w = .ok (findI m es 0) w := by
 unfold Instr.findKey
 have hu : (underlying 101).run Tryz.prog w = .ok (.struct (Tryz.prog.fieldsOf 101)) w := by kernel_rfl
 simp only [Sem.run_bind, hu, Result.andThen_ok]
 cases es with
 | nil => rfl
 | cons e es =>
  have : Instr.findNow (.struct (Tryz.prog.fieldsOf 101)) (mkV m) ((e :: es).map entV) 0 = none := rfl
  rw [this]
  exact run_asking m w (e :: es) 0
theorem LedAt.perm {w : World} {b : Nat} {L L' : Led} (h : LedAt w b L) (hp : L.Perm L') : LedAt w b L' := by
 obtain ⟨es, clock, h1, h2, h3, h4, h5⟩ := h
 exact ⟨es, clock, h1, h2, h3, h4.trans hp, (hp.map _).nodup_iff.1 h5⟩
theorem LedAt.lt {w : World} {b : Nat} {L : Led} (h : LedAt w b L) : b < w.heap.size := by
 obtain ⟨es, clock, h1, _⟩ := h
 exact blk_lt h1
theorem LedAt.kept {w w' : World} {b : Nat} {L : Led} {S : Nat → Prop} (h : LedAt w b L) (hk : Kept w w' S) (hn : ¬ S b) : LedAt w' b L := by
 obtain ⟨es, clock, h1, h2⟩ := h
 exact ⟨es, clock, blk_kept h1 hk hn, h2⟩
theorem LedAt.below {w w' : World} {b : Nat} {L : Led} (h : LedAt w b L) (hb : Below w.heap.size w w') : LedAt w' b L := h.kept (Kept.of_below hb (fun _ => False)) (fun h => h)
theorem setBlock_grown (w : World) (b : Nat) (o : Obj) : w.grownBy (setBlock w b o) (some b) :=
 ⟨rfl, rfl, rfl, by simp [setBlock], fun k _ hn => by
  have : k ≠ b := fun h => hn (by rw [h])
  simp [setBlock, Array.getElem?_setIfInBounds, Ne.symm this]⟩
theorem setBlock_at {w : World} {b : Nat} {o o' : Obj} (h : w.heap[b]? = some o') : (setBlock w b o).heap[b]? = some o := by
 simp [setBlock, Array.getElem?_setIfInBounds, blk_lt h]
theorem sameBits_mk (m : Mk) : Instr.sameBits 10000 (mkV m) (mkV m) = true := by
 obtain ⟨a, b, c, d⟩ := m
 simp [mkV, Instr.sameBits]
theorem getL_es {es : List Ent} {L : Led} (h : (prs es).Perm L) (hn : (L.map (·.1)).Nodup) (m : Mk) :
  (findI m es 0 = none ∧ (∀ e ∈ es, e.1 ≠ m) ∧ getL L m = 0 ∧ L.filter (fun e => !(e.1 == m)) = L) ∨
  ∃ A e B, es = A ++ e :: B ∧ e.1 = m ∧ findI m es 0 = some (A.length, .int .i64 e.2.1) ∧ getL L m = e.2.1 ∧ (prs (A ++ B)).Perm (L.filter (fun e => !(e.1 == m))) ∧ (∀ a ∈ A ++ B, a.1 ≠ m) := by
 have hnE : ((prs es).map (·.1)).Nodup := (h.map _).nodup_iff.2 hn
 rcases findI_spec m es 0 with ⟨h1, h2⟩ | ⟨A, e, B, rfl, h2, h3, h4⟩
 ·have hL : ∀ e ∈ L, e.1 ≠ m := fun e he => by
   obtain ⟨x, hx, rfl⟩ := List.mem_map.1 (h.mem_iff.2 he)
   exact h2 x hx
  exact .inl ⟨h1, h2, getL_none hL, filter_none hL⟩
 ·have hB : ∀ a ∈ B, a.1 ≠ m := fun a ha he => by
   simp only [prs, List.map_append, List.map_cons, List.map_map] at hnE
   have := (List.nodup_append.1 hnE).2.1
   rw [List.nodup_cons] at this
   exact this.1 (List.mem_map.2 ⟨a, ha, by simp [he, h2]⟩)
  have hAB : ∀ a ∈ A ++ B, a.1 ≠ m := fun a ha => (List.mem_append.1 ha).elim (h3 a) (hB a)
  refine .inr ⟨A, e, B, rfl, h2, by rw [h4, Nat.zero_add], getL_mem hn (h.mem_iff.1 (List.mem_map.2 ⟨e, by simp, by rw [h2]⟩)), ?_, hAB⟩
  have hf := h.filter (fun e => !(e.1 == m))
  have : (prs (A ++ e :: B)).filter (fun e => !(e.1 == m)) = prs (A ++ B) := by
   simp only [prs, List.map_append, List.map_cons, List.filter_append]
   rw [List.filter_cons_of_neg (by simp [h2])]
   have f1 : (A.map fun e => (e.1, e.2.1)).filter (fun e => !(e.1 == m)) = A.map fun e => (e.1, e.2.1) := filter_none (fun x hx => by
    obtain ⟨y, hy, rfl⟩ := List.mem_map.1 hx
    exact h3 y hy)
   have f2 : (B.map fun e => (e.1, e.2.1)).filter (fun e => !(e.1 == m)) = B.map fun e => (e.1, e.2.1) := filter_none (fun x hx => by
    obtain ⟨y, hy, rfl⟩ := List.mem_map.1 hx
    exact hB y hy)
   rw [f1, f2]
  rw [this] at hf
  exact hf
theorem run_lookup_led {w : World} {b : Nat} {L : Led} (h : LedAt w b L) (m : Mk) : (Instr.lookup 86 (.map (some b)) (mkV m) false).run Tryz.prog w = .ok (.int .i64 (getL L m)) w := by
 obtain ⟨es, clock, h1, h2, h3, h4, h5⟩ := h
 have hu : (underlying 86).run Tryz.prog w = .ok (.map 101 3) w := by kernel_rfl
 have hz : (zeroValue 3).run Tryz.prog w = .ok (.int .i64 0) w := by kernel_rfl
 unfold Instr.lookup
 simp only [Sem.run_bind, hu, Result.andThen_ok, MapKept.run_getObj_map h1, Sem.run_pure, run_check, run_find]
 rcases getL_es h4 h5 m with ⟨g1, _, g2, _⟩ | ⟨A, e, B, _, _, g1, g2, _⟩
 ·simp [g1, hz, g2, Result.andThen]
 ·simp [g1, g2, Result.andThen]
theorem LedAt.with_ {w : World} {b : Nat} {L : Led} {m : Mk} {s : Int} {A B : List Ent} {clock st : Nat} (hb : w.heap[b]? = some (.map ((A ++ (m, s, st) :: B).map entV).toArray clock))
  (hn : ((A ++ (m, s, st) :: B).map (·.2.2)).Nodup) (hc : ∀ e ∈ A ++ (m, s, st) :: B, e.2.2 < clock) (hp : (prs (A ++ B)).Perm (L.filter (fun e => !(e.1 == m)))) (hL : (L.map (·.1)).Nodup) : LedAt w b (insK m s (L.filter (fun e => !(e.1 == m)))) := by
 refine ⟨_, clock, hb, hn, hc, ?_, ?_⟩
 ·refine List.Perm.trans ?_ (insK_perm m s _).symm
  refine List.Perm.trans ?_ (hp.cons (m, s))
  simp only [prs, List.map_append, List.map_cons]
  exact List.perm_middle
 ·have := (insK_perm m s (L.filter (fun e => !(e.1 == m)))).map (·.1)
  rw [this.nodup_iff, List.map_cons, List.nodup_cons]
  refine ⟨fun hm => ?_, (List.filter_sublist.map _).nodup hL⟩
  obtain ⟨x, hx, he⟩ := List.mem_map.1 hm
  have := (List.mem_filter.1 hx).2
  have he : x.1 = m := he
  simp [he] at this
theorem run_entry_led {w : World} {b : Nat} {L : Led} (h : LedAt w b L) (m : Mk) :
  ∃ w1 st, (Instr.mapEntry 86 (.map (some b)) (mkV m)).run Tryz.prog w = .ok (.tuple #[.int .i64 (getL L m), .int .i64 st]) w1 ∧ w.grownBy w1 (some b) ∧ w1.heap.size = w.heap.size ∧ (Instr.lookup 86 (.map (some b)) (mkV m) false).run Tryz.prog w1 = .ok (.int .i64 (getL L m)) w1 ∧
   ∀ s w2, w2.heap[b]? = w1.heap[b]? → ∃ w3, (Instr.entryStore 86 (.map (some b)) (.int .i64 st) (.int .i64 s)).run Tryz.prog w2 = .ok () w3 ∧ w2.grownBy w3 (some b) ∧ w3.heap.size = w2.heap.size ∧ LedAt w3 b (insK m s (L.filter (fun e => !(e.1 == m)))) := by
 obtain ⟨es, clock, h1, h2, h3, h4, h5⟩ := h
 have hu : ∀ w, (underlying 86).run Tryz.prog w = .ok (.map 101 3) w := fun _ => by kernel_rfl
 have hz : ∀ w, (zeroValue 3).run Tryz.prog w = .ok (.int .i64 0) w := fun _ => by kernel_rfl
 have store : ∀ (A B : List Ent) (s0 : Int) (st ck : Nat) (s : Int) (w2 : World), w2.heap[b]? = some (.map ((A ++ (m, s0, st) :: B).map entV).toArray ck) → ((A ++ (m, s0, st) :: B).map (·.2.2)).Nodup → (∀ e ∈ A ++ (m, s0, st) :: B, e.2.2 < ck) → (prs (A ++ B)).Perm (L.filter (fun e => !(e.1 == m))) →
   ∃ w3, (Instr.entryStore 86 (.map (some b)) (.int .i64 st) (.int .i64 s)).run Tryz.prog w2 = .ok () w3 ∧ w2.grownBy w3 (some b) ∧ w3.heap.size = w2.heap.size ∧ LedAt w3 b (insK m s (L.filter (fun e => !(e.1 == m)))) := by
  intro A B s0 st ck s w2 hb hn hc hp
  refine ⟨setBlock w2 b (.map ((A ++ (m, s, st) :: B).map entV).toArray ck), ?_, setBlock_grown _ _ _, by simp [setBlock], LedAt.with_ (setBlock_at hb) (by simpa using hn) (fun e he => ?_) hp h5⟩
  ·have hf : (((A ++ (m, s0, st) :: B).map entV).toArray).findIdx? (fun e => (e.born : Int) == st) = some A.length := by
    rw [List.findIdx?_toArray, List.map_append, List.map_cons, List.findIdx?_append]
    have hnA : (A.map entV).findIdx? (fun e => (e.born : Int) == st) = none := by
     rw [List.findIdx?_eq_none_iff]
     intro x hx
     obtain ⟨y, hy, rfl⟩ := List.mem_map.1 hx
     rw [List.map_append, List.nodup_append] at hn
     have := hn.2.2 y.2.2 (List.mem_map.2 ⟨y, hy, rfl⟩) st (by simp)
     simp only [entV, beq_eq_false_iff_ne, ne_eq]
     omega
    rw [hnA]
    simp [entV, List.findIdx?_cons]
   have hm : (((A ++ (m, s0, st) :: B).map entV).toArray).modify A.length (fun e => { e with val := .int .i64 s }) = ((A ++ (m, s, st) :: B).map entV).toArray := by
    apply Array.ext_getElem?
    intro i
    simp only [List.map_append, List.map_cons, Array.getElem?_modify, List.getElem?_toArray]
    by_cases hi : A.length = i
    ·subst hi
     simp [entV, List.getElem?_append_right]
    ·rw [if_neg hi]
     by_cases hlt : i < A.length
     ·rw [List.getElem?_append_left (by simpa using hlt), List.getElem?_append_left (by simpa using hlt)]
     ·rw [List.getElem?_append_right (by simp; omega), List.getElem?_append_right (by simp; omega)]
      obtain ⟨j, hj⟩ : ∃ j, i - (A.map entV).length = j + 1 := ⟨i - A.length - 1, by simp; omega⟩
      rw [hj]; rfl
   have ha : (asInt (.int .i64 (st : Int))).run Tryz.prog w2 = .ok (st : Int) w2 := rfl
   simp only [Instr.entryStore, Sem.run_bind, MapKept.run_getObj_map hb, Result.andThen_ok, ha, hf, hm, MapKept.run_setObj_map _ hb]
   rfl
  ·rcases List.mem_append.1 he with he | he
   ·exact hc e (by simp [he])
   ·rcases List.mem_cons.1 he with rfl | he
    ·exact hc (m, s0, st) (by simp)
    ·exact hc e (by simp [he])
 rcases getL_es h4 h5 m with ⟨g1, gn, g2, gf⟩ | ⟨A, e, B, rfl, ge, g1, g2, g3, _⟩
 ·have hb2 : (setBlock w b (.map ((es ++ [(m, 0, clock)]).map entV).toArray (clock + 1))).heap[b]? = some (.map ((es ++ [(m, 0, clock)]).map entV).toArray (clock + 1)) := setBlock_at h1
  refine ⟨_, clock, ?_, setBlock_grown w b (.map ((es ++ [(m, 0, clock)]).map entV).toArray (clock + 1)), by simp [setBlock], ?_, fun s w2 hw => ?_⟩
  ·have hp : (es.map entV).toArray.push { key := mkV m, val := .int .i64 0, born := clock } = ((es ++ [(m, 0, clock)]).map entV).toArray := by simp [entV]
   simp only [Instr.mapEntry, Sem.run_bind, hu, Result.andThen_ok, MapKept.run_getObj_map h1, run_check, run_find, g1, hz, hp, MapKept.run_setObj_map _ h1, g2]
   rfl
  ·have hl : LedAt (setBlock w b (.map ((es ++ [(m, 0, clock)]).map entV).toArray (clock + 1))) b (insK m 0 (L.filter (fun e => !(e.1 == m)))) :=
    LedAt.with_ (A := es) (B := []) (st := clock) (clock := clock + 1) hb2 (by
     rw [List.map_append, List.nodup_append]
     refine ⟨h2, by simp, fun x hx y hy => ?_⟩
     obtain ⟨z, hz, rfl⟩ := List.mem_map.1 hx
     have := h3 z hz
     simp at hy
     omega) (fun e he => by
     rcases List.mem_append.1 he with he | he
     ·have := h3 e he; omega
     ·rw [List.mem_singleton.1 he]; exact Nat.lt_succ_self _) (by rw [List.append_nil, gf]; exact h4) h5
   have := run_lookup_led hl m
   rw [this, g2, getL_mem (m := m) (v := 0)]
   ·obtain ⟨_, _, _, _, _, _, hn⟩ := hl
    exact hn
   ·exact (insK_perm m 0 _).mem_iff.2 List.mem_cons_self
  ·refine store es [] 0 clock (clock + 1) s w2 (hw.trans hb2) ?_ ?_ (by rw [List.append_nil, gf]; exact h4)
   ·rw [List.map_append, List.nodup_append]
    refine ⟨h2, by simp, fun x hx y hy => ?_⟩
    obtain ⟨z, hz, rfl⟩ := List.mem_map.1 hx
    have := h3 z hz
    simp at hy
    omega
   ·intro e he
    rcases List.mem_append.1 he with he | he
    ·have := h3 e he; omega
    ·rw [List.mem_singleton.1 he]; exact Nat.lt_succ_self _
 ·obtain ⟨em, ev, est⟩ := e
  have ge : em = m := ge
  subst ge
  refine ⟨setBlock w b (.map ((A ++ (em, ev, est) :: B).map entV).toArray clock), est, ?_, setBlock_grown _ _ _, by simp [setBlock], ?_, fun s w2 hw => store A B ev est clock s w2 (hw.trans (setBlock_at h1)) h2 h3 g3⟩
  ·have hget : (((A ++ (em, ev, est) :: B).map entV).toArray)[A.length]? = some (entV (em, ev, est)) := by
    simp [List.getElem?_append_right]
   have hm : (((A ++ (em, ev, est) :: B).map entV).toArray).modify A.length (fun e => { e with key := mkV em }) = ((A ++ (em, ev, est) :: B).map entV).toArray := by
    apply Array.ext_getElem?
    intro i
    rw [Array.getElem?_modify]
    by_cases hi : A.length = i
    ·subst hi
     rw [if_pos rfl, hget]; rfl
    ·rw [if_neg hi]
   have hk : ∀ w, (Instr.keyThatStays (entV (em, ev, est)).key (mkV em)).run Tryz.prog w = .ok (mkV em) w := fun w => by
    unfold Instr.keyThatStays
    rw [if_pos (show Instr.sameBits 10000 (entV (em, ev, est)).key (mkV em) = true from sameBits_mk em)]; rfl
   simp only [Instr.mapEntry, Sem.run_bind, hu, Result.andThen_ok, MapKept.run_getObj_map h1, run_check, run_find, g1, hget, Option.map_some, Option.getD_some, hk]
   rw [hm]
   simp only [MapKept.run_setObj_map _ h1, Result.andThen_ok, g2]
   rfl
  ·have hl : LedAt (setBlock w b (.map ((A ++ (em, ev, est) :: B).map entV).toArray clock)) b L := ⟨_, clock, setBlock_at h1, h2, h3, h4, h5⟩
   exact run_lookup_led hl em
theorem run_delete_led {w : World} {b : Nat} {L : Led} (h : LedAt w b L) (m : Mk) (ty : TypeId) :
  ∃ w1, (Builtin.delete_ #[86, 101] ty #[.map (some b), mkV m]).run Tryz.prog w = .ok (.tuple #[]) w1 ∧ w.grownBy w1 (some b) ∧ w1.heap.size = w.heap.size ∧ LedAt w1 b (L.filter (fun e => !(e.1 == m))) := by
 obtain ⟨es, clock, h1, h2, h3, h4, h5⟩ := h
 have hu : ∀ w, (underlying 86).run Tryz.prog w = .ok (.map 101 3) w := fun _ => by kernel_rfl
 rcases getL_es h4 h5 m with ⟨g1, gn, g2, gf⟩ | ⟨A, e, B, rfl, ge, g1, g2, g3, _⟩
 ·refine ⟨setBlock w b (.map (es.map entV).toArray clock), ?_, setBlock_grown _ _ _, by simp [setBlock], ?_⟩
  ·simp only [Builtin.delete_, Sem.run_bind, List.getElem?_toArray, List.getElem?_cons_zero, List.getElem?_cons_succ, hu, Result.andThen_ok, MapKept.run_getObj_map h1, run_check, run_find, g1, MapKept.run_setObj_map _ h1]
   rfl
  ·rw [gf]; exact ⟨es, clock, setBlock_at h1, h2, h3, h4, h5⟩
 ·have he : (((A ++ e :: B).map entV).toArray).eraseIdxIfInBounds A.length = ((A ++ B).map entV).toArray := by
   rw [List.eraseIdxIfInBounds_toArray]
   congr 1
   rw [← map_eraseIdx]
   congr 1
   rw [List.eraseIdx_append_of_length_le (Nat.le_refl _), Nat.sub_self]; rfl
  refine ⟨setBlock w b (.map ((A ++ B).map entV).toArray clock), ?_, setBlock_grown _ _ _, by simp [setBlock], ?_⟩
  ·simp only [Builtin.delete_, Sem.run_bind, List.getElem?_toArray, List.getElem?_cons_zero, List.getElem?_cons_succ, hu, Result.andThen_ok, MapKept.run_getObj_map h1, run_check, run_find, g1, he, MapKept.run_setObj_map _ h1]
   rfl
  ·have hsub : (A ++ B).Sublist (A ++ e :: B) := List.Sublist.append (List.Sublist.refl _) (List.sublist_cons_self _ _)
   exact ⟨A ++ B, clock, setBlock_at h1, (hsub.map _).nodup h2, fun x hx => h3 x (hsub.subset hx), g3, (List.filter_sublist.map _).nodup h5⟩
end Go.Proofs.YtbkfnmgkcgnifaaGreat
namespace Go.Proofs.YtbkfnmgkcgnifaaGreatW.PrintWords
open Go.RowKit
theorem cell_grown {W w1 : World} {row : Option Nat} (hg : W.grownBy w1 row) {a : Addr} {v : Value} (h : W.cell? a = some v) (hne : some a.block ≠ row) : w1.cell? a = some v := by
 have := hg.block a.block (World.block_lt_of_cell? W a h) hne
 simpa [World.cell?, this] using h
namespace Kd
section
variable {α : Type} {d : Kd α} {e base g n cap : Nat} {ok oki okp : Nat → Prop} {W : World} {xs : List α} {i : Int} {c : List Value}
theorem H_at (h : H d e W base ok (.slice (some ⟨g, 0, none⟩) n cap) xs i oki c) (h0 : 0 ≤ i) (h1 : i < n) : (∀ j u, c[j]? = some u → W.cell? ⟨g, i.toNat * d.sz + j, none⟩ = some u) ∧ ∀ j, W.frozen? ⟨g, i.toNat * d.sz + j, none⟩ = false := by
 obtain ⟨rows, _, hraw, _, _, hcc, _⟩ := H_raw h h0 h1
 obtain ⟨_, _, _, _, hfr⟩ := R_elem hraw [] i h0 h1
 exact ⟨hcc, hfr⟩
theorem S_seg0 (hH : H d e W base ok (.slice (some ⟨g, 0, none⟩) n cap) xs i oki c) (h0 : 0 ≤ i) (h1 : i < n) {seg : List Value} {j : Nat} (hj : j + seg.length ≤ d.sz)
  {x' : α} (hM : d.M W base okp x' (c.take j ++ seg ++ c.drop (j + seg.length))) (hokp : ∀ k, okp k → oki k) :
  S d e (W.setCells g (i.toNat * d.sz + j) seg) base ok (.slice (some ⟨g, 0, none⟩) n cap) (xs.set i.toNat x') ∧ W.grownBy (W.setCells g (i.toNat * d.sz + j) seg) (some g) :=
 S_seg (okg := fun _ => False) (H_mono hH (fun _ hk => ⟨hk, fun h => h⟩)) h0 h1 hj hM (fun k hk => .inl (hokp k hk)) (fun _ hk => hk.elim)
end
section
variable {α : Type} {d : Kd α} {e base b b' g N : Nat} {ok ok1 : Nat → Prop} {W W2 w1 : World} {u v : Value} {xs ys : List α} {S : Nat → Prop}
theorem R_reok (hE : d.E = []) (h : d.R e W base ok1 v xs) (hok : ∀ k, v.ownBlock = some k → ok k) : d.R e W base ok v xs := R_mono (R_tight hE h) (fun k hk => hok k hk.symm)
end
end Kd
end Go.Proofs.YtbkfnmgkcgnifaaGreatW.PrintWords
namespace Go.Proofs.YtbkfnmgkcgnifaaGreat
open Go.RowKit Go.Shelf Go.Proofs.YtbkfnmgkcgnifaaGreatW.PrintWords Go.Proofs.YtbkfnmgkcgnifaaGreatW.PrintLast Mdl Go.ChangeMaps
set_option maxRecDepth 8000 in
set_option maxHeartbeats 4000000 in
theorem enter_any (b : Nat) (L : Led) (m : Mk) (n : Int) (w : World) (hL : LedAt w b L) :
  Calls Tryz.prog 46 #[.agg #[.map (some b)], mkV m, .int .i64 n] w fun e w' => e = .returned (.tuple #[]) ∧ w.grownBy w' (some b) ∧ LedAt w' b (enterL L m n) := by
 have HL := Aside0.mk hL
 clear hL
 simp only [mkV]
 go_enter Tryz.func46, Tryz.ntmps46
 go_upto_region 1 with fail
 have b2 : Below w.heap.size w ((w.alloc (.cells #[.map (some b)] 88)).alloc (.cells #[.int .i64 m.1, .int .i64 m.2.1, .int .i64 m.2.2.1, .int .i64 m.2.2.2] 101)) := two_new
 have hz2 : ((w.alloc (.cells #[.map (some b)] 88)).alloc (.cells #[.int .i64 m.1, .int .i64 m.2.1, .int .i64 m.2.2.1, .int .i64 m.2.2.2] 101)).heap.size = w.heap.size + 2 := by simp
 have k0 : ((w.alloc (.cells #[.map (some b)] 88)).alloc (.cells #[.int .i64 m.1, .int .i64 m.2.1, .int .i64 m.2.2.1, .int .i64 m.2.2.2] 101)).cell? ⟨w.heap.size, 0, none⟩ = some (.map (some b)) := pw_cell_below (below_new _ _) (new_cell w _ _ 0)
 have hbk : ((w.alloc (.cells #[.map (some b)] 88)).alloc (.cells #[.int .i64 m.1, .int .i64 m.2.1, .int .i64 m.2.2.1, .int .i64 m.2.2.2] 101)).heap[w.heap.size + 1]? = some (.cells #[.int .i64 m.1, .int .i64 m.2.1, .int .i64 m.2.2.1, .int .i64 m.2.2.2] 101 (0, 0)) := by
  have := heap_alloc_new (w.alloc (.cells #[.map (some b)] 88)) (.cells #[.int .i64 m.1, .int .i64 m.2.1, .int .i64 m.2.2.1, .int .i64 m.2.2.2] 101)
  simpa using this
 generalize ((w.alloc (.cells #[.map (some b)] 88)).alloc (.cells #[.int .i64 m.1, .int .i64 m.2.1, .int .i64 m.2.2.1, .int .i64 m.2.2.2] 101)) = w2 at *
 have k1 : w2.cell? ⟨w.heap.size + 1, 0, none⟩ = some (.int .i64 m.1) := (blk_cell hbk 0).trans rfl
 have k2 : w2.cell? ⟨w.heap.size + 1, 1, none⟩ = some (.int .i64 m.2.1) := (blk_cell hbk 1).trans rfl
 have k3 : w2.cell? ⟨w.heap.size + 1, 2, none⟩ = some (.int .i64 m.2.2.1) := (blk_cell hbk 2).trans rfl
 have k4 : w2.cell? ⟨w.heap.size + 1, 3, none⟩ = some (.int .i64 m.2.2.2) := (blk_cell hbk 3).trans rfl
 have HL2 := Aside0.mk (HL.out.below b2)
 have hlt := HL.out.lt
 have hlk : (Instr.lookup 86 (.map (some b)) (.agg #[.int .i64 m.1, .int .i64 m.2.1, .int .i64 m.2.2.1, .int .i64 m.2.2.2]) false).run Tryz.prog w2 = .ok (.int .i64 (getL L m)) w2 := run_lookup_led HL2.out m
 have hlkd : (Instr.lookup 86 (.map (some b)) (.agg #[.int .i64 m.1, .int .i64 m.2.1, .int .i64 m.2.2.1, .int .i64 m.2.2.2]) false).run Tryz.prog w2.drew = .ok (.int .i64 (getL L m)) w2.drew := run_lookup_led (L := L) (w := w2.drew) (HL2.out.below (below_drew1 (Below.refl _ _))) m
 refine start_ (n := 9) (S := fun w' => w'.cell? ⟨w.heap.size, 0, none⟩ = some (.map (some b)) ∧ w'.cell? ⟨w.heap.size + 1, 0, none⟩ = some (.int .i64 m.1) ∧ w'.cell? ⟨w.heap.size + 1, 1, none⟩ = some (.int .i64 m.2.1) ∧ w'.cell? ⟨w.heap.size + 1, 2, none⟩ = some (.int .i64 m.2.2.1) ∧ w'.cell? ⟨w.heap.size + 1, 3, none⟩ = some (.int .i64 m.2.2.2) ∧ (Instr.lookup 86 (.map (some b)) (.agg #[.int .i64 m.1, .int .i64 m.2.1, .int .i64 m.2.2.1, .int .i64 m.2.2.2]) false).run Tryz.prog w' = .ok (.int .i64 (getL L m)) w') (ds := [8]) (bs 9 0) (by kernel_rfl) rfl (by kernel_rfl) ⟨k0, k1, k2, k3, k4, hlkd⟩ (fun hHeld => ?_)
 clear hlk hlkd
 refine pu 0 6 (bs 9 1) ?_
 refine tk6 1 7 (bs 9 3) hHeld ?_
 refine tk6 2 8 (bs 9 7) hHeld ?_
 refine tk6 3 9 (bs 9 15) hHeld ?_
 refine pu 4 10 (bs 9 31) ?_
 refine pu 5 11 (bs 9 63) ?_
 have HLD := Aside0.mk (HL2.out.below (below_drew1 (Below.refl w2.heap.size w2)))
 have HWD := Lib.hid (And.intro (below_drew1 b2) (show w2.drew.heap.size = w.heap.size + 2 from hz2))
 clear hz2 b2 k0 k1 k2 k3 k4 hbk
 generalize w2.drew = wd at *
 obtain ⟨w3, st, hrun, hg3, hsz3, hlk3, hst3⟩ := run_entry_led HLD.out m
 have hrun : (Instr.mapEntry 86 (.map (some b)) (.agg #[.int .i64 m.1, .int .i64 m.2.1, .int .i64 m.2.2.1, .int .i64 m.2.2.2])).run Tryz.prog wd = .ok (.tuple #[.int .i64 (getL L m), .int .i64 st]) w3 := hrun
 refine on0 6 12 (bs 9 127) fun K hK => ?_
 refine va0 ?_
 have nb : ∀ k, b = k → k < w.heap.size := fun k hk => hk ▸ hlt
 have ng : ∀ k, w.heap.size ≤ k → some k ≠ some b := fun k hk he => by injection he with he; omega
 refine hK.out _ _ ⟨cell_grown hg3 hHeld.1 (ng _ (Nat.le_refl _)), cell_grown hg3 hHeld.2.1 (ng _ (Nat.le_succ _)), cell_grown hg3 hHeld.2.2.1 (ng _ (Nat.le_succ _)), cell_grown hg3 hHeld.2.2.2.1 (ng _ (Nat.le_succ _)), cell_grown hg3 hHeld.2.2.2.2.1 (ng _ (Nat.le_succ _)), hlk3⟩ (fun hHeld => ?_)
 clear hK K
 refine nm0 (some 12) ?_
 clear hrun
 refine pu 7 13 (bs 9 255) ?_
 obtain ⟨w4, hrun4, hg4, hsz4, hL4⟩ := hst3 (w64 (getL L m + n)) w3 rfl
 have hrun4 : (Instr.entryStore 86 (.map (some b)) (.int .i64 st) (.int .i64 (wrap64 (getL L m + n)))).run Tryz.prog w3 = .ok () w4 := by rw [w64_eq]; exact hrun4
 refine la0 8 (bs 9 511) (N := none) fun K hK => ?_
 refine sk0 ?_
 refine hK.out _ _ ?_
 clear hK K
 refine dn0 ?_
 have j0 := cell_grown hg4 hHeld.1 (ng _ (Nat.le_refl _))
 have j1 := cell_grown hg4 hHeld.2.1 (ng _ (Nat.le_succ _))
 have j2 := cell_grown hg4 hHeld.2.2.1 (ng _ (Nat.le_succ _))
 have j3 := cell_grown hg4 hHeld.2.2.2.1 (ng _ (Nat.le_succ _))
 have j4 := cell_grown hg4 hHeld.2.2.2.2.1 (ng _ (Nat.le_succ _))
 have HL4 := Aside0.mk hL4
 have HG4 := Lib.hid (show w.grownBy w4 (some b) from ((grownBy_below HWD.out.1).both hg3).both hg4)
 generalize hs : w64 (getL L m + n) = s at *
 have HS := Lib.hid hs
 have hlk4 : (Instr.lookup 86 (.map (some b)) (.agg #[.int .i64 m.1, .int .i64 m.2.1, .int .i64 m.2.2.1, .int .i64 m.2.2.2]) false).run Tryz.prog w4 = .ok (.int .i64 s) w4 := by
  have := run_lookup_led HL4.out m
  rw [getL_mem (m := m) (v := s) (by obtain ⟨_, _, _, _, _, _, hn⟩ := HL4.out; exact hn) ((insK_perm m s _).mem_iff.2 List.mem_cons_self)] at this
  exact this
 clear hs hL4 hHeld hlk3 hst3 hg3 hg4 hsz3 hsz4 hrun4
 by_cases h0 : s = 0
 ·subst h0
  obtain ⟨w5, hrun5, hg5, hsz5, hL5⟩ := run_delete_led HL4.out m 0
  have hrun5 : ∀ ty, (Builtin.delete_ #[86, 101] ty #[.map (some b), .agg #[.int .i64 m.1, .int .i64 m.2.1, .int .i64 m.2.2.1, .int .i64 m.2.2.2]]).run Tryz.prog w4 = .ok (.tuple #[]) w5 := fun _ => hrun5
  go_wp2_with fail
  go_end0
  refine ⟨rfl, HG4.out.both hg5, ?_⟩
  unfold enterL
  rw [HS.out, if_pos rfl]
  refine hL5.perm ?_
  have h1 := (insK_perm m 0 (L.filter (fun e => !(e.1 == m)))).filter (fun e => !(e.1 == m))
  refine h1.trans ?_
  rw [List.filter_cons_of_neg (by simp)]
  rw [filter_none (fun e he => by have := (List.mem_filter.1 he).2; simpa using this)]
 ·have h0b : (s == 0) = false := by simpa using h0
  go_wp2_with fail
  go_end0
  refine ⟨rfl, HG4.out, ?_⟩
  have := HL4.out
  unfold enterL
  rw [HS.out, if_neg h0]
  exact this
set_option maxRecDepth 8000 in
theorem newLedger_any (w : World) : Calls Tryz.prog 44 #[] w fun e w' => ∃ b, e = .returned (.agg #[.map (some b)]) ∧ w.heap.size ≤ b ∧ Below w.heap.size w w' ∧ LedAt w' b [] := by
 have hmm : (Instr.makeMap 86 none).run Tryz.prog (w.alloc (.cells #[.map none] 88)) = .ok (.map (some (w.heap.size + 1))) ((w.alloc (.cells #[.map none] 88)).alloc (.map #[] 0)) := by
  simp [Instr.makeMap, newObj, Sem.run]
  rfl
 go_enter Tryz.func44, Tryz.ntmps44
 go_wp2_with fail
 have hb : ((w.alloc (.cells #[.map (some (w.heap.size + 1))] 88)).alloc (.map #[] 0)).heap[w.heap.size + 1]? = some (.map #[] 0) := by
  have := heap_alloc_new (w.alloc (.cells #[.map (some (w.heap.size + 1))] 88)) (.map #[] 0)
  simpa using this
 exact bodyPost_ret (v := .agg #[.map (some (w.heap.size + 1))]) (by simp [results, Tryz.results44, go_sem]) rfl ⟨_, rfl, Nat.le_succ _, two_new, [], 0, hb, List.nodup_nil, by simp, List.Perm.refl _, List.nodup_nil⟩
end Go.Proofs.YtbkfnmgkcgnifaaGreat
namespace Go.Proofs.YtbkfnmgkcgnifaaGreat
open Go.RowKit Go.Shelf Go.Proofs.YtbkfnmgkcgnifaaGreatW.PrintWords Go.Proofs.YtbkfnmgkcgnifaaGreatW.PrintLast Mdl
namespace Mdl
def swp {α : Type} (d : α) (l : List α) (i j : Nat) : List α := (l.set i (l.getD j d)).set j (l.getD i d)
theorem length_swp {α : Type} (d : α) (l : List α) (i j : Nat) : (swp d l i j).length = l.length := by simp [swp]
def swapR {α : Type} (d : α) (a b : Nat) : Nat → List α → List α
 | 0, l => l
 | n + 1, l => swp d (swapR d a b n l) (a + n) (b + n)
theorem length_swapR {α : Type} (d : α) (a b : Nat) : ∀ (n : Nat) (l : List α), (swapR d a b n l).length = l.length
 | 0, _ => rfl
 | n + 1, l => by rw [swapR, length_swp, length_swapR d a b n l]
end Mdl
abbrev tz : Tm := (0, 0, 0)
theorem row_time {w : World} {base g n cap : Nat} {ok : Nat → Prop} {l : List Tm} (h : kT.R 99 w base ok (.slice (some ⟨g, 0, none⟩) n cap) l) {i : Nat} (hi : i < n) :
  (w.cell? ⟨g, i * 3, none⟩ = some (.int .i64 (l.getD i tz).1) ∧ w.cell? ⟨g, i * 3 + 1, none⟩ = some (.int .i64 (l.getD i tz).2.1) ∧ w.cell? ⟨g, i * 3 + 2, none⟩ = some (.int .i64 (l.getD i tz).2.2)) ∧ (∀ j, w.frozen? ⟨g, i * 3 + j, none⟩ = false) ∧
   ∀ t : Tm, kT.R 99 (w.setCells g (i * 3) [.int .i64 t.1, .int .i64 t.2.1, .int .i64 t.2.2]) base ok (.slice (some ⟨g, 0, none⟩) n cap) (l.set i t) ∧ w.grownBy (w.setCells g (i * 3) [.int .i64 t.1, .int .i64 t.2.1, .int .i64 t.2.2]) (some g) := by
 obtain ⟨c, hcl, hM, hcc, hfr⟩ := Kd.R_elem h tz (i : Int) (by omega) (by omega)
 have hK := kT_K.1 (kT.K_of_M hM)
 subst hK
 have e0 := hcc 0 _ rfl
 have e1 := hcc 1 _ rfl
 have e2 := hcc 2 _ rfl
 rw [Int.toNat_natCast] at e0 e1 e2
 refine ⟨⟨e0, e1, e2⟩, fun j => by have := hfr j; rwa [Int.toNat_natCast] at this, fun t => ?_⟩
 have := Kd.R_seg h (i : Int) (by omega) (by omega) hcl hcc (seg := [.int .i64 t.1, .int .i64 t.2.1, .int .i64 t.2.2]) (j := 0) (x' := t) (okp := fun _ => False) (Nat.le_refl 3) (kT_M t) (fun _ h => h.elim)
 rwa [Int.toNat_natCast] at this
set_option maxRecDepth 8000 in
set_option maxHeartbeats 4000000 in
theorem swapT_any (g N cap a b n base : Nat) (ok : Nat → Prop) (l : List Tm) (cmp : Value) (w : World) (hR : kT.R 99 w base ok (.slice (some ⟨g, 0, none⟩) N cap) l) (ha : a + n ≤ N) (hb : b + n ≤ N) (hN : N ≤ 10000000000000) :
  Calls Tryz.prog 128 #[.slice (some ⟨g, 0, none⟩) N cap, .int .i64 a, .int .i64 b, .int .i64 n, cmp] w fun e w' => e = .returned (.tuple #[]) ∧ kT.R 99 w' base ok (.slice (some ⟨g, 0, none⟩) N cap) (swapR tz a b n l) ∧ w.grownBy w' (some g) := by
 have HR := Aside0.mk hR
 clear hR
 go_enter Tryz.func128, Tryz.ntmps128
 go_wp2
 go_loopw [10] (fun i wr => ∃ k : Nat, k ≤ n ∧ i = .int .i64 k ∧ Aside0 (kT.R 99 wr base ok (.slice (some ⟨g, 0, none⟩) N cap) (swapR tz a b k l) ∧ w.grownBy wr (some g))) (fun i _ => n - (intOf i).toNat)
 case atStart => exact ⟨0, Nat.zero_le _, rfl, ⟨HR.out, ⟨rfl, rfl, rfl, Nat.le_refl _, fun _ _ _ => rfl⟩⟩⟩
 case round =>
  obtain ⟨k, hk, rfl, hX⟩ := hrel
  by_cases hlt : k < n
  ·obtain ⟨⟨x0, x1, x2⟩, xf, hxs⟩ := row_time hX.out.1 (i := a + k) (by omega)
   obtain ⟨⟨y0, y1, y2⟩, yf, _⟩ := row_time hX.out.1 (i := b + k) (by omega)
   have hl := hX.out.1
   have hsw : swapR tz a b (k + 1) l = ((swapR tz a b k l).set (a + k) ((swapR tz a b k l).getD (b + k) tz)).set (b + k) ((swapR tz a b k l).getD (a + k) tz) := rfl
   have HSW := Lib.hid hsw
   generalize hp : (swapR tz a b k l).getD (a + k) tz = p at *
   generalize hq : (swapR tz a b k l).getD (b + k) tz = q at *
   have HXS := Aside0.mk (hxs q)
   have HXD := Aside0.mk (show kT.R 99 (wr.drew.setCells g ((a + k) * 3) [.int .i64 q.1, .int .i64 q.2.1, .int .i64 q.2.2]) base ok (.slice (some ⟨g, 0, none⟩) N cap) ((swapR tz a b k l).set (a + k) q) ∧ wr.grownBy (wr.drew.setCells g ((a + k) * 3) [.int .i64 q.1, .int .i64 q.2.1, .int .i64 q.2.2]) (some g) from by
    obtain ⟨_, _, hd⟩ := row_time (Kd.R_drew hX.out.1) (i := a + k) (by omega)
    exact ⟨(hd q).1, (grownBy_below (below_drew1 (Below.refl _ _))).both (hd q).2⟩)
   have wa : IntKind.i64.wrap ((a : Int) + k) = ((a + k : Nat) : Int) := by rw [IntKind.wrap_i64]; omega
   have wb : IntKind.i64.wrap ((b : Int) + k) = ((b + k : Nat) : Int) := by rw [IntKind.wrap_i64]; omega
   have ha0 : (0 : Int) ≤ ((a + k : Nat) : Int) := by omega
   have ha1 : ((a + k : Nat) : Int) < N := by omega
   have hb0 : (0 : Int) ≤ ((b + k : Nat) : Int) := by omega
   have hb1 : ((b + k : Nat) : Int) < N := by omega
   have f0 : wr.drew.frozen? ⟨g, (a + k) * 3, none⟩ = false := xf 0
   have f1 : wr.drew.frozen? ⟨g, (a + k) * 3 + 1, none⟩ = false := xf 1
   have f2 : wr.drew.frozen? ⟨g, (a + k) * 3 + 2, none⟩ = false := xf 2
   clear hxs hsw hp hq hl
   generalize hak : a + k = ak at *
   generalize hbk : b + k = bk at *
   go_upto_region 3 with fail
   refine start_ (n := 24) (S := fun w' => w'.cell? ⟨g, ak * 3, none⟩ = some (.int .i64 p.1) ∧ w'.cell? ⟨g, ak * 3 + 1, none⟩ = some (.int .i64 p.2.1) ∧ w'.cell? ⟨g, ak * 3 + 2, none⟩ = some (.int .i64 p.2.2) ∧ w'.cell? ⟨g, bk * 3, none⟩ = some (.int .i64 q.1) ∧ w'.cell? ⟨g, bk * 3 + 1, none⟩ = some (.int .i64 q.2.1) ∧ w'.cell? ⟨g, bk * 3 + 2, none⟩ = some (.int .i64 q.2.2)) (ds := [21, 23]) (bs 24 0) (by kernel_rfl) rfl (by kernel_rfl) ⟨x0, x1, x2, y0, y1, y2⟩ (fun hHeld => ?_)
   clear x0 x1 x2 y0 y1 y2 xf yf
   generalize wr.drew = wd at *
   refine pu 0 16 (bs 24 1) ?_
   refine pu 1 17 (bs 24 3) ?_
   refine pu 2 18 (bs 24 7) ?_
   refine pu 3 19 (bs 24 15) ?_
   refine pu 4 20 (bs 24 31) ?_
   refine pu 5 21 (bs 24 63) ?_
   refine pu 6 22 (bs 24 127) ?_
   refine pu 7 23 (bs 24 255) ?_
   refine pu 8 24 (bs 24 511) ?_
   refine pu 9 25 (bs 24 1023) ?_
   refine pu 10 26 (bs 24 2047) ?_
   refine pu 11 27 (bs 24 4095) ?_
   refine pu 12 28 (bs 24 8191) ?_
   refine tk6 13 29 (bs 24 16383) hHeld ?_
   refine pu 14 30 (bs 24 32767) ?_
   refine pu 15 31 (bs 24 65535) ?_
   refine pu 16 32 (bs 24 131071) ?_
   refine pu 17 33 (bs 24 262143) ?_
   refine pu 18 34 (bs 24 524287) ?_
   refine tk6 19 35 (bs 24 1048575) hHeld ?_
   refine pu 20 36 (bs 24 2097151) ?_
   refine la0 21 (bs 24 4194303) (N := none) fun K hK => ?_
   refine sk0 ?_
   refine hK.out _ _ ?_
   clear hK K
   have h6 : kT.R 99 (((wd.setCell ⟨g, ak * 3, none⟩ (.int .i64 q.1)).setCell ⟨g, ak * 3 + 1, none⟩ (.int .i64 q.2.1)).setCell ⟨g, ak * 3 + 2, none⟩ (.int .i64 q.2.2)) base ok (.slice (some ⟨g, 0, none⟩) N cap) ((swapR tz a b k l).set ak q) ∧ w.grownBy (((wd.setCell ⟨g, ak * 3, none⟩ (.int .i64 q.1)).setCell ⟨g, ak * 3 + 1, none⟩ (.int .i64 q.2.1)).setCell ⟨g, ak * 3 + 2, none⟩ (.int .i64 q.2.2)) (some g) := ⟨HXD.out.1, hX.out.2.both HXD.out.2⟩
   have H6 := Aside0.mk h6
   clear h6 hHeld f0 f1 f2
   generalize (((wd.setCell ⟨g, ak * 3, none⟩ (.int .i64 q.1)).setCell ⟨g, ak * 3 + 1, none⟩ (.int .i64 q.2.1)).setCell ⟨g, ak * 3 + 2, none⟩ (.int .i64 q.2.2)) = w6 at *
   have hbN : bk < N := by omega
   obtain ⟨⟨z0, z1, z2⟩, zf, hz⟩ := row_time H6.out.1 (i := bk) hbN
   have g0 : w6.frozen? ⟨g, bk * 3, none⟩ = false := zf 0
   have g1 : w6.frozen? ⟨g, bk * 3 + 1, none⟩ = false := zf 1
   have g2 : w6.frozen? ⟨g, bk * 3 + 2, none⟩ = false := zf 2
   have HZ := Aside0.mk (hz p)
   clear hz zf
   generalize ((swapR tz a b k l).set ak q).getD bk tz = pq at *
   refine pu 22 37 (bs 24 8388607) ?_
   refine la0 23 (bs 24 16777215) (N := none) fun K hK => ?_
   refine sk0 ?_
   refine hK.out _ _ ?_
   clear hK K
   refine dn0 ?_
   have h7 : kT.R 99 (((w6.setCell ⟨g, bk * 3, none⟩ (.int .i64 p.1)).setCell ⟨g, bk * 3 + 1, none⟩ (.int .i64 p.2.1)).setCell ⟨g, bk * 3 + 2, none⟩ (.int .i64 p.2.2)) base ok (.slice (some ⟨g, 0, none⟩) N cap) (swapR tz a b (k + 1) l) ∧ w.grownBy (((w6.setCell ⟨g, bk * 3, none⟩ (.int .i64 p.1)).setCell ⟨g, bk * 3 + 1, none⟩ (.int .i64 p.2.1)).setCell ⟨g, bk * 3 + 2, none⟩ (.int .i64 p.2.2)) (some g) := ⟨by rw [HSW.out]; exact HZ.out.1, H6.out.2.both HZ.out.2⟩
   have H7 := Aside0.mk h7
   clear h7
   go_wp2_with fail
   exact ⟨⟨k + 1, by omega, by go_num, H7⟩, by simp [intOf]; omega⟩
  ·go_wp2_with fail
   go_end0
   have hkn : k = n := by omega
   subst hkn
   exact ⟨rfl, hX.out⟩
end Go.Proofs.YtbkfnmgkcgnifaaGreat
namespace Go.Proofs.YtbkfnmgkcgnifaaGreat.Mdl
theorem swapR_get {α : Type} (d : α) {a b : Nat} : ∀ (n : Nat) (l : List α), a + n ≤ b → b + n ≤ l.length → ∀ i, (swapR d a b n l)[i]? = if a ≤ i ∧ i < a + n then l[i - a + b]? else if b ≤ i ∧ i < b + n then l[i - b + a]? else l[i]?
 | 0, l, _, _, i => by
  rw [if_neg (show ¬ (a ≤ i ∧ i < a + 0) by omega), if_neg (show ¬ (b ≤ i ∧ i < b + 0) by omega)]; rfl
 | n + 1, l, h1, h2, i => by
  have ih := swapR_get d (a := a) (b := b) n l (by omega) (by omega)
  have hlen := length_swapR d a b n l
  have ea : (swapR d a b n l).getD (a + n) d = l.getD (a + n) d := by
   rw [List.getD_eq_getElem?_getD, ih, if_neg (show ¬ (a ≤ a + n ∧ a + n < a + n) by omega), if_neg (show ¬ (b ≤ a + n ∧ a + n < b + n) by omega), List.getD_eq_getElem?_getD]
  have eb : (swapR d a b n l).getD (b + n) d = l.getD (b + n) d := by
   rw [List.getD_eq_getElem?_getD, ih, if_neg (show ¬ (a ≤ b + n ∧ b + n < a + n) by omega), if_neg (show ¬ (b ≤ b + n ∧ b + n < b + n) by omega), List.getD_eq_getElem?_getD]
  rw [swapR, swp, ea, eb]
  rw [List.getElem?_set, List.length_set, hlen, List.getElem?_set, hlen]
  by_cases hb : b + n = i
  ·subst hb
   rw [if_pos rfl, if_pos (by omega), if_neg (by omega), if_pos (by omega), show b + n - b + a = a + n by omega]
   rw [List.getD_eq_getElem?_getD, List.getElem?_eq_getElem (show a + n < l.length by omega)]; rfl
  ·rw [if_neg hb]
   by_cases ha : a + n = i
   ·subst ha
    rw [if_pos rfl, if_pos (by omega), if_pos (by omega), show a + n - a + b = b + n by omega]
    rw [List.getD_eq_getElem?_getD, List.getElem?_eq_getElem (show b + n < l.length by omega)]; rfl
   ·rw [if_neg ha, ih]
    by_cases h3 : a ≤ i ∧ i < a + n
    ·rw [if_pos h3, if_pos (by omega)]
    ·rw [if_neg h3, if_neg (show ¬ (a ≤ i ∧ i < a + (n + 1)) by omega)]
     by_cases h4 : b ≤ i ∧ i < b + n
     ·rw [if_pos h4, if_pos (by omega)]
     ·rw [if_neg h4, if_neg (by omega)]
theorem swapR_split {α : Type} (d : α) (P X Q Y S : List α) (h : X.length = Y.length) : swapR d P.length (P.length + X.length + Q.length) X.length (P ++ X ++ Q ++ Y ++ S) = P ++ Y ++ Q ++ X ++ S := by
 apply List.ext_getElem?
 intro i
 rw [swapR_get d _ _ (by omega) (by simp only [List.length_append]; omega)]
 by_cases h0 : i < P.length
 ·rw [if_neg (by omega), if_neg (by omega)]
  simp only [List.append_assoc, List.getElem?_append_left h0]
 ·by_cases h1 : i < P.length + X.length
  ·rw [if_pos (by omega)]
   simp only [List.append_assoc]
   rw [List.getElem?_append_right (by omega), List.getElem?_append_right (by omega), List.getElem?_append_right (by omega), List.getElem?_append_left (by omega)]
   rw [List.getElem?_append_right (l₁ := P) (by omega), List.getElem?_append_left (by omega)]
   congr 1; omega
  ·by_cases h2 : i < P.length + X.length + Q.length
   ·rw [if_neg (by omega), if_neg (by omega)]
    simp only [List.append_assoc]
    rw [List.getElem?_append_right (by omega), List.getElem?_append_right (by omega), List.getElem?_append_left (by omega)]
    rw [List.getElem?_append_right (l₁ := P) (by omega), List.getElem?_append_right (by omega), List.getElem?_append_left (by omega), h]
   ·by_cases h3 : i < P.length + X.length + Q.length + X.length
    ·rw [if_neg (by omega), if_pos (by omega)]
     simp only [List.append_assoc]
     rw [List.getElem?_append_right (by omega), List.getElem?_append_left (by omega)]
     rw [List.getElem?_append_right (l₁ := P) (by omega), List.getElem?_append_right (by omega), List.getElem?_append_right (by omega), List.getElem?_append_left (by omega)]
     congr 1; omega
    ·rw [if_neg (by omega), if_neg (by omega)]
     simp only [List.append_assoc]
     rw [List.getElem?_append_right (by omega), List.getElem?_append_right (by omega), List.getElem?_append_right (by omega), List.getElem?_append_right (by omega)]
     rw [List.getElem?_append_right (l₁ := P) (by omega), List.getElem?_append_right (by omega), List.getElem?_append_right (by omega), List.getElem?_append_right (by omega)]
     congr 1; omega
end Go.Proofs.YtbkfnmgkcgnifaaGreat.Mdl
namespace Go.Proofs.YtbkfnmgkcgnifaaGreat
open Go.RowKit Go.Shelf Go.Proofs.YtbkfnmgkcgnifaaGreatW.PrintWords Go.Proofs.YtbkfnmgkcgnifaaGreatW.PrintLast Mdl
theorem swapT_split (g N cap base : Nat) (ok : Nat → Prop) (P X Q Y S : List Tm) (cmp : Value) (w : World) (h : X.length = Y.length) (hR : kT.R 99 w base ok (.slice (some ⟨g, 0, none⟩) N cap) (P ++ X ++ Q ++ Y ++ S)) (hN : N ≤ 10000000000000) (a b n : Nat) (ha : a = P.length) (hb : b = P.length + X.length + Q.length) (hn : n = X.length) :
  Calls Tryz.prog 128 #[.slice (some ⟨g, 0, none⟩) N cap, .int .i64 a, .int .i64 b, .int .i64 n, cmp] w fun e w' => e = .returned (.tuple #[]) ∧ kT.R 99 w' base ok (.slice (some ⟨g, 0, none⟩) N cap) (P ++ Y ++ Q ++ X ++ S) ∧ w.grownBy w' (some g) := by
 subst ha hb hn
 have hl := (Kd.R_reads' hR).1
 simp only [List.length_append] at hl
 have := swapT_any g N cap P.length (P.length + X.length + Q.length) X.length base ok _ cmp w hR (by omega) (by omega) hN
 rw [swapR_split tz P X Q Y S h] at this
 exact this
set_option maxRecDepth 8000 in
set_option maxHeartbeats 4000000 in
theorem rotT_any (g N cap base : Nat) (ok : Nat → Prop) (P X Y S : List Tm) (cmp : Value) (w : World) (hR : kT.R 99 w base ok (.slice (some ⟨g, 0, none⟩) N cap) (P ++ X ++ Y ++ S)) (hX : 0 < X.length) (hY : 0 < Y.length) (hN : N ≤ 10000000000000) (a m b : Nat) (ha : a = P.length) (hm : m = P.length + X.length) (hb : b = P.length + X.length + Y.length) :
  Calls Tryz.prog 126 #[.slice (some ⟨g, 0, none⟩) N cap, .int .i64 a, .int .i64 m, .int .i64 b, cmp] w fun e w' => e = .returned (.tuple #[]) ∧ kT.R 99 w' base ok (.slice (some ⟨g, 0, none⟩) N cap) (P ++ Y ++ X ++ S) ∧ w.grownBy w' (some g) := by
 have HR := Aside0.mk hR
 have hl := (Kd.R_reads' hR).1
 simp only [List.length_append] at hl
 have wi : IntKind.i64.wrap ((m : Int) - a) = (X.length : Int) := by rw [IntKind.wrap_i64]; omega
 have wj : IntKind.i64.wrap ((b : Int) - m) = (Y.length : Int) := by rw [IntKind.wrap_i64]; omega
 have HM := Lib.hid (And.intro ha (And.intro hm hb))
 have HL := Lib.hid hl
 have hmN : m ≤ N := by omega
 clear hR ha hm hb hl
 go_enter Tryz.func126, Tryz.ntmps126
 go_wp2
 go_loopw [10, 11] (fun i j wr => ∃ A U V B : List Tm, i = .int .i64 U.length ∧ j = .int .i64 V.length ∧ Aside0 (0 < U.length ∧ 0 < V.length ∧ A.length + U.length = m ∧ m + V.length ≤ N ∧ A ++ V ++ U ++ B = P ++ Y ++ X ++ S ∧ kT.R 99 wr base ok (.slice (some ⟨g, 0, none⟩) N cap) (A ++ U ++ V ++ B) ∧ w.grownBy wr (some g))) (fun i j _ => (intOf i).toNat + (intOf j).toNat)
 case atStart => exact ⟨P, X, Y, S, rfl, rfl, ⟨hX, hY, HM.out.2.1.symm, by have := HM.out; have := HL.out; omega, rfl, HR.out, ⟨rfl, rfl, rfl, Nat.le_refl _, fun _ _ _ => rfl⟩⟩⟩
 case round =>
  obtain ⟨A, U, V, B, rfl, rfl, hI⟩ := hrel
  obtain ⟨hU, hV, hAU, hVN, heq, hRr, hgr⟩ := hI.out
  have HI := Aside0.mk (And.intro heq (And.intro hRr hgr))
  generalize hi : U.length = i at *
  generalize hj : V.length = j at *
  generalize hp : A.length = p at *
  have HH := Lib.hid (And.intro hi (And.intro hj (And.intro hp (And.intro hAU hVN))))
  have w1 : IntKind.i64.wrap ((m : Int) - (i : Int)) = (p : Int) := by rw [IntKind.wrap_i64]; omega
  clear hI heq hRr hgr hi hj hp hAU hVN
  by_cases hij : i = j
  ·subst hij
   have hb : ((i : Int) != (i : Int)) = false := by simp
   have HC := Lib.hid (fun w' h => swapT_split g N cap base ok A U [] V B cmp w' (by have := HH.out; omega) h hN p m i (by have := HH.out; omega) (by have := HH.out; simp; omega) (by have := HH.out; omega))
   go_wp2_with fail
   refine (HC.out wr (by simpa using HI.out.2.1)).mono ?_
   rintro e w5 ⟨rfl, hR5, hg5⟩
   go_wp2_with fail
   go_end0
   refine ⟨rfl, ?_, HI.out.2.2.both hg5⟩
   rw [← HI.out.1]
   simpa using hR5
  ·have hb : ((i : Int) != (j : Int)) = true := by simp; omega
   by_cases hgt : j < i
   ·have hgtI : (j : Int) < (i : Int) := by omega
    obtain ⟨dd, hdd⟩ : ∃ dd, dd = i - j := ⟨_, rfl⟩
    have w2 : IntKind.i64.wrap ((i : Int) - (j : Int)) = (dd : Int) := by rw [IntKind.wrap_i64]; have := HH.out; omega
    have HDD := Lib.hid hdd
    clear hdd
    have hX1 : A ++ U ++ V ++ B = A ++ U.take j ++ U.drop j ++ V ++ B := by simp
    have HC := Lib.hid (fun w' h => swapT_split g N cap base ok A (U.take j) (U.drop j) V B cmp w' (by have := HH.out; simp; omega) h hN p m j (by have := HH.out; omega) (by have := HH.out; simp; omega) (by have := HH.out; simp; omega))
    have HX1 := Lib.hid hX1
    clear hX1 hij
    go_wp2_with fail
    refine (HC.out wr (by rw [← HX1.out]; exact HI.out.2.1)).mono ?_
    rintro e w5 ⟨rfl, hR5, hg5⟩
    have HR5 := Aside0.mk (And.intro hR5 hg5)
    clear hR5 hg5
    go_wp2_with fail
    refine ⟨⟨A ++ V, U.drop j, U.take j, B, ?_, ?_, ⟨?_, ?_, ?_, ?_, ?_, HR5.out.1, HI.out.2.2.both HR5.out.2⟩⟩, ?_⟩
    ·have := HH.out; have := HDD.out; rw [List.length_drop]; congr 1; omega
    ·have := HH.out; rw [List.length_take]; congr 1; omega
    ·have := HH.out; rw [List.length_drop]; omega
    ·have := HH.out; rw [List.length_take]; omega
    ·have := HH.out; rw [List.length_append, List.length_drop]; omega
    ·have := HH.out; rw [List.length_take]; omega
    ·rw [← HI.out.1]; simp
    ·have := HH.out; have := HDD.out; simp [intOf]; omega
   ·have hlt : i < j := by omega
    have hltI : ¬ ((j : Int) < (i : Int)) := by omega
    have hltI2 : (i : Int) ≤ (j : Int) := by omega
    obtain ⟨dd, hdd⟩ : ∃ dd, dd = j - i := ⟨_, rfl⟩
    obtain ⟨q, hq⟩ : ∃ q, q = m + j - i := ⟨_, rfl⟩
    have w2 : IntKind.i64.wrap ((j : Int) - (i : Int)) = (dd : Int) := by rw [IntKind.wrap_i64]; have := HH.out; omega
    have w3 : IntKind.i64.wrap ((m : Int) + (j : Int)) = (m : Int) + (j : Int) := by rw [IntKind.wrap_i64]; have := HH.out; omega
    have w4 : IntKind.i64.wrap ((m : Int) + (j : Int) - (i : Int)) = (q : Int) := by rw [IntKind.wrap_i64]; have := HH.out; omega
    have HDD := Lib.hid (And.intro hdd hq)
    have hX1 : A ++ U ++ V ++ B = A ++ U ++ V.take (j - i) ++ V.drop (j - i) ++ B := by simp
    have HC := Lib.hid (fun w' h => swapT_split g N cap base ok A U (V.take (j - i)) (V.drop (j - i)) B cmp w' (by have := HH.out; simp; omega) h hN p q i (by have := HH.out; omega) (by have := HH.out; simp; omega) (by have := HH.out; omega))
    have HX1 := Lib.hid hX1
    clear hX1 hij hgt hdd hq
    go_wp2_with fail
    refine (HC.out wr (by rw [← HX1.out]; exact HI.out.2.1)).mono ?_
    rintro e w5 ⟨rfl, hR5, hg5⟩
    have HR5 := Aside0.mk (And.intro hR5 hg5)
    clear hR5 hg5
    go_wp2_with fail
    refine ⟨⟨A, V.drop (j - i), V.take (j - i), U ++ B, ?_, ?_, ⟨?_, ?_, ?_, ?_, ?_, ?_, HI.out.2.2.both HR5.out.2⟩⟩, ?_⟩
    ·have := HH.out; rw [List.length_drop]; congr 1; omega
    ·have := HH.out; have := HDD.out; rw [List.length_take]; congr 1; omega
    ·have := HH.out; rw [List.length_drop]; omega
    ·have := HH.out; rw [List.length_take]; omega
    ·have := HH.out; rw [List.length_drop]; omega
    ·have := HH.out; rw [List.length_take]; omega
    ·rw [← HI.out.1]; simp
    ·simpa using HR5.out.1
    ·have := HH.out; have := HDD.out; simp [intOf]; omega
end Go.Proofs.YtbkfnmgkcgnifaaGreat
namespace Go.Proofs.YtbkfnmgkcgnifaaGreat.Mdl
theorem cmp3_neg (x y : Int) : cmp3 y x = - cmp3 x y := by
 unfold cmp3
 by_cases h1 : x < y
 ·rw [if_neg (show ¬ y < x by omega), if_pos h1, if_pos h1]; rfl
 ·by_cases h2 : y < x
  ·rw [if_pos h2, if_neg h1, if_pos h2]
  ·rw [if_neg h2, if_neg h1, if_neg h1, if_neg h2]; rfl
theorem cmp3_zero {x y : Int} : cmp3 x y = 0 ↔ x = y := by
 unfold cmp3
 by_cases h1 : x < y
 ·rw [if_pos h1]; omega
 ·rw [if_neg h1]
  by_cases h2 : y < x
  ·rw [if_pos h2]; omega
  ·rw [if_neg h2]; omega
theorem cmp3_le {x y : Int} : cmp3 x y ≤ 0 ↔ x ≤ y := by
 unfold cmp3
 by_cases h1 : x < y
 ·rw [if_pos h1]; omega
 ·rw [if_neg h1]
  by_cases h2 : y < x
  ·rw [if_pos h2]; omega
  ·rw [if_neg h2]; omega
theorem cmpT_le {a b : Tm} : cmpT a b ≤ 0 ↔ (a.1 < b.1 ∨ a.1 = b.1 ∧ (a.2.1 < b.2.1 ∨ a.2.1 = b.2.1 ∧ a.2.2 ≤ b.2.2)) := by
 unfold cmpT
 by_cases h0 : cmp3 a.1 b.1 = 0
 ·rw [if_neg (by simpa using h0)]
  rw [cmp3_zero] at h0
  by_cases h1 : cmp3 a.2.1 b.2.1 = 0
  ·rw [if_neg (by simpa using h1), cmp3_le]
   rw [cmp3_zero] at h1
   omega
  ·rw [if_pos h1, cmp3_le]
   rw [cmp3_zero] at h1
   omega
 ·rw [if_pos h0, cmp3_le]
  rw [cmp3_zero] at h0
  omega
theorem cmpT_neg (a b : Tm) : cmpT b a = - cmpT a b := by
 unfold cmpT
 rw [cmp3_neg a.1 b.1, cmp3_neg a.2.1 b.2.1, cmp3_neg a.2.2 b.2.2]
 by_cases h0 : cmp3 a.1 b.1 = 0
 ·by_cases h1 : cmp3 a.2.1 b.2.1 = 0
  ·simp [h0, h1]
  ·simp [h0, h1]
 ·simp [h0]
theorem cmpT_zero {a b : Tm} : cmpT a b = 0 ↔ a = b := by
 constructor
 ·intro h
  have h1 := (cmpT_le (a := a) (b := b)).1 (by omega)
  have h2 := (cmpT_le (a := b) (b := a)).1 (by rw [cmpT_neg]; omega)
  obtain ⟨a0, a1, a2⟩ := a
  obtain ⟨b0, b1, b2⟩ := b
  simp only at h1 h2
  obtain rfl : a0 = b0 := by omega
  obtain rfl : a1 = b1 := by omega
  obtain rfl : a2 = b2 := by omega
  rfl
 ·rintro rfl
  have := cmpT_neg a a
  omega
theorem cmpT_trans {a b c : Tm} (h : cmpT a b ≤ 0) (k : cmpT b c ≤ 0) : cmpT a c ≤ 0 := by
 rw [cmpT_le] at *
 omega
structure Ord {α : Type} (cmp : α → α → Int) (p : α → Prop) : Prop where
 neg : ∀ a b, p a → p b → (cmp b a ≤ 0 ↔ 0 ≤ cmp a b)
 trans : ∀ a b c, p a → p b → p c → cmp a b ≤ 0 → cmp b c ≤ 0 → cmp a c ≤ 0
 zero : ∀ a b, p a → p b → cmp a b ≤ 0 → cmp b a ≤ 0 → a = b
theorem ordT : Ord cmpT (fun _ => True) where
 neg := fun a b _ _ => by rw [cmpT_neg a b]; omega
 trans := fun _ _ _ _ _ _ => cmpT_trans
 zero := fun a b _ _ h1 h2 => cmpT_zero.1 (by rw [cmpT_neg a b] at h2; omega)
def SortedBy {α : Type} (cmp : α → α → Int) (l : List α) : Prop := l.Pairwise (fun x y => cmp x y ≤ 0)
section
variable {α : Type} {cmp : α → α → Int} {p : α → Prop}
theorem Ord.le_of_not (h : Ord cmp p) {a b : α} (ha : p a) (hb : p b) (hn : ¬ cmp a b < 0) : cmp b a ≤ 0 := (h.neg a b ha hb).2 (by omega)
theorem Ord.refl (h : Ord cmp p) {a : α} (ha : p a) : cmp a a ≤ 0 := by
 rcases Int.le_total (cmp a a) 0 with h1 | h1
 ·exact h1
 ·exact (h.neg a a ha ha).2 h1
theorem sorted_put (h : Ord cmp p) {Z1 Z2 : List α} {x : α} (hx : p x) (hp : ∀ z ∈ Z1 ++ Z2, p z) (hs : SortedBy cmp (Z1 ++ Z2)) (h2 : ∀ z ∈ Z2, cmp x z ≤ 0) (h1 : ∀ y, Z1.getLast? = some y → cmp y x ≤ 0) : SortedBy cmp (Z1 ++ x :: Z2) := by
 unfold SortedBy at *
 rw [List.pairwise_append] at hs ⊢
 obtain ⟨s1, s2, s3⟩ := hs
 have hz : ∀ z ∈ Z1, cmp z x ≤ 0 := by
  intro z hz
  have hne : Z1 ≠ [] := List.ne_nil_of_mem hz
  have hl : Z1.getLast? = some (Z1.getLast hne) := List.getLast?_eq_some_getLast hne
  have hy := h1 _ hl
  by_cases hzl : z = Z1.getLast hne
  ·rw [hzl]; exact hy
  ·have hd : Z1 = Z1.dropLast ++ [Z1.getLast hne] := (List.dropLast_concat_getLast hne).symm
   rw [hd] at s1
   have hz' : z ∈ Z1.dropLast := by
    rw [hd] at hz
    rcases List.mem_append.1 hz with hz | hz
    ·exact hz
    ·exact absurd (List.mem_singleton.1 hz) hzl
   have := (List.pairwise_append.1 s1).2.2 z hz' _ (List.mem_singleton.2 rfl)
   exact h.trans _ _ _ (hp z (by simp [hz])) (hp _ (by simp [List.getLast_mem])) hx this hy
 refine ⟨s1, List.pairwise_cons.2 ⟨h2, s2⟩, fun z hz1 y hy => ?_⟩
 rcases List.mem_cons.1 hy with rfl | hy
 ·exact hz z hz1
 ·exact s3 z hz1 y hy
theorem sorted_unique (h : Ord cmp p) : ∀ {l m : List α}, (∀ z ∈ l, p z) → l.Perm m → SortedBy cmp l → SortedBy cmp m → l = m
 | [], m, _, hp, _, _ => (List.nil_perm.1 hp).symm
 | a :: l, [], _, hp, _, _ => absurd hp.symm (by simp)
 | a :: l, b :: m, hz, hp, s1, s2 => by
  have ha := hz a List.mem_cons_self
  have hzb : p b := hz b (hp.mem_iff.2 List.mem_cons_self)
  have e : a = b := by
   rcases List.mem_cons.1 (hp.mem_iff.1 List.mem_cons_self) with h1 | h1
   ·exact h1
   ·rcases List.mem_cons.1 (hp.mem_iff.2 (List.mem_cons_self (a := b) (l := m))) with h2 | h2
    ·exact h2.symm
    ·exact h.zero a b ha hzb ((List.pairwise_cons.1 s1).1 b h2) ((List.pairwise_cons.1 s2).1 a h1)
  subst e
  rw [sorted_unique h (fun z hz' => hz z (List.mem_cons_of_mem _ hz')) (List.Perm.cons_inv hp) (List.pairwise_cons.1 s1).2 (List.pairwise_cons.1 s2).2]
end
end Go.Proofs.YtbkfnmgkcgnifaaGreat.Mdl
namespace Go.Proofs.YtbkfnmgkcgnifaaGreat
open Go.RowKit Go.Shelf Go.Proofs.YtbkfnmgkcgnifaaGreatW.PrintWords Go.Proofs.YtbkfnmgkcgnifaaGreatW.PrintLast Mdl
theorem goesV_ {P : Program} {ops : Array Oper} {Q : Exit → Act → World → Prop} {oi : Oper} {N : Option Tmp} {a : Act} {w : World} {K : Act → World → Prop} {f : FuncId} {fn : Func} {gv : Operand} {aas : Array Operand} {ts : Array TypeId} (hf : P.funcs[f]? = some fn) (hname : (fn.name == "runtime.NumGoroutine") = false) (hb : fn.body.isSome = true) (args : Array Value)
  (hw : Region.wanted oi (yielded ops a.tmps) = true) (hN : oi.dst = N) (hop : oi.op = .call { callee := .value gv, args := aas, argTypes := ts }) (hg : a.eval gv = .func (.func f) #[] #[]) (hargs : aas.map a.eval = args)
  (h : Calls P f args w fun e w' => ∃ v, e = .returned v ∧ K (a.put N v) w') : if Region.wanted oi (yielded ops a.tmps) = true then Oper.wp P oi a w K Q else K (a.put N undef) w := by
 refine call_ f args hw hN ?_ h
 have he := enters_ hf hname hb args w
 have hargs' : aas.map (fun x => a.eval x) = args := hargs
 unfold execOp
 simp [hop, resolve, Deferred.ofValue, invoke, hg, hargs', he]
set_option maxRecDepth 8000 in
set_option maxHeartbeats 4000000 in
theorem insT_any (g N cap base : Nat) (ok : Nat → Prop) (P X S : List Tm) (w : World) (hR : kT.R 99 w base ok (.slice (some ⟨g, 0, none⟩) N cap) (P ++ X ++ S)) (hok : ok g) (hN : N ≤ 10000000000000) (a b : Nat) (ha : a = P.length) (hb : b = P.length + X.length) :
  Calls Tryz.prog 122 #[.slice (some ⟨g, 0, none⟩) N cap, .int .i64 a, .int .i64 b, .func (.func 115) #[] #[]] w fun e w' => e = .returned (.tuple #[]) ∧ ∃ X', X'.Perm X ∧ SortedBy cmpT X' ∧ kT.R 99 w' base ok (.slice (some ⟨g, 0, none⟩) N cap) (P ++ X' ++ S) ∧ w.grownBy w' (some g) := by
 have HR := Aside0.mk hR
 have hl := (Kd.R_reads' hR).1
 simp only [List.length_append] at hl
 have wa : IntKind.i64.wrap ((a : Int) + 1) = ((a + 1 : Nat) : Int) := by rw [IntKind.wrap_i64]; omega
 have HM := Lib.hid (And.intro ha (And.intro hb hl))
 clear hR ha hb hl
 cases X with
 | nil =>
  go_enter Tryz.func122, Tryz.ntmps122
  go_wp2
  go_loopw [8] (fun i wr => i = .int .i64 ((a + 1 : Nat) : Int) ∧ wr = w) (fun i _ => 0)
  case atStart => exact ⟨rfl, rfl⟩
  case round =>
   obtain ⟨rfl, rfl⟩ := hrel
   have hnl : ¬ (((a + 1 : Nat) : Int) < (b : Int)) := by have := HM.out; simp at this; omega
   have hnl2 : (b : Int) ≤ ((a + 1 : Nat) : Int) := by omega
   go_wp2_with fail
   go_end0
   exact ⟨rfl, List.Pairwise.nil, by simpa using HR.out, ⟨rfl, rfl, rfl, Nat.le_refl _, fun _ _ _ => rfl⟩⟩
 | cons x0 X0 =>
  go_enter Tryz.func122, Tryz.ntmps122
  go_wp2
  go_loopw [8] (fun i wr => ∃ (k : Nat) (Z R : List Tm), i = .int .i64 k ∧ Aside0 (k = a + Z.length ∧ 0 < Z.length ∧ (Z ++ R).Perm (x0 :: X0) ∧ SortedBy cmpT Z ∧ kT.R 99 wr base ok (.slice (some ⟨g, 0, none⟩) N cap) (P ++ Z ++ R ++ S) ∧ w.grownBy wr (some g))) (fun i _ => b - (intOf i).toNat)
  case atStart => exact ⟨a + 1, [x0], X0, by go_num, ⟨rfl, by simp, List.Perm.refl _, List.pairwise_singleton _ _, by simpa using HR.out, ⟨rfl, rfl, rfl, Nat.le_refl _, fun _ _ _ => rfl⟩⟩⟩
  case round =>
   obtain ⟨k, Z, R, rfl, hI⟩ := hrel
   by_cases hlt : k < b
   ·have hlt' : (k : Int) < (b : Int) := by omega
    cases R with
    | nil =>
     exfalso
     have h := hI.out.2.2.1.length_eq
     have := HM.out
     have := hI.out.1
     simp at h
     simp only [List.length_cons] at *
     omega
    | cons x R =>
     have wk : IntKind.i64.wrap ((k : Int) + 1) = (k : Int) + 1 := by rw [IntKind.wrap_i64]; have := HM.out; simp only [List.length_cons] at this; omega
     have FIN := Lib.hid (fun (Z1 Z2 : List Tm) (V : World) (hz : Z = Z1 ++ Z2) (h2 : ∀ z ∈ Z2, cmpT x z ≤ 0) (h1 : ∀ y, Z1.getLast? = some y → cmpT y x ≤ 0) (hr : kT.R 99 V base ok (.slice (some ⟨g, 0, none⟩) N cap) (P ++ Z1 ++ x :: Z2 ++ R ++ S)) (hg : w.grownBy V (some g)) =>
      show ∃ (k1 : Nat) (Z' R' : List Tm), Value.int .i64 ((k : Int) + 1) = .int .i64 (k1 : Int) ∧ Aside0 (k1 = a + Z'.length ∧ 0 < Z'.length ∧ (Z' ++ R').Perm (x0 :: X0) ∧ SortedBy cmpT Z' ∧ kT.R 99 V base ok (.slice (some ⟨g, 0, none⟩) N cap) (P ++ Z' ++ R' ++ S) ∧ w.grownBy V (some g)) from
      ⟨k + 1, Z1 ++ x :: Z2, R, by go_num, ⟨by have := hI.out.1; rw [hz] at this; simp at this ⊢; omega, by simp; omega, by
       have hp := hI.out.2.2.1
       rw [hz] at hp
       refine List.Perm.trans ?_ hp
       simp only [List.append_assoc, List.cons_append]
       exact List.Perm.append_left _ (List.perm_middle (l₁ := Z2) (l₂ := R) (a := x)).symm, sorted_put ordT trivial (fun _ _ => trivial) (by rw [← hz]; exact hI.out.2.2.2.1) h2 h1, by simpa using hr, hg⟩⟩)
     go_wp2_with fail
     go_loopw [9] (fun j wr => ∃ (q : Nat) (Z1 Z2 : List Tm), j = .int .i64 q ∧ Aside0 (q = a + Z1.length ∧ Z = Z1 ++ Z2 ∧ (∀ z ∈ Z2, cmpT x z ≤ 0) ∧ kT.R 99 wr base ok (.slice (some ⟨g, 0, none⟩) N cap) (P ++ Z1 ++ x :: Z2 ++ R ++ S) ∧ w.grownBy wr (some g))) (fun j _ => (intOf j).toNat)
     case atStart => exact ⟨k, Z, [], rfl, ⟨hI.out.1, by simp, by simp, by simpa using hI.out.2.2.2.2.1, hI.out.2.2.2.2.2⟩⟩
     case round =>
      obtain ⟨q, Z1, Z2, rfl, hJ⟩ := hrel
      rcases List.eq_nil_or_concat Z1 with rfl | ⟨Z0, y, rfl⟩
      ·have hqa : ¬ ((a : Int) < (q : Int)) := by have := hJ.out.1; simp at this; omega
       have hqa2 : (q : Int) ≤ (a : Int) := by omega
       go_upto_region 4 with fail
       refine start_ (n := 17) (S := fun _ => True) (ds := []) (bs 17 0) (by kernel_rfl) rfl (by kernel_rfl) trivial (fun hHeld => ?_)
       refine pu 0 18 (bs 17 1) ?_
       refine pu 1 19 (bs 17 3) ?_
       refine pu 2 20 (bs 17 7) ?_
       refine pu 3 21 (bs 17 15) ?_
       refine uf0 4 22 (bs 17 31) ?_
       refine uf0 5 23 (bs 17 63) ?_
       refine uf0 6 24 (bs 17 127) ?_
       refine uf0 7 25 (bs 17 255) ?_
       refine uf0 8 26 (bs 17 511) ?_
       refine uf0 9 27 (bs 17 1023) ?_
       refine uf0 10 28 (bs 17 2047) ?_
       refine uf0 11 29 (bs 17 4095) ?_
       refine uf0 12 30 (bs 17 8191) ?_
       refine uf0 13 31 (bs 17 16383) ?_
       refine uf0 14 32 (bs 17 32767) ?_
       refine uf0 15 33 (bs 17 65535) ?_
       refine pu 16 34 (bs 17 131071) ?_
       refine dn0 ?_
       go_wp2_with fail
       refine ⟨FIN.out [] Z2 _ hJ.out.2.1 hJ.out.2.2.1 (by simp) (Kd.R_drew hJ.out.2.2.2.1) (hJ.out.2.2.2.2.both (grownBy_below (below_drew1 (Below.refl _ _)))), by simp [intOf]; omega⟩
      ·obtain ⟨hq, hz, h2, hRr, hgr⟩ := hJ.out
       obtain ⟨r, hr⟩ : ∃ r, r = a + Z0.length := ⟨_, rfl⟩
       have hqr : q = r + 1 := by simp at hq; omega
       have hrow : P ++ Z0.concat y ++ x :: Z2 ++ R ++ S = (P ++ Z0) ++ y :: x :: (Z2 ++ R ++ S) := by simp
       rw [hrow] at hRr
       have hlen := (Kd.R_reads' hRr).1
       simp only [List.length_append, List.length_cons] at hlen
       have hPa := HM.out.1
       have gx : ((P ++ Z0) ++ y :: x :: (Z2 ++ R ++ S)).getD q tz = x := by
        rw [List.getD_eq_getElem?_getD, List.getElem?_append_right (by simp; omega), List.length_append, show q - (P.length + Z0.length) = 1 by omega]; rfl
       have gy : ((P ++ Z0) ++ y :: x :: (Z2 ++ R ++ S)).getD r tz = y := by
        rw [List.getD_eq_getElem?_getD, List.getElem?_append_right (by simp; omega), List.length_append, show r - (P.length + Z0.length) = 0 by omega]; rfl
       obtain ⟨⟨c0, c1, c2⟩, _, _⟩ := row_time hRr (i := q) (by omega)
       obtain ⟨⟨d0, d1, d2⟩, _, _⟩ := row_time hRr (i := r) (by omega)
       rw [gx] at c0 c1 c2
       rw [gy] at d0 d1 d2
       have HJ := Aside0.mk (And.intro hz (And.intro h2 (And.intro hRr hgr)))
       have HQ := Lib.hid (And.intro hr (And.intro hqr hlen))
       have haq : (a : Int) < (q : Int) := by omega
       have hq0 : (0 : Int) ≤ (q : Int) := by omega
       have hqN : (q : Int) < (N : Int) := by omega
       have wq : IntKind.i64.wrap ((q : Int) - 1) = (r : Int) := by rw [IntKind.wrap_i64]; omega
       have hr0 : (0 : Int) ≤ (r : Int) := by omega
       have hrN : (r : Int) < (N : Int) := by omega
       clear hq hz h2 hRr hgr hr hqr hrow hlen hPa gx gy hJ
       go_upto_region 4 with fail
       refine start_ (n := 17) (S := fun w' => w'.cell? ⟨g, q * 3, none⟩ = some (.int .i64 x.1) ∧ w'.cell? ⟨g, q * 3 + 1, none⟩ = some (.int .i64 x.2.1) ∧ w'.cell? ⟨g, q * 3 + 2, none⟩ = some (.int .i64 x.2.2) ∧ w'.cell? ⟨g, r * 3, none⟩ = some (.int .i64 y.1) ∧ w'.cell? ⟨g, r * 3 + 1, none⟩ = some (.int .i64 y.2.1) ∧ w'.cell? ⟨g, r * 3 + 2, none⟩ = some (.int .i64 y.2.2)) (ds := []) (bs 17 0) (by kernel_rfl) rfl (by kernel_rfl) ⟨c0, c1, c2, d0, d1, d2⟩ (fun hHeld => ?_)
       have HD := Aside0.mk (And.intro (Kd.R_drew HJ.out.2.2.1) (HJ.out.2.2.2.both (grownBy_below (below_drew1 (Below.refl wr.heap.size wr)))))
       clear c0 c1 c2 d0 d1 d2
       generalize wr.drew = wd at *
       refine pu 0 18 (bs 17 1) ?_
       refine pu 1 19 (bs 17 3) ?_
       refine pu 2 20 (bs 17 7) ?_
       refine pu 3 21 (bs 17 15) ?_
       refine pu 4 22 (bs 17 31) ?_
       refine pu 5 23 (bs 17 63) ?_
       refine pu 6 24 (bs 17 127) ?_
       refine pu 7 25 (bs 17 255) ?_
       refine tk6 8 26 (bs 17 511) hHeld ?_
       refine pu 9 27 (bs 17 1023) ?_
       refine pu 10 28 (bs 17 2047) ?_
       refine pu 11 29 (bs 17 4095) ?_
       refine pu 12 30 (bs 17 8191) ?_
       refine tk6 13 31 (bs 17 16383) hHeld ?_
       refine on0 14 32 (bs 17 32767) fun K hK => ?_
       have CM := byTime1_any x y wd
       simp only [tmV] at CM
       refine goesV_ Tryz.func115 (by kernel_rfl) rfl #[.agg #[.int .i64 x.1, .int .i64 x.2.1, .int .i64 x.2.2], .agg #[.int .i64 y.1, .int .i64 y.2.1, .int .i64 y.2.2]] (by rfl) rfl rfl rfl (by (try simp only [List.map_toArray, List.map_cons, List.map_nil]); first | done | rfl) ?_
       refine CM.mono ?_
       clear CM
       rintro e w5 ⟨rfl, hb5⟩
       have HS5 := Aside0.mk (And.intro (Kd.R_below HD.out.1 hb5) (HD.out.2.both (grownBy_below hb5)))
       refine ⟨_, rfl, hK.out _ _ ⟨pw_cell_below hb5 hHeld.1, pw_cell_below hb5 hHeld.2.1, pw_cell_below hb5 hHeld.2.2.1, pw_cell_below hb5 hHeld.2.2.2.1, pw_cell_below hb5 hHeld.2.2.2.2.1, pw_cell_below hb5 hHeld.2.2.2.2.2⟩ (fun hHeld => ?_)⟩
       clear hb5 HD
       by_cases hcx : cmpT x y < 0
       ·have hcd : decide (cmpT x y < 0) = true := decide_eq_true hcx
        clear hK K
        refine nm0 (some 32) ?_
        refine pu 15 33 (bs 17 65535) ?_
        refine pu 16 34 (bs 17 131071) ?_
        refine dn0 ?_
        have HCX := Lib.hid hcx
        clear hHeld
        obtain ⟨⟨c0, c1, c2⟩, cf, _⟩ := row_time (Kd.R_drew HS5.out.1) (i := q) (by have := HQ.out; omega)
        obtain ⟨⟨d0, d1, d2⟩, _, _⟩ := row_time (Kd.R_drew HS5.out.1) (i := r) (by have := HQ.out; omega)
        have hPa := HM.out.1
        have gx : ((P ++ Z0) ++ y :: x :: (Z2 ++ R ++ S)).getD q tz = x := by
         have := HQ.out
         rw [List.getD_eq_getElem?_getD, List.getElem?_append_right (by simp; omega), List.length_append, show q - (P.length + Z0.length) = 1 by omega]; rfl
        have gy : ((P ++ Z0) ++ y :: x :: (Z2 ++ R ++ S)).getD r tz = y := by
         have := HQ.out
         rw [List.getD_eq_getElem?_getD, List.getElem?_append_right (by simp; omega), List.length_append, show r - (P.length + Z0.length) = 0 by omega]; rfl
        rw [gx] at c0 c1 c2
        rw [gy] at d0 d1 d2
        have f0 : w5.drew.frozen? ⟨g, q * 3, none⟩ = false := cf 0
        have f1 : w5.drew.frozen? ⟨g, q * 3 + 1, none⟩ = false := cf 1
        have f2 : w5.drew.frozen? ⟨g, q * 3 + 2, none⟩ = false := cf 2
        clear gx gy hPa cf
        go_upto_region 6 with fail
        refine start_ (n := 18) (S := fun w' => w'.cell? ⟨g, q * 3, none⟩ = some (.int .i64 x.1) ∧ w'.cell? ⟨g, q * 3 + 1, none⟩ = some (.int .i64 x.2.1) ∧ w'.cell? ⟨g, q * 3 + 2, none⟩ = some (.int .i64 x.2.2) ∧ w'.cell? ⟨g, r * 3, none⟩ = some (.int .i64 y.1) ∧ w'.cell? ⟨g, r * 3 + 1, none⟩ = some (.int .i64 y.2.1) ∧ w'.cell? ⟨g, r * 3 + 2, none⟩ = some (.int .i64 y.2.2)) (ds := [15, 17]) (bs 18 0) (by kernel_rfl) rfl (by kernel_rfl) ⟨c0, c1, c2, d0, d1, d2⟩ (fun hHeld => ?_)
        have HD := Aside0.mk (And.intro (Kd.R_drew HS5.out.1) (HS5.out.2.both (grownBy_below (below_drew1 (Below.refl w5.heap.size w5)))))
        clear c0 c1 c2 d0 d1 d2
        generalize w5.drew = wd5 at *
        refine pu 0 37 (bs 18 1) ?_
        refine pu 1 38 (bs 18 3) ?_
        refine pu 2 39 (bs 18 7) ?_
        refine pu 3 40 (bs 18 15) ?_
        refine pu 4 41 (bs 18 31) ?_
        refine pu 5 42 (bs 18 63) ?_
        refine pu 6 43 (bs 18 127) ?_
        refine pu 7 44 (bs 18 255) ?_
        refine pu 8 45 (bs 18 511) ?_
        refine tk6 9 46 (bs 18 1023) hHeld ?_
        refine pu 10 47 (bs 18 2047) ?_
        refine pu 11 48 (bs 18 4095) ?_
        refine pu 12 49 (bs 18 8191) ?_
        refine tk6 13 50 (bs 18 16383) hHeld ?_
        refine pu 14 51 (bs 18 32767) ?_
        obtain ⟨_, _, hst⟩ := row_time HD.out.1 (i := q) (by have := HQ.out; omega)
        have HST := Aside0.mk (hst y)
        clear hst
        refine la0 15 (bs 18 65535) (N := none) fun K hK => ?_
        refine sk0 ?_
        refine hK.out _ _ ?_
        clear hK K
        have h6 : kT.R 99 (((wd5.setCell ⟨g, q * 3, none⟩ (.int .i64 y.1)).setCell ⟨g, q * 3 + 1, none⟩ (.int .i64 y.2.1)).setCell ⟨g, q * 3 + 2, none⟩ (.int .i64 y.2.2)) base ok (.slice (some ⟨g, 0, none⟩) N cap) (((P ++ Z0) ++ y :: x :: (Z2 ++ R ++ S)).set q y) ∧ w.grownBy (((wd5.setCell ⟨g, q * 3, none⟩ (.int .i64 y.1)).setCell ⟨g, q * 3 + 1, none⟩ (.int .i64 y.2.1)).setCell ⟨g, q * 3 + 2, none⟩ (.int .i64 y.2.2)) (some g) := ⟨HST.out.1, HD.out.2.both HST.out.2⟩
        have H6 := Aside0.mk h6
        clear h6 hHeld f0 f1 f2
        generalize (((wd5.setCell ⟨g, q * 3, none⟩ (.int .i64 y.1)).setCell ⟨g, q * 3 + 1, none⟩ (.int .i64 y.2.1)).setCell ⟨g, q * 3 + 2, none⟩ (.int .i64 y.2.2)) = w6 at *
        obtain ⟨⟨z0, z1, z2⟩, zf, hz⟩ := row_time H6.out.1 (i := r) (by have := HQ.out; omega)
        have g0 : w6.frozen? ⟨g, r * 3, none⟩ = false := zf 0
        have g1 : w6.frozen? ⟨g, r * 3 + 1, none⟩ = false := zf 1
        have g2 : w6.frozen? ⟨g, r * 3 + 2, none⟩ = false := zf 2
        have HZ := Aside0.mk (hz x)
        clear hz zf
        generalize (((P ++ Z0) ++ y :: x :: (Z2 ++ R ++ S)).set q y).getD r tz = pq at *
        refine pu 16 52 (bs 18 131071) ?_
        refine la0 17 (bs 18 262143) (N := none) fun K hK => ?_
        refine sk0 ?_
        refine hK.out _ _ ?_
        clear hK K
        refine dn0 ?_
        have hset : (((P ++ Z0) ++ y :: x :: (Z2 ++ R ++ S)).set q y).set r x = P ++ Z0 ++ x :: (y :: Z2) ++ R ++ S := by
         have h1 := HQ.out
         have h2 := HM.out.1
         rw [List.set_append_right _ _ (by simp; omega), List.length_append, show q - (P.length + Z0.length) = 1 by omega]
         rw [List.set_append_right _ _ (by simp; omega), List.length_append, show r - (P.length + Z0.length) = 0 by omega]
         simp
        have H7 := Aside0.mk (show kT.R 99 (((w6.setCell ⟨g, r * 3, none⟩ (.int .i64 x.1)).setCell ⟨g, r * 3 + 1, none⟩ (.int .i64 x.2.1)).setCell ⟨g, r * 3 + 2, none⟩ (.int .i64 x.2.2)) base ok (.slice (some ⟨g, 0, none⟩) N cap) (P ++ Z0 ++ x :: (y :: Z2) ++ R ++ S) ∧ w.grownBy (((w6.setCell ⟨g, r * 3, none⟩ (.int .i64 x.1)).setCell ⟨g, r * 3 + 1, none⟩ (.int .i64 x.2.1)).setCell ⟨g, r * 3 + 2, none⟩ (.int .i64 x.2.2)) (some g) from ⟨by rw [← hset]; exact HZ.out.1, H6.out.2.both HZ.out.2⟩)
        clear hset
        go_wp2_with fail
        refine ⟨⟨r, Z0, y :: Z2, by first | rfl | (rw [wq]), ⟨HQ.out.1, by rw [HJ.out.1]; simp, fun z hz => ?_, H7.out.1, H7.out.2⟩⟩, by have := HQ.out; simp [intOf]; omega⟩
        rcases List.mem_cons.1 hz with rfl | hz
        ·exact Int.le_of_lt HCX.out
        ·exact HJ.out.2.1 z hz
       ·skip
        have hcd : decide (cmpT x y < 0) = false := decide_eq_false hcx
        have hcg : 0 ≤ cmpT x y := by omega
        clear hK K
        refine nm0 (some 32) ?_
        refine pu 15 33 (bs 17 65535) ?_
        refine pu 16 34 (bs 17 131071) ?_
        refine dn0 ?_
        have HCX := Lib.hid hcx
        go_wp2_with fail
        refine ⟨FIN.out (Z0.concat y) Z2 _ HJ.out.1 HJ.out.2.1 (fun y' hy' => ?_) (by have h := HS5.out.1; simpa using h) HS5.out.2, by simp [intOf]; omega⟩
        simp at hy'
        subst hy'
        exact ordT.le_of_not trivial trivial HCX.out
   ·have hlt' : ¬ ((k : Int) < (b : Int)) := by omega
    have hle' : (b : Int) ≤ (k : Int) := by omega
    go_wp2_with fail
    go_end0
    obtain ⟨h1, h2, h3, h4, h5, h6⟩ := hI.out
    have hR0 : R = [] := by
     have h := h3.length_eq
     have := HM.out
     simp only [List.length_append, List.length_cons] at h this
     exact List.eq_nil_of_length_eq_zero (by omega)
    subst hR0
    exact ⟨rfl, Z, by simpa using h3, h4, by simpa using h5, h6⟩
end Go.Proofs.YtbkfnmgkcgnifaaGreat
namespace Go.Proofs.YtbkfnmgkcgnifaaGreat
open Go.RowKit Go.Shelf Go.Proofs.YtbkfnmgkcgnifaaGreatW.PrintWords Go.Proofs.YtbkfnmgkcgnifaaGreatW.PrintLast Mdl
theorem cmpT_le_lt {a b c : Tm} (h : cmpT a b ≤ 0) (k : cmpT b c < 0) : cmpT a c < 0 := by
 have h1 := cmpT_trans h (Int.le_of_lt k)
 by_cases h2 : cmpT a c = 0
 ·have := cmpT_zero.1 h2
  subst this
  have h3 := cmpT_neg a b
  omega
 ·omega
theorem sorted_getD {l : List Tm} (hs : SortedBy cmpT l) {i j : Nat} (h : i ≤ j) (hj : j < l.length) : cmpT (l.getD i tz) (l.getD j tz) ≤ 0 := by
 rw [List.getD_eq_getElem?_getD, List.getD_eq_getElem?_getD, List.getElem?_eq_getElem (by omega), List.getElem?_eq_getElem hj]
 rcases Nat.lt_or_eq_of_le h with h | h
 ·exact List.pairwise_iff_getElem.1 hs i j (by omega) hj h
 ·subst h; exact Int.le_of_eq (cmpT_zero.2 rfl)
def MergePost (g N cap base : Nat) (ok : Nat → Prop) (P X Y S : List Tm) (w : World) (e : Ending) (w' : World) : Prop :=
 e = .returned (.tuple #[]) ∧ ∃ Z, Z.Perm (X ++ Y) ∧ SortedBy cmpT Z ∧ kT.R 99 w' base ok (.slice (some ⟨g, 0, none⟩) N cap) (P ++ Z ++ S) ∧ w.grownBy w' (some g)
set_option maxRecDepth 8000 in
set_option maxHeartbeats 4000000 in
theorem sym_one (g N cap base : Nat) (ok : Nat → Prop) (P Y S : List Tm) (x : Tm) (w : World) (hR : kT.R 99 w base ok (.slice (some ⟨g, 0, none⟩) N cap) (P ++ x :: Y ++ S)) (hY : 0 < Y.length) (hs : SortedBy cmpT Y) (hN : N ≤ 10000000000000) (a m b : Nat) (ha : a = P.length) (hm : m = P.length + 1) (hb : b = P.length + 1 + Y.length) :
  Calls Tryz.prog 123 #[.slice (some ⟨g, 0, none⟩) N cap, .int .i64 a, .int .i64 m, .int .i64 b, .func (.func 115) #[] #[]] w (MergePost g N cap base ok P [x] Y S w) := by
 have HR := Aside0.mk hR
 have hl := (Kd.R_reads' hR).1
 simp only [List.length_append, List.length_cons] at hl
 have wi : IntKind.i64.wrap ((m : Int) - a) = 1 := by rw [IntKind.wrap_i64]; omega
 have HM := Lib.hid (And.intro ha (And.intro hm (And.intro hb hl)))
 clear hR ha hm hb hl
 go_enter Tryz.func123, Tryz.ntmps123
 go_wp2
 go_loopw [10, 11] (fun i j wr => ∃ p q : Nat, i = .int .i64 p ∧ j = .int .i64 q ∧ m ≤ p ∧ p ≤ q ∧ q ≤ b ∧ Aside0 (kT.R 99 wr base ok (.slice (some ⟨g, 0, none⟩) N cap) (P ++ x :: Y ++ S) ∧ w.grownBy wr (some g) ∧ (∀ k, m ≤ k → k < p → cmpT (Y.getD (k - m) tz) x < 0) ∧ (∀ k, q ≤ k → k < b → ¬ cmpT (Y.getD (k - m) tz) x < 0))) (fun i j _ => (intOf j).toNat - (intOf i).toNat)
 case atStart => exact ⟨m, b, rfl, rfl, Nat.le_refl _, by have := HM.out; omega, Nat.le_refl _, HR.out, ⟨rfl, rfl, rfl, Nat.le_refl _, fun _ _ _ => rfl⟩, fun k h1 h2 => by omega, fun k h1 h2 => by omega⟩
 case round =>
  obtain ⟨p, q, rfl, rfl, hmp, hpq, hqb, hI⟩ := hrel
  by_cases hlt : p < q
  ·have hltI : (p : Int) < (q : Int) := by omega
   have hM := HM.out
   obtain ⟨h, hh⟩ : ∃ h, h = (p + q) / 2 := ⟨_, rfl⟩
   have w1 : IntKind.i64.wrap ((p : Int) + (q : Int)) = (p : Int) + (q : Int) := by rw [IntKind.wrap_i64]; omega
   have w2 : IntKind.u64.wrap ((p : Int) + (q : Int)) = (p : Int) + (q : Int) := by simp only [IntKind.wrap]; simp [IntKind.bits, IntKind.signed]; omega
   have w3 : IntKind.i64.wrap (((p : Int) + (q : Int)) / 2) = (h : Int) := by rw [IntKind.wrap_i64]; omega
   have w4 : IntKind.i64.wrap ((h : Int) + 1) = (h : Int) + 1 := by rw [IntKind.wrap_i64]; omega
   have gy : (P ++ x :: Y ++ S).getD h tz = Y.getD (h - m) tz := by
    rw [List.getD_eq_getElem?_getD, List.append_assoc, List.getElem?_append_right (by omega), List.cons_append, show h - P.length = (h - m) + 1 by omega, List.getElem?_cons_succ, List.getElem?_append_left (by omega), List.getD_eq_getElem?_getD]
   have gx : (P ++ x :: Y ++ S).getD a tz = x := by
    rw [List.getD_eq_getElem?_getD, List.append_assoc, List.getElem?_append_right (by omega), show a - P.length = 0 by omega]; rfl
   obtain ⟨⟨c0, c1, c2⟩, _, _⟩ := row_time hI.out.1 (i := h) (by omega)
   obtain ⟨⟨d0, d1, d2⟩, _, _⟩ := row_time hI.out.1 (i := a) (by omega)
   rw [gy] at c0 c1 c2
   rw [gx] at d0 d1 d2
   have hh0 : (0 : Int) ≤ (h : Int) := by omega
   have hhN : (h : Int) < (N : Int) := by omega
   have ha0 : (0 : Int) ≤ (a : Int) := by omega
   have haN : (a : Int) < (N : Int) := by omega
   generalize hy : Y.getD (h - m) tz = y at *
   have HY := Lib.hid (And.intro hh hy)
   clear gy gx hM hh hy
   go_upto_region 5 with fail
   refine start_ (n := 11) (S := fun w' => w'.cell? ⟨g, h * 3, none⟩ = some (.int .i64 y.1) ∧ w'.cell? ⟨g, h * 3 + 1, none⟩ = some (.int .i64 y.2.1) ∧ w'.cell? ⟨g, h * 3 + 2, none⟩ = some (.int .i64 y.2.2) ∧ w'.cell? ⟨g, a * 3, none⟩ = some (.int .i64 x.1) ∧ w'.cell? ⟨g, a * 3 + 1, none⟩ = some (.int .i64 x.2.1) ∧ w'.cell? ⟨g, a * 3 + 2, none⟩ = some (.int .i64 x.2.2)) (ds := []) (bs 11 0) (by kernel_rfl) rfl (by kernel_rfl) ⟨c0, c1, c2, d0, d1, d2⟩ (fun hHeld => ?_)
   have HD := Aside0.mk (And.intro (Kd.R_drew hI.out.1) (hI.out.2.1.both (grownBy_below (below_drew1 (Below.refl wr.heap.size wr)))))
   clear c0 c1 c2 d0 d1 d2
   generalize wr.drew = wd at *
   refine pu 0 40 (bs 11 1) ?_
   refine pu 1 41 (bs 11 3) ?_
   refine pu 2 42 (bs 11 7) ?_
   refine pu 3 43 (bs 11 15) ?_
   refine tk6 4 44 (bs 11 31) hHeld ?_
   refine pu 5 45 (bs 11 63) ?_
   refine pu 6 46 (bs 11 127) ?_
   refine pu 7 47 (bs 11 255) ?_
   refine tk6 8 48 (bs 11 511) hHeld ?_
   refine on0 9 49 (bs 11 1023) fun K hK => ?_
   have CM := byTime1_any y x wd
   simp only [tmV] at CM
   refine goesV_ Tryz.func115 (by kernel_rfl) rfl #[.agg #[.int .i64 y.1, .int .i64 y.2.1, .int .i64 y.2.2], .agg #[.int .i64 x.1, .int .i64 x.2.1, .int .i64 x.2.2]] (by rfl) rfl rfl rfl (by (try simp only [List.map_toArray, List.map_cons, List.map_nil]); first | done | rfl) ?_
   refine CM.mono ?_
   clear CM
   rintro e w5 ⟨rfl, hb5⟩
   have HS5 := Aside0.mk (And.intro (Kd.R_below HD.out.1 hb5) (HD.out.2.both (grownBy_below hb5)))
   refine ⟨_, rfl, hK.out _ _ ⟨pw_cell_below hb5 hHeld.1, pw_cell_below hb5 hHeld.2.1, pw_cell_below hb5 hHeld.2.2.1, pw_cell_below hb5 hHeld.2.2.2.1, pw_cell_below hb5 hHeld.2.2.2.2.1, pw_cell_below hb5 hHeld.2.2.2.2.2⟩ (fun hHeld => ?_)⟩
   clear hb5 HD
   clear hK K
   refine nm0 (some 49) ?_
   refine pu 10 50 (bs 11 2047) ?_
   refine dn0 ?_
   clear hHeld
   have HCX := Lib.hid (Int.lt_or_le (cmpT y x) 0)
   by_cases hcx : cmpT y x < 0
   ·have hcd : decide (cmpT y x < 0) = true := decide_eq_true hcx
    have HX := Lib.hid hcx
    go_wp2_with fail
    have hY2 := HY.out
    have hM := HM.out
    refine ⟨⟨h + 1, q, by go_num, rfl, by omega, by omega, hqb, HS5.out.1, HS5.out.2, fun k hk1 hk2 => ?_, hI.out.2.2.2⟩, by simp [intOf]; omega⟩
    refine cmpT_le_lt (sorted_getD hs (show k - m ≤ h - m by omega) (by omega)) ?_
    rw [hY2.2]; exact HX.out
   ·have hcd : decide (cmpT y x < 0) = false := decide_eq_false hcx
    have hcg : 0 ≤ cmpT y x := by omega
    have HX := Lib.hid hcx
    go_wp2_with fail
    have hY2 := HY.out
    have hM := HM.out
    refine ⟨⟨p, h, rfl, rfl, hmp, by omega, by omega, HS5.out.1, HS5.out.2, hI.out.2.2.1, fun k hk1 hk2 hk3 => ?_⟩, by simp [intOf]; omega⟩
    refine HX.out ?_
    rw [← hY2.2]
    exact cmpT_le_lt (sorted_getD hs (show h - m ≤ k - m by omega) (by omega)) hk3
  ·have hltI : ¬ (p : Int) < (q : Int) := by omega
   have hltI2 : (q : Int) ≤ (p : Int) := by omega
   obtain rfl : p = q := by omega
   obtain ⟨t, ht⟩ : ∃ t, p = t + 1 := ⟨p - 1, by have := HM.out; omega⟩
   have wp1 : IntKind.i64.wrap ((p : Int) - 1) = (t : Int) := by rw [IntKind.wrap_i64]; have := HM.out; omega
   have HT := Lib.hid (And.intro ht (And.intro hmp hqb))
   clear ht
   go_wp2_with fail
   go_loopw [13] (fun i wr => ∃ (k : Nat) (A B : List Tm), i = .int .i64 k ∧ Aside0 (k = a + A.length ∧ k ≤ t ∧ Y = A ++ B ∧ kT.R 99 wr base ok (.slice (some ⟨g, 0, none⟩) N cap) (P ++ A ++ x :: B ++ S) ∧ w.grownBy wr (some g))) (fun i _ => t - (intOf i).toNat)
   case atStart => exact ⟨a, [], Y, rfl, ⟨rfl, by have := HM.out; have := HT.out; omega, rfl, by simpa using hI.out.1, hI.out.2.1⟩⟩
   case round =>
    obtain ⟨k, A, B, rfl, hJ⟩ := hrel
    by_cases hkt : k < t
    ·have hktI : (k : Int) < (t : Int) := by omega
     cases B with
     | nil =>
      exfalso
      have h1 := hJ.out
      have h2 := HM.out
      have h3 := HT.out
      have h4 : Y.length = A.length := by rw [h1.2.2.1]; simp
      omega
     | cons y B =>
      obtain ⟨hk, hkt2, hYe, hRr, hgr⟩ := hJ.out
      obtain ⟨r, hr⟩ : ∃ r, r = k + 1 := ⟨_, rfl⟩
      have hPa := HM.out.1
      have hrow : P ++ A ++ x :: (y :: B) ++ S = (P ++ A) ++ x :: y :: (B ++ S) := by simp
      rw [hrow] at hRr
      have hlen := (Kd.R_reads' hRr).1
      simp only [List.length_append, List.length_cons] at hlen
      have gx : ((P ++ A) ++ x :: y :: (B ++ S)).getD k tz = x := by
       rw [List.getD_eq_getElem?_getD, List.getElem?_append_right (by simp; omega), List.length_append, show k - (P.length + A.length) = 0 by omega]; rfl
      have gy : ((P ++ A) ++ x :: y :: (B ++ S)).getD r tz = y := by
       rw [List.getD_eq_getElem?_getD, List.getElem?_append_right (by simp; omega), List.length_append, show r - (P.length + A.length) = 1 by omega]; rfl
      obtain ⟨⟨c0, c1, c2⟩, cf, _⟩ := row_time hRr (i := k) (by omega)
      obtain ⟨⟨d0, d1, d2⟩, _, _⟩ := row_time hRr (i := r) (by omega)
      rw [gx] at c0 c1 c2
      rw [gy] at d0 d1 d2
      have HQ := Lib.hid (And.intro hk (And.intro hr (And.intro hlen (And.intro hPa hYe))))
      have HJ := Aside0.mk (And.intro hRr hgr)
      have f0 : wr.drew.frozen? ⟨g, k * 3, none⟩ = false := cf 0
      have f1 : wr.drew.frozen? ⟨g, k * 3 + 1, none⟩ = false := cf 1
      have f2 : wr.drew.frozen? ⟨g, k * 3 + 2, none⟩ = false := cf 2
      have wk : IntKind.i64.wrap ((k : Int) + 1) = (r : Int) := by rw [IntKind.wrap_i64]; omega
      have hk0 : (0 : Int) ≤ (k : Int) := by omega
      have hkN : (k : Int) < (N : Int) := by omega
      have hr0 : (0 : Int) ≤ (r : Int) := by omega
      have hrN : (r : Int) < (N : Int) := by omega
      clear hk hkt2 hYe hRr hgr hr hPa hrow hlen gx gy cf hJ
      go_upto_region 11 with fail
      refine start_ (n := 18) (S := fun w' => w'.cell? ⟨g, r * 3, none⟩ = some (.int .i64 y.1) ∧ w'.cell? ⟨g, r * 3 + 1, none⟩ = some (.int .i64 y.2.1) ∧ w'.cell? ⟨g, r * 3 + 2, none⟩ = some (.int .i64 y.2.2) ∧ w'.cell? ⟨g, k * 3, none⟩ = some (.int .i64 x.1) ∧ w'.cell? ⟨g, k * 3 + 1, none⟩ = some (.int .i64 x.2.1) ∧ w'.cell? ⟨g, k * 3 + 2, none⟩ = some (.int .i64 x.2.2)) (ds := [15, 17]) (bs 18 0) (by kernel_rfl) rfl (by kernel_rfl) ⟨d0, d1, d2, c0, c1, c2⟩ (fun hHeld => ?_)
      have HD := Aside0.mk (And.intro (Kd.R_drew HJ.out.1) (HJ.out.2.both (grownBy_below (below_drew1 (Below.refl wr.heap.size wr)))))
      clear c0 c1 c2 d0 d1 d2
      generalize wr.drew = wd5 at *
      refine pu 0 61 (bs 18 1) ?_
      refine pu 1 62 (bs 18 3) ?_
      refine pu 2 63 (bs 18 7) ?_
      refine pu 3 64 (bs 18 15) ?_
      refine pu 4 65 (bs 18 31) ?_
      refine pu 5 66 (bs 18 63) ?_
      refine pu 6 67 (bs 18 127) ?_
      refine pu 7 68 (bs 18 255) ?_
      refine pu 8 69 (bs 18 511) ?_
      refine tk6 9 70 (bs 18 1023) hHeld ?_
      refine pu 10 71 (bs 18 2047) ?_
      refine pu 11 72 (bs 18 4095) ?_
      refine pu 12 73 (bs 18 8191) ?_
      refine tk6 13 74 (bs 18 16383) hHeld ?_
      refine pu 14 75 (bs 18 32767) ?_
      obtain ⟨_, _, hst⟩ := row_time HD.out.1 (i := k) (by have := HQ.out; omega)
      have HST := Aside0.mk (hst y)
      clear hst
      refine la0 15 (bs 18 65535) (N := none) fun K hK => ?_
      refine sk0 ?_
      refine hK.out _ _ ?_
      clear hK K
      have h6 : kT.R 99 (((wd5.setCell ⟨g, k * 3, none⟩ (.int .i64 y.1)).setCell ⟨g, k * 3 + 1, none⟩ (.int .i64 y.2.1)).setCell ⟨g, k * 3 + 2, none⟩ (.int .i64 y.2.2)) base ok (.slice (some ⟨g, 0, none⟩) N cap) (((P ++ A) ++ x :: y :: (B ++ S)).set k y) ∧ w.grownBy (((wd5.setCell ⟨g, k * 3, none⟩ (.int .i64 y.1)).setCell ⟨g, k * 3 + 1, none⟩ (.int .i64 y.2.1)).setCell ⟨g, k * 3 + 2, none⟩ (.int .i64 y.2.2)) (some g) := ⟨HST.out.1, HD.out.2.both HST.out.2⟩
      have H6 := Aside0.mk h6
      clear h6 hHeld f0 f1 f2
      generalize (((wd5.setCell ⟨g, k * 3, none⟩ (.int .i64 y.1)).setCell ⟨g, k * 3 + 1, none⟩ (.int .i64 y.2.1)).setCell ⟨g, k * 3 + 2, none⟩ (.int .i64 y.2.2)) = w6 at *
      obtain ⟨⟨z0, z1, z2⟩, zf, hz⟩ := row_time H6.out.1 (i := r) (by have := HQ.out; omega)
      have g0 : w6.frozen? ⟨g, r * 3, none⟩ = false := zf 0
      have g1 : w6.frozen? ⟨g, r * 3 + 1, none⟩ = false := zf 1
      have g2 : w6.frozen? ⟨g, r * 3 + 2, none⟩ = false := zf 2
      have HZ := Aside0.mk (hz x)
      clear hz zf
      generalize (((P ++ A) ++ x :: y :: (B ++ S)).set k y).getD r tz = pq at *
      refine pu 16 76 (bs 18 131071) ?_
      refine la0 17 (bs 18 262143) (N := none) fun K hK => ?_
      refine sk0 ?_
      refine hK.out _ _ ?_
      clear hK K
      refine dn0 ?_
      have hset : (((P ++ A) ++ x :: y :: (B ++ S)).set k y).set r x = P ++ (A ++ [y]) ++ x :: B ++ S := by
       have h1 := HQ.out
       rw [List.set_append_right _ _ (by simp; omega), List.length_append, show k - (P.length + A.length) = 0 by omega]
       rw [List.set_append_right _ _ (by simp; omega), List.length_append, show r - (P.length + A.length) = 1 by omega]
       simp
      have H7 := Aside0.mk (show kT.R 99 (((w6.setCell ⟨g, r * 3, none⟩ (.int .i64 x.1)).setCell ⟨g, r * 3 + 1, none⟩ (.int .i64 x.2.1)).setCell ⟨g, r * 3 + 2, none⟩ (.int .i64 x.2.2)) base ok (.slice (some ⟨g, 0, none⟩) N cap) (P ++ (A ++ [y]) ++ x :: B ++ S) ∧ w.grownBy (((w6.setCell ⟨g, r * 3, none⟩ (.int .i64 x.1)).setCell ⟨g, r * 3 + 1, none⟩ (.int .i64 x.2.1)).setCell ⟨g, r * 3 + 2, none⟩ (.int .i64 x.2.2)) (some g) from ⟨by rw [← hset]; exact HZ.out.1, H6.out.2.both HZ.out.2⟩)
      clear hset
      go_wp2_with fail
      have h1 := HQ.out
      refine ⟨⟨r, A ++ [y], B, rfl, ⟨by rw [List.length_append, List.length_singleton]; omega, by omega, by rw [h1.2.2.2.2]; simp, H7.out.1, H7.out.2⟩⟩, by simp [intOf]; omega⟩
    ·have hktI : ¬ (k : Int) < (t : Int) := by omega
     have hktI2 : (t : Int) ≤ (k : Int) := by omega
     go_wp2_with fail
     refine bodyPost_ret (results_none rfl _ _ _) rfl ⟨rfl, A ++ x :: B, ?_, ?_, by rw [← List.append_assoc]; exact hJ.out.2.2.2.1, hJ.out.2.2.2.2⟩
     ·rw [hJ.out.2.2.1]
      exact List.perm_middle
     ·have h1 := hJ.out
      have h2 := HM.out
      have h3 := HT.out
      have hYe := h1.2.2.1
      refine sorted_put ordT trivial (fun _ _ => trivial) (by rw [← hYe]; exact hs) (fun z hz => ?_) (fun y hy => ?_)
      ·obtain ⟨i, hi, rfl⟩ := List.getElem_of_mem hz
       have hlen : Y.length = A.length + B.length := by rw [hYe]; simp
       have := hI.out.2.2.2 (p + i) (by omega) (by omega)
       have e : Y.getD (p + i - m) tz = B[i] := by
        rw [hYe, List.getD_eq_getElem?_getD, List.getElem?_append_right (by omega), show p + i - m - A.length = i by omega, List.getElem?_eq_getElem hi]; rfl
       rw [e] at this
       exact ordT.le_of_not trivial trivial (Int.not_lt.2 this)
      ·have hne : A ≠ [] := by rintro rfl; simp at hy
       have hlen : Y.length = A.length + B.length := by rw [hYe]; simp
       have hpos : 0 < A.length := List.length_pos_iff.2 hne
       have := hI.out.2.2.1 (p - 1) (by omega) (by omega)
       have e : Y.getD (p - 1 - m) tz = y := by
        rw [hYe, List.getD_eq_getElem?_getD, List.getElem?_append_left (by omega), show p - 1 - m = A.length - 1 by omega, ← List.getLast?_eq_getElem?, hy]; rfl
       rw [e] at this
       exact Int.le_of_lt this
end Go.Proofs.YtbkfnmgkcgnifaaGreat
namespace Go.Proofs.YtbkfnmgkcgnifaaGreat
open Go.RowKit Go.Shelf Go.Proofs.YtbkfnmgkcgnifaaGreatW.PrintWords Go.Proofs.YtbkfnmgkcgnifaaGreatW.PrintLast Mdl
theorem cmpT_lt_le {a b c : Tm} (h : cmpT a b < 0) (k : cmpT b c ≤ 0) : cmpT a c < 0 := by
 have h1 := cmpT_trans (Int.le_of_lt h) k
 by_cases h2 : cmpT a c = 0
 ·have := cmpT_zero.1 h2
  subst this
  have h3 := cmpT_neg a b
  omega
 ·omega
set_option maxRecDepth 8000 in
set_option maxHeartbeats 4000000 in
theorem sym_last (g N cap base : Nat) (ok : Nat → Prop) (P X S : List Tm) (y : Tm) (w : World) (hR : kT.R 99 w base ok (.slice (some ⟨g, 0, none⟩) N cap) (P ++ X ++ y :: S)) (hX : 1 < X.length) (hs : SortedBy cmpT X) (hN : N ≤ 10000000000000) (a m b : Nat) (ha : a = P.length) (hm : m = P.length + X.length) (hb : b = P.length + X.length + 1) :
  Calls Tryz.prog 123 #[.slice (some ⟨g, 0, none⟩) N cap, .int .i64 a, .int .i64 m, .int .i64 b, .func (.func 115) #[] #[]] w (MergePost g N cap base ok P X [y] S w) := by
 have HR := Aside0.mk hR
 have hl := (Kd.R_reads' hR).1
 simp only [List.length_append, List.length_cons] at hl
 obtain ⟨n1, hn1⟩ : ∃ n1, n1 = X.length := ⟨_, rfl⟩
 have wi : IntKind.i64.wrap ((m : Int) - a) = (n1 : Int) := by rw [IntKind.wrap_i64]; omega
 have wj : IntKind.i64.wrap ((b : Int) - m) = 1 := by rw [IntKind.wrap_i64]; omega
 have hn2 : ((n1 : Int) == 1) = false := by simp; omega
 have HM := Lib.hid (And.intro ha (And.intro hm (And.intro hb (And.intro hl hX))))
 clear hR ha hm hb hl hX hn1
 go_enter Tryz.func123, Tryz.ntmps123
 go_wp2
 go_loopw [14, 15] (fun i j wr => ∃ p q : Nat, i = .int .i64 p ∧ j = .int .i64 q ∧ a ≤ p ∧ p ≤ q ∧ q ≤ m ∧ Aside0 (kT.R 99 wr base ok (.slice (some ⟨g, 0, none⟩) N cap) (P ++ X ++ y :: S) ∧ w.grownBy wr (some g) ∧ (∀ k, a ≤ k → k < p → ¬ cmpT y (X.getD (k - a) tz) < 0) ∧ (∀ k, q ≤ k → k < m → cmpT y (X.getD (k - a) tz) < 0))) (fun i j _ => (intOf j).toNat - (intOf i).toNat)
 case atStart => exact ⟨a, m, rfl, rfl, Nat.le_refl _, by have := HM.out; omega, Nat.le_refl _, HR.out, ⟨rfl, rfl, rfl, Nat.le_refl _, fun _ _ _ => rfl⟩, fun k h1 h2 => by omega, fun k h1 h2 => by omega⟩
 case round =>
  obtain ⟨p, q, rfl, rfl, hap, hpq, hqm, hI⟩ := hrel
  by_cases hlt : p < q
  ·have hltI : (p : Int) < (q : Int) := by omega
   have hM := HM.out
   obtain ⟨h, hh⟩ : ∃ h, h = (p + q) / 2 := ⟨_, rfl⟩
   have w1 : IntKind.i64.wrap ((p : Int) + (q : Int)) = (p : Int) + (q : Int) := by rw [IntKind.wrap_i64]; omega
   have w2 : IntKind.u64.wrap ((p : Int) + (q : Int)) = (p : Int) + (q : Int) := by simp only [IntKind.wrap]; simp [IntKind.bits, IntKind.signed]; omega
   have w3 : IntKind.i64.wrap (((p : Int) + (q : Int)) / 2) = (h : Int) := by rw [IntKind.wrap_i64]; omega
   have w4 : IntKind.i64.wrap ((h : Int) + 1) = (h : Int) + 1 := by rw [IntKind.wrap_i64]; omega
   have gx : (P ++ X ++ y :: S).getD h tz = X.getD (h - a) tz := by
    rw [List.getD_eq_getElem?_getD, List.append_assoc, List.getElem?_append_right (by omega), show h - P.length = h - a by omega, List.getElem?_append_left (by omega), List.getD_eq_getElem?_getD]
   have gy : (P ++ X ++ y :: S).getD m tz = y := by
    rw [List.getD_eq_getElem?_getD, List.getElem?_append_right (by simp; omega), List.length_append, show m - (P.length + X.length) = 0 by omega]; rfl
   obtain ⟨⟨c0, c1, c2⟩, _, _⟩ := row_time hI.out.1 (i := h) (by omega)
   obtain ⟨⟨d0, d1, d2⟩, _, _⟩ := row_time hI.out.1 (i := m) (by omega)
   rw [gx] at c0 c1 c2
   rw [gy] at d0 d1 d2
   have hh0 : (0 : Int) ≤ (h : Int) := by omega
   have hhN : (h : Int) < (N : Int) := by omega
   have hm0 : (0 : Int) ≤ (m : Int) := by omega
   have hmN : (m : Int) < (N : Int) := by omega
   generalize hy : X.getD (h - a) tz = x at *
   have HY := Lib.hid (And.intro hh hy)
   clear gy gx hM hh hy
   go_upto_region 17 with fail
   refine start_ (n := 12) (S := fun w' => w'.cell? ⟨g, m * 3, none⟩ = some (.int .i64 y.1) ∧ w'.cell? ⟨g, m * 3 + 1, none⟩ = some (.int .i64 y.2.1) ∧ w'.cell? ⟨g, m * 3 + 2, none⟩ = some (.int .i64 y.2.2) ∧ w'.cell? ⟨g, h * 3, none⟩ = some (.int .i64 x.1) ∧ w'.cell? ⟨g, h * 3 + 1, none⟩ = some (.int .i64 x.2.1) ∧ w'.cell? ⟨g, h * 3 + 2, none⟩ = some (.int .i64 x.2.2)) (ds := []) (bs 12 0) (by kernel_rfl) rfl (by kernel_rfl) ⟨d0, d1, d2, c0, c1, c2⟩ (fun hHeld => ?_)
   have HD := Aside0.mk (And.intro (Kd.R_drew hI.out.1) (hI.out.2.1.both (grownBy_below (below_drew1 (Below.refl wr.heap.size wr)))))
   clear c0 c1 c2 d0 d1 d2
   generalize wr.drew = wd at *
   refine pu 0 92 (bs 12 1) ?_
   refine pu 1 93 (bs 12 3) ?_
   refine pu 2 94 (bs 12 7) ?_
   refine pu 3 95 (bs 12 15) ?_
   refine tk6 4 96 (bs 12 31) hHeld ?_
   refine pu 5 97 (bs 12 63) ?_
   refine pu 6 98 (bs 12 127) ?_
   refine pu 7 99 (bs 12 255) ?_
   refine tk6 8 100 (bs 12 511) hHeld ?_
   refine on0 9 101 (bs 12 1023) fun K hK => ?_
   have CM := byTime1_any y x wd
   simp only [tmV] at CM
   refine goesV_ Tryz.func115 (by kernel_rfl) rfl #[.agg #[.int .i64 y.1, .int .i64 y.2.1, .int .i64 y.2.2], .agg #[.int .i64 x.1, .int .i64 x.2.1, .int .i64 x.2.2]] (by rfl) rfl rfl rfl (by (try simp only [List.map_toArray, List.map_cons, List.map_nil]); first | done | rfl) ?_
   refine CM.mono ?_
   clear CM
   rintro e w5 ⟨rfl, hb5⟩
   have HS5 := Aside0.mk (And.intro (Kd.R_below HD.out.1 hb5) (HD.out.2.both (grownBy_below hb5)))
   refine ⟨_, rfl, hK.out _ _ ⟨pw_cell_below hb5 hHeld.1, pw_cell_below hb5 hHeld.2.1, pw_cell_below hb5 hHeld.2.2.1, pw_cell_below hb5 hHeld.2.2.2.1, pw_cell_below hb5 hHeld.2.2.2.2.1, pw_cell_below hb5 hHeld.2.2.2.2.2⟩ (fun hHeld => ?_)⟩
   clear hb5 HD
   by_cases hcx : cmpT y x < 0
   ·have hcd : decide (cmpT y x < 0) = true := decide_eq_true hcx
    clear hK K
    refine nm0 (some 101) ?_
    refine pu 10 102 (bs 12 2047) ?_
    refine pu 11 103 (bs 12 4095) ?_
    refine dn0 ?_
    clear hHeld
    have HX := Lib.hid hcx
    go_wp2_with fail
    have hY2 := HY.out
    have hM := HM.out
    refine ⟨⟨p, h, rfl, rfl, hap, by omega, by omega, HS5.out.1, HS5.out.2, hI.out.2.2.1, fun k hk1 hk2 => ?_⟩, by simp [intOf]; omega⟩
    refine cmpT_lt_le (b := x) HX.out ?_
    rw [← hY2.2]
    exact sorted_getD hs (show h - a ≤ k - a by omega) (by omega)
   ·skip
    have hcd : decide (cmpT y x < 0) = false := decide_eq_false hcx
    have hcg : 0 ≤ cmpT y x := by omega
    clear hK K
    refine nm0 (some 101) ?_
    refine pu 10 102 (bs 12 2047) ?_
    refine pu 11 103 (bs 12 4095) ?_
    refine dn0 ?_
    clear hHeld
    have HX := Lib.hid hcx
    go_wp2_with fail
    have hY2 := HY.out
    have hM := HM.out
    refine ⟨⟨h + 1, q, by go_num, rfl, by omega, by omega, hqm, HS5.out.1, HS5.out.2, fun k hk1 hk2 hk3 => ?_, hI.out.2.2.2⟩, by simp [intOf]; omega⟩
    refine HX.out (cmpT_lt_le hk3 ?_)
    rw [← hY2.2]
    exact sorted_getD hs (show k - a ≤ h - a by omega) (by omega)
  ·have hltI : ¬ (p : Int) < (q : Int) := by omega
   have hltI2 : (q : Int) ≤ (p : Int) := by omega
   obtain rfl : p = q := by omega
   have HT := Lib.hid (And.intro hap hqm)
   go_wp2_with fail
   go_loopw [17] (fun i wr => ∃ (k : Nat) (A B : List Tm), i = .int .i64 k ∧ Aside0 (k = a + A.length ∧ p ≤ k ∧ X = A ++ B ∧ kT.R 99 wr base ok (.slice (some ⟨g, 0, none⟩) N cap) (P ++ A ++ y :: B ++ S) ∧ w.grownBy wr (some g))) (fun i _ => (intOf i).toNat)
   case atStart => exact ⟨m, X, [], rfl, ⟨by have := HM.out; omega, hqm, by simp, by simpa using hI.out.1, hI.out.2.1⟩⟩
   case round =>
    obtain ⟨k, A, B, rfl, hJ⟩ := hrel
    by_cases hkt : p < k
    ·have hktI : (p : Int) < (k : Int) := by omega
     rcases List.eq_nil_or_concat A with rfl | ⟨A, x, rfl⟩
     ·exfalso
      have h1 := hJ.out.1
      simp at h1
      omega
     ·obtain ⟨hk, hkt2, hXe, hRr, hgr⟩ := hJ.out
      obtain ⟨r, hr⟩ : ∃ r, r = a + A.length := ⟨_, rfl⟩
      have hkr : k = r + 1 := by simp at hk; omega
      have hPa := HM.out.1
      have hrow : P ++ A.concat x ++ y :: B ++ S = (P ++ A) ++ x :: y :: (B ++ S) := by simp
      rw [hrow] at hRr
      have hlen := (Kd.R_reads' hRr).1
      simp only [List.length_append, List.length_cons] at hlen
      have gx : ((P ++ A) ++ x :: y :: (B ++ S)).getD r tz = x := by
       rw [List.getD_eq_getElem?_getD, List.getElem?_append_right (by simp; omega), List.length_append, show r - (P.length + A.length) = 0 by omega]; rfl
      have gy : ((P ++ A) ++ x :: y :: (B ++ S)).getD k tz = y := by
       rw [List.getD_eq_getElem?_getD, List.getElem?_append_right (by simp; omega), List.length_append, show k - (P.length + A.length) = 1 by omega]; rfl
      obtain ⟨⟨c0, c1, c2⟩, cf, _⟩ := row_time hRr (i := k) (by omega)
      obtain ⟨⟨d0, d1, d2⟩, _, _⟩ := row_time hRr (i := r) (by omega)
      rw [gy] at c0 c1 c2
      rw [gx] at d0 d1 d2
      have HQ := Lib.hid (And.intro hkr (And.intro hr (And.intro hlen (And.intro hPa hXe))))
      have HJ := Aside0.mk (And.intro hRr hgr)
      have f0 : wr.drew.frozen? ⟨g, k * 3, none⟩ = false := cf 0
      have f1 : wr.drew.frozen? ⟨g, k * 3 + 1, none⟩ = false := cf 1
      have f2 : wr.drew.frozen? ⟨g, k * 3 + 2, none⟩ = false := cf 2
      have wk : IntKind.i64.wrap ((k : Int) - 1) = (r : Int) := by rw [IntKind.wrap_i64]; omega
      have hk0 : (0 : Int) ≤ (k : Int) := by omega
      have hkN : (k : Int) < (N : Int) := by omega
      have hr0 : (0 : Int) ≤ (r : Int) := by omega
      have hrN : (r : Int) < (N : Int) := by omega
      clear hk hkt2 hXe hRr hgr hr hkr hPa hrow hlen gx gy cf hJ
      go_upto_region 23 with fail
      refine start_ (n := 18) (S := fun w' => w'.cell? ⟨g, r * 3, none⟩ = some (.int .i64 x.1) ∧ w'.cell? ⟨g, r * 3 + 1, none⟩ = some (.int .i64 x.2.1) ∧ w'.cell? ⟨g, r * 3 + 2, none⟩ = some (.int .i64 x.2.2) ∧ w'.cell? ⟨g, k * 3, none⟩ = some (.int .i64 y.1) ∧ w'.cell? ⟨g, k * 3 + 1, none⟩ = some (.int .i64 y.2.1) ∧ w'.cell? ⟨g, k * 3 + 2, none⟩ = some (.int .i64 y.2.2)) (ds := [15, 17]) (bs 18 0) (by kernel_rfl) rfl (by kernel_rfl) ⟨d0, d1, d2, c0, c1, c2⟩ (fun hHeld => ?_)
      have HD := Aside0.mk (And.intro (Kd.R_drew HJ.out.1) (HJ.out.2.both (grownBy_below (below_drew1 (Below.refl wr.heap.size wr)))))
      clear c0 c1 c2 d0 d1 d2
      generalize wr.drew = wd5 at *
      refine pu 0 113 (bs 18 1) ?_
      refine pu 1 114 (bs 18 3) ?_
      refine pu 2 115 (bs 18 7) ?_
      refine pu 3 116 (bs 18 15) ?_
      refine pu 4 117 (bs 18 31) ?_
      refine pu 5 118 (bs 18 63) ?_
      refine pu 6 119 (bs 18 127) ?_
      refine pu 7 120 (bs 18 255) ?_
      refine pu 8 121 (bs 18 511) ?_
      refine tk6 9 122 (bs 18 1023) hHeld ?_
      refine pu 10 123 (bs 18 2047) ?_
      refine pu 11 124 (bs 18 4095) ?_
      refine pu 12 125 (bs 18 8191) ?_
      refine tk6 13 126 (bs 18 16383) hHeld ?_
      refine pu 14 127 (bs 18 32767) ?_
      obtain ⟨_, _, hst⟩ := row_time HD.out.1 (i := k) (by have := HQ.out; omega)
      have HST := Aside0.mk (hst x)
      clear hst
      refine la0 15 (bs 18 65535) (N := none) fun K hK => ?_
      refine sk0 ?_
      refine hK.out _ _ ?_
      clear hK K
      have h6 : kT.R 99 (((wd5.setCell ⟨g, k * 3, none⟩ (.int .i64 x.1)).setCell ⟨g, k * 3 + 1, none⟩ (.int .i64 x.2.1)).setCell ⟨g, k * 3 + 2, none⟩ (.int .i64 x.2.2)) base ok (.slice (some ⟨g, 0, none⟩) N cap) (((P ++ A) ++ x :: y :: (B ++ S)).set k x) ∧ w.grownBy (((wd5.setCell ⟨g, k * 3, none⟩ (.int .i64 x.1)).setCell ⟨g, k * 3 + 1, none⟩ (.int .i64 x.2.1)).setCell ⟨g, k * 3 + 2, none⟩ (.int .i64 x.2.2)) (some g) := ⟨HST.out.1, HD.out.2.both HST.out.2⟩
      have H6 := Aside0.mk h6
      clear h6 hHeld f0 f1 f2
      generalize (((wd5.setCell ⟨g, k * 3, none⟩ (.int .i64 x.1)).setCell ⟨g, k * 3 + 1, none⟩ (.int .i64 x.2.1)).setCell ⟨g, k * 3 + 2, none⟩ (.int .i64 x.2.2)) = w6 at *
      obtain ⟨⟨z0, z1, z2⟩, zf, hz⟩ := row_time H6.out.1 (i := r) (by have := HQ.out; omega)
      have g0 : w6.frozen? ⟨g, r * 3, none⟩ = false := zf 0
      have g1 : w6.frozen? ⟨g, r * 3 + 1, none⟩ = false := zf 1
      have g2 : w6.frozen? ⟨g, r * 3 + 2, none⟩ = false := zf 2
      have HZ := Aside0.mk (hz y)
      clear hz zf
      generalize (((P ++ A) ++ x :: y :: (B ++ S)).set k x).getD r tz = pq at *
      refine pu 16 128 (bs 18 131071) ?_
      refine la0 17 (bs 18 262143) (N := none) fun K hK => ?_
      refine sk0 ?_
      refine hK.out _ _ ?_
      clear hK K
      refine dn0 ?_
      have hset : (((P ++ A) ++ x :: y :: (B ++ S)).set k x).set r y = P ++ A ++ y :: (x :: B) ++ S := by
       have h1 := HQ.out
       rw [List.set_append_right _ _ (by simp; omega), List.length_append, show k - (P.length + A.length) = 1 by omega]
       rw [List.set_append_right _ _ (by simp; omega), List.length_append, show r - (P.length + A.length) = 0 by omega]
       simp
      have H7 := Aside0.mk (show kT.R 99 (((w6.setCell ⟨g, r * 3, none⟩ (.int .i64 y.1)).setCell ⟨g, r * 3 + 1, none⟩ (.int .i64 y.2.1)).setCell ⟨g, r * 3 + 2, none⟩ (.int .i64 y.2.2)) base ok (.slice (some ⟨g, 0, none⟩) N cap) (P ++ A ++ y :: (x :: B) ++ S) ∧ w.grownBy (((w6.setCell ⟨g, r * 3, none⟩ (.int .i64 y.1)).setCell ⟨g, r * 3 + 1, none⟩ (.int .i64 y.2.1)).setCell ⟨g, r * 3 + 2, none⟩ (.int .i64 y.2.2)) (some g) from ⟨by rw [← hset]; exact HZ.out.1, H6.out.2.both HZ.out.2⟩)
      clear hset
      go_wp2_with fail
      have h1 := HQ.out
      refine ⟨⟨r, A, x :: B, rfl, ⟨h1.2.1, by omega, by rw [h1.2.2.2.2]; simp, H7.out.1, H7.out.2⟩⟩, by simp [intOf]; omega⟩
    ·have hktI : ¬ (p : Int) < (k : Int) := by omega
     have hktI2 : (k : Int) ≤ (p : Int) := by omega
     go_wp2_with fail
     refine bodyPost_ret (results_none rfl _ _ _) rfl ⟨rfl, A ++ y :: B, ?_, ?_, by rw [← List.append_assoc]; exact hJ.out.2.2.2.1, hJ.out.2.2.2.2⟩
     ·rw [hJ.out.2.2.1]
      exact List.perm_middle.trans (List.perm_append_singleton _ _).symm
     ·have h1 := hJ.out
      have h2 := HM.out
      have hXe := h1.2.2.1
      refine sorted_put ordT trivial (fun _ _ => trivial) (by rw [← hXe]; exact hs) (fun z hz => ?_) (fun x hx => ?_)
      ·obtain ⟨i, hi, rfl⟩ := List.getElem_of_mem hz
       have hlen : X.length = A.length + B.length := by rw [hXe]; simp
       have := hI.out.2.2.2 (p + i) (by omega) (by omega)
       have e : X.getD (p + i - a) tz = B[i] := by
        rw [hXe, List.getD_eq_getElem?_getD, List.getElem?_append_right (by omega), show p + i - a - A.length = i by omega, List.getElem?_eq_getElem hi]; rfl
       rw [e] at this
       exact Int.le_of_lt this
      ·have hne : A ≠ [] := by rintro rfl; simp at hx
       have hlen : X.length = A.length + B.length := by rw [hXe]; simp
       have hpos : 0 < A.length := List.length_pos_iff.2 hne
       have := hI.out.2.2.1 (p - 1) (by omega) (by omega)
       have e : X.getD (p - 1 - a) tz = x := by
        rw [hXe, List.getD_eq_getElem?_getD, List.getElem?_append_left (by omega), show p - 1 - a = A.length - 1 by omega, ← List.getLast?_eq_getElem?, hx]; rfl
       rw [e] at this
       exact ordT.le_of_not trivial trivial (by simpa using this)
end Go.Proofs.YtbkfnmgkcgnifaaGreat
namespace Go.Proofs.YtbkfnmgkcgnifaaGreat.Mdl
section
variable {α : Type} {cmp : α → α → Int} {p : α → Prop}
theorem sorted_last (h : Ord cmp p) {A : List α} (hp : ∀ z ∈ A, p z) (hs : SortedBy cmp A) {l : α} (hl : A.getLast? = some l) : ∀ z ∈ A, cmp z l ≤ 0 := by
 intro z hz
 obtain ⟨B, rfl⟩ := List.getLast?_eq_some_iff.1 hl
 rcases List.mem_append.1 hz with hz | hz
 ·exact (List.pairwise_append.1 hs).2.2 z hz l (List.mem_singleton.2 rfl)
 ·rw [List.mem_singleton.1 hz]; exact h.refl (hp l (by simp))
theorem sorted_head (h : Ord cmp p) {A : List α} (hp : ∀ z ∈ A, p z) (hs : SortedBy cmp A) {l : α} (hl : A.head? = some l) : ∀ z ∈ A, cmp l z ≤ 0 := by
 intro z hz
 cases A with
 | nil => cases hz
 | cons a A =>
  cases hl
  rcases List.mem_cons.1 hz with rfl | hz
  ·exact h.refl (hp _ List.mem_cons_self)
  ·exact (List.pairwise_cons.1 hs).1 z hz
theorem meet_le (h : Ord cmp p) {A B : List α} (hA : ∀ z ∈ A, p z) (hB : ∀ z ∈ B, p z) (sA : SortedBy cmp A) (sB : SortedBy cmp B) (hm : ∀ u, A.getLast? = some u → ∀ v, B.head? = some v → cmp u v ≤ 0) : ∀ u ∈ A, ∀ v ∈ B, cmp u v ≤ 0 := by
 intro u hu v hv
 have hAn : A ≠ [] := List.ne_nil_of_mem hu
 have hBn : B ≠ [] := List.ne_nil_of_mem hv
 have hl := List.getLast?_eq_some_getLast hAn
 have hh := List.head?_eq_some_head hBn
 have h1 := sorted_last h hA sA hl u hu
 have h2 := sorted_head h hB sB hh v hv
 have h3 := hm _ hl _ hh
 have pl := hA _ (List.getLast_mem hAn)
 have ph := hB _ (List.head_mem hBn)
 exact h.trans _ _ _ (hA u hu) pl (hB v hv) h1 (h.trans _ _ _ pl ph (hB v hv) h3 h2)
theorem split_le (h : Ord cmp p) {X1 X2 Y1 Y2 : List α} (hp : ∀ z ∈ X1 ++ X2 ++ Y1 ++ Y2, p z) (hX : SortedBy cmp (X1 ++ X2)) (hY : SortedBy cmp (Y1 ++ Y2)) (hA : ∀ u, X1.getLast? = some u → ∀ v, Y2.head? = some v → cmp u v ≤ 0) (hB : ∀ u, Y1.getLast? = some u → ∀ v, X2.head? = some v → cmp u v ≤ 0) :
  ∀ u ∈ X1 ++ Y1, ∀ v ∈ X2 ++ Y2, cmp u v ≤ 0 := by
 obtain ⟨sX1, sX2, hX12⟩ := List.pairwise_append.1 hX
 obtain ⟨sY1, sY2, hY12⟩ := List.pairwise_append.1 hY
 intro u hu v hv
 rcases List.mem_append.1 hu with hu | hu <;> rcases List.mem_append.1 hv with hv | hv
 ·exact hX12 u hu v hv
 ·exact meet_le h (fun z hz => hp z (by simp [hz])) (fun z hz => hp z (by simp [hz])) sX1 sY2 hA u hu v hv
 ·exact meet_le h (fun z hz => hp z (by simp [hz])) (fun z hz => hp z (by simp [hz])) sY1 sX2 hB u hu v hv
 ·exact hY12 u hu v hv
theorem sorted_join {Z1 Z2 : List α} (s1 : SortedBy cmp Z1) (s2 : SortedBy cmp Z2) (h : ∀ u ∈ Z1, ∀ v ∈ Z2, cmp u v ≤ 0) : SortedBy cmp (Z1 ++ Z2) := List.pairwise_append.2 ⟨s1, s2, h⟩
theorem insL_perm (x : α) : ∀ l : List α, (insL cmp x l).Perm (x :: l)
 | [] => List.Perm.refl _
 | y :: r => by
  unfold insL
  split
  ·exact ((insL_perm x r).cons y).trans (List.Perm.swap _ _ _)
  ·exact List.Perm.refl _
theorem insL_sorted (h : Ord cmp p) {x : α} (hx : p x) : ∀ {l : List α}, (∀ z ∈ l, p z) → SortedBy cmp l → SortedBy cmp (insL cmp x l)
 | [], _, _ => List.pairwise_singleton _ _
 | y :: r, hp, hs => by
  obtain ⟨h1, h2⟩ := List.pairwise_cons.1 hs
  unfold insL
  split
  ·rename_i hyx
   refine List.pairwise_cons.2 ⟨fun z hz => ?_, insL_sorted h hx (fun z hz => hp z (List.mem_cons_of_mem _ hz)) h2⟩
   rcases List.mem_cons.1 ((insL_perm x r).mem_iff.1 hz) with rfl | hz
   ·exact hyx
   ·exact h1 z hz
  ·rename_i hyx
   have hxy : cmp x y ≤ 0 := h.le_of_not (hp y List.mem_cons_self) hx (by omega)
   refine List.pairwise_cons.2 ⟨fun z hz => ?_, hs⟩
   rcases List.mem_cons.1 hz with rfl | hz
   ·exact hxy
   ·exact h.trans _ _ _ hx (hp y List.mem_cons_self) (hp z (List.mem_cons_of_mem _ hz)) hxy (h1 z hz)
theorem foldl_ins (h : Ord cmp p) : ∀ (l acc : List α), (∀ z ∈ l, p z) → (∀ z ∈ acc, p z) → SortedBy cmp acc → SortedBy cmp (l.foldl (fun a x => insL cmp x a) acc) ∧ (l.foldl (fun a x => insL cmp x a) acc).Perm (l ++ acc)
 | [], acc, _, _, hs => ⟨hs, List.Perm.refl _⟩
 | x :: l, acc, hl, ha, hs => by
  have hx := hl x List.mem_cons_self
  obtain ⟨h1, h2⟩ := foldl_ins h l (insL cmp x acc) (fun z hz => hl z (List.mem_cons_of_mem _ hz)) (fun z hz => by
   rcases List.mem_cons.1 ((insL_perm x acc).mem_iff.1 hz) with rfl | hz
   ·exact hx
   ·exact ha z hz) (insL_sorted h hx ha hs)
  exact ⟨h1, h2.trans (((insL_perm x acc).append_left l).trans List.perm_middle)⟩
theorem sortL_spec (h : Ord cmp p) {l : List α} (hl : ∀ z ∈ l, p z) : SortedBy cmp (sortL cmp l) ∧ (sortL cmp l).Perm l := by
 have := foldl_ins h l [] hl (by simp) List.Pairwise.nil
 rw [List.append_nil] at this
 exact this
theorem sortL_eq (h : Ord cmp p) {l m : List α} (hl : ∀ z ∈ l, p z) (hm : m.Perm l) (hs : SortedBy cmp m) : m = sortL cmp l := by
 obtain ⟨h1, h2⟩ := sortL_spec h hl
 exact sorted_unique h (fun z hz => hl z (hm.mem_iff.1 hz)) (hm.trans h2.symm) hs h1
theorem sym_parts (h : Ord cmp p) {X Y : List α} (hp : ∀ z ∈ X ++ Y, p z) (sX : SortedBy cmp X) (sY : SortedBy cmp Y) (i j : Nat) (hi : i ≤ X.length) (hj : j ≤ Y.length) (d : α)
  (hA : 0 < i → j < Y.length → ¬ cmp (Y.getD j d) (X.getD (i - 1) d) < 0) (hB : 0 < j → i < X.length → cmp (Y.getD (j - 1) d) (X.getD i d) < 0) :
  ∃ X1 X2 Y1 Y2, X = X1 ++ X2 ∧ Y = Y1 ++ Y2 ∧ X1.length = i ∧ Y1.length = j ∧ SortedBy cmp X1 ∧ SortedBy cmp X2 ∧ SortedBy cmp Y1 ∧ SortedBy cmp Y2 ∧ ∀ u ∈ X1 ++ Y1, ∀ v ∈ X2 ++ Y2, cmp u v ≤ 0 := by
 have eX : X = X.take i ++ X.drop i := (List.take_append_drop i X).symm
 have eY : Y = Y.take j ++ Y.drop j := (List.take_append_drop j Y).symm
 have pX : ∀ z ∈ X, p z := fun z hz => hp z (by simp [hz])
 have pY : ∀ z ∈ Y, p z := fun z hz => hp z (by simp [hz])
 have sX' : SortedBy cmp (X.take i ++ X.drop i) := by rw [← eX]; exact sX
 have sY' : SortedBy cmp (Y.take j ++ Y.drop j) := by rw [← eY]; exact sY
 obtain ⟨a1, a2, _⟩ := List.pairwise_append.1 sX'
 obtain ⟨b1, b2, _⟩ := List.pairwise_append.1 sY'
 refine ⟨X.take i, X.drop i, Y.take j, Y.drop j, eX, eY, by simp; omega, by simp; omega, a1, a2, b1, b2, split_le h (fun z hz => ?_) sX' sY' (fun u hu v hv => ?_) (fun u hu v hv => ?_)⟩
 ·simp only [List.mem_append] at hz
  rcases hz with ((hz | hz) | hz) | hz
  ·exact pX z (List.mem_of_mem_take hz)
  ·exact pX z (List.mem_of_mem_drop hz)
  ·exact pY z (List.mem_of_mem_take hz)
  ·exact pY z (List.mem_of_mem_drop hz)
 ·have hi0 : 0 < i := by
   rcases Nat.eq_zero_or_pos i with rfl | h0
   ·simp at hu
   ·exact h0
  have hj0 : j < Y.length := by
   rcases Nat.lt_or_ge j Y.length with h0 | h0
   ·exact h0
   ·rw [List.drop_of_length_le h0] at hv; simp at hv
  rw [List.getLast?_eq_getElem?, List.length_take, Nat.min_eq_left hi, List.getElem?_take, if_pos (by omega), List.getElem?_eq_getElem (by omega)] at hu
  rw [List.head?_drop, List.getElem?_eq_getElem hj0] at hv
  have hu : X[i - 1] = u := by injection hu
  have hv : Y[j] = v := by injection hv
  have := hA hi0 hj0
  rw [List.getD_eq_getElem?_getD, List.getElem?_eq_getElem hj0, List.getD_eq_getElem?_getD, List.getElem?_eq_getElem (by omega)] at this
  simp only [Option.getD_some] at this
  rw [hu, hv] at this
  exact h.le_of_not (hv ▸ pY _ (List.getElem_mem hj0)) (hu ▸ pX _ (List.getElem_mem _)) this
 ·have hj0 : 0 < j := by
   rcases Nat.eq_zero_or_pos j with rfl | h0
   ·simp at hu
   ·exact h0
  have hi0 : i < X.length := by
   rcases Nat.lt_or_ge i X.length with h0 | h0
   ·exact h0
   ·rw [List.drop_of_length_le h0] at hv; simp at hv
  rw [List.getLast?_eq_getElem?, List.length_take, Nat.min_eq_left hj, List.getElem?_take, if_pos (by omega), List.getElem?_eq_getElem (by omega)] at hu
  rw [List.head?_drop, List.getElem?_eq_getElem hi0] at hv
  have hu : Y[j - 1] = u := by injection hu
  have hv : X[i] = v := by injection hv
  have := hB hj0 hi0
  rw [List.getD_eq_getElem?_getD, List.getElem?_eq_getElem (show j - 1 < Y.length by omega), List.getD_eq_getElem?_getD, List.getElem?_eq_getElem hi0] at this
  simp only [Option.getD_some] at this
  rw [hu, hv] at this
  exact Int.le_of_lt this
end
end Go.Proofs.YtbkfnmgkcgnifaaGreat.Mdl
