/- Part 1 of the proof of ProgressRuns and ProgressTells. -/
import Derived.OrdersHeld
import Derived.Deep.RegionHeld3
import Derived.Laws.BitsLemmas
import Derived.RowKit
import Derived.KernelRfl
import Derived.Tactics
import Derived.Below
import Derived.Deep.Draws
import Derived.Deep.AppendLies
import Derived.Maps.AppendAt
import Derived.OwnWalk
import Derived.Laws.BytesArg
import Derived.Laws.MakeOwn
import Derived.Laws.OwnMore
import Derived.Deep.OwnRows
import Derived.Lib.ConvBytes
import Derived.Laws.Slices
import Derived.WalkKit
import Derived.RowKit3
import Derived.Deep.LoopGhost
import Derived.Deep.QuietTactic
import Derived.BigQuiet
import Derived.WideLaws
import Derived.Deep.DeepCutAuto
import Derived.Deep.CutBlock
import Derived.Laws.Rows
import Derived.Lib.AppendStr
import Derived.ArgAppend
import Derived.Laws.IdiomCopy
import Derived.Lib.Hide
import Derived.Test.YtbkfnmgkcgnifaaGreatProg
import Derived.WalkSpells
import Derived.WalkLawsBesides
import Derived.Laws.CopyOwn
import Derived.Shelf.Abstract
import Derived.Laws.EntriesVeiled
import Derived.Laws.StructEq
import Derived.MapKept
import Derived.ChangeMaps4
import Derived.Maps.RangeRun
set_option linter.all false
set_option maxRecDepth 8000
set_option maxHeartbeats 16000000
namespace Go.Proofs.YtbkfnmgkcgnifaaGreat.W2
section
variable {P:Program} {ops:Array Oper} {Q:Exit→Act→World→Prop} {md:Region.Mode} {S:World→Prop} {ds:List Nat}
def Region.reachB (md:Region.Mode) (ops:Array Oper) (i:Nat):Nat→Nat→Bool
 | 0,_=>false
 | fuel+1,d=>match ops[d]? with
  | some o=>o.after.any fun e=>Region.binds md e&&(e.on == i || Region.reachB md ops i fuel e.on)
  | none=>false
def Region.closedB (md:Region.Mode) (ops:Array Oper) (listed:Array Bool):Bool :=
 (List.range ops.size).all fun j=>!listed.getD j false || match ops[j]? with
  | some o=>o.after.all fun e=>!Region.binds md e || listed.getD e.on false
  | none=>true
def Region.lastB (md:Region.Mode) (ops:Array Oper) (listed:Array Bool) (ds:List Nat) (i:Nat):Bool :=
 ds.all fun d=>listed.getD d true || Region.reachB md ops i ops.size d
def J2p (md:Region.Mode) (ops:Array Oper) (listed:Array Bool):Prop :=
 ∀ j oj,ops[j]?=some oj→listed.getD j false=true→∀ e ∈ oj.after,Region.binds md e=true→listed.getD e.on false=true
theorem Region.closedB_spec {listed:Array Bool} (h:Region.closedB md ops listed=true):J2p md ops listed:=by
 intro j oj hj hl e he hb
 have hlt:j<ops.size:=(Array.getElem?_eq_some_iff.1 hj).1
 have h1:=List.all_eq_true.1 h j (List.mem_range.2 hlt)
 simp only [hl,hj,Bool.not_true,Bool.false_or] at h1
 have h2:=Array.all_eq_true_iff_forall_mem.1 h1 e he
 simpa [hb] using h2
theorem J2p.set {listed:Array Bool} {i:Nat} (h:J2p md ops listed) (hi:i ∈ Region.ready md ops listed):J2p md ops (listed.setIfInBounds i true):=by
 obtain ⟨_,oi,hoi,hall⟩:=mem_ready.1 hi
 intro j oj hj hl e he hb
 by_cases hij:i=j
 ·subst hij
  have:oj=oi:=Option.some.inj (hj.symm.trans hoi)
  subst this
  exact getD_set_true (hall e he hb)
 rw [getD_set_ne false hij] at hl
 exact getD_set_true (h j oj hj hl e he hb)
theorem Region.reach_listed {listed:Array Bool} {i:Nat} (hc:J2p md ops listed):∀ (fuel d:Nat),Region.reachB md ops i fuel d=true→listed.getD d false=true→listed.getD i false=true
 | 0,_,h,_=>by simp [Region.reachB] at h
 | fuel+1,d,h,hl=>by
  unfold Region.reachB at h
  cases ho:ops[d]? with
  | none=>rw [ho] at h;simp at h
  | some o=>?_
  rw [ho] at h
  obtain ⟨e,he,h1⟩:=Array.any_eq_true'.1 h
  simp only [Bool.and_eq_true,Bool.or_eq_true,beq_iff_eq] at h1
  have hle:=hc d o ho hl e he h1.1
  rcases h1.2 with h2 | h2
  ·rw [← h2];exact hle
  exact Region.reach_listed hc fuel e.on h2 hle
theorem Region.reach_not_ready {listed:Array Bool} {i d fuel:Nat} (hc:J2p md ops listed) (hr:Region.reachB md ops i fuel d=true) (hun:listed.getD i true=false):d ∉ Region.ready md ops listed:=by
 intro hd
 obtain ⟨_,o,ho,hall⟩:=mem_ready.1 hd
 have hi:listed.getD i false=true:=by
  cases fuel with
  | zero=>simp [Region.reachB] at hr
  | succ n=>?_
  unfold Region.reachB at hr
  rw [ho] at hr
  obtain ⟨e,he,h1⟩:=Array.any_eq_true'.1 hr
  simp only [Bool.and_eq_true,Bool.or_eq_true,beq_iff_eq] at h1
  have hle:=hall e he h1.1
  rcases h1.2 with h2 | h2
  ·rw [← h2];exact hle
  exact Region.reach_listed hc n e.on h2 hle
 rcases Nat.lt_or_ge i listed.size with h' | h'
 ·simp [h'] at hun hi
  rw [hun] at hi
  cases hi
 simp [Array.getElem?_eq_none h'] at hun
def J06 (P:Program) (md:Region.Mode) (ops:Array Oper) (Q:Exit→Act→World→Prop) (S:World→Prop) (ds:List Nat):Nat→Array Bool→Act→World→Prop
 | 0,listed,a,w=>Region.ready md ops listed=[]∧Q .normal a w
 | fuel+1,listed,a,w =>
  (Region.ready md ops listed=[]→Q .normal a w) ∧
  ∀ i ∈ Region.ready md ops listed,wpOp P ops Q i (fun a' w'=>(i ∉ ds→S w→S w')∧J06 P md ops Q S ds fuel (listed.setIfInBounds i true) a' w') a w
theorem J5w:∀ (fuel:Nat) (listed:Array Bool) (a:Act) (w:World),J06 P md ops Q S ds fuel listed a w→wpAny P md ops Q fuel listed a w
 | 0,_,_,_,h=>h
 | fuel+1,_,_,_,h=>⟨h.1,fun i hi=>wpOp_mono (fun a' w' h'=>J5w fuel _ a' w' h'.2) (h.2 i hi)⟩
theorem Jb0 {i:Nat} {oi:Oper} {v:Value} (hi:ops[i]?=some oi) (hsel:∀ (j:Nat) (o:Oper) cs b,ops[j]?=some o→o.op≠.select cs b)
  (hQ:∀ c a w,Q (.panic c) (a.put oi.dst v) w→Q (.panic c) a w) (n:Nat) :
  ∀ (fuel:Nat) (listed:Array Bool) (a:Act) (w:World),
   (∀ j oj,ops[j]?=some oj→j≠i→listed.getD j true=false→(∀ e ∈ oj.after,Region.binds md e=true→e.on≠i)→oi.apart ops oj=true) →
   J2p md ops listed→(∀ d ∈ ds,listed.getD d true=false→Region.reachB md ops i n d=true) →
   i ∈ Region.ready md ops listed→YieldsIf P ops S oi v a→S w →
   J06 P md ops Q S ds fuel (listed.setIfInBounds i true) (a.put oi.dst v) w→J06 P md ops Q S ds (fuel+1) listed a w:=by
 intro fuel
 induction fuel with
 | zero =>
  intro listed a w _ _ _ hr hy hS H
  refine ⟨fun h=>(by rw [h] at hr;cases hr),fun j hj=>?_⟩
  by_cases hji:j=i
  ·subst hji;exact hy.wpOp hi hS ⟨fun _ h=>h,H⟩
  have:=ready_mono hj hji
  rw [H.1] at this
  cases this
 | succ fuel ih =>
  intro listed a w hfree hc hd hr hy hS H
  refine ⟨fun h=>(by rw [h] at hr;cases hr),fun j hj=>?_⟩
  by_cases hji:j=i
  ·subst hji;exact hy.wpOp hi hS ⟨fun _ h=>h,H⟩
  have h1:=H.2 j (ready_mono hj hji)
  obtain ⟨hjun,oj,hoj,hall⟩:=mem_ready.1 hj
  have hiun:=(mem_ready.1 hr).1
  have hnot:∀ e ∈ oj.after,Region.binds md e=true→e.on≠i:=fun e he hb heq=>by
   have h1:=hall e he hb
   rw [heq] at h1
   rcases Nat.lt_or_ge i listed.size with h' | h'
   ·simp [h'] at hiun h1;rw [hiun] at h1;cases h1
   simp [Array.getElem?_eq_none h'] at h1
  have hjd:j ∉ ds:=fun hm=>Region.reach_not_ready hc (hd j hm hjun) hiun hj
  have h2:=wpOp_putIf hoj (hfree j oj hoj hji hjun hnot) (fun cs b=>hsel i oi cs b hi) (fun cs b=>hsel j oj cs b hoj) hQ hy h1
  have hfree':∀ k ok,ops[k]?=some ok→k≠i→(listed.setIfInBounds j true).getD k true=false →
    (∀ e ∈ ok.after,Region.binds md e=true→e.on≠i)→oi.apart ops ok=true:=fun k ok hk hki hun hno=>by
   refine hfree k ok hk hki ?_ hno
   by_cases hjk:j=k
   ·subst hjk;exact hjun
   rw [getD_set_ne true hjk] at hun;exact hun
  have hd':∀ d ∈ ds,(listed.setIfInBounds j true).getD d true=false→Region.reachB md ops i n d=true:=fun d hm hun=>by
   refine hd d hm ?_
   by_cases hjk:j=d
   ·subst hjk;exact hjun
   rw [getD_set_ne true hjk] at hun;exact hun
  refine wpOp_mono (fun a' w' h3=>⟨h3.2.1,ih (listed.setIfInBounds j true) a' w' hfree' (hc.set hj) hd' (ready_mono hr (Ne.symm hji)) h3.1 (h3.2.1 hjd hS) ?_⟩) h2
  rw [Array.setIfInBounds_comm _ _ hji]
  exact h3.2.2
theorem Je5 {i:Nat} {oi:Oper} {v:Value} (hi:ops[i]?=some oi) (hsel:∀ (j:Nat) (o:Oper) cs b,ops[j]?=some o→o.op≠.select cs b)
  (hQ:∀ c a w,Q (.panic c) (a.put oi.dst v) w→Q (.panic c) a w) :
  ∀ (fuel:Nat) (listed:Array Bool) (a:Act) (w:World),
   (∀ j oj,ops[j]?=some oj→j≠i→listed.getD j true=false→(∀ e ∈ oj.after,Region.binds md e=true→e.on≠i)→oi.apart ops oj=true) →
   i ∈ Region.ready md ops listed→Yields P ops oi v a →
   J06 P md ops Q S ds fuel (listed.setIfInBounds i true) (a.put oi.dst v) w→J06 P md ops Q S ds (fuel+1) listed a w:=by
 intro fuel
 induction fuel with
 | zero =>
  intro listed a w _ hr hy H
  refine ⟨fun h=>(by rw [h] at hr;cases hr),fun j hj=>?_⟩
  by_cases hji:j=i
  ·subst hji;exact (hy.yieldsIf (S:=fun _=>True)).wpOp hi trivial ⟨fun _ h=>h,H⟩
  have:=ready_mono hj hji
  rw [H.1] at this
  cases this
 | succ fuel ih =>
  intro listed a w hfree hr hy H
  refine ⟨fun h=>(by rw [h] at hr;cases hr),fun j hj=>?_⟩
  by_cases hji:j=i
  ·subst hji;exact (hy.yieldsIf (S:=fun _=>True)).wpOp hi trivial ⟨fun _ h=>h,H⟩
  have h1:=H.2 j (ready_mono hj hji)
  obtain ⟨hjun,oj,hoj,hall⟩:=mem_ready.1 hj
  have hiun:=(mem_ready.1 hr).1
  have hnot:∀ e ∈ oj.after,Region.binds md e=true→e.on≠i:=fun e he hb heq=>by
   have h1:=hall e he hb
   rw [heq] at h1
   rcases Nat.lt_or_ge i listed.size with h' | h'
   ·simp [h'] at hiun h1;rw [hiun] at h1;cases h1
   simp [Array.getElem?_eq_none h'] at h1
  have h2:=wpOp_put hoj (hfree j oj hoj hji hjun hnot) (fun cs b=>hsel i oi cs b hi) (fun cs b=>hsel j oj cs b hoj) hQ hy h1
  have hfree':∀ k ok,ops[k]?=some ok→k≠i→(listed.setIfInBounds j true).getD k true=false →
    (∀ e ∈ ok.after,Region.binds md e=true→e.on≠i)→oi.apart ops ok=true:=fun k ok hk hki hun hno=>by
   refine hfree k ok hk hki ?_ hno
   by_cases hjk:j=k
   ·subst hjk;exact hjun
   rw [getD_set_ne true hjk] at hun;exact hun
  refine wpOp_mono (fun a' w' h3=>⟨h3.2.1,ih (listed.setIfInBounds j true) a' w' hfree' (ready_mono hr (Ne.symm hji)) h3.1 ?_⟩) h2
  rw [Array.setIfInBounds_comm _ _ hji]
  exact h3.2.2
theorem Jcx {i:Nat} {oi:Oper} {v:Value} {fuel:Nat} {listed:Array Bool} {a:Act} {w:World} (hi:ops[i]?=some oi)
  (hs:Region.noSelect ops=true) (hf:Region.free md ops listed i=true) (hr:(Region.ready md ops listed).contains i=true)
  (hc:Region.closedB md ops listed=true) (hl:Region.lastB md ops listed ds i=true)
  (hQ:∀ c a w,Q (.panic c) (a.put oi.dst v) w→Q (.panic c) a w) (hy:YieldsIf P ops S oi v a) (hS:S w)
  (h:J06 P md ops Q S ds fuel (listed.setIfInBounds i true) (a.put oi.dst v) w):J06 P md ops Q S ds (fuel+1) listed a w :=
 Jb0 hi (Region.noSelect_spec hs) hQ ops.size fuel listed a w (Region.free_spec hi hf) (Region.closedB_spec hc)
  (fun d hm hun=>by have:=List.all_eq_true.1 hl d hm;rw [hun] at this;simpa using this) (by simpa using hr) hy hS h
theorem Je6 {rs:List Nat} {fuel:Nat} {listed:Array Bool} {a:Act} {w:World} (hr:Region.ready md ops listed=rs) (hne:rs≠[])
  (h:∀ i ∈ rs,wpOp P ops Q i (fun a' w'=>(i ∉ ds→S w→S w')∧J06 P md ops Q S ds fuel (listed.setIfInBounds i true) a' w') a w):J06 P md ops Q S ds (fuel+1) listed a w :=
 ⟨fun h0=>absurd (hr ▸ h0) hne,hr ▸ h⟩
theorem Jcy {listed:Array Bool} {a:Act} {w:World} (hr:Region.ready md ops listed=[]) (h:Q .normal a w) :
  ∀ fuel,J06 P md ops Q S ds fuel listed a w
 | 0=>⟨hr,h⟩
 | _+1=>⟨fun _=>h,by rw [hr];simp⟩
theorem Jcw {id:Nat} {a:Act} {w:World} (hm:P.follows .mixedOrders=true)
  (h:J06 P .any ops Q S ds ops.size (Array.replicate ops.size false) a { w with drawn:=w.drawn+1 }):(Code.region id ops true).wp P Q a w :=
 wp_region_any hm (J5w _ _ _ _ h)
end
section
variable {P:Program} {ops:Array Oper} {Q:Exit→Act→World→Prop} {md:Region.Mode} {S:World→Prop} {ds:List Nat}
def J1p (P:Program) (md:Region.Mode) (ops:Array Oper) (Q:Exit→Act→World→Prop) (S:World→Prop) (ds:List Nat) (fuel:Nat) (listed:Array Bool) (a:Act) (w:World) (rs:List Nat):Prop :=
 ∀ i ∈ rs,wpOp P ops Q i (fun a' w'=>(i ∉ ds→S w→S w')∧J06 P md ops Q S ds fuel (listed.setIfInBounds i true) a' w') a w
theorem J1p.nil {fuel:Nat} {listed:Array Bool} {a:Act} {w:World} : J1p P md ops Q S ds fuel listed a w []:=fun _ h=>by cases h
theorem J1p.cons {fuel:Nat} {listed:Array Bool} {a:Act} {w:World} {i:Nat} {o:Oper} {rs:List Nat} (ho:ops[i]?=some o) (hd:i ∉ ds)
  (h:∀ K':Act→World→Prop,Shut (∀ a w,S w→(S w→J06 P md ops Q S ds fuel (listed.setIfInBounds i true) a w)→K' a w)→if Region.wanted o (yielded ops a.tmps)=true then Oper.wp P o a w K' Q else K' (a.put o.dst undef) w)
  (hs:J1p P md ops Q S ds fuel listed a w rs):J1p P md ops Q S ds fuel listed a w (i::rs):=fun j hj=>by
 rcases List.mem_cons.1 hj with rfl | hj
 ·exact wpOp_step ho (fun K' hK=>h K' (fun a w hS hW=>hK a w ⟨fun _ _=>hS,hW hS⟩))
 exact hs j hj
theorem J1p.cons_last {fuel:Nat} {listed:Array Bool} {a:Act} {w:World} {i:Nat} {o:Oper} {rs:List Nat} (ho:ops[i]?=some o) (hd:i ∈ ds)
  (h:∀ K':Act→World→Prop,Shut (∀ a w,J06 P md ops Q S ds fuel (listed.setIfInBounds i true) a w→K' a w)→if Region.wanted o (yielded ops a.tmps)=true then Oper.wp P o a w K' Q else K' (a.put o.dst undef) w)
  (hs:J1p P md ops Q S ds fuel listed a w rs):J1p P md ops Q S ds fuel listed a w (i::rs):=fun j hj=>by
 rcases List.mem_cons.1 hj with rfl | hj
 ·exact wpOp_step ho (fun K' hK=>h K' (fun a w hW=>hK a w ⟨fun hn=>absurd hd hn,hW⟩))
 exact hs j hj
theorem J4d {rs:List Nat} {fuel:Nat} {listed:Array Bool} {a:Act} {w:World} (hr:Region.ready md ops listed=rs) (hne:rs≠[])
  (h:J1p P md ops Q S ds fuel listed a w rs):J06 P md ops Q S ds (fuel+1) listed a w:=Je6 hr hne h
theorem Jd9 {id n:Nat} {a:Act} {w:World} (l:Array Bool) (hm:P.follows .mixedOrders=true) (hn:ops.size=n) (hl:Array.replicate n false=l) (hS:S w.drew)
  (h:S w.drew→J06 P .any ops Q S ds n l a w.drew):(Code.region id ops true).wp P Q a w:=by
 subst hn
 subst hl
 exact Jcw hm (h hS)
def J5y (md:Region.Mode) (ops:Array Oper) (ds:List Nat) (l l':Array Bool) (i:Nat):Bool :=
 Region.noSelect ops&&Region.free md ops l i&&(Region.ready md ops l).contains i&&Region.closedB md ops l&&Region.lastB md ops l ds i&&(l.setIfInBounds i true == l')
theorem Jea {i:Nat} {N:Option Tmp} {oi:Oper} {v:Value} {fuel:Nat} {l:Array Bool} {a:Act} {w:World} (l':Array Bool) (hi:ops[i]?=some oi) (hN:oi.dst=N) (hc:J5y md ops ds l l' i=true)
  (hQ:∀ c a w,Q (.panic c) (a.put oi.dst v) w→Q (.panic c) a w) (hy:YieldsIf P ops S oi v a) (hS:S w) {a':Act} (ha:a.put N v=a')
  (h:J06 P md ops Q S ds fuel l' a' w):J06 P md ops Q S ds (fuel+1) l a w:=by
 subst ha
 subst hN
 simp only [J5y,Bool.and_eq_true,beq_iff_eq] at hc
 obtain ⟨⟨⟨⟨⟨h1,h2⟩,h3⟩,h4⟩,h5⟩,h6⟩:=hc
 subst h6
 exact Jcx hi h1 h2 h3 h4 h5 hQ hy hS h
def anyB (md:Region.Mode) (ops:Array Oper) (l l':Array Bool) (i:Nat):Bool :=
 Region.noSelect ops&&Region.free md ops l i&&(Region.ready md ops l).contains i&&(l.setIfInBounds i true == l')
theorem Jof {i:Nat} {N:Option Tmp} {oi:Oper} {v:Value} {fuel:Nat} {l:Array Bool} {a:Act} {w:World} (l':Array Bool) (hi:ops[i]?=some oi) (hN:oi.dst=N) (hc:anyB md ops l l' i=true)
  (hQ:∀ c a w,Q (.panic c) (a.put oi.dst v) w→Q (.panic c) a w) (hy:Yields P ops oi v a) {a':Act} (ha:a.put N v=a')
  (h:J06 P md ops Q S ds fuel l' a' w):J06 P md ops Q S ds (fuel+1) l a w:=by
 subst ha
 subst hN
 simp only [anyB,Bool.and_eq_true,beq_iff_eq] at hc
 obtain ⟨⟨⟨h1,h2⟩,h3⟩,h6⟩:=hc
 subst h6
 exact Je5 hi (Region.noSelect_spec h1) hQ fuel l a w (Region.free_spec hi h2) (by simpa using h3) hy h
def Jbl (md:Region.Mode) (ops:Array Oper) (l l':Array Bool) (i:Nat):Bool:=(Region.ready md ops l == [i])&&(l.setIfInBounds i true == l')
theorem one_ {i:Nat} {N:Option Tmp} {oi:Oper} {fuel:Nat} {l:Array Bool} {a:Act} {w:World} (l':Array Bool) (hi:ops[i]?=some oi) (hN:oi.dst=N) (hc:Jbl md ops l l' i=true) (hd:i ∉ ds)
  (h:∀ K:Act→World→Prop,Shut (∀ a' w',S w'→(S w'→J06 P md ops Q S ds fuel l' a' w')→K a' w')→if Region.wanted oi (yielded ops a.tmps)=true then Oper.wp P oi a w K Q else K (a.put N undef) w) :
  J06 P md ops Q S ds (fuel+1) l a w:=by
 subst hN
 simp only [Jbl,Bool.and_eq_true,beq_iff_eq] at hc
 obtain ⟨h1,h2⟩:=hc
 subst h2
 exact J4d h1 (by simp) (J1p.cons hi hd (fun K hK=>h K hK) J1p.nil)
theorem Jqe {i:Nat} {N:Option Tmp} {oi:Oper} {fuel:Nat} {l:Array Bool} {a:Act} {w:World} (l':Array Bool) (hi:ops[i]?=some oi) (hN:oi.dst=N) (hc:Jbl md ops l l' i=true) (hd:i ∈ ds)
  (h:∀ K:Act→World→Prop,Shut (∀ a' w',J06 P md ops Q S ds fuel l' a' w'→K a' w')→if Region.wanted oi (yielded ops a.tmps)=true then Oper.wp P oi a w K Q else K (a.put N undef) w) :
  J06 P md ops Q S ds (fuel+1) l a w:=by
 subst hN
 simp only [Jbl,Bool.and_eq_true,beq_iff_eq] at hc
 obtain ⟨h1,h2⟩:=hc
 subst h2
 exact J4d h1 (by simp) (J1p.cons_last hi hd (fun K hK=>h K hK) J1p.nil)
theorem Jsh {l:Array Bool} {a:Act} {w:World} {n:Nat} (hr:(Region.ready md ops l == [])=true) (h:Q .normal a w):J06 P md ops Q S ds n l a w:=Jcy (by simpa using hr) h n
theorem two_ {i j:Nat} {Ni Nj:Option Tmp} {oi oj:Oper} {fuel:Nat} {l:Array Bool} {a:Act} {w:World} (li lj:Array Bool) (hi:ops[i]?=some oi) (hj:ops[j]?=some oj) (hNi:oi.dst=Ni) (hNj:oj.dst=Nj)
  (hc:(Region.ready md ops l == [i,j]&&l.setIfInBounds i true == li&&l.setIfInBounds j true == lj)=true) (hdi:i ∉ ds) (hdj:j ∉ ds)
  (h1:∀ K:Act→World→Prop,Shut (∀ a' w',S w'→(S w'→J06 P md ops Q S ds fuel li a' w')→K a' w')→if Region.wanted oi (yielded ops a.tmps)=true then Oper.wp P oi a w K Q else K (a.put Ni undef) w)
  (h2:∀ K:Act→World→Prop,Shut (∀ a' w',S w'→(S w'→J06 P md ops Q S ds fuel lj a' w')→K a' w')→if Region.wanted oj (yielded ops a.tmps)=true then Oper.wp P oj a w K Q else K (a.put Nj undef) w) :
  J06 P md ops Q S ds (fuel+1) l a w:=by
 subst hNi
 subst hNj
 simp only [Bool.and_eq_true,beq_iff_eq] at hc
 obtain ⟨⟨h3,h4⟩,h5⟩:=hc
 subst h4
 subst h5
 exact J4d h3 (by simp) (J1p.cons hi hdi (fun K hK=>h1 K hK) (J1p.cons hj hdj (fun K hK=>h2 K hK) J1p.nil))
def J2x:Act→List (Tmp × Value)→Act
 | a,[]=>a
 | a,(n,v)::r=>J2x (a.put (some n) v) r
theorem Jl1 {σ:Type} {fuel:Nat} {l:Array Bool} {a:Act} {w:World} (fuel':Nat) (l':Array Bool) (ns:σ→List (Tmp × Value)) (F:σ→World→Prop)
  (hcont:∀ s w',F s w'→J06 P md ops Q S ds fuel' l' (J2x a (ns s)) w')
  (h:(∀ s w',F s w'→J06 P md ops Q S ds fuel' l' (J2x a (ns s)) w')→J06 P md ops Q S ds fuel l a w):J06 P md ops Q S ds fuel l a w:=h hcont
theorem Jkr {fuel:Nat} {l:Array Bool} {a a':Act} {w:World} (ha:a=a') (h:J06 P md ops Q S ds fuel l a' w):J06 P md ops Q S ds fuel l a w:=by
 subst ha
 exact h
theorem Jrm {oi:Oper} {N:Option Tmp} {a:Act} {w:World} {K:Act→World→Prop} (f:FuncId) (args:Array Value) (hw:Region.wanted oi (yielded ops a.tmps)=true) (hN:oi.dst=N) (hrun:(execOp a.eval oi).run P w=.ok (.enter f args) w)
  (h:Calls P f args w fun e w'=>∃ v,e=.returned v∧K (a.put N v) w'):if Region.wanted oi (yielded ops a.tmps)=true then Oper.wp P oi a w K Q else K (a.put N undef) w:=by
 rw [if_pos hw]
 subst hN
 unfold Oper.wp
 rw [hrun,Oper.upon_enter]
 refine h.mono fun e w'' hh=>?_
 obtain ⟨v,rfl,hk⟩:=hh
 exact hk
theorem Jf1 {f:FuncId} {fn:Func} (hf:P.funcs[f]?=some fn) (hname:(fn.name == "runtime.NumGoroutine")=false) (hb:fn.body.isSome=true) (args:Array Value) (w:World):(callFunc f args).run P w=.ok (.enter f args) w:=by
 have h1:fn.name ≠ "runtime.NumGoroutine" := by simpa using hname
 obtain ⟨c,hc⟩:=Option.isSome_iff_exists.1 hb
 simp [callFunc,hf,h1,hc]
theorem Js9 {oi:Oper} {N:Option Tmp} {a:Act} {w:World} {K:Act→World→Prop} {f:FuncId} {fn:Func} {xas:Array Operand} {ts:Array TypeId} (hf:P.funcs[f]?=some fn) (hname:(fn.name == "runtime.NumGoroutine")=false) (hb:fn.body.isSome=true) (args:Array Value)
  (hw:Region.wanted oi (yielded ops a.tmps)=true) (hN:oi.dst=N) (hop:oi.op=.call { callee:=.value (.func f),args:=xas,argTypes:=ts }) (hargs:xas.map a.eval=args)
  (h:Calls P f args w fun e w'=>∃ v,e=.returned v∧K (a.put N v) w'):if Region.wanted oi (yielded ops a.tmps)=true then Oper.wp P oi a w K Q else K (a.put N undef) w:=by
 refine Jrm f args hw hN ?_ h
 have he:=Jf1 hf hname hb args w
 unfold execOp
 simp [hop,resolve,Deferred.ofValue,invoke,Act.eval,hargs,he]
theorem Jpj {oi:Oper} {N:Option Tmp} {a:Act} {w w1:World} {v:Value} {K:Act→World→Prop} (hw:Region.wanted oi (yielded ops a.tmps)=true) (hN:oi.dst=N) (hrun:(execOp a.eval oi).run P w=.ok (.value v) w1)
  (h:K (a.put N v) w1):if Region.wanted oi (yielded ops a.tmps)=true then Oper.wp P oi a w K Q else K (a.put N undef) w:=by
 rw [if_pos hw]
 subst hN
 unfold Oper.wp
 rw [hrun]
 exact h
theorem Js3 {oi:Oper} {a:Act} {w w1:World} {K:Act→World→Prop} (hw:Region.wanted oi (yielded ops a.tmps)=true) (hN:oi.dst=none) (hrun:(execOp a.eval oi).run P w=.ok .skip w1)
  (h:K a w1):if Region.wanted oi (yielded ops a.tmps)=true then Oper.wp P oi a w K Q else K (a.put none undef) w:=by
 rw [if_pos hw]
 unfold Oper.wp
 rw [hrun]
 show K (a.put oi.dst undef) w1
 rw [hN]
 exact h
theorem Jc3 (n:Int):IntKind.i64.wrap n=Go.RowKit.wrap64 n:=by unfold Go.RowKit.wrap64;exact IntKind.wrap_i64 n
theorem Jov (n:Int):IntKind.i32.wrap n=Go.RowKit.wrap32 n:=by unfold Go.RowKit.wrap32;exact IntKind.wrap_i32 n
end
end Go.Proofs.YtbkfnmgkcgnifaaGreat.W2
namespace Go.Proofs.YtbkfnmgkcgnifaaGreat
open Go.RowKit W2
def bs (n k:Nat):Array Bool:=((List.range n).map (fun i=>k.testBit i)).toArray
section
variable {P:Program} {ops:Array Oper} {Q:Exit→Act→World→Prop} {md:Region.Mode} {S:World→Prop} {ds:List Nat} {oi:Oper} {fuel:Nat} {l:Array Bool} {a:Act} {w:World}
theorem pu (i N:Nat) (l':Array Bool) {v:Value} {a':Act} (h:J06 P md ops Q S ds fuel l' a' w) (hi:ops[i]?=some oi:=by rfl) (hN:oi.dst=some N:=by rfl) (hc:anyB md ops l l' i=true:=by kernel_rfl) (hQ:∀ c a w,Q (.panic c) (a.put oi.dst v) w→Q (.panic c) a w:=by exact fun _ _ _ h=>h) (hy:Yields P ops oi v a:=by exact .inl ⟨by rfl,by intro w';go_simp;with_reducible rfl⟩) (ha:a.put (some N) v=a':=by go_simp;rfl) :
  J06 P md ops Q S ds (fuel+1) l a w:=Jof l' hi hN hc hQ hy ha h
theorem uf0 (i N:Nat) (l':Array Bool) {a':Act} (h:J06 P md ops Q S ds fuel l' a' w) (hi:ops[i]?=some oi:=by rfl) (hN:oi.dst=some N:=by rfl) (hc:anyB md ops l l' i=true:=by kernel_rfl) (hQ:∀ c a w,Q (.panic c) (a.put oi.dst undef) w→Q (.panic c) a w:=by exact fun _ _ _ h=>h) (hy:Yields P ops oi undef a:=by exact Or.inr ⟨by rfl,rfl⟩) (ha:a.put (some N) undef=a':=by simp only [Act.put,List.setIfInBounds_toArray,List.set_cons_zero,List.set_cons_succ,Jc3,Jov];rfl) :
  J06 P md ops Q S ds (fuel+1) l a w:=Jof l' hi hN hc hQ hy ha h
theorem tk1 (i N:Nat) (l':Array Bool) (hS:S w) {v:Value} {a':Act} (h:J06 P md ops Q S ds fuel l' a' w) (hi:ops[i]?=some oi:=by rfl) (hN:oi.dst=some N:=by rfl) (hc:J5y md ops ds l l' i=true:=by kernel_rfl) (hQ:∀ c a w,Q (.panic c) (a.put oi.dst v) w→Q (.panic c) a w:=by exact fun _ _ _ h=>h) (hy:YieldsIf P ops S oi v a:=by exact .inl ⟨by rfl,by rintro w' s0;go_simp;with_reducible rfl⟩) (ha:a.put (some N) v=a':=by go_simp;rfl) :
  J06 P md ops Q S ds (fuel+1) l a w:=Jea l' hi hN hc hQ hy hS ha h
theorem tk2 (i N:Nat) (l':Array Bool) (hS:S w) {v:Value} {a':Act} (h:J06 P md ops Q S ds fuel l' a' w) (hi:ops[i]?=some oi:=by rfl) (hN:oi.dst=some N:=by rfl) (hc:J5y md ops ds l l' i=true:=by kernel_rfl) (hQ:∀ c a w,Q (.panic c) (a.put oi.dst v) w→Q (.panic c) a w:=by exact fun _ _ _ h=>h) (hy:YieldsIf P ops S oi v a:=by exact .inl ⟨by rfl,by rintro w' ⟨s0,s1⟩;go_simp;with_reducible rfl⟩) (ha:a.put (some N) v=a':=by go_simp;rfl) :
  J06 P md ops Q S ds (fuel+1) l a w:=Jea l' hi hN hc hQ hy hS ha h
theorem tk3 (i N:Nat) (l':Array Bool) (hS:S w) {v:Value} {a':Act} (h:J06 P md ops Q S ds fuel l' a' w) (hi:ops[i]?=some oi:=by rfl) (hN:oi.dst=some N:=by rfl) (hc:J5y md ops ds l l' i=true:=by kernel_rfl) (hQ:∀ c a w,Q (.panic c) (a.put oi.dst v) w→Q (.panic c) a w:=by exact fun _ _ _ h=>h) (hy:YieldsIf P ops S oi v a:=by exact .inl ⟨by rfl,by rintro w' ⟨s0,s1,s2⟩;go_simp;with_reducible rfl⟩) (ha:a.put (some N) v=a':=by go_simp;rfl) :
  J06 P md ops Q S ds (fuel+1) l a w:=Jea l' hi hN hc hQ hy hS ha h
theorem tk4 (i N:Nat) (l':Array Bool) (hS:S w) {v:Value} {a':Act} (h:J06 P md ops Q S ds fuel l' a' w) (hi:ops[i]?=some oi:=by rfl) (hN:oi.dst=some N:=by rfl) (hc:J5y md ops ds l l' i=true:=by kernel_rfl) (hQ:∀ c a w,Q (.panic c) (a.put oi.dst v) w→Q (.panic c) a w:=by exact fun _ _ _ h=>h) (hy:YieldsIf P ops S oi v a:=by exact .inl ⟨by rfl,by rintro w' ⟨s0,s1,s2,s3⟩;go_simp;with_reducible rfl⟩) (ha:a.put (some N) v=a':=by go_simp;rfl) :
  J06 P md ops Q S ds (fuel+1) l a w:=Jea l' hi hN hc hQ hy hS ha h
theorem tk5 (i N:Nat) (l':Array Bool) (hS:S w) {v:Value} {a':Act} (h:J06 P md ops Q S ds fuel l' a' w) (hi:ops[i]?=some oi:=by rfl) (hN:oi.dst=some N:=by rfl) (hc:J5y md ops ds l l' i=true:=by kernel_rfl) (hQ:∀ c a w,Q (.panic c) (a.put oi.dst v) w→Q (.panic c) a w:=by exact fun _ _ _ h=>h) (hy:YieldsIf P ops S oi v a:=by exact .inl ⟨by rfl,by rintro w' ⟨s0,s1,s2,s3,s4⟩;go_simp;with_reducible rfl⟩) (ha:a.put (some N) v=a':=by go_simp;rfl) :
  J06 P md ops Q S ds (fuel+1) l a w:=Jea l' hi hN hc hQ hy hS ha h
theorem tk6 (i N:Nat) (l':Array Bool) (hS:S w) {v:Value} {a':Act} (h:J06 P md ops Q S ds fuel l' a' w) (hi:ops[i]?=some oi:=by rfl) (hN:oi.dst=some N:=by rfl) (hc:J5y md ops ds l l' i=true:=by kernel_rfl) (hQ:∀ c a w,Q (.panic c) (a.put oi.dst v) w→Q (.panic c) a w:=by exact fun _ _ _ h=>h) (hy:YieldsIf P ops S oi v a:=by exact .inl ⟨by rfl,by rintro w' ⟨s0,s1,s2,s3,s4,s5⟩;go_simp;with_reducible rfl⟩) (ha:a.put (some N) v=a':=by go_simp;rfl) :
  J06 P md ops Q S ds (fuel+1) l a w:=Jea l' hi hN hc hQ hy hS ha h
theorem tk7 (i N:Nat) (l':Array Bool) (hS:S w) {v:Value} {a':Act} (h:J06 P md ops Q S ds fuel l' a' w) (hi:ops[i]?=some oi:=by rfl) (hN:oi.dst=some N:=by rfl) (hc:J5y md ops ds l l' i=true:=by kernel_rfl) (hQ:∀ c a w,Q (.panic c) (a.put oi.dst v) w→Q (.panic c) a w:=by exact fun _ _ _ h=>h) (hy:YieldsIf P ops S oi v a:=by exact .inl ⟨by rfl,by rintro w' ⟨s0,s1,s2,s3,s4,s5,s6⟩;go_simp;with_reducible rfl⟩) (ha:a.put (some N) v=a':=by go_simp;rfl) :
  J06 P md ops Q S ds (fuel+1) l a w:=Jea l' hi hN hc hQ hy hS ha h
theorem tk8 (i N:Nat) (l':Array Bool) (hS:S w) {v:Value} {a':Act} (h:J06 P md ops Q S ds fuel l' a' w) (hi:ops[i]?=some oi:=by rfl) (hN:oi.dst=some N:=by rfl) (hc:J5y md ops ds l l' i=true:=by kernel_rfl) (hQ:∀ c a w,Q (.panic c) (a.put oi.dst v) w→Q (.panic c) a w:=by exact fun _ _ _ h=>h) (hy:YieldsIf P ops S oi v a:=by exact .inl ⟨by rfl,by rintro w' ⟨s0,s1,s2,s3,s4,s5,s6,s7⟩;go_simp;with_reducible rfl⟩) (ha:a.put (some N) v=a':=by go_simp;rfl) :
  J06 P md ops Q S ds (fuel+1) l a w:=Jea l' hi hN hc hQ hy hS ha h
theorem on0 (i N:Nat) (l':Array Bool) (h:∀ K:Act→World→Prop,Shut (∀ a' w',S w'→(S w'→J06 P md ops Q S ds fuel l' a' w')→K a' w')→if Region.wanted oi (yielded ops a.tmps)=true then Oper.wp P oi a w K Q else K (a.put (some N) undef) w) (hi:ops[i]?=some oi:=by rfl) (hN:oi.dst=some N:=by rfl) (hc:Jbl md ops l l' i=true:=by kernel_rfl) (hd:i ∉ ds:=by decide) :
  J06 P md ops Q S ds (fuel+1) l a w:=one_ l' hi hN hc hd h
theorem la0 (i:Nat) (l':Array Bool) {N:Option Tmp} (h:∀ K:Act→World→Prop,Shut (∀ a' w',J06 P md ops Q S ds fuel l' a' w'→K a' w')→if Region.wanted oi (yielded ops a.tmps)=true then Oper.wp P oi a w K Q else K (a.put N undef) w) (hi:ops[i]?=some oi:=by rfl) (hN:oi.dst=N:=by rfl) (hc:Jbl md ops l l' i=true:=by kernel_rfl) (hd:i ∈ ds:=by decide) :
  J06 P md ops Q S ds (fuel+1) l a w:=Jqe l' hi hN hc hd h
theorem nm0 (N:Option Tmp) {v:Value} {a':Act} (h:J06 P md ops Q S ds fuel l a' w) (ha:a.put N v=a':=by simp only [Act.put,List.setIfInBounds_toArray,List.set_cons_zero,List.set_cons_succ,Jc3,Jov];rfl):J06 P md ops Q S ds fuel l (a.put N v) w:=by subst ha;exact h
theorem va0 {N:Option Tmp} {w1:World} {v:Value} {K:Act→World→Prop} (h:K (a.put N v) w1) (hw:Region.wanted oi (yielded ops a.tmps)=true:=by rfl) (hN:oi.dst=N:=by rfl) (hrun:(execOp a.eval oi).run P w=.ok (.value v) w1:=by go_simp;constructor<;>rfl):if Region.wanted oi (yielded ops a.tmps)=true then Oper.wp P oi a w K Q else K (a.put N undef) w:=Jpj hw hN hrun h
theorem gs0 {N:Option Tmp} {K:Act→World→Prop} {f:FuncId} {fn:Func} {xas:Array Operand} {ts:Array TypeId} (hf:P.funcs[f]?=some fn) (args:Array Value) (h:Calls P f args w fun e w'=>∃ v,e=.returned v∧K (a.put N v) w') (hname:(fn.name == "runtime.NumGoroutine")=false:=by kernel_rfl) (hb:fn.body.isSome=true:=by rfl)
  (hw:Region.wanted oi (yielded ops a.tmps)=true:=by rfl) (hN:oi.dst=N:=by rfl) (hop:oi.op=.call { callee:=.value (.func f),args:=xas,argTypes:=ts }:=by rfl) (hargs:xas.map a.eval=args:=by (try simp only [List.map_toArray,List.map_cons,List.map_nil]);first | done | rfl):if Region.wanted oi (yielded ops a.tmps)=true then Oper.wp P oi a w K Q else K (a.put N undef) w:=Js9 hf hname hb args hw hN hop hargs h
theorem sk0 {w1:World} {K:Act→World→Prop} (h:K a w1) (hw:Region.wanted oi (yielded ops a.tmps)=true:=by rfl) (hN:oi.dst=none:=by rfl) (hrun:(execOp a.eval oi).run P w=.ok .skip w1:=by go_simp;rfl):if Region.wanted oi (yielded ops a.tmps)=true then Oper.wp P oi a w K Q else K (a.put none undef) w:=Js3 hw hN hrun h
theorem dn0 {n:Nat} (h:Q .normal a w) (hr:(Region.ready md ops l == [])=true:=by kernel_rfl):J06 P md ops Q S ds n l a w:=Jsh hr h
end
end Go.Proofs.YtbkfnmgkcgnifaaGreat
set_option linter.unusedVariables false
set_option linter.unusedSimpArgs false
namespace Go.Proofs.YtbkfnmgkcgnifaaGreat.W1
open Go.RowKit
structure J08 (p:Prop):Prop where mk::(out:p)
def rd (xs:List Int) (i:Int):Int:=xs.getD i.toNat 0
theorem J1e {w W:World} (h:Below w.heap.size w W) (o:Obj):Below w.heap.size w (W.alloc o):=h.alloc h.size o
theorem J5s {B:Nat} {w W:World} (h:Below B w W):Below B w W.drew:=⟨h.os,h.tape,h.output,h.size,h.block⟩
theorem Jd0 {B:Nat} {w W:World} (h:Below B w W) (n:Nat):Below B w (W.drewN n):=⟨h.os,h.tape,h.output,h.size,h.block⟩
theorem J01 {B:Nat} {w w1 w2:World} (h:Below B w w1) (hB:B≤w1.heap.size) (k:Below w1.heap.size w1 w2):Below B w w2 :=
 h.trans ⟨k.os,k.tape,k.output,k.size,fun i hi=>k.block i (Nat.lt_of_lt_of_le hi hB)⟩
theorem J00 {w w1:World} (h:Below w.heap.size w w1) {a:Addr} {v:Value} (hc:w.cell? a=some v):w1.cell? a=some v:=(h.cell (World.block_lt_of_cell? w a hc)).trans hc
theorem J5t (g j:Nat):(⟨g,0,none⟩:Addr).add j=⟨g,j,none⟩:=by unfold Addr.add;split<;>simp_all
def J4a (w:World) (k:IntKind) (A:Option Addr) (n:Nat) (xs:List Int):Prop :=
 xs.length=n∧n≤9223372036854775807∧(0<n→∃ ad,A=some ad∧∀ j,j<n→w.cell? (ad.add j)=some (.int k (xs.getD j 0)))
theorem Jq3 (W:World) (base:Nat) (e:TypeId) (size:Nat):W.ownsRow base e size (.slice none 0 0) 0 []:=⟨by simp,.inl ⟨rfl,rfl⟩⟩
theorem J3i {w:World} {base:Nat} {e:TypeId} {size n:Nat} {v:Value} {xs:List Value} (h:w.ownsRow base e size v n xs) (k:Nat) (hk:v.ownBlock=some k):base≤k:=by
 rcases h.2 with ⟨rfl,_⟩ | ⟨g,cap,cur,rfl,hb,_⟩
 ·simp [Value.ownBlock] at hk
 have:g=k:=by simpa [Value.ownBlock] using hk
 omega
theorem Jdh {w:World} {base:Nat} {e:TypeId} {size n:Nat} {v:Value} {xs:List Value} (h:w.ownsRow base e size v n xs) (k:Nat) (hk:v.ownBlock=some k):k<w.heap.size:=by
 rcases h.2 with ⟨rfl,_⟩ | ⟨g,cap,cur,rfl,hb,hh,_⟩
 ·simp [Value.ownBlock] at hk
 have:g=k:=by simpa [Value.ownBlock] using hk
 subst this
 exact (Array.getElem?_eq_some_iff.1 hh).1
def Reps {α:Type} (R:α→List Value→Prop) (size:Nat) (ps:List α) (cs:List Value):Prop :=
 cs.length=ps.length*size∧∀ j p,ps[j]?=some p→R p ((cs.drop (j*size)).take size)
theorem Reps.none {α:Type} (R:α→List Value→Prop) (size:Nat):Reps R size [] []:=⟨by simp,fun j p h=>by simp at h⟩
theorem Reps.snoc {α:Type} {R:α→List Value→Prop} {size:Nat} {ps:List α} {cs c:List Value} {p:α} (h:Reps R size ps cs) (hp:R p c) (hc:c.length=size):Reps R size (ps++[p]) (cs++c):=by
 refine ⟨by rw [List.length_append,h.1,hc,List.length_append,List.length_singleton,Nat.add_mul,Nat.one_mul],fun j q hq=>?_⟩
 rcases Nat.lt_or_ge j ps.length with hj | hj
 ·rw [List.getElem?_append_left hj] at hq
  have h1:j*size+size≤cs.length:=by rw [h.1,← Nat.succ_mul];exact Nat.mul_le_mul_right _ hj
  have h2:=h.2 j q hq
  rw [List.drop_append_of_le_length (by omega),List.take_append_of_le_length (by rw [List.length_drop];omega)]
  exact h2
 have hj':j=ps.length:=by
  have:=(List.getElem?_eq_some_iff.1 hq).1
  rw [List.length_append,List.length_singleton] at this
  omega
 subst hj'
 have hq':p=q:=by simpa using hq
 subst hq'
 rw [← h.1,List.drop_left,← hc,List.take_length]
 exact hp
theorem Reps.imp_ {α:Type} {R R':α→List Value→Prop} {size:Nat} {ps:List α} {cs:List Value} (h:Reps R size ps cs) (hR:∀ p c,R p c→R' p c):Reps R' size ps cs:=⟨h.1,fun j p hj=>hR _ _ (h.2 j p hj)⟩
def J19 {α:Type} (R:α→List Value→Prop) (size:Nat) (w:World) (A:Option Addr) (n:Nat) (ps:List α):Prop :=
 ps.length=n∧n≤9223372036854775807∧(0<n→∃ ad,A=some ad∧∀ j p,ps[j]?=some p→∃ c,c.length=size∧R p c∧∀ i u,c[i]?=some u→w.cell? (ad.add (j*size+i))=some u)
theorem J19.get_ {α:Type} {R:α→List Value→Prop} {size:Nat} {w:World} {A:Option Addr} {n:Nat} {ps:List α} (h:J19 R size w A n ps) (d:α) (i:Int) (h0:0≤i) (h1:i<n) :
  ∃ ad c,A=some ad∧c.length=size∧R (ps.getD i.toNat d) c∧∀ j u,c[j]?=some u→w.cell? (ad.add (i.toNat*size+j))=some u:=by
 obtain ⟨ad,e,hc⟩:=h.2.2 (by omega)
 have hl:i.toNat<ps.length:=by have:=h.1;omega
 obtain ⟨c,hs,hr,hcell⟩:=hc i.toNat _ (List.getElem?_eq_getElem hl)
 refine ⟨ad,c,e,hs,?_,hcell⟩
 rw [List.getD_eq_getElem?_getD,List.getElem?_eq_getElem hl]
 exact hr
theorem J19.imp_ {α:Type} {R R':α→List Value→Prop} {size:Nat} {w w1:World} {A:Option Addr} {n:Nat} {ps:List α} (h:J19 R size w A n ps) (hb:Below w.heap.size w w1) (hR:∀ p c,R p c→R' p c):J19 R' size w1 A n ps :=
 ⟨h.1,h.2.1,fun hn=>by
  obtain ⟨ad,e,hc⟩:=h.2.2 hn
  refine ⟨ad,e,fun j p hj=>?_⟩
  obtain ⟨c,hs,hr,hcell⟩:=hc j p hj
  exact ⟨c,hs,hR _ _ hr,fun i u hu=>J00 hb (hcell i u hu)⟩⟩
theorem Jep {α:Type} {R:α→List Value→Prop} {w:World} {base n size:Nat} {e:TypeId} {v:Value} {ps:List α} {cs:List Value} (h:w.ownsRow base e size v n cs) (hR:Reps R size ps cs) (hn:ps.length=n) :
  ∃ A c,v=.slice A n c∧J19 R size w A n ps:=by
 rcases Nat.eq_zero_or_pos n with h0 | h0
 ·rcases h.2 with ⟨rfl,rfl⟩ | ⟨g,cap,cur,rfl,_⟩
  ·exact ⟨none,0,rfl,hn,by omega,fun hp=>absurd hp (by omega)⟩
  exact ⟨_,cap,rfl,hn,by omega,fun hp=>absurd hp (by omega)⟩
 obtain ⟨g,cap,rfl,_,_⟩:=h.form h0
 have hm:n≤9223372036854775807:=by
  rcases h.2 with ⟨_,h1⟩ | ⟨g',cap',cur,he,_,_,h1,h2,_⟩
  ·omega
  simp only [maxLen] at h2
  omega
 refine ⟨_,cap,rfl,hn,hm,fun _=>⟨_,rfl,fun j p hj=>⟨(cs.drop (j*size)).take size,?_,hR.2 j p hj,fun i u hu=>?_⟩⟩⟩
 ·have hjl:=(List.getElem?_eq_some_iff.1 hj).1
  have h1:j*size+size≤cs.length:=by rw [hR.1,← Nat.succ_mul];exact Nat.mul_le_mul_right _ hjl
  rw [List.length_take,List.length_drop]
  omega
 refine h.cells (g:=g) rfl _ u ?_
 rw [List.getElem?_take] at hu
 split at hu
 ·rw [List.getElem?_drop] at hu
  exact hu
 cases hu
theorem J1i (ad:Addr) (m j:Nat) (hj:0<j):ad.add (m+j)=⟨(ad.add m).block,(ad.add m).off+j,none⟩:=by
 unfold Addr.add
 by_cases hm:m=0
 ·subst hm
  simp [Nat.ne_of_gt hj]
 simp [hm,Nat.add_assoc]
section
variable {P:Program} {ops:Array Oper} {rest:List Oper} {o:Oper} {a:Act} {Q:Exit→Act→World→Prop}
theorem J8q {w0 W:World} (base:Nat) (hgd:o.guard=none) (s x:Operand) (t e:TypeId) (z:Value) (size bytes:Nat)
  (ho:o.op=.call { callee:=.builtin .append,args:=#[s,x],argTypes:=#[t,t] })
  (ht:P.underlying t=some (.slice e)) (hinfo:(P.info? e).map (fun i=>(i.zero,i.size,i.bytes))=some (some z,size,bytes)) (hz:z.cells.size=size) (hs0:0<size) (hb0:0<bytes)
  (v:Value) (n:Nat) (xs ys:List Value) (hs:a.eval s=v) (hx:a.eval x=.slice (some ⟨W.heap.size,0,none⟩) 1 1) (hys:ys.length=size) (h1:∀ u ∈ ys,u.oneCell'=true)
  (HO:W.ownsRow base e size v n xs) (HB:Below base w0 W) (hbase:base≤W.heap.size) (hl:(n+1)*bytes≤140737488355328)
  (h:∀ v1 w1,w1.ownsRow base e size v1 (n+1) (xs++ys)→Below base w0 w1→W.grownBy w1 v.ownBlock→(v1.ownBlock=v.ownBlock∨∃ b,v1.ownBlock=some b∧W.heap.size≤b)→wpList P ops Q rest (a.put o.dst v1) w1) :
  wpList P ops Q (o::rest) a (W.alloc (.cells ys.toArray e)):=by
 obtain ⟨i0,hi,hzz⟩:=Option.map_eq_some_iff.1 hinfo
 simp only [Prod.mk.injEq] at hzz
 obtain ⟨hz0,hz1,hz2⟩:=hzz
 have hlen:n+1≤140737488355328:=Nat.le_trans (Nat.le_mul_of_pos_right _ hb0) hl
 refine wpList_append_own_at (W.alloc (.cells ys.toArray e)) hgd s x t ho base e i0 z size bytes ht hi hz0 hz1 hz2 hz hs0 v n xs hs (HO.alloc _) ⟨W.heap.size,0,none⟩ 1 1 ys hx (by rw [hys];simp)
  (by simpa using World.news_of_block (cs:=ys.toArray) (t:=e) (fr:=(0,0)) (heap_alloc_new W (.cells ys.toArray e))) h1 (by simp only [maxLen];omega) hl (by simp;omega) ?_
 intro v1 w1 hown hg _ hat
 refine h v1 w1 hown ((HB.alloc hbase _).grown hg (by simp;omega) (J3i HO)) (World.grownBy.trans (World.grownBy_alloc W _ _) hg) ?_
 rcases hat with hat | hat
 ·exact .inl hat
 exact .inr ⟨_,hat,by simp⟩
end
theorem Jr2 {w:World} {base:Nat} {e t:TypeId} {size n g:Nat} {v:Value} {xs:List Value} {cs:Array Value} (h:w.ownsRow base e size v n xs) (hg:w.heap[g]?=some (.cells cs t (0,0))) (hne:e≠t):some g≠v.ownBlock:=by
 rcases h.2 with ⟨rfl,_⟩ | ⟨g',cap,cur,rfl,_,hh,_⟩
 ·simp [Value.ownBlock]
 intro he
 have:g=g':=by simpa [Value.ownBlock] using he
 subst this
 rw [hg] at hh
 injection hh with hh
 injection hh with _ ht
 exact hne ht.symm
theorem J9y {w:World} {g:Nat} {t:TypeId} {cs:Array Value} (h:w.heap[g]?=some (.cells cs t (0,0))) (i:Nat) (u:Value):(w.setCell ⟨g,i,none⟩ u).heap[g]?=some (.cells (cs.setIfInBounds i u) t (0,0)):=by
 simp [World.setCell,Array.getElem?_modify,h]
theorem J0q {w:World} {g:Nat} {o:Obj} (h:w.heap[g]?=some o):g<w.heap.size:=(Array.getElem?_eq_some_iff.1 h).1
theorem J03 {w:World} {g:Nat} {t:TypeId} {cs:Array Value} (h:w.heap[g]?=some (.cells cs t (0,0))) (i:Nat):w.cell? ⟨g,i,none⟩=cs[i]?:=cell_of_row w g i cs t (0,0) h
theorem J07 {w:World} {g:Nat} {t:TypeId} {cs:Array Value} (h:w.heap[g]?=some (.cells cs t (0,0))) (i:Nat):w.frozen? ⟨g,i,none⟩=false:=by simp [World.frozen?,h]
theorem J0x {w w1:World} {g:Nat} {o:Obj} {row:Option Nat} (h:w.heap[g]?=some o) (hg:w.grownBy w1 row) (hne:some g≠row):w1.heap[g]?=some o:=(hg.block g (J0q h) hne).trans h
section
variable {P:Program} {ops:Array Oper} {o:Oper} {a:Act} {Q:Exit→Act→World→Prop} {K:Act→World→Prop}
theorem J9h {w0 W:World} (base:Nat) (hw:Region.wanted o (yielded ops a.tmps)=true) (s x:Operand) (t e:TypeId) (z:Value) (size bytes:Nat)
  (ho:o.op=.call { callee:=.builtin .append,args:=#[s,x],argTypes:=#[t,t] })
  (ht:P.underlying t=some (.slice e)) (hinfo:(P.info? e).map (fun i=>(i.zero,i.size,i.bytes))=some (some z,size,bytes)) (hz:z.cells.size=size) (hs0:0<size) (hb0:0<bytes)
  (v:Value) (n:Nat) (xs ys:List Value) (hs:a.eval s=v) (hx:a.eval x=.slice (some ⟨W.heap.size,0,none⟩) 1 1) (hys:ys.length=size) (h1:∀ u ∈ ys,u.oneCell'=true)
  (HO:W.ownsRow base e size v n xs) (HB:Below base w0 W) (hbase:base≤W.heap.size) (hl:(n+1)*bytes≤140737488355328)
  (h:∀ v1 w1,w1.ownsRow base e size v1 (n+1) (xs++ys)→Below base w0 w1→W.grownBy w1 v.ownBlock→(v1.ownBlock=v.ownBlock∨∃ b,v1.ownBlock=some b∧W.heap.size≤b)→K (a.put o.dst v1) w1) :
  if Region.wanted o (yielded ops a.tmps)=true then Oper.wp P o a (W.alloc (.cells ys.toArray e)) K Q else K (a.put o.dst undef) (W.alloc (.cells ys.toArray e)):=by
 obtain ⟨i0,hi,hzz⟩:=Option.map_eq_some_iff.1 hinfo
 simp only [Prod.mk.injEq] at hzz
 obtain ⟨hz0,hz1,hz2⟩:=hzz
 have hlen:n+1≤140737488355328:=Nat.le_trans (Nat.le_mul_of_pos_right _ hb0) hl
 rw [if_pos hw]
 obtain ⟨v1,w1,hr,hown,hg,_,hat⟩:=run_append_own_at (P:=P) (W.alloc (.cells ys.toArray e)) base t o.type e i0 z size bytes ht hi hz0 hz1 hz2 hz hs0 v n xs (HO.alloc _) ⟨W.heap.size,0,none⟩ 1 1 ys (by rw [hys];simp)
  (by simpa using World.news_of_block (cs:=ys.toArray) (t:=e) (fr:=(0,0)) (heap_alloc_new W (.cells ys.toArray e))) h1 (by simp only [maxLen];omega) hl (by simp;omega)
 unfold Oper.wp execOp
 simp only [ho,resolve,invoke,builtin,Sem.run_bind,Sem.run_pure,Result.andThen_ok,List.map_toArray,List.map_cons,List.map_nil,hs,hx,hr]
 refine h v1 w1 hown ((HB.alloc hbase _).grown hg (by simp;omega) (J3i HO)) (World.grownBy.trans (World.grownBy_alloc W _ _) hg) ?_
 rcases hat with hat | hat
 ·exact .inl hat
 exact .inr ⟨_,hat,by simp⟩
end
theorem Jkp {w:World} {base base':Nat} {e:TypeId} {size n:Nat} {v:Value} {xs:List Value} (h:w.ownsRow base e size v n xs) (hb:base'≤base):w.ownsRow base' e size v n xs:=by
 obtain ⟨h1,h2⟩:=h
 refine ⟨h1,?_⟩
 rcases h2 with h2 | ⟨g,cap,cur,rfl,hg,r⟩
 ·exact .inl h2
 exact .inr ⟨g,cap,cur,rfl,Nat.le_trans hb hg,r⟩
section
variable {α:Type} {enc:α→Value} {d:α}
def rdOf (d:α) (xs:List α) (i:Int):α:=xs.getD i.toNat d
def Jct (enc:α→Value) (d:α) (w:World) (A:Option Addr) (n:Nat) (xs:List α):Prop :=
 xs.length=n∧n≤9223372036854775807∧(0<n→∃ ad,A=some ad∧∀ j,j<n→w.cell? (ad.add j)=some (enc (xs.getD j d)))
theorem Jct.at_ {w:World} {A:Option Addr} {n:Nat} {xs:List α} (h:Jct enc d w A n xs) (i:Int) (h0:0≤i) (h1:i<n):∃ ad,A=some ad∧w.cell? (ad.add i.toNat)=some (enc (rdOf d xs i)):=by
 obtain ⟨ad,e,hc⟩:=h.2.2 (by omega)
 exact ⟨ad,e,hc _ (by omega)⟩
theorem J8p {P:Program} (t e:TypeId) (z:Value) (bytes:Nat) (ht:P.underlying t=some (.slice e)) (hinfo:(P.info? e).map (fun i=>(i.zero,i.size,i.bytes))=some (some z,1,bytes)) (hz:z.cells=#[z]) (hb0:0<bytes)
  (m:Nat) (hn:m*bytes≤281474976710656) :
  ∀ W:World,(Instr.makeSlice t (.int .i64 (m:Int)) (.int .i64 (m:Int))).run P W=.ok (.slice (some ⟨W.heap.size,0,none⟩) m m) (W.alloc (.cells (madeCells #[z] m) e)):=by
 intro W
 have hm:m≤281474976710656:=Nat.le_trans (Nat.le_mul_of_pos_right _ hb0) hn
 exact run_make_row' t e z bytes ht hinfo hz .i64 .i64 m (by rw [Nat.mul_comm];exact hn) (by omega) W
end
theorem Jh7 {w:World} {g:Nat} {o:Obj} (h:w.heap[g]?=some o) (o':Obj):(w.alloc o').heap[g]?=some o:=(Below.heap_alloc w o' g (J0q h)).trans h
theorem J04 {w w1:World} {g:Nat} {o:Obj} (h:w.heap[g]?=some o) (hb:Below w.heap.size w w1):w1.heap[g]?=some o:=(hb.block g (J0q h)).trans h
theorem Jr3 {w:World} {base n m c size:Nat} {e:TypeId} {A:Option Addr} {xs:List Value} (h:w.ownsRow base e size (.slice A m c) n xs):m≤c:=by
 rcases h.2 with ⟨he,_⟩ | ⟨g,cap,cur,he,_,_,hnc,_⟩
 ·injection he with _ h2 h3
  omega
 injection he with _ h2 h3
 omega
def J55 {α:Type} (R:α→List Value→Prop) (e:TypeId) (size:Nat) (w:World) (base:Nat) (v:Value) (ps:List α):Prop :=
 ∃ inner,w.ownsRow base e size v ps.length inner∧Reps R size ps inner
section
variable {α:Type} {R R':α→List Value→Prop} {e:TypeId} {size:Nat} {w w1:World} {base:Nat} {v:Value} {ps:List α}
theorem J55.none_ (R:α→List Value→Prop) (e:TypeId) (size:Nat) (w:World) (base:Nat):J55 R e size w base (.slice none 0 0) []:=⟨[],Jq3 _ _ _ _,Reps.none _ _⟩
theorem J55.imp_ (h:J55 R e size w base v ps) (hR:∀ p c,R p c→R' p c):J55 R' e size w base v ps:=by
 obtain ⟨inner,ho,hr⟩:=h
 exact ⟨inner,ho,hr.imp_ hR⟩
theorem J55.reads (h:J55 R e size w base v ps):∃ A c,v=.slice A ps.length c∧ps.length≤c∧J19 R size w A ps.length ps:=by
 obtain ⟨inner,ho,hr⟩:=h
 obtain ⟨A,c,rfl,hrow⟩:=Jep ho hr rfl
 exact ⟨A,c,rfl,Jr3 ho,hrow⟩
theorem J55.ne_block (h:J55 R e size w base v ps) {g:Nat} {t:TypeId} {cells:Array Value} (hb:w.heap[g]?=some (.cells cells t (0,0))) (ht:e≠t):some g≠v.ownBlock:=by
 obtain ⟨inner,ho,hr⟩:=h
 exact Jr2 ho hb ht
end
theorem J19.inner_ {α:Type} {R:α→List Value→Prop} {size:Nat} {w:World} {ad:Addr} {n:Nat} {ps:List α} (h:J19 R size w (some ad) n ps) :
  ∃ inner,Reps R size ps inner∧∀ j u,inner[j]?=some u→w.cell? (ad.add j)=some u:=by
 have key:∀ m,m≤ps.length→∃ inner,Reps R size (ps.take m) inner∧∀ j u,inner[j]?=some u→w.cell? (ad.add j)=some u:=by
  intro m
  induction m with
  | zero=>exact fun _=>⟨[],Reps.none _ _,fun j u hu=>by simp at hu⟩
  | succ m ih =>
   intro hm
   obtain ⟨inner,hr,hc⟩:=ih (by omega)
   obtain ⟨ad',he,hcell⟩:=h.2.2 (by have:=h.1;omega)
   injection he with he
   subst he
   obtain ⟨c,hcl,hp,hcc⟩:=hcell m _ (List.getElem?_eq_getElem (show m<ps.length by omega))
   refine ⟨inner++c,?_,fun j u hu=>?_⟩
   ·rw [List.take_succ_eq_append_getElem (show m<ps.length by omega)]
    exact hr.snoc hp hcl
   have hil:inner.length=m*size:=by rw [hr.1,List.length_take,Nat.min_eq_left (by omega)]
   rcases Nat.lt_or_ge j inner.length with hj | hj
   ·rw [List.getElem?_append_left hj] at hu
    exact hc j u hu
   rw [List.getElem?_append_right hj] at hu
   have:=hcc (j - inner.length) u hu
   rwa [hil,Nat.add_sub_cancel' (by omega)] at this
 obtain ⟨inner,hr,hc⟩:=key ps.length (Nat.le_refl _)
 rw [List.take_length] at hr
 exact ⟨inner,hr,hc⟩
structure Kd (α:Type) where
 sz:Nat
 E:List Nat
 K:World→α→List Value→Prop
 M:World→Nat→(Nat→Prop)→α→List Value→Prop
 K_len:∀ {w x cs},K w x cs→cs.length=sz
 K_one:∀ {w x cs},K w x cs→∀ u ∈ cs,u.oneCell'=true
 K_below:∀ {w w1:World} {x cs},Below w.heap.size w w1→K w x cs→K w1 x cs
 K_of_M:∀ {w base ok x cs},M w base ok x cs→K w x cs
 M_mono:∀ {w base ok ok' x cs},(∀ k,ok k→ok' k)→M w base ok x cs→M w base ok' x cs
 M_bound:∀ {w:World} {base ok x cs},M w base ok x cs→M w base (fun k=>ok k∧base≤k∧k<w.heap.size∧∃ q,q ∈ E∧∃ cells,w.heap[k]?=some (.cells cells q (0,0))) x cs
 M_move:∀ {w w1:World} {base ok x cs},(∀ k,ok k→w1.heap[k]?=w.heap[k]?)→M w base ok x cs→M w1 base ok x cs
 M_lower:∀ {w base base' ok x cs},base'≤base→M w base ok x cs→M w base' ok x cs
theorem Joi {w w1:World} {base:Nat} {e:TypeId} {size n:Nat} {v:Value} {xs:List Value} (h:w.ownsRow base e size v n xs) (hm:∀ k,v.ownBlock=some k→w1.heap[k]?=w.heap[k]?):w1.ownsRow base e size v n xs:=by
 obtain ⟨h1,h2⟩:=h
 refine ⟨h1,?_⟩
 rcases h2 with h2 | ⟨g,cap,cur,rfl,hg,hh,r⟩
 ·exact .inl h2
 exact .inr ⟨g,cap,cur,rfl,hg,(hm g (by simp [Value.ownBlock])).trans hh,r⟩
theorem c07 {w:World} {base:Nat} {e:TypeId} {size n:Nat} {v:Value} {xs:List Value} (h:w.ownsRow base e size v n xs) (k:Nat) (hk:v.ownBlock=some k):∃ cells,w.heap[k]?=some (.cells cells e (0,0)):=by
 rcases h.2 with ⟨rfl,_⟩ | ⟨g,cap,cur,rfl,hg,hh,r⟩
 ·simp [Value.ownBlock] at hk
 have:g=k:=by simpa [Value.ownBlock] using hk
 subst this
 exact ⟨cur,hh⟩
namespace Kd
def C {α:Type} (d:Kd α) (w:World) (A:Option Addr) (n:Nat) (xs:List α):Prop:=J19 (d.K w) d.sz w A n xs
def R {α:Type} (d:Kd α) (e:Nat) (w:World) (base:Nat) (ok:Nat→Prop) (v:Value) (xs:List α):Prop :=
 (∀ k,v.ownBlock=some k→ok k)∧J55 (d.M w base (fun k=>ok k∧some k≠v.ownBlock)) e d.sz w base v xs
section
variable {α:Type} {d:Kd α} {e:Nat} {w w1:World} {base:Nat} {ok ok':Nat→Prop} {v:Value} {xs:List α}
theorem c00 {A:Option Addr} {n:Nat} (h:d.C w A n xs) (hb:Below w.heap.size w w1):d.C w1 A n xs:=J19.imp_ h hb (fun _ _ hp=>d.K_below hb hp)
theorem R_nil (d:Kd α) (e:Nat) (w:World) (base:Nat) (ok:Nat→Prop):d.R e w base ok (.slice none 0 0) []:=⟨fun k hk=>by simp [Value.ownBlock] at hk,J55.none_ _ _ _ _ _⟩
theorem c06 (h:d.R e w base ok v xs) (hok:∀ k,ok k→ok' k):d.R e w base ok' v xs:=⟨fun k hk=>hok k (h.1 k hk),h.2.imp_ (fun _ _ hp=>d.M_mono (fun k hk=>⟨hok k hk.1,hk.2⟩) hp)⟩
theorem c05 (h:d.R e w base ok v xs):d.R e w base (fun k=>ok k∧base≤k∧k<w.heap.size∧∃ q,q ∈ e::d.E∧∃ cells,w.heap[k]?=some (.cells cells q (0,0))) v xs:=by
 obtain ⟨h0,inner,ho,hr⟩:=h
 refine ⟨fun k hk=>?_,inner,ho,hr.imp_ (fun _ _ hp=>d.M_mono (fun k hk=>?_) (d.M_bound hp))⟩
 ·obtain ⟨cells,hc⟩:=c07 ho k hk
  exact ⟨h0 k hk,J3i ho k hk,Jdh ho k hk,e,List.mem_cons_self,cells,hc⟩
 obtain ⟨⟨h1,h2⟩,h3,h4,q,hq,hc⟩:=hk
 exact ⟨⟨h1,h3,h4,q,List.mem_cons_of_mem _ hq,hc⟩,h2⟩
theorem R_move (h:d.R e w base ok v xs) (hm:∀ k,ok k→w1.heap[k]?=w.heap[k]?):d.R e w1 base ok v xs:=by
 obtain ⟨h0,inner,ho,hr⟩:=h
 exact ⟨h0,inner,Joi ho (fun k hk=>hm k (h0 k hk)),hr.imp_ (fun _ _ hp=>d.M_move (fun k hk=>hm k hk.1) hp)⟩
theorem c04 {base':Nat} (h:d.R e w base ok v xs) (hb:base'≤base):d.R e w base' ok v xs:=by
 obtain ⟨h0,inner,ho,hr⟩:=h
 exact ⟨h0,inner,Jkp ho hb,hr.imp_ (fun _ _ hp=>d.M_lower hb hp)⟩
theorem Jhg (h:d.R e w base ok v xs) (hm:∀ k,ok k→k<w.heap.size→w1.heap[k]?=w.heap[k]?):d.R e w1 base ok v xs :=
 c06 (R_move (c05 h) (fun k hk=>hm k hk.1 hk.2.2.1)) (fun _ hk=>hk.1)
theorem Jpv {x:α} {cs:List Value} (h:d.M w base ok x cs) (hm:∀ k,ok k→k<w.heap.size→w1.heap[k]?=w.heap[k]?):d.M w1 base ok x cs :=
 d.M_mono (fun _ hk=>hk.1) (d.M_move (fun k hk=>hm k hk.1 hk.2.2.1) (d.M_bound h))
theorem c01 (h:d.R e w base ok v xs) (hb:Below w.heap.size w w1):d.R e w1 base ok v xs:=Jhg h (fun k _ hk=>hb.block k hk)
theorem Jnt {x:α} {cs:List Value} (h:d.M w base ok x cs) (hb:Below w.heap.size w w1):d.M w1 base ok x cs:=Jpv h (fun k _ hk=>hb.block k hk)
theorem R_grown (h:d.R e w base ok v xs) {row:Option Nat} (hg:w.grownBy w1 row) (hok:∀ k,ok k→some k≠row):d.R e w1 base ok v xs:=Jhg h (fun k ho hk=>hg.block k hk (hok k ho))
theorem R_far (h:d.R e w base ok v xs) {p:Addr} (hok:∀ k,ok k→k≠p.block) (u:Value):d.R e (w.setCell p u) base ok v xs:=Jhg h (fun k ho _=>Below.heap_setCell w p u k (hok k ho))
theorem c09 (h:d.R e w base ok v xs):∃ A c,v=.slice A xs.length c∧xs.length≤c∧d.C w A xs.length xs:=by
 obtain ⟨A,c,he,hl,hr⟩:=J55.reads h.2
 exact ⟨A,c,he,hl,hr.imp_ (Below.refl _ _) (fun _ _ hp=>d.K_of_M hp)⟩
theorem c02 (h:d.R e w base ok v xs):∃ A c,v=.slice A xs.length c:=by
 obtain ⟨A,c,he,_⟩:=c09 h
 exact ⟨A,c,he⟩
theorem R_own (h:d.R e w base ok v xs):∃ inner,w.ownsRow base e d.sz v xs.length inner:=by
 obtain ⟨_,inner,ho,_⟩:=h
 exact ⟨inner,ho⟩
theorem R_ne (h:d.R e w base ok v xs) {g t:Nat} {cells:Array Value} (hb:w.heap[g]?=some (.cells cells t (0,0))) (ht:e≠t):some g≠v.ownBlock:=J55.ne_block h.2 hb ht
theorem Jso {W:World} {b e0 s0 n0:Nat} {u:Value} {ys:List Value} (h:d.R e w W.heap.size ok v xs) (ho:W.ownsRow b e0 s0 u n0 ys):d.R e w W.heap.size (fun k=>ok k∧some k≠u.ownBlock) v xs :=
 c06 (c05 h) (fun k hk=>⟨hk.1,fun e=>by have:=Jdh ho k e.symm;omega⟩)
end
def scalar {α:Type} (enc:α→Value) (h1:∀ x,(enc x).oneCell'=true):Kd α where
 sz:=1
 E:=[]
 K:=fun _ x cs=>cs=[enc x]
 M:=fun _ _ _ x cs=>cs=[enc x]
 K_len:=fun h=>by rw [h];rfl
 K_one:=fun h u hu=>by
  rw [h] at hu
  rw [List.mem_singleton.1 hu]
  exact h1 _
 K_below:=fun _ h=>h
 K_of_M:=fun h=>h
 M_mono:=fun _ h=>h
 M_bound:=fun h=>h
 M_move:=fun _ h=>h
 M_lower:=fun _ h=>h
def int (k:IntKind):Kd Int:=scalar (Value.int k) (fun _=>rfl)
def bool:Kd Bool:=scalar Value.bool (fun _=>rfl)
def slice {α:Type} (e:Nat) (d:Kd α):Kd (List α) where
 sz:=1
 E:=e::d.E
 K:=fun w xs cs=>∃ A c,cs=[.slice A xs.length c]∧xs.length≤c∧d.C w A xs.length xs
 M:=fun w base ok xs cs=>∃ v,cs=[v]∧d.R e w base ok v xs
 K_len:=by
  rintro w x cs ⟨A,c,rfl,_⟩
  rfl
 K_one:=by
  rintro w x cs ⟨A,c,rfl,_⟩ u hu
  rw [List.mem_singleton.1 hu]
  rfl
 K_below:=by
  rintro w w1 x cs hb ⟨A,c,rfl,hl,hr⟩
  exact ⟨A,c,rfl,hl,c00 hr hb⟩
 K_of_M:=by
  rintro w base ok x cs ⟨v,rfl,h⟩
  obtain ⟨A,c,rfl,hl,hr⟩:=c09 h
  exact ⟨A,c,rfl,hl,hr⟩
 M_mono:=by
  rintro w base ok ok' x cs hok ⟨v,rfl,h⟩
  exact ⟨v,rfl,c06 h hok⟩
 M_bound:=by
  rintro w base ok x cs ⟨v,rfl,h⟩
  exact ⟨v,rfl,c05 h⟩
 M_move:=by
  rintro w w1 base ok x cs hm ⟨v,rfl,h⟩
  exact ⟨v,rfl,R_move h hm⟩
 M_lower:=by
  rintro w base base' ok x cs hb ⟨v,rfl,h⟩
  exact ⟨v,rfl,c04 h hb⟩
def pair {α β:Type} (a:Kd α) (b:Kd β):Kd (α × β) where
 sz:=a.sz+b.sz
 E:=a.E++b.E
 K:=fun w x cs=>∃ c0 c1,cs=c0++c1∧a.K w x.1 c0∧b.K w x.2 c1
 M:=fun w base ok x cs=>∃ c0 c1,cs=c0++c1∧a.M w base ok x.1 c0∧b.M w base ok x.2 c1
 K_len:=by
  rintro w x cs ⟨c0,c1,rfl,h0,h1⟩
  rw [List.length_append,a.K_len h0,b.K_len h1]
 K_one:=by
  rintro w x cs ⟨c0,c1,rfl,h0,h1⟩ u hu
  rcases List.mem_append.1 hu with hu | hu
  ·exact a.K_one h0 u hu
  exact b.K_one h1 u hu
 K_below:=by
  rintro w w1 x cs hb ⟨c0,c1,rfl,h0,h1⟩
  exact ⟨c0,c1,rfl,a.K_below hb h0,b.K_below hb h1⟩
 K_of_M:=by
  rintro w base ok x cs ⟨c0,c1,rfl,h0,h1⟩
  exact ⟨c0,c1,rfl,a.K_of_M h0,b.K_of_M h1⟩
 M_mono:=by
  rintro w base ok ok' x cs hok ⟨c0,c1,rfl,h0,h1⟩
  exact ⟨c0,c1,rfl,a.M_mono hok h0,b.M_mono hok h1⟩
 M_bound:=by
  rintro w base ok x cs ⟨c0,c1,rfl,h0,h1⟩
  refine ⟨c0,c1,rfl,a.M_mono ?_ (a.M_bound h0),b.M_mono ?_ (b.M_bound h1)⟩
  ·rintro k ⟨h2,h3,h4,q,hq,hc⟩
   exact ⟨h2,h3,h4,q,List.mem_append_left _ hq,hc⟩
  rintro k ⟨h2,h3,h4,q,hq,hc⟩
  exact ⟨h2,h3,h4,q,List.mem_append_right _ hq,hc⟩
 M_move:=by
  rintro w w1 base ok x cs hm ⟨c0,c1,rfl,h0,h1⟩
  exact ⟨c0,c1,rfl,a.M_move hm h0,b.M_move hm h1⟩
 M_lower:=by
  rintro w base base' ok x cs hb ⟨c0,c1,rfl,h0,h1⟩
  exact ⟨c0,c1,rfl,a.M_lower hb h0,b.M_lower hb h1⟩
theorem C_get {α:Type} {d:Kd α} {w:World} {A:Option Addr} {n:Nat} {xs:List α} (h:d.C w A n xs) (z:α) (i:Int) (h0:0≤i) (h1:i<n) :
  ∃ ad c,A=some ad∧c.length=d.sz∧d.K w (xs.getD i.toNat z) c∧∀ j u,c[j]?=some u→w.cell? (ad.add (i.toNat*d.sz+j))=some u:=J19.get_ h z i h0 h1
theorem Je3 {α:Type} {d:Kd α} {e base:Nat} {ok okp:Nat→Prop} {W w1:World} {v v1:Value} {xs:List α} {p:α} {inner cs:List Value} (h0:∀ k,v.ownBlock=some k→ok k) (hr:Reps (d.M W base (fun k=>ok k∧some k≠v.ownBlock)) d.sz xs inner) (hp:d.M W base okp p cs) (hokp:∀ k,okp k→ok k∧some k≠v.ownBlock) (hfresh:∀ k,W.heap.size≤k→ok k)
  (hown:w1.ownsRow base e d.sz v1 (xs.length+1) (inner++cs)) (hg:W.grownBy w1 v.ownBlock) (hat:v1.ownBlock=v.ownBlock∨∃ b,v1.ownBlock=some b∧W.heap.size≤b):d.R e w1 base ok v1 (xs++[p]):=by
 have hne:∀ k,some k≠v.ownBlock→k<W.heap.size→some k≠v1.ownBlock:=by
  intro k hk hlt
  rcases hat with hat | ⟨b,hb,hle⟩
  ·rw [hat];exact hk
  rw [hb]
  intro he
  injection he with he
  omega
 have step:∀ {q:α} {c:List Value} {o:Nat→Prop},d.M W base o q c→(∀ k,o k→ok k∧some k≠v.ownBlock)→d.M w1 base (fun k=>ok k∧some k≠v1.ownBlock) q c:=by
  intro q c o hq ho
  have h1:=d.M_move (w1:=w1) (fun k hk=>hg.block k hk.2.2.1 (ho k hk.1).2) (d.M_bound hq)
  exact d.M_mono (fun k hk=>⟨(ho k hk.1).1,hne k (ho k hk.1).2 hk.2.2.1⟩) h1
 refine ⟨fun k hk=>?_,inner++cs,by rw [List.length_append,List.length_singleton];exact hown,?_⟩
 ·rcases hat with hat | ⟨b,hb,hle⟩
  ·exact h0 k (hat ▸ hk)
  rw [hb] at hk
  injection hk with hk
  exact hfresh k (by omega)
 exact (hr.imp_ (fun _ _ hq=>step hq (fun _ hk=>hk))).snoc (step hp hokp) (d.K_len (d.K_of_M hp))
section
variable {P:Program} {ops:Array Oper} {rest:List Oper} {o:Oper} {a:Act} {Q:Exit→Act→World→Prop} {α:Type}
theorem R_append (d:Kd α) {w0 W:World} (base:Nat) (hgd:o.guard=none) (s x:Operand) (t e:TypeId) (z:Value) (bytes:Nat)
  (ho:o.op=.call { callee:=.builtin .append,args:=#[s,x],argTypes:=#[t,t] })
  (ht:P.underlying t=some (.slice e)) (hinfo:(P.info? e).map (fun i=>(i.zero,i.size,i.bytes))=some (some z,d.sz,bytes)) (hz:z.cells.size=d.sz) (hs0:0<d.sz) (hb0:0<bytes)
  (v:Value) (xs:List α) (p:α) (cs:List Value) (ok okp:Nat→Prop) (hs:a.eval s=v) (hx:a.eval x=.slice (some ⟨W.heap.size,0,none⟩) 1 1) (hp:d.M W base okp p cs) (hokp:∀ k,okp k→ok k∧some k≠v.ownBlock) (hfresh:∀ k,W.heap.size≤k→ok k)
  (HO:d.R e W base ok v xs) (HB:Below base w0 W) (hbase:base≤W.heap.size) (hl:(xs.length+1)*bytes≤140737488355328)
  (h:∀ v1 w1,d.R e w1 base ok v1 (xs++[p])→Below base w0 w1→W.grownBy w1 v.ownBlock→(v1.ownBlock=v.ownBlock∨∃ b,v1.ownBlock=some b∧W.heap.size≤b)→wpList P ops Q rest (a.put o.dst v1) w1) :
  wpList P ops Q (o::rest) a (W.alloc (.cells cs.toArray e)):=by
 obtain ⟨h0,inner,hown,hr⟩:=HO
 refine J8q base hgd s x t e z d.sz bytes ho ht hinfo hz hs0 hb0 v xs.length inner cs hs hx (d.K_len (d.K_of_M hp)) (d.K_one (d.K_of_M hp)) hown HB hbase hl ?_
 intro v1 w1 hown1 hb1 hg1 hat1
 exact h v1 w1 (Je3 h0 hr hp hokp hfresh hown1 hg1 hat1) hb1 hg1 hat1
end
section
variable {P:Program} {ops:Array Oper} {o:Oper} {a:Act} {Q:Exit→Act→World→Prop} {Kc:Act→World→Prop} {α:Type}
theorem R_append_step (d:Kd α) {w0 W:World} (base:Nat) (hw:Region.wanted o (yielded ops a.tmps)=true) (s x:Operand) (t e:TypeId) (z:Value) (bytes:Nat)
  (ho:o.op=.call { callee:=.builtin .append,args:=#[s,x],argTypes:=#[t,t] })
  (ht:P.underlying t=some (.slice e)) (hinfo:(P.info? e).map (fun i=>(i.zero,i.size,i.bytes))=some (some z,d.sz,bytes)) (hz:z.cells.size=d.sz) (hs0:0<d.sz) (hb0:0<bytes)
  (v:Value) (xs:List α) (p:α) (cs:List Value) (ok okp:Nat→Prop) (hs:a.eval s=v) (hx:a.eval x=.slice (some ⟨W.heap.size,0,none⟩) 1 1) (hp:d.M W base okp p cs) (hokp:∀ k,okp k→ok k∧some k≠v.ownBlock) (hfresh:∀ k,W.heap.size≤k→ok k)
  (HO:d.R e W base ok v xs) (HB:Below base w0 W) (hbase:base≤W.heap.size) (hl:(xs.length+1)*bytes≤140737488355328)
  (h:∀ v1 w1,d.R e w1 base ok v1 (xs++[p])→Below base w0 w1→W.grownBy w1 v.ownBlock→(v1.ownBlock=v.ownBlock∨∃ b,v1.ownBlock=some b∧W.heap.size≤b)→Kc (a.put o.dst v1) w1) :
  if Region.wanted o (yielded ops a.tmps)=true then Oper.wp P o a (W.alloc (.cells cs.toArray e)) Kc Q else Kc (a.put o.dst undef) (W.alloc (.cells cs.toArray e)):=by
 obtain ⟨h0,inner,hown,hr⟩:=HO
 refine J9h base hw s x t e z d.sz bytes ho ht hinfo hz hs0 hb0 v xs.length inner cs hs hx (d.K_len (d.K_of_M hp)) (d.K_one (d.K_of_M hp)) hown HB hbase hl ?_
 intro v1 w1 hown1 hb1 hg1 hat1
 exact h v1 w1 (Je3 h0 hr hp hokp hfresh hown1 hg1 hat1) hb1 hg1 hat1
end
theorem C_of_reads {α:Type} {enc:α→Value} {d:α} {h1:∀ x,(enc x).oneCell'=true} {w:World} {A:Option Addr} {n:Nat} {xs:List α} (h:Jct enc d w A n xs):(scalar enc h1).C w A n xs:=by
 refine ⟨h.1,h.2.1,fun hn=>?_⟩
 obtain ⟨ad,e,hc⟩:=h.2.2 hn
 refine ⟨ad,e,fun j p hj=>⟨[enc p],rfl,rfl,fun i u hu=>?_⟩⟩
 obtain ⟨hl,hp⟩:=List.getElem?_eq_some_iff.1 hj
 have h2:=hc j (by have:=h.1;omega)
 rw [List.getD_eq_getElem?_getD,hj] at h2
 cases i with
 | succ i=>simp at hu
 | zero=>?_
 have:enc p=u:=by simpa using hu
 subst this
 simpa [scalar] using h2
theorem reads_of_C {α:Type} {enc:α→Value} {d:α} {h1:∀ x,(enc x).oneCell'=true} {w:World} {A:Option Addr} {n:Nat} {xs:List α} (h:(scalar enc h1).C w A n xs):Jct enc d w A n xs:=by
 refine ⟨h.1,h.2.1,fun hn=>?_⟩
 obtain ⟨ad,e,hc⟩:=h.2.2 hn
 refine ⟨ad,e,fun j hj=>?_⟩
 have hl:j<xs.length:=by have:=h.1;omega
 obtain ⟨c,_,hK,hcell⟩:=hc j _ (List.getElem?_eq_getElem hl)
 have hK':c=[enc xs[j]]:=hK
 subst hK'
 have:=hcell 0 _ rfl
 simpa [scalar,List.getD_eq_getElem?_getD,List.getElem?_eq_getElem hl] using this
end Kd
namespace Kd
section
variable {α β:Type} {d:Kd α} {d':Kd β} {e e':Nat} {w w1 W:World} {base b b':Nat} {ok ok' okv oku:Nat→Prop} {v u:Value} {xs:List α} {ys:List β}
theorem c0b (h:d.R e w base ok v xs):d.R e w.drew base ok v xs:=c01 h (J5s (Below.refl _ _))
theorem C_nil (d:Kd α) (w:World):d.C w none ([]:List α).length []:=⟨rfl,by simp,fun h=>absurd h (Nat.lt_irrefl 0)⟩
theorem C_max {A:Option Addr} {n:Nat} (h:d.C w A n xs):n≤9223372036854775807:=h.2.1
theorem c03 {A:Option Addr} {n c:Nat} (h:d.R e w base ok (.slice A n c) xs):n=xs.length∧n≤c∧d.C w A xs.length xs:=by
 obtain ⟨A',c',he,hl,hr⟩:=c09 h
 injection he with h1 h2 h3
 subst h1
 exact ⟨h2,by omega,hr⟩
theorem R_lt (h:d.R e w base ok v xs):∀ k,v.ownBlock=some k→k<w.heap.size:=by
 obtain ⟨inner,ho⟩:=R_own h
 exact Jdh ho
theorem R_base (h:d.R e w base ok v xs):∀ k,v.ownBlock=some k→base≤k:=by
 obtain ⟨inner,ho⟩:=R_own h
 exact J3i ho
theorem R_form (h:d.R e w base ok v xs) (hp:0<xs.length):∃ g cap,v=.slice (some ⟨g,0,none⟩) xs.length cap∧base≤g∧g<w.heap.size∧∃ cells,w.heap[g]?=some (.cells cells e (0,0)):=by
 obtain ⟨inner,ho⟩:=R_own h
 obtain ⟨g,cap,he,hb,hl⟩:=ho.form hp
 obtain ⟨cells,hc⟩:=c07 ho g (by rw [he];simp [Value.ownBlock])
 exact ⟨g,cap,he,hb,hl,cells,hc⟩
theorem R_over (h:d.R e W b ok u xs) (hv:d'.R e' W b' ok' v ys) (ht:∀ q,q ∈ e::d.E→q≠e') (hg:W.grownBy w1 v.ownBlock):d.R e w1 b ok u xs:=by
 obtain ⟨inner,ho⟩:=R_own hv
 refine c06 (R_move (c05 h) (fun k hk=>hg.block k hk.2.2.1 (fun he=>?_))) (fun _ hk=>hk.1)
 obtain ⟨_,_,_,q,hq,cells,hc⟩:=hk
 obtain ⟨cells',hc'⟩:=c07 ho k he.symm
 rw [hc] at hc'
 injection hc' with hc'
 injection hc' with _ hc'
 exact ht q hq hc'
theorem R_newR (h:d.R e w1 W.heap.size ok v xs) (hu:d'.R e' W b oku u ys):d.R e w1 W.heap.size (fun k=>ok k∧some k≠u.ownBlock) v xs:=by
 obtain ⟨inner,ho⟩:=R_own hu
 exact Jso h ho
end
section
variable {w W:World} {A:Option Addr} {n:Nat}
theorem at_int {k:IntKind} {xs:List Int} (h:(Kd.int k).C w A n xs) (i:Int) (h0:0≤i) (h1:i<n):∃ ad,A=some ad∧w.cell? (ad.add i.toNat)=some (.int k (rd xs i)) :=
 Jct.at_ (reads_of_C (enc:=Value.int k) (d:=(0:Int)) (h1:=fun _=>rfl) h) i h0 h1
variable {α:Type} {enc:α→Value} {h1:∀ x,(enc x).oneCell'=true} {e base g cap:Nat} {ok:Nat→Prop} {xs:List α}
end
section
variable {P:Program} {ops:Array Oper} {rest:List Oper} {o:Oper} {a:Act} {Q:Exit→Act→World→Prop}
theorem Jna {W w1:World} {v:Value} (hgd:o.guard=none) (hrun:(execOp a.eval o).run P W=.ok (.value v) w1) (h:wpList P ops Q rest (a.put o.dst v) w1):wpList P ops Q (o::rest) a W:=by
 refine wpList_plain hgd fun K hK=>?_
 unfold Oper.wp
 rw [hrun]
 exact hK _ _ h
variable {α:Type}
theorem Jsp (d:Kd α) {w0 W:World} (base e:Nat) (hgd:o.guard=none) {N:Tmp} (_hd:o.dst=some N) {xs:List α} {inner:List Value} {ok okp:Nat→Prop}
  (hrun:(execOp a.eval o).run P W=.ok (.value (.slice (some ⟨W.heap.size,0,none⟩) xs.length xs.length)) (W.alloc (.cells inner.toArray e)))
  (hrep:Reps (d.M W base okp) d.sz xs inner) (hok:∀ k,okp k→ok k) (hfresh:ok W.heap.size) (HB:Below base w0 W) (hbase:base≤W.heap.size) (hm:xs.length≤9223372036854775807)
  (h:∀ v1 w1,d.R e w1 base ok v1 xs→Below base w0 w1→W.grownBy w1 none→(∃ b,v1.ownBlock=some b∧W.heap.size≤b)→wpList P ops Q rest (a.put o.dst v1) w1):wpList P ops Q (o::rest) a W:=by
 refine Jna hgd hrun (h _ _ ⟨fun k hk=>?_,inner,?_,?_⟩ (HB.alloc hbase _) (World.grownBy_alloc W _ none) ⟨W.heap.size,by simp [Value.ownBlock],Nat.le_refl _⟩)
 ·have:W.heap.size=k:=by simpa [Value.ownBlock] using hk
  subst this
  exact hfresh
 ·have h2:=World.ownsRow_lit (base:=base) (e:=e) (size:=d.sz) W inner.toArray xs.length hbase (by simpa [maxLen] using hm) (by simpa using hrep.1)
  simpa using h2
 refine hrep.imp_ (fun p c hp=>d.M_mono (fun k hk=>⟨hok k hk.1,fun he=>?_⟩) (Jnt (d.M_bound hp) (J1e (Below.refl _ _) _)))
 have h3:k=W.heap.size:=by simpa [Value.ownBlock] using he
 have:=hk.2.2.1
 omega
theorem Jfw {α:Type} {R:α→List Value→Prop} {z:Value} {size:Nat} {z0:α} (hz:z.cells.size=size) (hs:0<size) (h0:R z0 z.cells.toList) (m:Nat):Reps R size (List.replicate m z0) (madeCells z.cells (m*size)).toList:=by
 refine ⟨by simp [size_madeCells],fun j p hj=>?_⟩
 obtain ⟨hjl,hp⟩:=List.getElem?_eq_some_iff.1 hj
 have hjm:j<m:=by simpa using hjl
 have hp':z0=p:=by simpa using hp
 subst hp'
 have hle:j*size+size≤m*size:=by rw [← Nat.succ_mul];exact Nat.mul_le_mul_right _ hjm
 have:((madeCells z.cells (m*size)).toList.drop (j*size)).take size=z.cells.toList:=by
  apply List.ext_getElem
  ·simp [size_madeCells,hz]
   omega
  intro i h1 h2
  have hi:i<size:=by rw [Array.length_toList,hz] at h2;exact h2
  have hmod:(j*size+i) % size=i:=by
   rw [Nat.mul_comm,Nat.mul_add_mod]
   exact Nat.mod_eq_of_lt hi
  simp [madeCells,hz,hmod]
  rw [getElem!_pos z.cells i (by omega)]
 rw [this]
 exact h0
theorem R_make (d:Kd α) {w0 W:World} (base e:Nat) (hgd:o.guard=none) {N:Tmp} (hd:o.dst=some N) (t:TypeId) (x y:Operand) (ho:o.op=.makeSlice t x y) (n:Int) (hx:a.eval x=.int .i64 n) (hy:a.eval y=.int .i64 n)
  (ht:P.underlying t=some (.slice e)) (z:Value) (bytes:Nat) (hinfo:(P.info? e).map (fun i=>(i.zero,i.size,i.bytes))=some (some z,d.sz,bytes)) (hz:z.cells.size=d.sz) (hs0:0<d.sz) (hb0:0<bytes)
  (z0:α) {ok okp:Nat→Prop} (hzero:d.M W base okp z0 z.cells.toList) (hok:∀ k,okp k→ok k) (hfresh:ok W.heap.size) (h0:0≤n) (hl:n.toNat*bytes≤281474976710656) (HB:Below base w0 W) (hbase:base≤W.heap.size)
  (h:∀ v1 w1,d.R e w1 base ok v1 (List.replicate n.toNat z0)→Below base w0 w1→W.grownBy w1 none→(∃ b,v1.ownBlock=some b∧W.heap.size≤b)→wpList P ops Q rest (a.put o.dst v1) w1):wpList P ops Q (o::rest) a W:=by
 obtain ⟨m,rfl⟩:=Int.eq_ofNat_of_zero_le h0
 simp only [Int.toNat_natCast] at hl h
 obtain ⟨i0,hi,hzz⟩:=Option.map_eq_some_iff.1 hinfo
 simp only [Prod.mk.injEq] at hzz
 obtain ⟨hz0,hz1,hz2⟩:=hzz
 have hm:m≤281474976710656:=Nat.le_trans (Nat.le_mul_of_pos_right _ hb0) hl
 have hr:=run_make (P:=P) W t e i0 z ht hi hz0 .i64 .i64 (m:Int) (m:Int) (by omega) (by omega)
  (by
   have h3:((i0.bytes*m:Nat):Int)≤281474976710656:=by rw [hz2,Nat.mul_comm];omega
   rwa [Int.natCast_mul] at h3) (by omega)
 simp only [Int.toNat_natCast] at hr
 rw [hz1] at hr
 refine Jsp d base e hgd hd (xs:=List.replicate m z0) (inner:=(madeCells z.cells (m*d.sz)).toList) (okp:=okp) (ok:=ok) ?_ (Jfw hz hs0 hzero m) hok hfresh HB hbase (by simp;omega) h
 simp [execOp,ho,hx,hy,hr]
end
end Kd
section
variable {w w1:World} {base n size:Nat} {e:TypeId} {v:Value} {xs:List Value}
theorem Ja6 {g:Nat} : ∀ (vs:List Value) (o:Nat) {w:World} (k:Nat),k≠g→(w.setCells g o vs).heap[k]?=w.heap[k]?
 | [],_,_,_,_=>rfl
 | v::r,o,w,k,hk=>by
  rw [World.setCells,Ja6 r (o+1) k hk]
  exact Below.heap_setCell w ⟨g,o,none⟩ v k hk
theorem J8i (g:Nat):∀ (vs:List Value) (o:Nat) (w:World),(w.setCells g o vs).os=w.os∧(w.setCells g o vs).tape=w.tape∧(w.setCells g o vs).output=w.output∧(w.setCells g o vs).heap.size=w.heap.size
 | [],_,_=>⟨rfl,rfl,rfl,rfl⟩
 | v::r,o,w=>by
  obtain ⟨h1,h2,h3,h4⟩:=J8i g r (o+1) (w.setCell ⟨g,o,none⟩ v)
  rw [World.setCells]
  exact ⟨h1,h2,h3,by rw [h4];simp [World.setCell]⟩
theorem Ja5 {g:Nat} {e:TypeId} : ∀ (vs:List Value) (o:Nat) (w:World) (cur:Array Value),w.heap[g]?=some (.cells cur e (0,0))→o+vs.length≤cur.size →
  ∃ cur',(w.setCells g o vs).heap[g]?=some (.cells cur' e (0,0))∧cur'.size=cur.size∧cur'.toList=cur.toList.take o++vs++cur.toList.drop (o+vs.length)
 | [],o,w,cur,h,_=>⟨cur,h,rfl,by simp⟩
 | v::r,o,w,cur,h,hl=>by
  have h2:=J9y h o v
  simp only [List.length_cons] at hl
  obtain ⟨cur',h3,h4,h5⟩:=Ja5 r (o+1) (w.setCell ⟨g,o,none⟩ v) _ h2 (by simp;omega)
  refine ⟨cur',h3,by rw [h4];simp,?_⟩
  rw [h5,Array.toList_setIfInBounds]
  have ho:o<cur.toList.length:=by rw [Array.length_toList];omega
  rw [List.take_set,List.drop_set_of_lt (by omega)]
  simp only [List.length_cons]
  rw [show o+1+r.length=o+(r.length+1) by omega]
  congr 1
  rw [List.take_succ_eq_append_getElem ho,List.set_append_right _ _ (by rw [List.length_take];omega)]
  have ho':o<cur.size:=by omega
  simp [Nat.min_eq_left (Nat.le_of_lt ho')]
end
namespace Kd
section
variable {α:Type} {d:Kd α} {e e':Nat} {w w1 W:World} {base:Nat} {ok:Nat→Prop} {u v:Value} {xs:List α}
theorem R_typed (h:d.R e w base ok v xs):∀ k,v.ownBlock=some k→∃ cells,w.heap[k]?=some (.cells cells e (0,0)):=by
 obtain ⟨inner,ho⟩:=R_own h
 exact fun k hk=>c07 ho k hk
end
end Kd
theorem Jbh {α:Type} (a seg:List α) (o:Nat) (h:o+seg.length≤a.length) (q:Nat) :
  (a.take o++seg++a.drop (o+seg.length))[q]?=if q<o then a[q]? else if q<o+seg.length then seg[q - o]? else a[q]?:=by
 have hl:(a.take o).length=o:=by rw [List.length_take];omega
 rw [List.append_assoc]
 by_cases h1:q<o
 ·rw [if_pos h1,List.getElem?_append_left (by omega),List.getElem?_take,if_pos h1]
 rw [if_neg h1,List.getElem?_append_right (by omega),hl]
 by_cases h2:q<o+seg.length
 ·rw [if_pos h2,List.getElem?_append_left (by omega)]
 rw [if_neg h2,List.getElem?_append_right (by omega),List.getElem?_drop]
 congr 1
 omega
namespace Kd
section
variable {α:Type} {d:Kd α} {e base g n cap:Nat} {ok okp:Nat→Prop} {W:World} {xs:List α}
theorem R_elem (h:d.R e W base ok (.slice (some ⟨g,0,none⟩) n cap) xs) (z:α) (i:Int) (h0:0≤i) (h1:i<n) :
  ∃ c,c.length=d.sz∧d.M W base (fun k=>ok k∧k≠g) (xs.getD i.toNat z) c∧(∀ j u,c[j]?=some u→W.cell? ⟨g,i.toNat*d.sz+j,none⟩=some u)∧∀ j,W.frozen? ⟨g,i.toNat*d.sz+j,none⟩=false:=by
 obtain ⟨hn,hnc,hC⟩:=c03 h
 obtain ⟨_,inner,ho,hr⟩:=h
 have hil:i.toNat<xs.length:=by omega
 have hseg:i.toNat*d.sz+d.sz≤inner.length:=by rw [hr.1,← Nat.succ_mul];exact Nat.mul_le_mul_right _ hil
 have hM:=hr.2 i.toNat _ (List.getElem?_eq_getElem hil)
 refine ⟨(inner.drop (i.toNat*d.sz)).take d.sz,by rw [List.length_take,List.length_drop];omega,?_,fun j u hu=>?_,fun j=>?_⟩
 ·rw [List.getD_eq_getElem?_getD,List.getElem?_eq_getElem hil]
  exact d.M_mono (fun k hk=>⟨hk.1,fun he=>hk.2 (by rw [he];simp [Value.ownBlock])⟩) hM
 ·rw [List.getElem?_take] at hu
  split at hu
  ·rw [List.getElem?_drop] at hu
   have:=ho.cells (g:=g) (by simp [Value.ownBlock]) _ u hu
   rwa [J5t] at this
  cases hu
 obtain ⟨cells,hc⟩:=c07 ho g (by simp [Value.ownBlock])
 exact J07 hc _
theorem R_seg (h:d.R e W base ok (.slice (some ⟨g,0,none⟩) n cap) xs) (i:Int) (h0:0≤i) (h1:i<n) {c seg:List Value} {j:Nat} (hcl:c.length=d.sz) (hcc:∀ j u,c[j]?=some u→W.cell? ⟨g,i.toNat*d.sz+j,none⟩=some u)
  (hj:j+seg.length≤d.sz) {x':α} (hM:d.M W base okp x' (c.take j++seg++c.drop (j+seg.length))) (hokp:∀ k,okp k→ok k∧k≠g) :
  d.R e (W.setCells g (i.toNat*d.sz+j) seg) base ok (.slice (some ⟨g,0,none⟩) n cap) (xs.set i.toNat x')∧W.grownBy (W.setCells g (i.toNat*d.sz+j) seg) (some g):=by
 obtain ⟨hn,hnc,_⟩:=c03 h
 obtain ⟨hok,inner,ho,hr⟩:=h
 have hil:i.toNat<xs.length:=by omega
 have hseg:i.toNat*d.sz+d.sz≤inner.length:=by rw [hr.1,← Nat.succ_mul];exact Nat.mul_le_mul_right _ hil
 have hin:inner.length=n*d.sz:=by rw [hr.1,hn]
 obtain ⟨ho1,ho2⟩:=ho
 rcases ho2 with ⟨hv,_⟩ | ⟨g',cap',cur,hv,hb,hh,hnc',hcm,hcs,ht⟩
 ·cases hv
 injection hv with ha _ hc
 injection ha with ha
 injection ha with hg
 subst hg;subst hc
 have hfit:i.toNat*d.sz+j+seg.length≤cur.size:=by
  have:n*d.sz≤cap*d.sz:=Nat.mul_le_mul_right _ hnc
  omega
 obtain ⟨cur',h3,h4,h5⟩:=Ja5 seg (i.toNat*d.sz+j) W cur hh hfit
 obtain ⟨s1,s2,s3,s4⟩:=J8i g seg (i.toNat*d.sz+j) W
 have hfar:∀ k,k≠g→(W.setCells g (i.toNat*d.sz+j) seg).heap[k]?=W.heap[k]?:=fun k hk=>Ja6 seg _ k hk
 have hcin:∀ q,q<d.sz→c[q]?=inner[i.toNat*d.sz+q]?:=by
  intro q hq
  have hq':q<c.length:=by omega
  have h6:=hcc q _ (List.getElem?_eq_getElem hq')
  rw [cell_of_row W g _ cur e (0,0) hh] at h6
  rw [List.getElem?_eq_getElem hq',← h6,← ht,List.getElem?_take,if_pos (by rw [← hn];omega),Array.getElem?_toList]
 refine ⟨⟨hok,inner.take (i.toNat*d.sz+j)++seg++inner.drop (i.toNat*d.sz+j+seg.length),⟨?_,.inr ⟨g,cap,cur',by rw [List.length_set,hn],hb,h3,by rw [List.length_set,← hn];exact hnc,hcm,by rw [h4,hcs],?_⟩⟩,?_⟩,
  ⟨s1,s2,s3,by rw [s4];exact Nat.le_refl _,fun k _ hk=>hfar k (fun he=>hk (by rw [he]))⟩⟩
 ·rw [List.length_set]
  simp only [List.length_append,List.length_take,List.length_drop]
  rw [hr.1] at hseg ⊢
  omega
 ·rw [List.length_set,← hn]
  apply List.ext_getElem?
  intro q
  rw [List.getElem?_take,h5]
  rw [Jbh cur.toList seg (i.toNat*d.sz+j) (by rw [Array.length_toList];omega) q,Jbh inner seg (i.toNat*d.sz+j) (by omega) q]
  have hcur:∀ q,q<n*d.sz→cur.toList[q]?=inner[q]?:=by
   intro q hq
   rw [← ht,List.getElem?_take,if_pos (by rw [← hn];exact hq)]
  by_cases hq:q<n*d.sz
  ·rw [if_pos hq,hcur q hq]
  rw [if_neg hq,if_neg (by omega),if_neg (by omega),List.getElem?_eq_none (by omega)]
 refine ⟨?_,fun m p hm=>?_⟩
 ·rw [List.length_set]
  simp only [List.length_append,List.length_take,List.length_drop]
  rw [hr.1] at hseg ⊢
  omega
 have hml:m<xs.length:=by
  have:=(List.getElem?_eq_some_iff.1 hm).1
  rwa [List.length_set] at this
 have hmfit:m*d.sz+d.sz≤inner.length:=by rw [hr.1,← Nat.succ_mul];exact Nat.mul_le_mul_right _ hml
 have hgo:some g=(Value.slice (some ⟨g,0,none⟩) n cap).ownBlock:=by simp [Value.ownBlock]
 by_cases hmi:m=i.toNat
 ·subst hmi
  rw [List.getElem?_set_self (by omega)] at hm
  injection hm with hm
  subst hm
  have hcells:((inner.take (i.toNat*d.sz+j)++seg++inner.drop (i.toNat*d.sz+j+seg.length)).drop (i.toNat*d.sz)).take d.sz=c.take j++seg++c.drop (j+seg.length):=by
   apply List.ext_getElem?
   intro q
   rw [List.getElem?_take,List.getElem?_drop,Jbh inner seg _ (by omega),Jbh c seg j (by omega) q]
   by_cases hq:q<d.sz
   ·rw [if_pos hq,hcin q hq]
    by_cases hq1:q<j
    ·rw [if_pos (by omega),if_pos hq1]
    rw [if_neg (by omega),if_neg hq1]
    by_cases hq2:q<j+seg.length
    ·rw [if_pos (by omega),if_pos hq2]
     congr 1
     omega
    rw [if_neg (by omega),if_neg hq2]
   rw [if_neg hq,if_neg (by omega),if_neg (by omega),List.getElem?_eq_none (by omega)]
  rw [hcells]
  refine d.M_mono (fun k hk=>?_) (d.M_move (w1:=W.setCells g (i.toNat*d.sz+j) seg) (fun k hk=>hfar k (hokp k hk).2) hM)
  exact ⟨(hokp k hk).1,fun he=>(hokp k hk).2 (by rw [← hgo] at he;injection he)⟩
 rw [List.getElem?_set_ne (by omega)] at hm
 have hold:=hr.2 m p hm
 have hcells:((inner.take (i.toNat*d.sz+j)++seg++inner.drop (i.toNat*d.sz+j+seg.length)).drop (m*d.sz)).take d.sz=(inner.drop (m*d.sz)).take d.sz:=by
  apply List.ext_getElem?
  intro q
  rw [List.getElem?_take,List.getElem?_take,List.getElem?_drop,List.getElem?_drop,Jbh inner seg _ (by omega)]
  by_cases hq:q<d.sz
  ·rw [if_pos hq,if_pos hq]
   rcases Nat.lt_or_gt_of_ne hmi with hlt | hgt
   ·have:m*d.sz+d.sz≤i.toNat*d.sz:=by rw [← Nat.succ_mul];exact Nat.mul_le_mul_right _ hlt
    rw [if_pos (by omega)]
   have:i.toNat*d.sz+d.sz≤m*d.sz:=by rw [← Nat.succ_mul];exact Nat.mul_le_mul_right _ hgt
   rw [if_neg (by omega),if_neg (by omega)]
  rw [if_neg hq,if_neg hq]
 rw [hcells]
 refine d.M_move (fun k hk=>hfar k (fun he=>hk.2 (by rw [he];exact hgo))) hold
end
end Kd
namespace Kd
theorem Jbk {α:Type} {R:α→List Value→Prop} {size:Nat} {ps qs:List α} {cs ds:List Value} (h:Reps R size ps cs) (h':Reps R size qs ds):Reps R size (ps++qs) (cs++ds):=by
 refine ⟨by rw [List.length_append,List.length_append,h.1,h'.1,Nat.add_mul],fun j p hj=>?_⟩
 rcases Nat.lt_or_ge j ps.length with hlt | hge
 ·rw [List.getElem?_append_left hlt] at hj
  have hle:j*size+size≤cs.length:=by rw [h.1,← Nat.succ_mul];exact Nat.mul_le_mul_right _ hlt
  rw [List.drop_append_of_le_length (by omega),List.take_append_of_le_length (by rw [List.length_drop];omega)]
  exact h.2 j p hj
 rw [List.getElem?_append_right hge] at hj
 have h2:=h'.2 (j - ps.length) p hj
 have hle:ps.length*size≤j*size:=Nat.mul_le_mul_right _ hge
 rw [List.drop_append,List.drop_eq_nil_of_le (by rw [h.1];exact hle),List.nil_append,h.1,← Nat.sub_mul]
 exact h2
section
variable {P:Program} {ops:Array Oper} {rest:List Oper} {o:Oper} {a:Act} {Q:Exit→Act→World→Prop} {α:Type}
theorem R_append_rows (d:Kd α) {Rr:α→List Value→Prop} {w0 W:World} (base:Nat) (hgd:o.guard=none) (s x:Operand) (t e:TypeId) (z:Value) (bytes:Nat)
  (ho:o.op=.call { callee:=.builtin .append,args:=#[s,x],argTypes:=#[t,t] })
  (ht:P.underlying t=some (.slice e)) (hinfo:(P.info? e).map (fun i=>(i.zero,i.size,i.bytes))=some (some z,d.sz,bytes)) (hz:z.cells.size=d.sz) (hs0:0<d.sz) (hb0:0<bytes)
  (v:Value) (xs ys:List α) (A:Option Addr) (m c:Nat) (ok okp:Nat→Prop) (hs:a.eval s=v) (hx:a.eval x=.slice A m c)
  (HO:d.R e W base ok v xs) (HR:J19 Rr d.sz W A m ys) (hKM:∀ x cs,Rr x cs→d.M W base okp x cs) (hokp:∀ k,okp k→ok k∧some k≠v.ownBlock) (hfresh:∀ k,W.heap.size≤k→ok k)
  (HB:Below base w0 W) (hbase:base≤W.heap.size) (hl:(xs.length+m)*bytes≤140737488355328)
  (h:∀ v1 w1,d.R e w1 base ok v1 (xs++ys)→Below base w0 w1→W.grownBy w1 v.ownBlock→(v1.ownBlock=v.ownBlock∨∃ b,v1.ownBlock=some b∧W.heap.size≤b)→wpList P ops Q rest (a.put o.dst v1) w1) :
  wpList P ops Q (o::rest) a W:=by
 obtain ⟨i0,hi,hzz⟩:=Option.map_eq_some_iff.1 hinfo
 simp only [Prod.mk.injEq] at hzz
 obtain ⟨hz0,hz1,hz2⟩:=hzz
 have hm:ys.length=m:=HR.1
 have hlen:xs.length+m≤140737488355328:=Nat.le_trans (Nat.le_mul_of_pos_right _ hb0) hl
 obtain ⟨hok,inner,hown,hr⟩:=HO
 have hrun:∃ v1 w1,(Builtin.append_ #[t,t] o.type #[v,.slice A m c]).run P W=.ok v1 w1∧d.R e w1 base ok v1 (xs++ys)∧W.grownBy w1 v.ownBlock∧(v1.ownBlock=v.ownBlock∨∃ b,v1.ownBlock=some b∧W.heap.size≤b):=by
  rcases A with _ | ad
  ·have h0:m=0:=by
    rcases Nat.eq_zero_or_pos m with h0 | h0
    ·exact h0
    obtain ⟨ad,h,_⟩:=HR.2.2 h0
    cases h
   subst h0
   obtain rfl:ys=[]:=List.eq_nil_of_length_eq_zero hm
   refine ⟨v,W,?_,by rw [List.append_nil];exact ⟨hok,inner,hown,hr⟩,World.grownBy.refl W _,.inl rfl⟩
   rcases hown.2 with ⟨rfl,hn⟩ | ⟨g,cap,cur,rfl,_,_,hnc,_⟩
   ·simp [Builtin.append_,run_underlying ht,sizeOf,typeInfo,hi,Builtin.lenOf,Builtin.firstCells]
   simp [Builtin.append_,run_underlying ht,sizeOf,typeInfo,hi,Builtin.lenOf,Builtin.firstCells,hnc,storeCells]
  obtain ⟨news,hnr,hnc⟩:=J19.inner_ HR
  have hnM:Reps (d.M W base okp) d.sz ys news:=hnr.imp_ (fun p c hp=>hKM p c hp)
  have hone:∀ u ∈ news,u.oneCell'=true:=by
   intro u hu
   obtain ⟨q,hq,rfl⟩:=List.mem_iff_getElem.1 hu
   have hql:q / d.sz<ys.length:=by
    rw [Nat.div_lt_iff_lt_mul hs0]
    rw [← hnM.1]
    exact hq
   have hc:=hnM.2 (q / d.sz) _ (List.getElem?_eq_getElem hql)
   refine d.K_one (d.K_of_M hc) _ ?_
   rw [List.mem_iff_getElem?]
   refine ⟨q % d.sz,?_⟩
   rw [List.getElem?_take,if_pos (Nat.mod_lt _ hs0),List.getElem?_drop,Nat.mul_comm,Nat.div_add_mod,List.getElem?_eq_getElem hq]
  obtain ⟨v1,w1,hrun,h2,hg,_,hat⟩:=run_append_own_at (P:=P) W base t o.type e i0 z d.sz bytes ht hi hz0 hz1 hz2 hz hs0 v xs.length inner hown ad m c news (by rw [hnM.1,hm]) hnc hone (by simp only [maxLen];omega) hl hbase
  have hat':v1.ownBlock=v.ownBlock∨∃ b,v1.ownBlock=some b∧W.heap.size≤b:=by
   rcases hat with hat | hat
   ·exact .inl hat
   exact .inr ⟨_,hat,Nat.le_refl _⟩
  have hne:∀ k,some k≠v.ownBlock→k<W.heap.size→some k≠v1.ownBlock:=by
   intro k hk hlt
   rcases hat' with hat | ⟨b,hb,hle⟩
   ·rw [hat];exact hk
   rw [hb]
   intro he
   injection he with he
   omega
  have step:∀ {q:α} {c:List Value} {o:Nat→Prop},d.M W base o q c→(∀ k,o k→ok k∧some k≠v.ownBlock)→d.M w1 base (fun k=>ok k∧some k≠v1.ownBlock) q c:=by
   intro q c o hq ho
   have h1:=d.M_move (w1:=w1) (fun k hk=>hg.block k hk.2.2.1 (ho k hk.1).2) (d.M_bound hq)
   exact d.M_mono (fun k hk=>⟨(ho k hk.1).1,hne k (ho k hk.1).2 hk.2.2.1⟩) h1
  refine ⟨v1,w1,hrun,⟨fun k hk=>?_,inner++news,by rw [List.length_append,hm];exact h2,Jbk (hr.imp_ (fun _ _ hq=>step hq (fun _ hk=>hk))) (hnM.imp_ (fun _ _ hq=>step hq hokp))⟩,hg,hat'⟩
  rcases hat' with hat | ⟨b,hb,hle⟩
  ·exact hok k (hat ▸ hk)
  rw [hb] at hk
  injection hk with hk
  exact hfresh k (by omega)
 obtain ⟨v1,w1,hr1,h1,hg,hat⟩:=hrun
 refine wpList_plain hgd fun K hK=>?_
 unfold Oper.wp execOp
 simp only [ho,resolve,invoke,builtin,Sem.run_bind,Sem.run_pure,Result.andThen_ok,List.map_toArray,List.map_cons,List.map_nil,hs,hx,hr1]
 exact hK _ _ (h v1 w1 h1 (HB.grown hg hbase (J3i hown)) hg hat)
end
end Kd
theorem add_add (a:Addr) (i j:Nat):(a.add i).add j=a.add (i+j):=by
 unfold Addr.add
 by_cases h1:i=0<;>by_cases h2:j=0<;>simp [h1,h2,Nat.add_assoc]
namespace Kd
section
variable {α:Type} {k:Kd α} {w:World} {A:Option Addr} {xs:List α} {m c:Nat}
theorem C_take (h:k.C w A xs.length xs) (hm:m≤xs.length):k.C w A (xs.take m).length (xs.take m):=by
 have hl:(xs.take m).length=m:=by rw [List.length_take];omega
 refine ⟨rfl,by rw [hl];have:=h.2.1;omega,fun hp=>?_⟩
 obtain ⟨ad,e,hc⟩:=h.2.2 (by omega)
 refine ⟨ad,e,fun j p hj=>hc j p ?_⟩
 rw [List.getElem?_take] at hj
 split at hj
 ·exact hj
 cases hj
theorem C_drop (h:k.C w A xs.length xs) (hm:m≤xs.length) (hc:xs.length≤c):k.C w (if c=m then A else A.map (·.add (m*k.sz))) (xs.drop m).length (xs.drop m):=by
 have hl:(xs.drop m).length=xs.length - m:=List.length_drop
 refine ⟨rfl,by rw [hl];have:=h.2.1;omega,fun hp=>?_⟩
 rw [hl] at hp
 obtain ⟨ad,rfl,hcell⟩:=h.2.2 (by omega)
 rw [if_neg (by omega)]
 refine ⟨ad.add (m*k.sz),rfl,fun j p hj=>?_⟩
 rw [List.getElem?_drop] at hj
 obtain ⟨cs,h1,h2,h3⟩:=hcell (m+j) p hj
 refine ⟨cs,h1,h2,fun i u hu=>?_⟩
 rw [add_add,show m*k.sz+(j*k.sz+i)=(m+j)*k.sz+i by rw [Nat.add_mul];omega]
 exact h3 i u hu
end
end Kd
theorem J4a.nil (W:World) (k:IntKind):J4a W k none ([]:List Int).length []:=⟨rfl,by simp,fun h=>absurd h (Nat.lt_irrefl 0)⟩
theorem J4a.ofRow {k:IntKind} {w:World} {a:Option Addr} {len cap:Nat} {zs:List Int} (h:(a=none∧len=0∧cap=0∧zs=[])∨∃ x,a=some x∧len≤cap∧cap≤maxLen∧zs.length=cap∧(∀ i,i<zs.length→w.cell? (x.add i)=some (.int k (zs.getD i 0)))∧∀ n ∈ zs,(Lit.int k n).wf=true) :
  ∃ l:List Int,len=l.length∧J4a w k a l.length l∧l.length≤maxLen∧∀ x ∈ l,(Lit.int k x).wf=true:=by
 rcases h with ⟨rfl,rfl,rfl,rfl⟩ | ⟨x,rfl,hl,hm,hz,hc,hw⟩
 ·exact ⟨[],rfl,J4a.nil _ _,Nat.zero_le _,fun x hx=>by simp at hx⟩
 have e:(zs.take len).length=len:=by simp;omega
 have hm':len≤maxLen:=Nat.le_trans hl hm
 refine ⟨zs.take len,e.symm,⟨rfl,by rw [e];simpa [maxLen] using hm',fun _=>⟨x,rfl,fun j hj=>?_⟩⟩,by rw [e];exact hm',fun y hy=>hw y (List.mem_of_mem_take hy)⟩
 rw [e] at hj
 rw [hc j (by omega)]
 simp [List.getD,List.getElem?_take,hj]
theorem J0d {w:World} {g:Nat} {t:TypeId} {cs cs':Array Value} (h:w.heap[g]?=some (.cells cs t (0,0))) (i:Nat) (u:Value) (e:cs.setIfInBounds i u=cs'):(w.setCell ⟨g,i,none⟩ u).heap[g]?=some (.cells cs' t (0,0)):=e ▸ J9y h i u
theorem J4a.ofRowC {k:IntKind} {w:World} {a:Option Addr} {len cap:Nat} {zs:List Int} (h:(a=none∧len=0∧cap=0∧zs=[])∨∃ x,a=some x∧len≤cap∧cap≤maxLen∧zs.length=cap∧(∀ i,i<zs.length→w.cell? (x.add i)=some (.int k (zs.getD i 0)))∧∀ n ∈ zs,(Lit.int k n).wf=true) :
  ∃ l:List Int,len=l.length∧J4a w k a l.length l∧l.length≤maxLen∧(∀ x ∈ l,(Lit.int k x).wf=true)∧l.length≤cap:=by
 have hl:len≤cap:=by
  rcases h with ⟨_,rfl,rfl,_⟩ | ⟨_,_,h,_⟩
  ·exact Nat.le_refl _
  exact h
 obtain ⟨l,e,h1,h2,h3⟩:=J4a.ofRow h
 exact ⟨l,e,h1,h2,h3,e ▸ hl⟩
theorem J05 {base:Nat} {w W:World} (h:Below base w W):Below base w W.drew:=h.drew
section
variable {P:Program} {ops:Array Oper} {o:Oper} {a:Act} {Q:Exit→Act→World→Prop} {Kc:Act→World→Prop}
theorem Jl8 {W w1:World} {v:Value} (hw:Region.wanted o (yielded ops a.tmps)=true) (hrun:(execOp a.eval o).run P W=.ok (.value v) w1) (h:Kc (a.put o.dst v) w1):if Region.wanted o (yielded ops a.tmps)=true then Oper.wp P o a W Kc Q else Kc (a.put o.dst undef) W:=by
 rw [if_pos hw]
 unfold Oper.wp
 rw [hrun]
 exact h
namespace Kd
variable {α:Type}
theorem Jlr (d:Kd α) {w0 W:World} (base e:Nat) (hw:Region.wanted o (yielded ops a.tmps)=true) {N:Tmp} (_hd:o.dst=some N) {xs:List α} {inner:List Value} {ok okp:Nat→Prop}
  (hrun:(execOp a.eval o).run P W=.ok (.value (.slice (some ⟨W.heap.size,0,none⟩) xs.length xs.length)) (W.alloc (.cells inner.toArray e)))
  (hrep:Reps (d.M W base okp) d.sz xs inner) (hok:∀ k,okp k→ok k) (hfresh:ok W.heap.size) (HB:Below base w0 W) (hbase:base≤W.heap.size) (hm:xs.length≤9223372036854775807)
  (h:∀ v1 w1,d.R e w1 base ok v1 xs→Below base w0 w1→W.grownBy w1 none→(∃ b,v1.ownBlock=some b∧W.heap.size≤b)→Kc (a.put o.dst v1) w1):if Region.wanted o (yielded ops a.tmps)=true then Oper.wp P o a W Kc Q else Kc (a.put o.dst undef) W:=by
 refine Jl8 hw hrun (h _ _ ⟨fun k hk=>?_,inner,?_,?_⟩ (HB.alloc hbase _) (World.grownBy_alloc W _ none) ⟨W.heap.size,by simp [Value.ownBlock],Nat.le_refl _⟩)
 ·have:W.heap.size=k:=by simpa [Value.ownBlock] using hk
  subst this
  exact hfresh
 ·have h2:=World.ownsRow_lit (base:=base) (e:=e) (size:=d.sz) W inner.toArray xs.length hbase (by simpa [maxLen] using hm) (by simpa using hrep.1)
  simpa using h2
 refine hrep.imp_ (fun p c hp=>d.M_mono (fun k hk=>⟨hok k hk.1,fun he=>?_⟩) (Jnt (d.M_bound hp) (J1e (Below.refl _ _) _)))
 have h3:k=W.heap.size:=by simpa [Value.ownBlock] using he
 have:=hk.2.2.1
 omega
theorem R_make_step (d:Kd α) {w0 W:World} (base e:Nat) (hw:Region.wanted o (yielded ops a.tmps)=true) {N:Tmp} (hd:o.dst=some N) (t:TypeId) (x y:Operand) (ho:o.op=.makeSlice t x y) (n:Int) (hx:a.eval x=.int .i64 n) (hy:a.eval y=.int .i64 n)
  (ht:P.underlying t=some (.slice e)) (z:Value) (bytes:Nat) (hinfo:(P.info? e).map (fun i=>(i.zero,i.size,i.bytes))=some (some z,d.sz,bytes)) (hz:z.cells.size=d.sz) (hs0:0<d.sz) (hb0:0<bytes)
  (z0:α) {ok okp:Nat→Prop} (hzero:d.M W base okp z0 z.cells.toList) (hok:∀ k,okp k→ok k) (hfresh:ok W.heap.size) (h0:0≤n) (hl:n.toNat*bytes≤281474976710656) (HB:Below base w0 W) (hbase:base≤W.heap.size)
  (h:∀ v1 w1,d.R e w1 base ok v1 (List.replicate n.toNat z0)→Below base w0 w1→W.grownBy w1 none→(∃ b,v1.ownBlock=some b∧W.heap.size≤b)→Kc (a.put o.dst v1) w1):if Region.wanted o (yielded ops a.tmps)=true then Oper.wp P o a W Kc Q else Kc (a.put o.dst undef) W:=by
 obtain ⟨m,rfl⟩:=Int.eq_ofNat_of_zero_le h0
 simp only [Int.toNat_natCast] at hl h
 obtain ⟨i0,hi,hzz⟩:=Option.map_eq_some_iff.1 hinfo
 simp only [Prod.mk.injEq] at hzz
 obtain ⟨hz0,hz1,hz2⟩:=hzz
 have hm:m≤281474976710656:=Nat.le_trans (Nat.le_mul_of_pos_right _ hb0) hl
 have hr:=run_make (P:=P) W t e i0 z ht hi hz0 .i64 .i64 (m:Int) (m:Int) (by omega) (by omega)
  (by
   have h3:((i0.bytes*m:Nat):Int)≤281474976710656:=by rw [hz2,Nat.mul_comm];omega
   rwa [Int.natCast_mul] at h3) (by omega)
 simp only [Int.toNat_natCast] at hr
 rw [hz1] at hr
 refine Jlr d base e hw hd (xs:=List.replicate m z0) (inner:=(madeCells z.cells (m*d.sz)).toList) (okp:=okp) (ok:=ok) ?_ (Jfw hz hs0 hzero m) hok hfresh HB hbase (by simp;omega) h
 simp [execOp,ho,hx,hy,hr]
theorem R_append_rows_step (d:Kd α) {Rr:α→List Value→Prop} {w0 W:World} (base:Nat) (hw:Region.wanted o (yielded ops a.tmps)=true) (s x:Operand) (t e:TypeId) (z:Value) (bytes:Nat)
  (ho:o.op=.call { callee:=.builtin .append,args:=#[s,x],argTypes:=#[t,t] })
  (ht:P.underlying t=some (.slice e)) (hinfo:(P.info? e).map (fun i=>(i.zero,i.size,i.bytes))=some (some z,d.sz,bytes)) (hz:z.cells.size=d.sz) (hs0:0<d.sz) (hb0:0<bytes)
  (v:Value) (xs ys:List α) (A:Option Addr) (m c:Nat) (ok okp:Nat→Prop) (hs:a.eval s=v) (hx:a.eval x=.slice A m c)
  (HO:d.R e W base ok v xs) (HR:J19 Rr d.sz W A m ys) (hKM:∀ x cs,Rr x cs→d.M W base okp x cs) (hokp:∀ k,okp k→ok k∧some k≠v.ownBlock) (hfresh:∀ k,W.heap.size≤k→ok k)
  (HB:Below base w0 W) (hbase:base≤W.heap.size) (hl:(xs.length+m)*bytes≤140737488355328)
  (h:∀ v1 w1,d.R e w1 base ok v1 (xs++ys)→Below base w0 w1→W.grownBy w1 v.ownBlock→(v1.ownBlock=v.ownBlock∨∃ b,v1.ownBlock=some b∧W.heap.size≤b)→Kc (a.put o.dst v1) w1) :
  if Region.wanted o (yielded ops a.tmps)=true then Oper.wp P o a W Kc Q else Kc (a.put o.dst undef) W:=by
 obtain ⟨i0,hi,hzz⟩:=Option.map_eq_some_iff.1 hinfo
 simp only [Prod.mk.injEq] at hzz
 obtain ⟨hz0,hz1,hz2⟩:=hzz
 have hm:ys.length=m:=HR.1
 have hlen:xs.length+m≤140737488355328:=Nat.le_trans (Nat.le_mul_of_pos_right _ hb0) hl
 obtain ⟨hok,inner,hown,hr⟩:=HO
 have hrun:∃ v1 w1,(Builtin.append_ #[t,t] o.type #[v,.slice A m c]).run P W=.ok v1 w1∧d.R e w1 base ok v1 (xs++ys)∧W.grownBy w1 v.ownBlock∧(v1.ownBlock=v.ownBlock∨∃ b,v1.ownBlock=some b∧W.heap.size≤b):=by
  rcases A with _ | ad
  ·have h0:m=0:=by
    rcases Nat.eq_zero_or_pos m with h0 | h0
    ·exact h0
    obtain ⟨ad,h,_⟩:=HR.2.2 h0
    cases h
   subst h0
   obtain rfl:ys=[]:=List.eq_nil_of_length_eq_zero hm
   refine ⟨v,W,?_,by rw [List.append_nil];exact ⟨hok,inner,hown,hr⟩,World.grownBy.refl W _,.inl rfl⟩
   rcases hown.2 with ⟨rfl,hn⟩ | ⟨g,cap,cur,rfl,_,_,hnc,_⟩
   ·simp [Builtin.append_,run_underlying ht,sizeOf,typeInfo,hi,Builtin.lenOf,Builtin.firstCells]
   simp [Builtin.append_,run_underlying ht,sizeOf,typeInfo,hi,Builtin.lenOf,Builtin.firstCells,hnc,storeCells]
  obtain ⟨news,hnr,hnc⟩:=J19.inner_ HR
  have hnM:Reps (d.M W base okp) d.sz ys news:=hnr.imp_ (fun p c hp=>hKM p c hp)
  have hone:∀ u ∈ news,u.oneCell'=true:=by
   intro u hu
   obtain ⟨q,hq,rfl⟩:=List.mem_iff_getElem.1 hu
   have hql:q / d.sz<ys.length:=by
    rw [Nat.div_lt_iff_lt_mul hs0]
    rw [← hnM.1]
    exact hq
   have hc:=hnM.2 (q / d.sz) _ (List.getElem?_eq_getElem hql)
   refine d.K_one (d.K_of_M hc) _ ?_
   rw [List.mem_iff_getElem?]
   refine ⟨q % d.sz,?_⟩
   rw [List.getElem?_take,if_pos (Nat.mod_lt _ hs0),List.getElem?_drop,Nat.mul_comm,Nat.div_add_mod,List.getElem?_eq_getElem hq]
  obtain ⟨v1,w1,hrun,h2,hg,_,hat⟩:=run_append_own_at (P:=P) W base t o.type e i0 z d.sz bytes ht hi hz0 hz1 hz2 hz hs0 v xs.length inner hown ad m c news (by rw [hnM.1,hm]) hnc hone (by simp only [maxLen];omega) hl hbase
  have hat':v1.ownBlock=v.ownBlock∨∃ b,v1.ownBlock=some b∧W.heap.size≤b:=by
   rcases hat with hat | hat
   ·exact .inl hat
   exact .inr ⟨_,hat,Nat.le_refl _⟩
  have hne:∀ k,some k≠v.ownBlock→k<W.heap.size→some k≠v1.ownBlock:=by
   intro k hk hlt
   rcases hat' with hat | ⟨b,hb,hle⟩
   ·rw [hat];exact hk
   rw [hb]
   intro he
   injection he with he
   omega
  have step:∀ {q:α} {c:List Value} {o:Nat→Prop},d.M W base o q c→(∀ k,o k→ok k∧some k≠v.ownBlock)→d.M w1 base (fun k=>ok k∧some k≠v1.ownBlock) q c:=by
   intro q c o hq ho
   have h1:=d.M_move (w1:=w1) (fun k hk=>hg.block k hk.2.2.1 (ho k hk.1).2) (d.M_bound hq)
   exact d.M_mono (fun k hk=>⟨(ho k hk.1).1,hne k (ho k hk.1).2 hk.2.2.1⟩) h1
  refine ⟨v1,w1,hrun,⟨fun k hk=>?_,inner++news,by rw [List.length_append,hm];exact h2,Jbk (hr.imp_ (fun _ _ hq=>step hq (fun _ hk=>hk))) (hnM.imp_ (fun _ _ hq=>step hq hokp))⟩,hg,hat'⟩
  rcases hat' with hat | ⟨b,hb,hle⟩
  ·exact hok k (hat ▸ hk)
  rw [hb] at hk
  injection hk with hk
  exact hfresh k (by omega)
 obtain ⟨v1,w1,hr1,h1,hg,hat⟩:=hrun
 rw [if_pos hw]
 unfold Oper.wp execOp
 simp only [ho,resolve,invoke,builtin,Sem.run_bind,Sem.run_pure,Result.andThen_ok,List.map_toArray,List.map_cons,List.map_nil,hs,hx,hr1]
 exact h v1 w1 h1 (HB.grown hg hbase (J3i hown)) hg hat
end Kd
end
end Go.Proofs.YtbkfnmgkcgnifaaGreat.W1
namespace Go.Proofs.YtbkfnmgkcgnifaaGreat
open Go.RowKit W1 W2
theorem bc2 {w:World} {b:Nat} {t:TypeId} {a0 a1:Value} (h:w.heap[b]?=some (.cells #[a0,a1] t (0,0))):w.cell? ⟨b,0,none⟩=some a0∧w.cell? ⟨b,1,none⟩=some a1:=⟨(J03 h 0).trans rfl,(J03 h 1).trans rfl⟩
theorem bf2 {w:World} {b:Nat} {t:TypeId} {cs:Array Value} (h:w.heap[b]?=some (.cells cs t (0,0))):w.frozen? ⟨b,0,none⟩=false∧w.frozen? ⟨b,1,none⟩=false:=⟨J07 h 0,J07 h 1⟩
theorem bq2 {w:World} {b:Nat} {t:TypeId} {cs:Array Value} (h:w.heap[b]?=some (.cells cs t (0,0))) (a0 a1:Value) (e:cs[0]?=some a0∧cs[1]?=some a1:=by exact ⟨rfl,rfl⟩):w.cell? ⟨b,0,none⟩=some a0∧w.cell? ⟨b,1,none⟩=some a1:=⟨(J03 h 0).trans e.1,(J03 h 1).trans e.2⟩
theorem bc3 {w:World} {b:Nat} {t:TypeId} {a0 a1 a2:Value} (h:w.heap[b]?=some (.cells #[a0,a1,a2] t (0,0))):w.cell? ⟨b,0,none⟩=some a0∧w.cell? ⟨b,1,none⟩=some a1∧w.cell? ⟨b,2,none⟩=some a2:=⟨(J03 h 0).trans rfl,(J03 h 1).trans rfl,(J03 h 2).trans rfl⟩
theorem bf3 {w:World} {b:Nat} {t:TypeId} {cs:Array Value} (h:w.heap[b]?=some (.cells cs t (0,0))):w.frozen? ⟨b,0,none⟩=false∧w.frozen? ⟨b,1,none⟩=false∧w.frozen? ⟨b,2,none⟩=false:=⟨J07 h 0,J07 h 1,J07 h 2⟩
theorem bc4 {w:World} {b:Nat} {t:TypeId} {a0 a1 a2 a3:Value} (h:w.heap[b]?=some (.cells #[a0,a1,a2,a3] t (0,0))):w.cell? ⟨b,0,none⟩=some a0∧w.cell? ⟨b,1,none⟩=some a1∧w.cell? ⟨b,2,none⟩=some a2∧w.cell? ⟨b,3,none⟩=some a3:=⟨(J03 h 0).trans rfl,(J03 h 1).trans rfl,(J03 h 2).trans rfl,(J03 h 3).trans rfl⟩
theorem bf4 {w:World} {b:Nat} {t:TypeId} {cs:Array Value} (h:w.heap[b]?=some (.cells cs t (0,0))):w.frozen? ⟨b,0,none⟩=false∧w.frozen? ⟨b,1,none⟩=false∧w.frozen? ⟨b,2,none⟩=false∧w.frozen? ⟨b,3,none⟩=false:=⟨J07 h 0,J07 h 1,J07 h 2,J07 h 3⟩
theorem bc5 {w:World} {b:Nat} {t:TypeId} {a0 a1 a2 a3 a4:Value} (h:w.heap[b]?=some (.cells #[a0,a1,a2,a3,a4] t (0,0))):w.cell? ⟨b,0,none⟩=some a0∧w.cell? ⟨b,1,none⟩=some a1∧w.cell? ⟨b,2,none⟩=some a2∧w.cell? ⟨b,3,none⟩=some a3∧w.cell? ⟨b,4,none⟩=some a4:=⟨(J03 h 0).trans rfl,(J03 h 1).trans rfl,(J03 h 2).trans rfl,(J03 h 3).trans rfl,(J03 h 4).trans rfl⟩
theorem bf5 {w:World} {b:Nat} {t:TypeId} {cs:Array Value} (h:w.heap[b]?=some (.cells cs t (0,0))):w.frozen? ⟨b,0,none⟩=false∧w.frozen? ⟨b,1,none⟩=false∧w.frozen? ⟨b,2,none⟩=false∧w.frozen? ⟨b,3,none⟩=false∧w.frozen? ⟨b,4,none⟩=false:=⟨J07 h 0,J07 h 1,J07 h 2,J07 h 3,J07 h 4⟩
theorem bc13 {w:World} {b:Nat} {t:TypeId} {a0 a1 a2 a3 a4 a5 a6 a7 a8 a9 a10 a11 a12:Value} (h:w.heap[b]?=some (.cells #[a0,a1,a2,a3,a4,a5,a6,a7,a8,a9,a10,a11,a12] t (0,0))):w.cell? ⟨b,0,none⟩=some a0∧w.cell? ⟨b,1,none⟩=some a1∧w.cell? ⟨b,2,none⟩=some a2∧w.cell? ⟨b,3,none⟩=some a3∧w.cell? ⟨b,4,none⟩=some a4∧w.cell? ⟨b,5,none⟩=some a5∧w.cell? ⟨b,6,none⟩=some a6∧w.cell? ⟨b,7,none⟩=some a7∧w.cell? ⟨b,8,none⟩=some a8∧w.cell? ⟨b,9,none⟩=some a9∧w.cell? ⟨b,10,none⟩=some a10∧w.cell? ⟨b,11,none⟩=some a11∧w.cell? ⟨b,12,none⟩=some a12:=⟨(J03 h 0).trans rfl,(J03 h 1).trans rfl,(J03 h 2).trans rfl,(J03 h 3).trans rfl,(J03 h 4).trans rfl,(J03 h 5).trans rfl,(J03 h 6).trans rfl,(J03 h 7).trans rfl,(J03 h 8).trans rfl,(J03 h 9).trans rfl,(J03 h 10).trans rfl,(J03 h 11).trans rfl,(J03 h 12).trans rfl⟩
theorem bf13 {w:World} {b:Nat} {t:TypeId} {cs:Array Value} (h:w.heap[b]?=some (.cells cs t (0,0))):w.frozen? ⟨b,0,none⟩=false∧w.frozen? ⟨b,1,none⟩=false∧w.frozen? ⟨b,2,none⟩=false∧w.frozen? ⟨b,3,none⟩=false∧w.frozen? ⟨b,4,none⟩=false∧w.frozen? ⟨b,5,none⟩=false∧w.frozen? ⟨b,6,none⟩=false∧w.frozen? ⟨b,7,none⟩=false∧w.frozen? ⟨b,8,none⟩=false∧w.frozen? ⟨b,9,none⟩=false∧w.frozen? ⟨b,10,none⟩=false∧w.frozen? ⟨b,11,none⟩=false∧w.frozen? ⟨b,12,none⟩=false:=⟨J07 h 0,J07 h 1,J07 h 2,J07 h 3,J07 h 4,J07 h 5,J07 h 6,J07 h 7,J07 h 8,J07 h 9,J07 h 10,J07 h 11,J07 h 12⟩
theorem bq13 {w:World} {b:Nat} {t:TypeId} {cs:Array Value} (h:w.heap[b]?=some (.cells cs t (0,0))) (a0 a1 a2 a3 a4 a5 a6 a7 a8 a9 a10 a11 a12:Value) (e:cs[0]?=some a0∧cs[1]?=some a1∧cs[2]?=some a2∧cs[3]?=some a3∧cs[4]?=some a4∧cs[5]?=some a5∧cs[6]?=some a6∧cs[7]?=some a7∧cs[8]?=some a8∧cs[9]?=some a9∧cs[10]?=some a10∧cs[11]?=some a11∧cs[12]?=some a12:=by exact ⟨rfl,rfl,rfl,rfl,rfl,rfl,rfl,rfl,rfl,rfl,rfl,rfl,rfl⟩):w.cell? ⟨b,0,none⟩=some a0∧w.cell? ⟨b,1,none⟩=some a1∧w.cell? ⟨b,2,none⟩=some a2∧w.cell? ⟨b,3,none⟩=some a3∧w.cell? ⟨b,4,none⟩=some a4∧w.cell? ⟨b,5,none⟩=some a5∧w.cell? ⟨b,6,none⟩=some a6∧w.cell? ⟨b,7,none⟩=some a7∧w.cell? ⟨b,8,none⟩=some a8∧w.cell? ⟨b,9,none⟩=some a9∧w.cell? ⟨b,10,none⟩=some a10∧w.cell? ⟨b,11,none⟩=some a11∧w.cell? ⟨b,12,none⟩=some a12:=⟨(J03 h 0).trans e.1,(J03 h 1).trans e.2.1,(J03 h 2).trans e.2.2.1,(J03 h 3).trans e.2.2.2.1,(J03 h 4).trans e.2.2.2.2.1,(J03 h 5).trans e.2.2.2.2.2.1,(J03 h 6).trans e.2.2.2.2.2.2.1,(J03 h 7).trans e.2.2.2.2.2.2.2.1,(J03 h 8).trans e.2.2.2.2.2.2.2.2.1,(J03 h 9).trans e.2.2.2.2.2.2.2.2.2.1,(J03 h 10).trans e.2.2.2.2.2.2.2.2.2.2.1,(J03 h 11).trans e.2.2.2.2.2.2.2.2.2.2.2.1,(J03 h 12).trans e.2.2.2.2.2.2.2.2.2.2.2.2⟩
theorem st2 {w w':World} {x0 x1:Addr} {a0 a1:Value} (hb:Below w.heap.size w w') (h:w.cell? x0=some a0∧w.cell? x1=some a1):w'.cell? x0=some a0∧w'.cell? x1=some a1:=⟨J00 hb h.1,J00 hb h.2⟩
theorem st3 {w w':World} {x0 x1 x2:Addr} {a0 a1 a2:Value} (hb:Below w.heap.size w w') (h:w.cell? x0=some a0∧w.cell? x1=some a1∧w.cell? x2=some a2):w'.cell? x0=some a0∧w'.cell? x1=some a1∧w'.cell? x2=some a2:=⟨J00 hb h.1,J00 hb h.2.1,J00 hb h.2.2⟩
theorem st4 {w w':World} {x0 x1 x2 x3:Addr} {a0 a1 a2 a3:Value} (hb:Below w.heap.size w w') (h:w.cell? x0=some a0∧w.cell? x1=some a1∧w.cell? x2=some a2∧w.cell? x3=some a3):w'.cell? x0=some a0∧w'.cell? x1=some a1∧w'.cell? x2=some a2∧w'.cell? x3=some a3:=⟨J00 hb h.1,J00 hb h.2.1,J00 hb h.2.2.1,J00 hb h.2.2.2⟩
theorem st5 {w w':World} {x0 x1 x2 x3 x4:Addr} {a0 a1 a2 a3 a4:Value} (hb:Below w.heap.size w w') (h:w.cell? x0=some a0∧w.cell? x1=some a1∧w.cell? x2=some a2∧w.cell? x3=some a3∧w.cell? x4=some a4):w'.cell? x0=some a0∧w'.cell? x1=some a1∧w'.cell? x2=some a2∧w'.cell? x3=some a3∧w'.cell? x4=some a4:=⟨J00 hb h.1,J00 hb h.2.1,J00 hb h.2.2.1,J00 hb h.2.2.2.1,J00 hb h.2.2.2.2⟩
theorem st6 {w w':World} {x0 x1 x2 x3 x4 x5:Addr} {a0 a1 a2 a3 a4 a5:Value} (hb:Below w.heap.size w w') (h:w.cell? x0=some a0∧w.cell? x1=some a1∧w.cell? x2=some a2∧w.cell? x3=some a3∧w.cell? x4=some a4∧w.cell? x5=some a5):w'.cell? x0=some a0∧w'.cell? x1=some a1∧w'.cell? x2=some a2∧w'.cell? x3=some a3∧w'.cell? x4=some a4∧w'.cell? x5=some a5:=⟨J00 hb h.1,J00 hb h.2.1,J00 hb h.2.2.1,J00 hb h.2.2.2.1,J00 hb h.2.2.2.2.1,J00 hb h.2.2.2.2.2⟩
theorem st8 {w w':World} {x0 x1 x2 x3 x4 x5 x6 x7:Addr} {a0 a1 a2 a3 a4 a5 a6 a7:Value} (hb:Below w.heap.size w w') (h:w.cell? x0=some a0∧w.cell? x1=some a1∧w.cell? x2=some a2∧w.cell? x3=some a3∧w.cell? x4=some a4∧w.cell? x5=some a5∧w.cell? x6=some a6∧w.cell? x7=some a7):w'.cell? x0=some a0∧w'.cell? x1=some a1∧w'.cell? x2=some a2∧w'.cell? x3=some a3∧w'.cell? x4=some a4∧w'.cell? x5=some a5∧w'.cell? x6=some a6∧w'.cell? x7=some a7:=⟨J00 hb h.1,J00 hb h.2.1,J00 hb h.2.2.1,J00 hb h.2.2.2.1,J00 hb h.2.2.2.2.1,J00 hb h.2.2.2.2.2.1,J00 hb h.2.2.2.2.2.2.1,J00 hb h.2.2.2.2.2.2.2⟩
theorem sr1 {P:Program} {ops:Array Oper} {Q:Exit→Act→World→Prop} {id:Nat} {a:Act} {w:World} (n:Nat) (S:World→Prop) (ds:List Nat) (hS:S w.drew) (h:S w.drew→J06 P .any ops Q S ds n (bs n 0) a w.drew) (hm:P.follows .mixedOrders=true:=by kernel_rfl) (hn:ops.size=n:=by rfl) (hl:Array.replicate n false=bs n 0:=by kernel_rfl):(Code.region id ops true).wp P Q a w:=Jd9 _ hm hn hl hS h
section
variable {P:Program} {ops:Array Oper} {Q:Exit→Act→World→Prop} {md:Region.Mode} {S:World→Prop} {ds:List Nat} {oi:Oper} {fuel n k k' N:Nat} {a:Act} {w:World}
theorem pv (i:Nat) {v:Value} {a':Act} (h:J06 P md ops Q S ds fuel (bs n k') a' w) (hk:k|||1<<<i=k':=by simp only [Nat.reduceShiftLeft,Nat.reduceOr];rfl) (hi:ops[i]?=some oi:=by rfl) (hN:oi.dst=some N:=by rfl) (hc:anyB md ops (bs n k) (bs n k') i=true:=by kernel_rfl) (hQ:∀ c a w,Q (.panic c) (a.put oi.dst v) w→Q (.panic c) a w:=by exact fun _ _ _ h=>h) (hy:Yields P ops oi v a:=by exact .inl ⟨by rfl,by intro w';go_simp;with_reducible rfl⟩) (ha:a.put (some N) v=a':=by go_simp;rfl):J06 P md ops Q S ds (fuel+1) (bs n k) a w:=pu i N (bs n k') h hi hN hc hQ hy ha
theorem uv (i:Nat) {a':Act} (h:J06 P md ops Q S ds fuel (bs n k') a' w) (hk:k|||1<<<i=k':=by simp only [Nat.reduceShiftLeft,Nat.reduceOr];rfl) (hi:ops[i]?=some oi:=by rfl) (hN:oi.dst=some N:=by rfl) (hc:anyB md ops (bs n k) (bs n k') i=true:=by kernel_rfl) (hQ:∀ c a w,Q (.panic c) (a.put oi.dst undef) w→Q (.panic c) a w:=by exact fun _ _ _ h=>h) (hy:Yields P ops oi undef a:=by exact Or.inr ⟨by rfl,rfl⟩) (ha:a.put (some N) undef=a':=by simp only [Act.put,List.setIfInBounds_toArray,List.set_cons_zero,List.set_cons_succ,Jc3,Jov];rfl):J06 P md ops Q S ds (fuel+1) (bs n k) a w:=uf0 i N (bs n k') h hi hN hc hQ hy ha
theorem tv1 (i:Nat) {v:Value} {a':Act} (h:J06 P md ops Q S ds fuel (bs n k') a' w) (hS:S w:=by assumption) (hk:k|||1<<<i=k':=by simp only [Nat.reduceShiftLeft,Nat.reduceOr];rfl) (hi:ops[i]?=some oi:=by rfl) (hN:oi.dst=some N:=by rfl) (hc:J5y md ops ds (bs n k) (bs n k') i=true:=by kernel_rfl) (hQ:∀ c a w,Q (.panic c) (a.put oi.dst v) w→Q (.panic c) a w:=by exact fun _ _ _ h=>h) (hy:YieldsIf P ops S oi v a:=by exact .inl ⟨by rfl,by rintro w' s0;go_simp;with_reducible rfl⟩) (ha:a.put (some N) v=a':=by go_simp;rfl):J06 P md ops Q S ds (fuel+1) (bs n k) a w:=tk1 i N (bs n k') hS h hi hN hc hQ hy ha
theorem tv2 (i:Nat) {v:Value} {a':Act} (h:J06 P md ops Q S ds fuel (bs n k') a' w) (hS:S w:=by assumption) (hk:k|||1<<<i=k':=by simp only [Nat.reduceShiftLeft,Nat.reduceOr];rfl) (hi:ops[i]?=some oi:=by rfl) (hN:oi.dst=some N:=by rfl) (hc:J5y md ops ds (bs n k) (bs n k') i=true:=by kernel_rfl) (hQ:∀ c a w,Q (.panic c) (a.put oi.dst v) w→Q (.panic c) a w:=by exact fun _ _ _ h=>h) (hy:YieldsIf P ops S oi v a:=by exact .inl ⟨by rfl,by rintro w' ⟨s0,s1⟩;go_simp;with_reducible rfl⟩) (ha:a.put (some N) v=a':=by go_simp;rfl):J06 P md ops Q S ds (fuel+1) (bs n k) a w:=tk2 i N (bs n k') hS h hi hN hc hQ hy ha
theorem tv3 (i:Nat) {v:Value} {a':Act} (h:J06 P md ops Q S ds fuel (bs n k') a' w) (hS:S w:=by assumption) (hk:k|||1<<<i=k':=by simp only [Nat.reduceShiftLeft,Nat.reduceOr];rfl) (hi:ops[i]?=some oi:=by rfl) (hN:oi.dst=some N:=by rfl) (hc:J5y md ops ds (bs n k) (bs n k') i=true:=by kernel_rfl) (hQ:∀ c a w,Q (.panic c) (a.put oi.dst v) w→Q (.panic c) a w:=by exact fun _ _ _ h=>h) (hy:YieldsIf P ops S oi v a:=by exact .inl ⟨by rfl,by rintro w' ⟨s0,s1,s2⟩;go_simp;with_reducible rfl⟩) (ha:a.put (some N) v=a':=by go_simp;rfl):J06 P md ops Q S ds (fuel+1) (bs n k) a w:=tk3 i N (bs n k') hS h hi hN hc hQ hy ha
theorem tv4 (i:Nat) {v:Value} {a':Act} (h:J06 P md ops Q S ds fuel (bs n k') a' w) (hS:S w:=by assumption) (hk:k|||1<<<i=k':=by simp only [Nat.reduceShiftLeft,Nat.reduceOr];rfl) (hi:ops[i]?=some oi:=by rfl) (hN:oi.dst=some N:=by rfl) (hc:J5y md ops ds (bs n k) (bs n k') i=true:=by kernel_rfl) (hQ:∀ c a w,Q (.panic c) (a.put oi.dst v) w→Q (.panic c) a w:=by exact fun _ _ _ h=>h) (hy:YieldsIf P ops S oi v a:=by exact .inl ⟨by rfl,by rintro w' ⟨s0,s1,s2,s3⟩;go_simp;with_reducible rfl⟩) (ha:a.put (some N) v=a':=by go_simp;rfl):J06 P md ops Q S ds (fuel+1) (bs n k) a w:=tk4 i N (bs n k') hS h hi hN hc hQ hy ha
theorem tv5 (i:Nat) {v:Value} {a':Act} (h:J06 P md ops Q S ds fuel (bs n k') a' w) (hS:S w:=by assumption) (hk:k|||1<<<i=k':=by simp only [Nat.reduceShiftLeft,Nat.reduceOr];rfl) (hi:ops[i]?=some oi:=by rfl) (hN:oi.dst=some N:=by rfl) (hc:J5y md ops ds (bs n k) (bs n k') i=true:=by kernel_rfl) (hQ:∀ c a w,Q (.panic c) (a.put oi.dst v) w→Q (.panic c) a w:=by exact fun _ _ _ h=>h) (hy:YieldsIf P ops S oi v a:=by exact .inl ⟨by rfl,by rintro w' ⟨s0,s1,s2,s3,s4⟩;go_simp;with_reducible rfl⟩) (ha:a.put (some N) v=a':=by go_simp;rfl):J06 P md ops Q S ds (fuel+1) (bs n k) a w:=tk5 i N (bs n k') hS h hi hN hc hQ hy ha
theorem tv6 (i:Nat) {v:Value} {a':Act} (h:J06 P md ops Q S ds fuel (bs n k') a' w) (hS:S w:=by assumption) (hk:k|||1<<<i=k':=by simp only [Nat.reduceShiftLeft,Nat.reduceOr];rfl) (hi:ops[i]?=some oi:=by rfl) (hN:oi.dst=some N:=by rfl) (hc:J5y md ops ds (bs n k) (bs n k') i=true:=by kernel_rfl) (hQ:∀ c a w,Q (.panic c) (a.put oi.dst v) w→Q (.panic c) a w:=by exact fun _ _ _ h=>h) (hy:YieldsIf P ops S oi v a:=by exact .inl ⟨by rfl,by rintro w' ⟨s0,s1,s2,s3,s4,s5⟩;go_simp;with_reducible rfl⟩) (ha:a.put (some N) v=a':=by go_simp;rfl):J06 P md ops Q S ds (fuel+1) (bs n k) a w:=tk6 i N (bs n k') hS h hi hN hc hQ hy ha
theorem tv7 (i:Nat) {v:Value} {a':Act} (h:J06 P md ops Q S ds fuel (bs n k') a' w) (hS:S w:=by assumption) (hk:k|||1<<<i=k':=by simp only [Nat.reduceShiftLeft,Nat.reduceOr];rfl) (hi:ops[i]?=some oi:=by rfl) (hN:oi.dst=some N:=by rfl) (hc:J5y md ops ds (bs n k) (bs n k') i=true:=by kernel_rfl) (hQ:∀ c a w,Q (.panic c) (a.put oi.dst v) w→Q (.panic c) a w:=by exact fun _ _ _ h=>h) (hy:YieldsIf P ops S oi v a:=by exact .inl ⟨by rfl,by rintro w' ⟨s0,s1,s2,s3,s4,s5,s6⟩;go_simp;with_reducible rfl⟩) (ha:a.put (some N) v=a':=by go_simp;rfl):J06 P md ops Q S ds (fuel+1) (bs n k) a w:=tk7 i N (bs n k') hS h hi hN hc hQ hy ha
theorem tv8 (i:Nat) {v:Value} {a':Act} (h:J06 P md ops Q S ds fuel (bs n k') a' w) (hS:S w:=by assumption) (hk:k|||1<<<i=k':=by simp only [Nat.reduceShiftLeft,Nat.reduceOr];rfl) (hi:ops[i]?=some oi:=by rfl) (hN:oi.dst=some N:=by rfl) (hc:J5y md ops ds (bs n k) (bs n k') i=true:=by kernel_rfl) (hQ:∀ c a w,Q (.panic c) (a.put oi.dst v) w→Q (.panic c) a w:=by exact fun _ _ _ h=>h) (hy:YieldsIf P ops S oi v a:=by exact .inl ⟨by rfl,by rintro w' ⟨s0,s1,s2,s3,s4,s5,s6,s7⟩;go_simp;with_reducible rfl⟩) (ha:a.put (some N) v=a':=by go_simp;rfl):J06 P md ops Q S ds (fuel+1) (bs n k) a w:=tk8 i N (bs n k') hS h hi hN hc hQ hy ha
theorem ov (i:Nat) (h:∀ K:Act→World→Prop,Shut (∀ a' w',S w'→(S w'→J06 P md ops Q S ds fuel (bs n k') a' w')→K a' w')→if Region.wanted oi (yielded ops a.tmps)=true then Oper.wp P oi a w K Q else K (a.put (some N) undef) w) (hk:k|||1<<<i=k':=by simp only [Nat.reduceShiftLeft,Nat.reduceOr];rfl) (hi:ops[i]?=some oi:=by rfl) (hN:oi.dst=some N:=by rfl) (hc:Jbl md ops (bs n k) (bs n k') i=true:=by kernel_rfl) (hd:i∉ds:=by decide):J06 P md ops Q S ds (fuel+1) (bs n k) a w:=on0 i N (bs n k') h hi hN hc hd
end
theorem hmf0 (fn:Fn) (first cap:Array Value) (w:World):(Instr.makeFunc fn first cap).run Tryz.prog w=.ok (.func fn first cap) w:=rfl
def Y00:=@J08.mk
def Y01:=@List.getD_eq_getElem?_getD
def Y02:=@List.length_append
def Y03:=@List.mem_cons_self
def Y04:=@List.mem_cons_of_mem
def Y05:=@List.getElem?_eq_getElem
def Y06:=@Int.toNat_natCast
def Y07:=@And.intro
def Y08:=@Lib.hid
def Y09:=@List.getElem?_append_right
def Y0a:=@List.getElem?_append_left
def Y0b:=@IntKind.wrap_i64
def Y0c:=@heap_alloc_new
def Y0d:=@List.append_assoc
def Y0e:=@Nat.le_refl
def Y0f:=@Below.refl
def Y0g:=@List.length_map
def Y0h:=@List.getElem?_eq_some_iff
def Y0i:=@Array.getElem?_setIfInBounds_ne
def Y0j:=@List.length_replicate
def Y0k:=@Int.toNat_of_nonneg
def Y0l:=@List.getElem_mem
def Y0m:=@List.mem_append
def Y0n:=@List.getElem_map
def Y0o:=@List.length_take
def Y0p:=@List.length_drop
def Y0q:=@List.length_set
def Y0r:=@decide_eq_true
def Y0s:=@decide_eq_false
def Y0t:=@List.take_of_length_le
def Y0u:=@List.take_succ_eq_append_getElem
def Y0v:=@Nat.le_of_ble_eq_true
def Y0w:=@List.getElem?_eq_none
def Y0x:=@Bool.and_eq_true
def Y0y:=@decide_eq_true_eq
def Y0z:=@List.length_cons
def Y10:=@List.length_singleton
def Y11:=@List.mem_singleton
def Y12:=@List.mem_range
end Go.Proofs.YtbkfnmgkcgnifaaGreat
namespace Go.Proofs.YtbkfnmgkcgnifaaGreat.Mdl
abbrev Tm:=Int × Int × Int
abbrev Mk:=Int × Tm
def w64 (n:Int):Int:=(n+9223372036854775808) % 18446744073709551616 - 9223372036854775808
theorem J25 {n:Int} (h0:-9223372036854775808≤n) (h1:n≤9223372036854775807):w64 n=n:=by unfold w64;omega
def J0l (a b:Tm):Tm:=(w64 (a.1+b.1),w64 (a.2.1+b.2.1),w64 (a.2.2+b.2.2))
def leT (a b:Tm):Bool:=decide (a.1≤b.1)&&decide (a.2.1≤b.2.1)&&decide (a.2.2≤b.2.2)
theorem Jos {a b:Tm} (h0:a.1≤b.1) (h1:a.2.1≤b.2.1) (h2:a.2.2≤b.2.2):leT a b=true:=by simp [leT,h0,h1,h2]
theorem Jrd {a b:Tm} (h:b.1<a.1):leT a b=false:=by
 unfold leT;rw [Y0s (by omega)];rfl
theorem Jrc {a b:Tm} (h:b.2.1<a.2.1):leT a b=false:=by
 unfold leT;rw [Y0s (p:=a.2.1≤b.2.1) (by omega)];simp
theorem Jrb {a b:Tm} (h:b.2.2<a.2.2):leT a b=false:=by
 unfold leT;rw [Y0s (p:=a.2.2≤b.2.2) (by omega)];simp
def cmp3 (x y:Int):Int:=if x<y then -1 else if y<x then 1 else 0
def cmpT (a b:Tm):Int:=if cmp3 a.1 b.1≠0 then cmp3 a.1 b.1 else if cmp3 a.2.1 b.2.1≠0 then cmp3 a.2.1 b.2.1 else cmp3 a.2.2 b.2.2
def cmpN (a b:Mk):Int:=if a.1≠b.1 then a.1 - b.1 else cmpT a.2 b.2
def cmpM (a b:Mk):Int:=if a.1≠b.1 then w64 (a.1 - b.1) else cmpT a.2 b.2
def insL {α:Type} (cmp:α→α→Int) (x:α):List α→List α
 | []=>[x]
 | y::r=>if cmp y x≤0 then y::insL cmp x r else x::y::r
def Jho {α:Type} (cmp:α→α→Int) (l:List α):List α:=l.foldl (fun a x=>insL cmp x a) []
def J2w (l:List Tm):List Tm:=Jho cmpT l
def J61 (l:List Mk):List Mk:=Jho cmpN l
def J1c:List Tm→List Tm
 | []=>[]
 | [x]=>[x]
 | x::y::r=>if x=y then J1c (y::r) else x::J1c (y::r)
def J3f (out:List Tm) (t:Tm):List Tm:=if out.any (fun o=>leT o t) then out else out++[t]
def J0p (l:List Tm):List Tm:=(J1c (J2w l)).foldl J3f []
theorem Jc0 {α:Type} (cmp:α→α→Int) (x:α):∀ l:List α,(insL cmp x l).length=l.length+1
 | []=>rfl
 | y::r=>by
  unfold insL
  split
  ·simp [Jc0 cmp x r]
  rfl
theorem J5g {α:Type} (cmp:α→α→Int):∀ (l a:List α),(l.foldl (fun a x=>insL cmp x a) a).length=a.length+l.length
 | [],a=>by simp
 | x::r,a=>by rw [List.foldl_cons,J5g cmp r,Jc0,Y0z];omega
theorem J6y (l:List Tm):(J2w l).length=l.length:=by simp [J2w,Jho,J5g]
theorem J6z:∀ l:List Tm,(J1c l).length≤l.length
 | []=>by simp [J1c]
 | [x]=>by simp [J1c]
 | x::y::r=>by
  have h:=J6z (y::r)
  unfold J1c
  split<;>simp at h ⊢<;>omega
theorem Jga (out:List Tm) (t:Tm):(J3f out t).length≤out.length+1:=by
 unfold J3f;split<;>simp
theorem J3j:∀ (l out:List Tm),(l.foldl J3f out).length≤out.length+l.length
 | [],out=>by simp
 | x::r,out=>by
  have h:=J3j r (J3f out x)
  have h2:=Jga out x
  simp only [List.foldl_cons,Y0z];omega
theorem J1m {α β:Type} (f:β→α→β) (b:β) (l:List α) {k:Nat} (hk:k<l.length):(l.take (k+1)).foldl f b=f ((l.take k).foldl f b) l[k]:=by
 rw [Y0u hk,List.foldl_append];rfl
theorem Jma {out:List Tm} {t:Tm} (h:out.any (fun o=>leT o t)=true):J3f out t=out:=by simp only [J3f,h,if_true]
theorem Jo7 {out:List Tm} {t:Tm} (h:out.any (fun o=>leT o t)=false):J3f out t=out++[t]:=by simp only [J3f,h];rfl
theorem J7w (l:List Tm):(J0p l).length≤l.length:=by
 have h1:=J3j (J1c (J2w l)) []
 have h2:=J6z (J2w l)
 rw [J6y] at h2
 simp only [List.length_nil] at h1
 unfold J0p;omega
def J0g (wide:Nat) (t:Tm):List Int:=[t.1,t.2.1,t.2.2].take wide
theorem J0u {wide:Nat} (t:Tm) (h:wide≤3):(J0g wide t).length=wide:=by simp [J0g];omega
def tmOf (l:List Int):Tm:=(l.getD 0 0,l.getD 1 0,l.getD 2 0)
end Go.Proofs.YtbkfnmgkcgnifaaGreat.Mdl
namespace Go.Proofs.YtbkfnmgkcgnifaaGreat
open Go.RowKit W1 Mdl
def tmV (t:Tm):Value:=.agg #[.int .i64 t.1,.int .i64 t.2.1,.int .i64 t.2.2]
def mkV (m:Mk):Value:=.agg #[.int .i64 m.1,.int .i64 m.2.1,.int .i64 m.2.2.1,.int .i64 m.2.2.2]
theorem J62 {a b:Bool} (h:a=b):Ending.returned (.bool a)=Ending.returned (.bool b):=by rw [h]
theorem J2k {k:IntKind} {a b:Int} (h:a=b):Ending.returned (.int k a)=Ending.returned (.int k b):=by rw [h]
def J4g (e:Int):List PanicEntry:=[{ v:=.iface 126 (.agg #[.int .i64 e]),recovered:=false }]
theorem J1w (e:Int) (w:World):Calls Tryz.prog 31 #[.bool true,.int .i64 e] w fun e w'=>e=.returned (.tuple #[])∧w=w':=by
 go_enter Tryz.func31,Tryz.ntmps31
 go_wp2
 go_end0
 exact ⟨rfl,rfl⟩
theorem J0r (e:Int) (w:World):Calls Tryz.prog 31 #[.bool false,.int .i64 e] w fun r w'=>r=.panicked (J4g e)∧w=w':=by
 go_enter Tryz.func31,Tryz.ntmps31
 go_wp2
 exact ⟨rfl,rfl,rfl⟩
theorem J9r (a:Addr) (n k:Int) (w:World) (hc:w.cell? a=some (.int .i64 k)) (h0:0≤n) (h1:n<k):Calls Tryz.prog 32 #[.pointer (some a),.int .i64 n] w fun r w'=>r=.returned (.bool true)∧w=w':=by
 go_enter Tryz.func32,Tryz.ntmps32
 go_wp2
 go_ret
 exact ⟨rfl,rfl⟩
theorem J7i (a:Addr) (n k:Int) (w:World) (hc:w.cell? a=some (.int .i64 k)) (h:n<0∨k≤n):Calls Tryz.prog 32 #[.pointer (some a),.int .i64 n] w fun r w'=>r=.returned (.bool false)∧w=w':=by
 by_cases h0:n<0
 ·clear h
  go_enter Tryz.func32,Tryz.ntmps32
  go_wp2
  go_ret
  exact ⟨rfl,rfl⟩
 have h1:k≤n:=by omega
 have h2:0≤n:=by omega
 have hd:decide (n<k)=false:=by simp;omega
 clear h h0
 go_enter Tryz.func32,Tryz.ntmps32
 go_wp2
 go_ret
 exact ⟨rfl,rfl⟩
theorem J15 {w:World} {o o':Obj} : Below w.heap.size w ((w.alloc o).alloc o'):=((Y0f _ _).alloc (Y0e _) _).alloc (by simp) _
theorem Jgy (t u:Tm) (w:World):Calls Tryz.prog 86 #[tmV t,tmV u] w fun r w'=>r=.returned (.bool (leT t u))∧Below w.heap.size w w':=by
 obtain ⟨a,b,c⟩:=t
 obtain ⟨x,y,z⟩:=u
 have i0:∀ w,(Instr.index 99 (.agg #[.int .i64 a,.int .i64 b,.int .i64 c]) (.int .i64 0)).run Tryz.prog w=.ok (.int .i64 a) w:=fun _=>by kernel_rfl
 have i1:∀ w,(Instr.index 99 (.agg #[.int .i64 a,.int .i64 b,.int .i64 c]) (.int .i64 1)).run Tryz.prog w=.ok (.int .i64 b) w:=fun _=>by kernel_rfl
 have i2:∀ w,(Instr.index 99 (.agg #[.int .i64 a,.int .i64 b,.int .i64 c]) (.int .i64 2)).run Tryz.prog w=.ok (.int .i64 c) w:=fun _=>by kernel_rfl
 simp only [tmV]
 go_enter Tryz.func86,Tryz.ntmps86
 go_wp2
 refine wp_loop_rounds 4 ?_
 rw [rounds_succ]
 go_wp2
 ·go_ret
  exact ⟨J62 (Jrd (by assumption)).symm,J15⟩
 rw [rounds_succ]
 go_wp2
 ·go_ret
  exact ⟨J62 (Jrc (by assumption)).symm,J15⟩
 rw [rounds_succ]
 go_wp2
 ·go_ret
  exact ⟨J62 (Jrb (by assumption)).symm,J15⟩
 rw [rounds_succ]
 go_wp2
 go_ret
 exact ⟨J62 (Jos (by assumption) (by assumption) (by assumption)).symm,J15⟩
theorem J2u (n:Int):wrap64 n=w64 n:=by unfold wrap64 w64;rfl
theorem Jb7 {w:World} {o o' o'':Obj} : Below w.heap.size w (((w.alloc o).alloc o').alloc o''):=J15.alloc (by simp;omega) _
theorem Jen (t u:Tm) (w:World):Calls Tryz.prog 75 #[tmV t,tmV u] w fun r w'=>r=.returned (tmV (J0l t u))∧Below w.heap.size w w':=by
 obtain ⟨a,b,c⟩:=t
 obtain ⟨x,y,z⟩:=u
 have i0:∀ w,(Instr.index 99 (.agg #[.int .i64 x,.int .i64 y,.int .i64 z]) (.int .i64 0)).run Tryz.prog w=.ok (.int .i64 x) w:=fun _=>by kernel_rfl
 have i1:∀ w,(Instr.index 99 (.agg #[.int .i64 x,.int .i64 y,.int .i64 z]) (.int .i64 1)).run Tryz.prog w=.ok (.int .i64 y) w:=fun _=>by kernel_rfl
 have i2:∀ w,(Instr.index 99 (.agg #[.int .i64 x,.int .i64 y,.int .i64 z]) (.int .i64 2)).run Tryz.prog w=.ok (.int .i64 z) w:=fun _=>by kernel_rfl
 simp only [tmV,J0l]
 go_enter Tryz.func75,Tryz.ntmps75
 go_wp2
 refine wp_loop_rounds 4 ?_
 rw [rounds_succ]
 go_wp2
 rw [rounds_succ]
 go_wp2
 rw [rounds_succ]
 go_wp2
 rw [rounds_succ]
 go_wp2
 simp only [J2u]
 exact bodyPost_ret (v:=.agg #[.int .i64 (w64 (a+x)),.int .i64 (w64 (b+y)),.int .i64 (w64 (c+z))]) (by simp [results,Tryz.results75,go_sem]) rfl ⟨rfl,Jb7⟩
theorem Jmd (l:List Int):splice [.int .i64 0,.int .i64 0,.int .i64 0] 0 ((l.take 3).map (Value.int .i64))=[.int .i64 (tmOf l).1,.int .i64 (tmOf l).2.1,.int .i64 (tmOf l).2.2]:=by
 match l with
 | []=>simp [splice,tmOf]
 | [a]=>simp [splice,tmOf]
 | [a,b]=>simp [splice,tmOf]
 | a::b::c::r=>simp [splice,tmOf]
theorem Jot (l:List Int):∀ v ∈ l.map (Value.int .i64),v.oneCell'=true:=by
 intro v hv
 obtain ⟨x,_,rfl⟩:=List.mem_map.1 hv
 rfl
theorem Jpy {A:Option Addr} {l:List Int} {w:World} (h:(Kd.int .i64).C w A l.length l) (o:Obj) (k:Nat) (x:Option Addr) :
  0<((l.take k).map (Value.int .i64)).length→x=x∧∃ ad,A=some ad∧∀ j v,((l.take k).map (Value.int .i64))[j]?=some v→(w.alloc o).cell? (ad.add j)=some v:=by
 intro hp
 have hp':0<l.length:=by simp at hp;omega
 obtain ⟨ad,e,hc⟩:=(Kd.reads_of_C (enc:=Value.int .i64) (d:=(0:Int)) (h1:=fun _=>rfl) h).2.2 hp'
 refine ⟨rfl,ad,e,fun j v hj=>?_⟩
 obtain ⟨hl,hv⟩:=Y0h.1 hj
 have hjl:j<l.length:=by simp at hl;omega
 have h2:=hc j hjl
 have h3:v=Value.int .i64 (l.getD j 0):=by
  rw [← hv];simp [Y01,hjl]
 rw [h3]
 exact J00 ((Y0f w.heap.size w).alloc (Y0e _) o) h2
theorem Jo0 {w:World} {g:Nat} {t:TypeId} {a b c:Value} (h:w.heap[g]?=some (.cells [a,b,c].toArray t (0,0))) :
  w.cell? ⟨g,0,none⟩=some a∧w.cell? ⟨g,1,none⟩=some b∧w.cell? ⟨g,2,none⟩=some c∧w.frozen? ⟨g,0,none⟩=false∧w.frozen? ⟨g,1,none⟩=false∧w.frozen? ⟨g,2,none⟩=false:=by
 refine ⟨?_,?_,?_,?_,?_,?_⟩<;>simp [World.cell?,World.frozen?,h]
theorem J6m (A:Option Addr) (c:Nat) (l:List Int) (w:World) (hl:(Kd.int .i64).C w A l.length l) :
  Calls Tryz.prog 64 #[.slice A l.length c] w fun r w'=>r=.returned (tmV (tmOf l))∧Below w.heap.size w w':=by
 simp only [tmV]
 have HS:Hid ((Tryz.prog.info? 3).map (·.size)=some 1):=Y08 (by kernel_rfl)
 have HM:Hid (((l.take 3).map (Value.int .i64)).length=Nat.min l.length 3):=Y08 (by simp [Nat.min_comm])
 have HL:=Y00 hl
 clear hl
 go_enter Tryz.func64,Tryz.ntmps64
 go_wp2_with (with_reducible refine wpList_copy_splice rfl (.tmp 3) (.tmp 4) _ _ rfl 3 Tryz.underlying36 HS.out _ _ _ _ _ _ rfl rfl w.heap.size 0 [.int .i64 0,.int .i64 0,.int .i64 0] 99 (Y0c w _) _ HM.out (Jpy HL.out _ 3 _) (by simp;omega) (Jot _) w.heap.size w ((Y0f _ _).alloc (Y0e _) _) (Y0e _) ?_;intro w1 hg1 hb1;obtain ⟨c0,c1,c2,f0,f1,f2⟩:=Jo0 (Jmd l ▸ hg1.out);clear hg1)
 refine bodyPost_ret (v:=.agg #[.int .i64 (tmOf l).1,.int .i64 (tmOf l).2.1,.int .i64 (tmOf l).2.2]) (by simp [results,Tryz.results64,go_sem,c0,c1,c2]) rfl ⟨rfl,?_⟩
 exact ((hb1.setCell (p:=⟨w.heap.size,0,none⟩) (Y0e _) _).setCell (p:=⟨w.heap.size,1,none⟩) (Y0e _) _).setCell (p:=⟨w.heap.size,2,none⟩) (Y0e _) _
end Go.Proofs.YtbkfnmgkcgnifaaGreat
namespace Go.Proofs.YtbkfnmgkcgnifaaGreat
open Go.RowKit Go.Shelf W1 Mdl
abbrev kI:Kd Int:=Kd.int .i64
def kT:Kd Tm:=Kd.pair kI (Kd.pair kI kI)
def kM:Kd Mk:=Kd.pair kI kT
theorem kT_K {w:World} {t:Tm} {cs:List Value} : kT.K w t cs↔cs=[.int .i64 t.1,.int .i64 t.2.1,.int .i64 t.2.2]:=by
 constructor
 ·rintro ⟨c0,c1,rfl,h0,c2,c3,rfl,h2,h3⟩
  cases h0;cases h2;cases h3;rfl
 rintro rfl
 exact ⟨[_],[_,_],rfl,rfl,[_],[_],rfl,rfl,rfl⟩
theorem kM_K {w:World} {t:Mk} {cs:List Value} : kM.K w t cs↔cs=[.int .i64 t.1,.int .i64 t.2.1,.int .i64 t.2.2.1,.int .i64 t.2.2.2]:=by
 constructor
 ·rintro ⟨c0,c1,rfl,h0,h1⟩
  cases h0;rw [kT_K.1 h1];rfl
 rintro rfl
 exact ⟨[_],[_,_,_],rfl,rfl,kT_K.2 rfl⟩
theorem Jfa {w:World} {A:Option Addr} {l:List Tm} (h:kT.C w A l.length l) {k:Nat} (hk:k<l.length) :
  ∃ ad,A=some ad∧w.cell? (ad.add (k*3))=some (.int .i64 l[k].1)∧w.cell? ⟨(ad.add (k*3)).block,(ad.add (k*3)).off+1,none⟩=some (.int .i64 l[k].2.1)∧w.cell? ⟨(ad.add (k*3)).block,(ad.add (k*3)).off+2,none⟩=some (.int .i64 l[k].2.2):=by
 obtain ⟨ad,c,e,hl,hK,hc⟩:=Kd.C_get h (0,0,0) (k:Int) (by omega) (by omega)
 rw [Y06,Y01,Y05 hk] at hK
 rw [Y06] at hc
 rw [kT_K.1 hK] at hc
 refine ⟨ad,e,?_,?_,?_⟩
 ·have:=hc 0 _ rfl
  rwa [show kT.sz=3 from rfl,Nat.add_zero] at this
 ·have:=hc 1 _ rfl
  rwa [show kT.sz=3 from rfl,J1i _ _ _ (by omega)] at this
 have:=hc 2 _ rfl
 rwa [show kT.sz=3 from rfl,J1i _ _ _ (by omega)] at this
theorem Jjx {w:World} {A:Option Addr} {l:List Int} (h:kI.C w A l.length l) {k:Nat} (hk:k<l.length):∃ ad,A=some ad∧w.cell? (ad.add k)=some (.int .i64 l[k]):=by
 obtain ⟨ad,e,hc⟩:=Kd.at_int h (k:Int) (by omega) (by omega)
 refine ⟨ad,e,?_⟩
 rw [Y06] at hc
 simpa [rd,Y01,hk] using hc
def Jcv {α:Type} (g:Nat) (lb:Array Value) (enc:α→Value) (p:α→Bool) (w:World):Prop :=
 ∀ x w',Below w.heap.size w w'→Calls Tryz.prog g (#[enc x]++lb) w' fun e w''=>e=.returned (.bool (p x))∧Below w'.heap.size w' w''
theorem Jk0 {α:Type} {p:α→Bool} {l:List α} {k:Nat} (h:∀ x ∈ l.take k,p x=false) (hk:k<l.length) (hp:p l[k]=false):∀ x ∈ l.take (k+1),p x=false:=by
 intro x hx
 rw [Y0u hk] at hx
 rcases Y0m.1 hx with hx | hx
 ·exact h x hx
 rw [Y11.1 hx];exact hp
theorem Jhc {α:Type} {p:α→Bool} {l:List α} {k:Nat} (hk:k<l.length) (hp:p l[k]=true):decide (0≤(k:Int))=l.any p:=by
 rw [Y0r (by omega)]
 exact (List.any_eq_true.2 ⟨_,Y0l hk,hp⟩).symm
theorem Jjy {α:Type} {p:α→Bool} {l:List α} (h:∀ x ∈ l.take l.length,p x=false):decide (0≤(-1:Int))=l.any p:=by
 rw [List.take_length] at h
 rw [Y0s (by omega)]
 exact (List.any_eq_false.2 (fun x hx=>by rw [h x hx];simp)).symm
def Jry (b:Bool) (w:World) (e:Ending) (w':World):Prop:=∃ r:Int,e=.returned (.int .i64 r)∧decide (0≤r)=b∧Below w.heap.size w w'
theorem Jl3 (A:Option Addr) (c:Nat) (l:List Int) (g:Nat) (lb:Array Value) (p:Int→Bool) (w:World) (hl:kI.C w A l.length l)
  (hp:Jcv g lb (Value.int .i64) p w) (he:∀ args w,(callFunc g args).run Tryz.prog w=.ok (.enter g args) w) :
  Calls Tryz.prog 106 #[.slice A l.length c,.func (.func g) #[] lb] w (Jry (l.any p) w):=by
 have HL:=Y00 hl
 have hm:=Kd.C_max hl
 have HP:=Y08 hp
 clear hl hp
 go_enter Tryz.func106,Tryz.ntmps106
 go_wp2
 go_loopw [8] (fun i wr=>∃ k:Nat,k≤l.length∧i=.int .i64 k∧J08 (∀ x ∈ l.take k,p x=false)∧Below w.heap.size w wr) (fun i _=>l.length - (intOf i).toNat)
 case atStart=>exact ⟨0,Nat.zero_le _,rfl,⟨by simp⟩,Y0f _ _⟩
 obtain ⟨k,hk,rfl,hall,hb⟩:=hrel
 by_cases hlt:k<l.length
 rotate_left
 ·go_wp2
  go_ret
  exact ⟨-1,rfl,Jjy (by have:k=l.length:=(by omega);subst this;exact hall.out),hb⟩
 obtain ⟨ad,rfl,hc⟩:=Jjx (Kd.c00 HL.out hb) hlt
 have hcall:=HP.out l[k] wr hb
 cases hpk:p l[k]
 ·rw [hpk] at hcall
  have hpk:=Y08 hpk
  have HC:=Y08 hcall
  clear hcall
  go_wp2_with fail
  refine HC.out.mono ?_
  rintro e w1 ⟨rfl,hb1⟩
  go_wp2_with fail
  go_roundw
  case rel=>exact ⟨k+1,by omega,by go_num,⟨Jk0 hall.out hlt hpk.out⟩,J01 hb hb.size hb1⟩
  simp [intOf];omega
 rw [hpk] at hcall
 have hpk:=Y08 hpk
 have HC:=Y08 hcall
 clear hcall
 go_wp2_with fail
 refine HC.out.mono ?_
 rintro e w1 ⟨rfl,hb1⟩
 go_wp2_with fail
 go_ret
 exact ⟨k,rfl,Jhc hlt hpk.out,J01 hb hb.size hb1⟩
theorem Jf4 (A:Option Addr) (c:Nat) (l:List Int) (g:Nat) (lb:Array Value) (p:Int→Bool) (w:World) (hl:kI.C w A l.length l)
  (hp:Jcv g lb (Value.int .i64) p w) (he:∀ args w,(callFunc g args).run Tryz.prog w=.ok (.enter g args) w) :
  Calls Tryz.prog 82 #[.slice A l.length c,.func (.func g) #[] lb] w fun e w'=>e=.returned (.bool (l.any p))∧Below w.heap.size w w':=by
 have H:=Y08 (Jl3 A c l g lb p w hl hp he)
 clear hl hp
 go_enter Tryz.func82,Tryz.ntmps82
 go_wp2_with fail
 refine H.out.mono ?_
 rintro e w1 ⟨r,rfl,hr,hb⟩
 go_wp2_with fail
 go_ret
 exact ⟨rfl,hb⟩
def outB (high:Int) (n:Int):Bool:=decide (n<0) || decide (high<n)
theorem Jok {high n:Int} (h:n<0):outB high n=true:=by simp [outB,h]
theorem Jmq {high n:Int} (h:high<n):outB high n=true:=by simp [outB,h]
theorem Jq4 {high n:Int} (h0:0≤n) (h1:n≤high):outB high n=false:=by
 unfold outB;rw [Y0s (by omega),Y0s (by omega)];rfl
theorem Jhi (n high:Int) (a:Addr) (w:World) (hc:w.cell? a=some (.int .i64 high)) :
  Calls Tryz.prog 83 #[.int .i64 n,.pointer (some a)] w fun e w'=>e=.returned (.bool (outB high n))∧Below w.heap.size w w':=by
 by_cases h0:n<0
 ·go_enter Tryz.func83,Tryz.ntmps83
  go_wp2
  go_ret
  exact ⟨J62 (Jok h0).symm,Y0f _ _⟩
 have h0':0≤n:=by omega
 have h0f:decide (n<0)=false:=by simp;omega
 clear h0
 by_cases h1:high<n
 ·go_enter Tryz.func83,Tryz.ntmps83
  go_wp2
  go_ret
  exact ⟨J62 (Jmq h1).symm,Y0f _ _⟩
 have h1':n≤high:=by omega
 have h1f:decide (high<n)=false:=by simp;omega
 clear h1
 go_enter Tryz.func83,Tryz.ntmps83
 go_wp2
 go_ret
 exact ⟨J62 (Jq4 h0' h1').symm,Y0f _ _⟩
theorem J0a (w:World) (cs:Array Value) (t:TypeId) (i:Nat):(w.alloc (.cells cs t)).cell? ⟨w.heap.size,i,none⟩=cs[i]?:=cell_of_row _ _ i cs t (0,0) (Y0c w _)
theorem J02 (w:World) (o:Obj):Below w.heap.size w (w.alloc o):=(Y0f _ _).alloc (Y0e _) _
def J42 (high:Int) (l:List Int):Bool:=!(l.any (outB high))
theorem J9d (A:Option Addr) (c:Nat) (l:List Int) (high:Int) (w:World) (hl:kI.C w A l.length l) :
  Calls Tryz.prog 63 #[.slice A l.length c,.int .i64 high] w fun e w'=>e=.returned (.bool (J42 high l))∧Below w.heap.size w w':=by
 have hmf:=hmf0
 have hb0:=J02 w (.cells #[.int .i64 high] 3)
 have HP:Hid (Jcv 83 #[.pointer (some ⟨w.heap.size,0,none⟩)] (Value.int .i64) (outB high) (w.alloc (.cells #[.int .i64 high] 3))):=Y08 (fun x w' hb =>
  Jhi x high _ w' (J00 hb (J0a w #[.int .i64 high] 3 0)))
 have H:=Y08 (Jf4 A c l 83 #[.pointer (some ⟨w.heap.size,0,none⟩)] (outB high) (w.alloc (.cells #[.int .i64 high] 3)) (Kd.c00 hl hb0) HP.out (enters_of Tryz.func83 (by kernel_rfl) rfl))
 clear hl HP
 go_enter Tryz.func63,Tryz.ntmps63
 go_wp2_with fail
 refine H.out.mono ?_
 rintro e w1 ⟨rfl,hb⟩
 go_wp2_with fail
 go_ret
 exact ⟨rfl,J01 hb0 hb0.size hb⟩
theorem Jn5 (x:Int) (w:World):Calls Tryz.prog 124 #[.int .i64 x] w fun e w'=>e=.returned (.bool false)∧w=w':=by
 go_enter Tryz.func124,Tryz.ntmps124
 go_wp2
 go_ret
 exact ⟨rfl,rfl⟩
theorem Jqr {x y:Int} (h:x<y):cmp3 x y=-1:=by simp [cmp3,h]
theorem Jqs {x y:Int} (h:y<x):cmp3 x y=1:=by unfold cmp3;rw [if_neg (by omega),if_pos h]
theorem Jqt {x y:Int} (h:y≤x) (h':x≤y):cmp3 x y=0:=by unfold cmp3;rw [if_neg (by omega),if_neg (by omega)]
theorem Jf6 (x y:Int) (w:World):Calls Tryz.prog 119 #[.int .i64 x,.int .i64 y] w fun e w'=>e=.returned (.int .i64 (cmp3 x y))∧w=w':=by
 go_enter Tryz.func119,Tryz.ntmps119
 go_wp2_with (first | (go_at_call 124;refine (Jn5 _ _).mono ?_;rintro e w' ⟨rfl,rfl⟩))
 ·go_ret
  exact ⟨J2k (Jqr (by assumption)).symm,rfl⟩
 ·go_ret
  exact ⟨J2k (Jqs (by assumption)).symm,rfl⟩
 go_ret
 exact ⟨J2k (Jqt (by assumption) (by assumption)).symm,rfl⟩
theorem Jrl {a b c x y z:Int} (h:(cmp3 a x != 0)=true):cmpT (a,b,c) (x,y,z)=cmp3 a x:=by
 have h:cmp3 a x≠0:=by simpa using h
 simp [cmpT,h]
theorem Jrk {a b c x y z:Int} (h:(cmp3 a x != 0)=false) (h1:(cmp3 b y != 0)=true):cmpT (a,b,c) (x,y,z)=cmp3 b y:=by
 have h:cmp3 a x=0:=by simpa using h
 have h1:cmp3 b y≠0:=by simpa using h1
 simp [cmpT,h,h1]
theorem Jpp {a b c x y z:Int} (h:(cmp3 a x != 0)=false) (h1:(cmp3 b y != 0)=false):cmpT (a,b,c) (x,y,z)=cmp3 c z:=by
 have h:cmp3 a x=0:=by simpa using h
 have h1:cmp3 b y=0:=by simpa using h1
 simp [cmpT,h,h1]
theorem Jrj {a b c x y z:Int} (h:(cmp3 a x != 0)=false) (h1:(cmp3 b y != 0)=false) (h2:(cmp3 c z != 0)=false):cmpT (a,b,c) (x,y,z)=0:=by
 rw [Jpp h h1];simpa using h2
theorem Jf5 (b1 b2:Nat) (t u:Tm) (w:World)
  (x0:w.cell? ⟨b1,0,none⟩=some (.int .i64 t.1)) (x1:w.cell? ⟨b1,1,none⟩=some (.int .i64 t.2.1)) (x2:w.cell? ⟨b1,2,none⟩=some (.int .i64 t.2.2))
  (y0:w.cell? ⟨b2,0,none⟩=some (.int .i64 u.1)) (y1:w.cell? ⟨b2,1,none⟩=some (.int .i64 u.2.1)) (y2:w.cell? ⟨b2,2,none⟩=some (.int .i64 u.2.2)) :
  Calls Tryz.prog 116 #[.slice (some ⟨b1,0,none⟩) 3 3,.slice (some ⟨b2,0,none⟩) 3 3] w fun e w'=>e=.returned (.int .i64 (cmpT t u))∧w=w':=by
 obtain ⟨a,b,c⟩:=t
 obtain ⟨x,y,z⟩:=u
 dsimp only at x0 x1 x2 y0 y1 y2
 go_enter Tryz.func116,Tryz.ntmps116
 go_wp2
 refine wp_loop_rounds 4 ?_
 rw [rounds_succ]
 go_wp2_with (first | (go_at_call 119;refine (Jf6 _ _ _).mono ?_;rintro e w' ⟨rfl,rfl⟩))
 ·go_ret
  exact ⟨J2k (Jrl (by assumption)).symm,rfl⟩
 rw [rounds_succ]
 go_wp2_with (first | (go_at_call 119;refine (Jf6 _ _ _).mono ?_;rintro e w' ⟨rfl,rfl⟩))
 ·go_ret
  exact ⟨J2k (Jrk (by assumption) (by assumption)).symm,rfl⟩
 rw [rounds_succ]
 go_wp2_with (first | (go_at_call 119;refine (Jf6 _ _ _).mono ?_;rintro e w' ⟨rfl,rfl⟩))
 ·go_ret
  exact ⟨J2k (Jpp (by assumption) (by assumption)).symm,rfl⟩
 rw [rounds_succ]
 go_wp2
 go_ret
 exact ⟨J2k (Jrj (by assumption) (by assumption) (by assumption)).symm,rfl⟩
theorem J4q (t u:Tm) (w:World):Calls Tryz.prog 115 #[tmV t,tmV u] w fun e w'=>e=.returned (.int .i64 (cmpT t u))∧Below w.heap.size w w':=by
 simp only [tmV]
 go_enter Tryz.func115,Tryz.ntmps115
 go_wp2
 go_quiet ((go_at_call 116;exact Calls.quiet_of_same ((Jf5 _ _ t u _ (by go_simp) (by go_simp) (by go_simp) (by go_simp) (by go_simp) (by go_simp)).mono (by rintro e w' ⟨rfl,rfl⟩;exact ⟨rfl,rfl⟩))))
 go_wp2
 go_ret
 exact ⟨rfl,Jd0 J15 _⟩
theorem Je1 (w:World):Calls Tryz.prog 100 #[] w fun e w'=>e=.returned (.agg #[.func (.func 115) #[] #[]])∧Below w.heap.size w w':=by
 go_enter Tryz.func100,Tryz.ntmps100
 go_wp2
 exact bodyPost_ret (v:=.agg #[.func (.func 115) #[] #[]]) (by simp [results,Tryz.results100,go_sem]) rfl ⟨rfl,J02 _ _⟩
theorem Jln (w:World):Calls Tryz.prog 78 #[] w fun e w'=>e=.returned (.agg #[.func (.func 103) #[] #[]])∧Below w.heap.size w w':=by
 go_enter Tryz.func78,Tryz.ntmps78
 go_wp2
 exact bodyPost_ret (v:=.agg #[.func (.func 103) #[] #[]]) (by simp [results,Tryz.results78,go_sem]) rfl ⟨rfl,J02 _ _⟩
theorem Jqp {m n:Mk} (h:(m.1 != n.1)=true):cmpM m n=w64 (m.1 - n.1):=by
 have h:m.1≠n.1:=by simpa using h
 simp [cmpM,h]
theorem Jqq {m n:Mk} (h:(m.1 != n.1)=false):cmpM m n=cmpT m.2 n.2:=by
 have h:m.1=n.1:=by simpa using h
 simp [cmpM,h]
theorem Jig (m n:Mk) (w:World):Calls Tryz.prog 103 #[mkV m,mkV n] w fun e w'=>e=.returned (.int .i64 (cmpM m n))∧Below w.heap.size w w':=by
 obtain ⟨m0,t⟩:=m
 obtain ⟨n0,u⟩:=n
 simp only [mkV]
 cases hmn:(m0 != n0)
 ·have HM:=Y08 hmn
  have hf:∀ w,(Instr.field 173 (.agg #[.func (.func 115) #[] #[]]) 0).run Tryz.prog w=.ok (.func (.func 115) #[] #[]) w:=fun _=>by kernel_rfl
  go_enter Tryz.func103,Tryz.ntmps103
  go_wp2
  go_region_held3 (fun w'=>w'.cell? ⟨w.heap.size,1,none⟩=some (.int .i64 t.1)∧w'.cell? ⟨w.heap.size,2,none⟩=some (.int .i64 t.2.1)∧w'.cell? ⟨w.heap.size,3,none⟩=some (.int .i64 t.2.2)
    ∧ w'.cell? ⟨w.heap.size+1,1,none⟩=some (.int .i64 u.1)∧w'.cell? ⟨w.heap.size+1,2,none⟩=some (.int .i64 u.2.1)∧w'.cell? ⟨w.heap.size+1,3,none⟩=some (.int .i64 u.2.2)) (first | go_keep | (go_split_ands;refine ⟨?_,?_,?_,?_,?_,?_⟩<;>(first | (refine J00 hb2 ?_;assumption) | (refine J00 hb1 ?_;assumption))))
   (first | (go_at_call 100;refine (Je1 _).mono ?_;rintro e w1 ⟨rfl,hb1⟩) | (go_at_call 115;refine (J4q t u _).mono ?_;rintro e w2 ⟨rfl,hb2⟩))
  go_wp2
  go_ret
  have h1:=J01 (J5s J15) (J5s J15).size hb1
  exact ⟨J2k (Jqq (m:=(m0,t)) (n:=(n0,u)) HM.out).symm,J01 h1 h1.size hb2⟩
 have HM:=Y08 hmn
 go_enter Tryz.func103,Tryz.ntmps103
 go_wp2
 go_ret
 exact ⟨J2k (by rw [Jqp HM.out,J2u]),J15⟩
theorem Jl2 (A:Option Addr) (c:Nat) (l:List Tm) (g:Nat) (lb:Array Value) (p:Tm→Bool) (w:World) (hl:kT.C w A l.length l)
  (hp:Jcv g lb tmV p w) (he:∀ args w,(callFunc g args).run Tryz.prog w=.ok (.enter g args) w) :
  Calls Tryz.prog 107 #[.slice A l.length c,.func (.func g) #[] lb] w (Jry (l.any p) w):=by
 have HL:=Y00 hl
 have hm:=Kd.C_max hl
 have HP:=Y08 hp
 clear hl hp
 go_enter Tryz.func107,Tryz.ntmps107
 go_wp2
 go_loopw [8] (fun i wr=>∃ k:Nat,k≤l.length∧i=.int .i64 k∧J08 (∀ x ∈ l.take k,p x=false)∧Below w.heap.size w wr) (fun i _=>l.length - (intOf i).toNat)
 case atStart=>exact ⟨0,Nat.zero_le _,rfl,⟨by simp⟩,Y0f _ _⟩
 obtain ⟨k,hk,rfl,hall,hb⟩:=hrel
 by_cases hlt:k<l.length
 rotate_left
 ·go_wp2
  go_ret
  exact ⟨-1,rfl,Jjy (by have:k=l.length:=(by omega);subst this;exact hall.out),hb⟩
 obtain ⟨ad,rfl,hc0,hc1,hc2⟩:=Jfa (Kd.c00 HL.out hb) hlt
 have hcall:=HP.out l[k] wr hb
 simp only [tmV] at hcall
 cases hpk:p l[k]
 ·rw [hpk] at hcall
  have HK:=Y08 hpk
  have HC:=Y08 hcall
  clear hcall hpk
  go_wp2_with fail
  refine HC.out.mono ?_
  rintro e w1 ⟨rfl,hb1⟩
  go_wp2_with fail
  go_roundw
  case rel=>exact ⟨k+1,by omega,by go_num,⟨Jk0 hall.out hlt HK.out⟩,J01 hb hb.size hb1⟩
  simp [intOf];omega
 rw [hpk] at hcall
 have HK:=Y08 hpk
 have HC:=Y08 hcall
 clear hcall hpk
 go_wp2_with fail
 refine HC.out.mono ?_
 rintro e w1 ⟨rfl,hb1⟩
 go_wp2_with fail
 go_ret
 exact ⟨k,rfl,Jhc hlt HK.out,J01 hb hb.size hb1⟩
theorem J96 (A:Option Addr) (c:Nat) (l:List Tm) (g:Nat) (lb:Array Value) (p:Tm→Bool) (w:World) (hl:kT.C w A l.length l)
  (hp:Jcv g lb tmV p w) (he:∀ args w,(callFunc g args).run Tryz.prog w=.ok (.enter g args) w) :
  Calls Tryz.prog 84 #[.slice A l.length c,.func (.func g) #[] lb] w fun e w'=>e=.returned (.bool (l.any p))∧Below w.heap.size w w':=by
 have H:=Y08 (Jl2 A c l g lb p w hl hp he)
 clear hl hp
 go_enter Tryz.func84,Tryz.ntmps84
 go_wp2_with fail
 refine H.out.mono ?_
 rintro e w1 ⟨r,rfl,hr,hb⟩
 go_wp2_with fail
 go_ret
 exact ⟨rfl,hb⟩
theorem Ji7 (o t:Tm) (a:Nat) (w:World) (c0:w.cell? ⟨a,0,none⟩=some (.int .i64 t.1)) (c1:w.cell? ⟨a,1,none⟩=some (.int .i64 t.2.1)) (c2:w.cell? ⟨a,2,none⟩=some (.int .i64 t.2.2)) :
  Calls Tryz.prog 101 #[tmV o,.pointer (some ⟨a,0,none⟩)] w fun e w'=>e=.returned (.bool (leT o t))∧Below w.heap.size w w':=by
 have H:=fun w=>Y08 (Jgy o t w)
 simp only [tmV] at H ⊢
 have d0:=fun o=>J00 (J02 w o) c0
 have d1:=fun o=>J00 (J02 w o) c1
 have d2:=fun o=>J00 (J02 w o) c2
 go_enter Tryz.func101,Tryz.ntmps101
 go_wp2_with fail
 refine (H _).out.mono ?_
 rintro e w1 ⟨rfl,hb⟩
 go_wp2_with fail
 go_ret
 exact ⟨rfl,J01 (J02 _ _) (J02 _ _).size hb⟩
theorem Tryz.infoTime:(Tryz.prog.info? 99).map (fun i=>(i.zero,i.size,i.bytes))=some (some (.agg #[.int .i64 0,.int .i64 0,.int .i64 0]),3,24):=by kernel_rfl
theorem kT_M {w:World} {base:Nat} {ok:Nat→Prop} (t:Tm):kT.M w base ok t [.int .i64 t.1,.int .i64 t.2.1,.int .i64 t.2.2]:=⟨[_],[_,_],rfl,rfl,[_],[_],rfl,rfl,rfl⟩
theorem J0b {w w1:World} {row:Option Nat} (h:Below w.heap.size w w1):w.grownBy w1 row:=⟨h.os,h.tape,h.output,h.size,fun k hk _=>h.block k hk⟩
theorem _root_.Go.World.grownBy.both {a b c:World} {row:Option Nat} (h:a.grownBy b row) (k:b.grownBy c row):a.grownBy c row :=
 ⟨k.os.trans h.os,k.tape.trans h.tape,k.output.trans h.output,Nat.le_trans h.size k.size,fun i hi hn=>(k.block i (Nat.lt_of_lt_of_le hi h.size) hn).trans (h.block i hi hn)⟩
end Go.Proofs.YtbkfnmgkcgnifaaGreat
namespace Go.Proofs.YtbkfnmgkcgnifaaGreat.W1
open Go.RowKit
section
variable {P:Program} {d:Nat} {xs ys:Array Value} {f:Field} {fs:List Field} {a b:Value} {r s:Bool} {w:World}
theorem Jjr (hn:(f.name == "_")=false) (ha:(part f.type xs f.offset).run P w=.ok a w) (hb:(part f.type ys f.offset).run P w=.ok b w) (he:(Op.equalIn d f.type a b).run P w=.ok r w):(Op.eqFields d xs ys [f]).run P w=.ok r w:=by
 have hn':f.name ≠ "_" := by simpa using hn
 simp only [Op.eqFields,if_pos hn',Sem.run_bind,ha,hb,he,Result.andThen_ok]
 cases r<;>simp
theorem Jf0 (hn:(f.name == "_")=false) (ha:(part f.type xs f.offset).run P w=.ok a w) (hb:(part f.type ys f.offset).run P w=.ok b w) (he:(Op.equalIn d f.type a b).run P w=.ok r w) (hr:(Op.eqFields d xs ys fs).run P w=.ok s w):(Op.eqFields d xs ys (f::fs)).run P w=.ok (r&&s) w:=by
 have hn':f.name ≠ "_" := by simpa using hn
 rw [Op.eqFields]
 simp only [if_pos hn',Sem.run_bind,ha,hb,he,Result.andThen_ok]
 cases r
 ·simp
 simpa using hr
theorem Jpo {t:TypeId} {fs:Array Field} (hu:P.underlying t=some (.struct fs)) (hp:P.stoodInHeld t=false) (h:(Op.eqFields d xs ys fs.toList).run P w=.ok r w):(Op.equalIn (d+1) t (.agg xs) (.agg ys)).run P w=.ok r w:=by
 have hf:P.fieldsOf t=fs:=by simp [Program.fieldsOf,hu]
 rw [run_equalIn_struct (P:=P) w d t xs ys (by rw [hf];exact hu) hp,hf]
 exact h
end
end Go.Proofs.YtbkfnmgkcgnifaaGreat.W1
namespace Go.Proofs.YtbkfnmgkcgnifaaGreat
open Go.RowKit Go.Shelf W1 Mdl
theorem Jgt (d:Nat) (a b:Int) (w:World):(Op.equalIn (d+1) 3 (.int .i64 a) (.int .i64 b)).run Tryz.prog w=.ok (a == b) w:=by
 rw [Op.equalIn]
 simp [go_sem,underlying,Tryz.underlying3]
theorem Ji8 (d:Nat) (t u:Tm) (w:World):(Op.equalIn (d+2) 99 (tmV t) (tmV u)).run Tryz.prog w=.ok (t == u) w:=by
 obtain ⟨a,b,c⟩:=t
 obtain ⟨x,y,z⟩:=u
 have hs:∀ w,(sizeOf 3).run Tryz.prog w=.ok 1 w:=fun _=>by kernel_rfl
 simp only [tmV]
 rw [Op.equalIn]
 have hu:∀ w,(underlying 99).run Tryz.prog w=.ok (.array 3 3) w:=fun _=>by kernel_rfl
 simp only [Sem.run_bind,hu,Result.andThen_ok,hs]
 simp [go_sem,Std.Legacy.Range.forIn_eq_forIn_range',List.range',Jgt]
 by_cases h0:a=x<;>by_cases h1:b=y<;>by_cases h2:c=z<;>simp [h0,h1,h2]
theorem Jqh (d:Nat) (t u:Mk) (w:World):(Op.equalIn (d+3) 101 (mkV t) (mkV u)).run Tryz.prog w=.ok (t == u) w:=by
 obtain ⟨n,a,b,c⟩:=t
 obtain ⟨m,x,y,z⟩:=u
 have h:(Op.equalIn (d+3) 101 (.agg #[.int .i64 n,.int .i64 a,.int .i64 b,.int .i64 c]) (.agg #[.int .i64 m,.int .i64 x,.int .i64 y,.int .i64 z])).run Tryz.prog w=.ok ((n == m)&&((a,b,c) == (x,y,z))) w:=by
  refine Jpo Tryz.underlying101 (by kernel_rfl) ?_
  refine Jf0 (a:=.int .i64 n) (b:=.int .i64 m) (by rfl) (by kernel_rfl) (by kernel_rfl) (Jgt _ _ _ _) ?_
  exact Jjr (a:=tmV (a,b,c)) (b:=tmV (x,y,z)) (by rfl) (by kernel_rfl) (by kernel_rfl) (Ji8 _ _ _ _)
 exact h
theorem Jht (t u:Tm) (w:World):(binOp .eql 99 (tmV t) (tmV u)).run Tryz.prog w=.ok (.bool (t == u)) w:=by
 have h:=run_eql_struct (P:=Tryz.prog) (w:=w) 99 #[.int .i64 t.1,.int .i64 t.2.1,.int .i64 t.2.2] #[.int .i64 u.1,.int .i64 u.2.1,.int .i64 u.2.2]
 have e:=Ji8 9998 t u w
 simp only [tmV] at e ⊢
 rw [h,e];rfl
theorem Jbi (t u:Tm) (w:World):(binOp .neq 99 (tmV t) (tmV u)).run Tryz.prog w=.ok (.bool (!(t == u))) w:=by
 have h:=run_neq_struct (P:=Tryz.prog) (w:=w) 99 #[.int .i64 t.1,.int .i64 t.2.1,.int .i64 t.2.2] #[.int .i64 u.1,.int .i64 u.2.1,.int .i64 u.2.2]
 have e:=Ji8 9998 t u w
 simp only [tmV] at e ⊢
 rw [h,e];rfl
end Go.Proofs.YtbkfnmgkcgnifaaGreat
namespace Go.Proofs.YtbkfnmgkcgnifaaGreat.W1
open Go.RowKit
namespace Kd
def tag {α:Type} (f:Nat→Nat) (d:Kd α):Kd (α × Nat) where
 sz:=d.sz
 E:=d.E
 K:=fun w x cs=>d.K w x.1 cs
 M:=fun w base ok x cs=>d.M w base (fun k=>ok k∧f k=x.2) x.1 cs
 K_len:=fun h=>d.K_len h
 K_one:=fun h=>d.K_one h
 K_below:=fun hb h=>d.K_below hb h
 K_of_M:=fun h=>d.K_of_M h
 M_mono:=fun hok h=>d.M_mono (fun k hk=>⟨hok k hk.1,hk.2⟩) h
 M_bound:=fun h=>d.M_mono (fun _ hk=>⟨⟨hk.1.1,hk.2⟩,hk.1.2⟩) (d.M_bound h)
 M_move:=fun hm h=>d.M_move (fun k hk=>hm k hk.1) h
 M_lower:=fun hb h=>d.M_lower hb h
def bare {α:Type} (d:Kd α):Kd α where
 sz:=d.sz
 E:=d.E
 K:=d.K
 M:=fun w base _ x cs=>d.M w base (fun _=>False) x cs
 K_len:=fun h=>d.K_len h
 K_one:=fun h=>d.K_one h
 K_below:=fun hb h=>d.K_below hb h
 K_of_M:=fun h=>d.K_of_M h
 M_mono:=fun _ h=>h
 M_bound:=fun h=>h
 M_move:=fun _ h=>d.M_move (fun _ hk=>hk.elim) h
 M_lower:=fun hb h=>d.M_lower hb h
def raw (sz:Nat):Kd (List Value) where
 sz:=sz
 E:=[]
 K:=fun _ x cs=>cs=x∧cs.length=sz∧∀ u ∈ cs,u.oneCell'=true
 M:=fun _ _ _ x cs=>cs=x∧cs.length=sz∧∀ u ∈ cs,u.oneCell'=true
 K_len:=fun h=>h.2.1
 K_one:=fun h=>h.2.2
 K_below:=fun _ h=>h
 K_of_M:=fun h=>h
 M_mono:=fun _ h=>h
 M_bound:=fun h=>h
 M_move:=fun _ h=>h
 M_lower:=fun _ h=>h
def S {α:Type} (d:Kd α) (e:Nat) (w:World) (base:Nat) (ok:Nat→Prop) (v:Value) (xs:List α):Prop:=∃ f,(tag f d).R e w base ok v xs.zipIdx
section
variable {α β:Type} {d:Kd α} {d':Kd β} {e e':Nat} {w w1 W:World} {base b:Nat} {ok ok' okv oku:Nat→Prop} {u v:Value} {xs:List α} {ys:List β}
theorem Ja2 {xs:List α} {j:Nat} {p:α} (h:xs[j]?=some p):xs.zipIdx[j]?=some (p,j):=by rw [List.getElem?_zipIdx,h,Nat.zero_add];rfl
theorem S_R (h:S d e w base ok v xs):d.R e w base ok v xs:=by
 obtain ⟨f,h0,inner,ho,hr⟩:=h
 rw [List.length_zipIdx] at ho
 exact ⟨h0,inner,ho,by have:=hr.1;rw [List.length_zipIdx] at this;exact this,fun j p hj=>d.M_mono (fun _ hk=>hk.1) (hr.2 j (p,j) (Ja2 hj))⟩
theorem Jqy (hE:d.E=[]) (h:d.R e w base ok v xs):d.R e w base (fun k=>some k=v.ownBlock) v xs:=by
 obtain ⟨h0,inner,ho,hr⟩:=h
 refine ⟨fun k hk=>hk.symm,inner,ho,hr.imp_ (fun p c hp=>d.M_mono (fun k hk=>?_) (d.M_bound hp))⟩
 obtain ⟨_,_,_,q,hq,_⟩:=hk
 rw [hE] at hq
 cases hq
theorem S_mono (h:S d e w base ok v xs) (hok:∀ k,ok k→ok' k):S d e w base ok' v xs:=by
 obtain ⟨f,h⟩:=h
 exact ⟨f,c06 h hok⟩
theorem S_bound (h:S d e w base ok v xs):S d e w base (fun k=>ok k∧base≤k∧k<w.heap.size∧∃ q,q ∈ e::d.E∧∃ cells,w.heap[k]?=some (.cells cells q (0,0))) v xs:=by
 obtain ⟨f,h⟩:=h
 exact ⟨f,c05 h⟩
theorem S_move (h:S d e w base ok v xs) (hm:∀ k,ok k→w1.heap[k]?=w.heap[k]?):S d e w1 base ok v xs:=by
 obtain ⟨f,h⟩:=h
 exact ⟨f,R_move h hm⟩
theorem Jnr (h:S d e w base ok v xs) (hm:∀ k,ok k→k<w.heap.size→w1.heap[k]?=w.heap[k]?):S d e w1 base ok v xs :=
 S_mono (S_move (S_bound h) (fun k hk=>hm k hk.1 hk.2.2.1)) (fun _ hk=>hk.1)
theorem S_below (h:S d e w base ok v xs) (hb:Below w.heap.size w w1):S d e w1 base ok v xs:=Jnr h (fun k _ hk=>hb.block k hk)
theorem S_drew (h:S d e w base ok v xs):S d e w.drew base ok v xs:=S_below h (J5s (Below.refl _ _))
theorem S_grown (h:S d e w base ok v xs) {row:Option Nat} (hg:w.grownBy w1 row) (hok:∀ k,ok k→some k≠row):S d e w1 base ok v xs:=Jnr h (fun k ho hk=>hg.block k hk (hok k ho))
theorem S_typed (h:S d e w base ok v xs):∀ k,v.ownBlock=some k→∃ cells,w.heap[k]?=some (.cells cells e (0,0)):=R_typed (S_R h)
theorem Jrt (h:(bare d).R e w base ok v xs):S d e w base ok v xs:=by
 obtain ⟨h0,inner,ho,hr⟩:=h
 refine ⟨fun _=>0,h0,inner,by rw [List.length_zipIdx];exact ho,by rw [List.length_zipIdx];exact hr.1,fun j p hj=>?_⟩
 rw [List.getElem?_zipIdx,Nat.zero_add] at hj
 obtain ⟨x,hx,rfl⟩:=Option.map_eq_some_iff.1 hj
 exact d.M_mono (fun _ hk=>hk.elim) (hr.2 j x hx)
end
section
variable {α β:Type} {d:Kd α} {d':Kd β} {e e' g:Nat} {w w1 W:World} {base b:Nat} {ok ok' okv oku:Nat→Prop} {u v:Value} {xs:List α} {ys:List β}
theorem S_form (h:S d e w base ok v xs) (hp:0<xs.length):∃ g cap,v=.slice (some ⟨g,0,none⟩) xs.length cap∧base≤g∧g<w.heap.size∧∃ cells,w.heap[g]?=some (.cells cells e (0,0)):=R_form (S_R h) hp
theorem S_elderB (h:S d e w base ok v xs) (a:Nat) (ha:w.heap.size≤a):S d e w base (fun k=>ok k∧k≠a) v xs:=S_mono (S_bound h) (fun k hk=>⟨hk.1,by have:=hk.2.2.1;omega⟩)
end
section
variable {P:Program} {ops:Array Oper} {rest:List Oper} {o:Oper} {a:Act} {Q:Exit→Act→World→Prop} {Kc:Act→World→Prop} {α:Type}
theorem S_make (d:Kd α) {w0 W:World} (base e:Nat) (hgd:o.guard=none) {N:Tmp} (hd:o.dst=some N) (t:TypeId) (x y:Operand) (ho:o.op=.makeSlice t x y) (n:Int) (hx:a.eval x=.int .i64 n) (hy:a.eval y=.int .i64 n)
  (ht:P.underlying t=some (.slice e)) (z:Value) (bytes:Nat) (hinfo:(P.info? e).map (fun i=>(i.zero,i.size,i.bytes))=some (some z,d.sz,bytes)) (hz:z.cells.size=d.sz) (hs0:0<d.sz) (hb0:0<bytes)
  (z0:α) {ok okp:Nat→Prop} (hzero:d.M W base (fun _=>False) z0 z.cells.toList) (_hok:∀ k,okp k→ok k) (hfresh:ok W.heap.size) (h0:0≤n) (hl:n.toNat*bytes≤281474976710656) (HB:Below base w0 W) (hbase:base≤W.heap.size)
  (h:∀ v1 w1,S d e w1 base ok v1 (List.replicate n.toNat z0)→Below base w0 w1→W.grownBy w1 none→(∃ b,v1.ownBlock=some b∧W.heap.size≤b)→wpList P ops Q rest (a.put o.dst v1) w1):wpList P ops Q (o::rest) a W :=
 R_make (bare d) base e hgd hd t x y ho n hx hy ht z bytes hinfo hz hs0 hb0 z0 (ok:=ok) (okp:=ok) hzero (fun _ hk=>hk) hfresh h0 hl HB hbase (fun v1 w1 hr=>h v1 w1 (Jrt hr))
end
def gap {α:Type} (f:Nat→Nat) (d:Kd α) (i:Nat) (c:List Value):Kd (α × Nat) where
 sz:=d.sz
 E:=d.E
 K:=fun w x cs=>(x.2=i→cs=c∧cs.length=d.sz∧∀ u ∈ cs,u.oneCell'=true)∧(x.2≠i→d.K w x.1 cs)
 M:=fun w base ok x cs=>(x.2=i→cs=c∧cs.length=d.sz∧∀ u ∈ cs,u.oneCell'=true)∧(x.2≠i→d.M w base (fun k=>ok k∧f k=x.2) x.1 cs)
 K_len:=fun {w x cs} h=>by
  by_cases hx:x.2=i
  ·exact (h.1 hx).2.1
  exact d.K_len (h.2 hx)
 K_one:=fun {w x cs} h=>by
  by_cases hx:x.2=i
  ·exact (h.1 hx).2.2
  exact d.K_one (h.2 hx)
 K_below:=fun hb h=>⟨h.1,fun hx=>d.K_below hb (h.2 hx)⟩
 K_of_M:=fun h=>⟨h.1,fun hx=>d.K_of_M (h.2 hx)⟩
 M_mono:=fun hok h=>⟨h.1,fun hx=>d.M_mono (fun k hk=>⟨hok k hk.1,hk.2⟩) (h.2 hx)⟩
 M_bound:=fun h=>⟨h.1,fun hx=>d.M_mono (fun _ hk=>⟨⟨hk.1.1,hk.2⟩,hk.1.2⟩) (d.M_bound (h.2 hx))⟩
 M_move:=fun hm h=>⟨h.1,fun hx=>d.M_move (fun k hk=>hm k hk.1) (h.2 hx)⟩
 M_lower:=fun hb h=>⟨h.1,fun hx=>d.M_lower hb (h.2 hx)⟩
def H {α:Type} (d:Kd α) (e:Nat) (w:World) (base:Nat) (ok:Nat→Prop) (v:Value) (xs:List α) (i:Int) (oki:Nat→Prop) (c:List Value):Prop :=
 (∀ k,oki k→ok k)∧∃ f,(gap f d i.toNat c).R e w base (fun k=>ok k∧¬ oki k) v xs.zipIdx
section
variable {α β:Type} {d:Kd α} {e e' g n cap:Nat} {w w1 W:World} {base:Nat} {ok ok' oki okp:Nat→Prop} {u v:Value} {xs:List α} {i:Int} {c:List Value}
theorem Jrs (h:S d e W base ok (.slice (some ⟨g,0,none⟩) n cap) xs) (z:α) (i:Int) (h0:0≤i) (h1:i<n) :
  ∃ (oki:Nat→Prop) (c:List Value),c.length=d.sz∧d.M W base oki (xs.getD i.toNat z) c∧(∀ j u,c[j]?=some u→W.cell? ⟨g,i.toNat*d.sz+j,none⟩=some u)∧(∀ k,oki k→ok k∧k≠g)∧H d e W base ok (.slice (some ⟨g,0,none⟩) n cap) xs i oki c:=by
 obtain ⟨f,hR⟩:=h
 have hn:=(c03 hR).1
 rw [List.length_zipIdx] at hn
 have hgo:some g=(Value.slice (some ⟨g,0,none⟩) n cap).ownBlock:=by simp [Value.ownBlock]
 obtain ⟨hok0,inner,ho,hr⟩:=hR
 have hil:i.toNat<xs.length:=by omega
 have hlen:inner.length=xs.length*d.sz:=by have:=hr.1;rw [List.length_zipIdx] at this;exact this
 have hseg:i.toNat*d.sz+d.sz≤inner.length:=by rw [hlen,← Nat.succ_mul];exact Nat.mul_le_mul_right _ hil
 have hM:=hr.2 i.toNat _ (Ja2 (List.getElem?_eq_getElem hil))
 have hkg:∀ k,some k≠(Value.slice (some ⟨g,0,none⟩) n cap).ownBlock→k≠g:=fun k hk he=>hk (by rw [he];exact hgo)
 refine ⟨fun k=>(ok k∧k≠g)∧f k=i.toNat,(inner.drop (i.toNat*d.sz)).take d.sz,by rw [List.length_take,List.length_drop];omega,?_,fun j u hu=>?_,fun k hk=>hk.1,fun k hk=>hk.1.1,f,fun k hk=>⟨hok0 k hk,fun h2=>h2.1.2 ?_⟩,inner,ho,hr.1,fun m p hm=>?_⟩
 ·rw [List.getD_eq_getElem?_getD,List.getElem?_eq_getElem hil]
  exact d.M_mono (fun k hk=>⟨⟨hk.1.1,hkg k hk.1.2⟩,hk.2⟩) hM
 ·rw [List.getElem?_take] at hu
  split at hu
  ·rw [List.getElem?_drop] at hu
   have:=ho.cells (g:=g) hgo.symm _ u hu
   rwa [J5t] at this
  cases hu
 ·rw [← hgo] at hk;injection hk with hk;exact hk.symm
 have hold:=hr.2 m p hm
 have hp2:p.2=m:=by
  rw [List.getElem?_zipIdx,Nat.zero_add] at hm
  obtain ⟨q,_,rfl⟩:=Option.map_eq_some_iff.1 hm
  rfl
 refine ⟨fun hx=>?_,fun hx=>d.M_mono (fun k hk=>⟨⟨⟨hk.1.1,fun h2=>hx ?_⟩,hk.1.2⟩,hk.2⟩) hold⟩
 ·have hmi:m=i.toNat:=by omega
  subst hmi
  exact ⟨rfl,d.K_len (d.K_of_M hM),d.K_one (d.K_of_M hM)⟩
 rw [← hk.2];exact h2.2
open Classical in
theorem Jrx (h:H d e w base ok v xs i oki c) {x':α} (hM:d.M w base okp x' c) (hok:∀ k,okp k→oki k):S d e w base ok v (xs.set i.toNat x'):=by
 obtain ⟨ho,f,h0,inner,hown,hr⟩:=h
 refine ⟨fun k=>if oki k then i.toNat else f k,fun k hk=>(h0 k hk).1,inner,by rw [List.length_zipIdx,List.length_set];rw [List.length_zipIdx] at hown;exact hown,by have:=hr.1;rw [List.length_zipIdx] at this;rw [List.length_zipIdx,List.length_set];exact this,fun m p hm=>?_⟩
 rw [List.getElem?_zipIdx,Nat.zero_add] at hm
 obtain ⟨q,hq,rfl⟩:=Option.map_eq_some_iff.1 hm
 have hml:m<xs.length:=by
  have:=(List.getElem?_eq_some_iff.1 hq).1
  rwa [List.length_set] at this
 by_cases hmi:m=i.toNat
 ·subst hmi
  rw [List.getElem?_set_self hml] at hq
  injection hq with hq
  subst hq
  have hc:=((hr.2 i.toNat _ (Ja2 (List.getElem?_eq_getElem hml))).1 rfl).1
  show d.M w base _ x' ((inner.drop (i.toNat*d.sz)).take d.sz)
  rw [show (inner.drop (i.toNat*d.sz)).take d.sz=c from hc]
  exact d.M_mono (fun k hk=>⟨⟨ho k (hok k hk),fun he=>(h0 k he.symm).2 (hok k hk)⟩,if_pos (hok k hk)⟩) hM
 rw [List.getElem?_set_ne (Ne.symm hmi)] at hq
 exact d.M_mono (fun k hk=>⟨⟨hk.1.1.1,hk.1.2⟩,(if_neg hk.1.1.2).trans hk.2⟩) ((hr.2 m (q,m) (Ja2 hq)).2 hmi)
theorem H_widen (h:H d e w base ok v xs i oki c):H d e w base ok v xs i (fun k=>oki k∨ok k∧w.heap.size≤k) c:=by
 obtain ⟨ho,f,h⟩:=h
 exact ⟨fun k hk=>hk.elim (ho k) (fun h2=>h2.1),f,c06 (c05 h) (fun k hk=>⟨hk.1.1,fun h2=>h2.elim hk.1.2 (fun h3=>by have:=hk.2.2.1;omega)⟩)⟩
theorem Jpw (h:H d e w base ok v xs i oki c) (hm:∀ k,ok k→¬ oki k→k<w.heap.size→w1.heap[k]?=w.heap[k]?):H d e w1 base ok v xs i oki c:=by
 obtain ⟨ho,f,h⟩:=h
 exact ⟨ho,f,Jhg h (fun k hk hlt=>hm k hk.1 hk.2 hlt)⟩
theorem H_grown (h:H d e w base ok v xs i oki c) {row:Option Nat} (hg:w.grownBy w1 row) (hrow:∀ k,row=some k→oki k):H d e w1 base ok v xs i oki c :=
 Jpw h (fun k _ hn hlt=>hg.block k hlt (fun he=>hn (hrow k he.symm)))
theorem H_below (h:H d e w base ok v xs i oki c) (hb:Below w.heap.size w w1):H d e w1 base ok v xs i oki c:=Jpw h (fun k _ _ hlt=>hb.block k hlt)
theorem H_drew (h:H d e w base ok v xs i oki c):H d e w.drew base ok v xs i oki c:=H_below h (J5s (Below.refl _ _))
theorem Jrw (h:H d e w base ok v xs i oki c) (hok:∀ k,ok k→ok' k):H d e w base ok' v xs i oki c:=by
 obtain ⟨ho,f,h⟩:=h
 exact ⟨fun k hk=>hok k (ho k hk),f,c06 h (fun k hk=>⟨hok k hk.1,hk.2⟩)⟩
theorem Jrv {okg:Nat→Prop} (h:H d e w base (fun k=>ok k∧¬ okg k) v xs i oki c) (hg:∀ k,okg k→ok k):H d e w base ok v xs i (fun k=>oki k∨okg k) c:=by
 obtain ⟨ho,f,h⟩:=h
 exact ⟨fun k hk=>hk.elim (fun h2=>(ho k h2).1) (hg k),f,c06 h (fun k hk=>⟨hk.1.1,fun h2=>h2.elim hk.2 hk.1.2⟩)⟩
theorem S_elem (h:S d e W base ok (.slice (some ⟨g,0,none⟩) n cap) xs) (z:α) (i:Int) (h0:0≤i) (h1:i<n) :
  ∃ (oki:Nat→Prop) (c:List Value),c.length=d.sz∧d.M W base oki (xs.getD i.toNat z) c∧(∀ j u,c[j]?=some u→W.cell? ⟨g,i.toNat*d.sz+j,none⟩=some u)∧(∀ j,W.frozen? ⟨g,i.toNat*d.sz+j,none⟩=false)∧(∀ k,oki k→ok k∧k≠g)∧H d e W base ok (.slice (some ⟨g,0,none⟩) n cap) xs i oki c:=by
 obtain ⟨_,_,_,_,hfr⟩:=R_elem (S_R h) z i h0 h1
 obtain ⟨oki,c,hcl,hM,hcc,hoki,hH⟩:=Jrs h z i h0 h1
 exact ⟨oki,c,hcl,hM,hcc,hfr,hoki,hH⟩
theorem Jru (h:H d e W base ok (.slice (some ⟨g,0,none⟩) n cap) xs i oki c) (h0:0≤i) (h1:i<n) :
  ∃ rows:List (List Value),rows.length=xs.length∧(raw d.sz).R e W base (fun _=>True) (.slice (some ⟨g,0,none⟩) n cap) rows∧c.length=d.sz∧(∀ u ∈ c,u.oneCell'=true)∧(∀ j u,c[j]?=some u→W.cell? ⟨g,i.toNat*d.sz+j,none⟩=some u) ∧
   ∀ w1 c',W.grownBy w1 (some g)→(raw d.sz).R e w1 base (fun _=>True) (.slice (some ⟨g,0,none⟩) n cap) (rows.set i.toNat c')→H d e w1 base ok (.slice (some ⟨g,0,none⟩) n cap) xs i oki c':=by
 obtain ⟨hoo,f,hR⟩:=h
 have hn:=(c03 hR).1
 rw [List.length_zipIdx] at hn
 have hgo:some g=(Value.slice (some ⟨g,0,none⟩) n cap).ownBlock:=by simp [Value.ownBlock]
 obtain ⟨hok0,inner,ho,hr⟩:=hR
 have hil:i.toNat<xs.length:=by omega
 have hlen:inner.length=xs.length*d.sz:=by have:=hr.1;rw [List.length_zipIdx] at this;exact this
 have hkg:∀ k,some k≠(Value.slice (some ⟨g,0,none⟩) n cap).ownBlock→k≠g:=fun k hk he=>hk (by rw [he];exact hgo)
 have hci:=(hr.2 i.toNat _ (Ja2 (List.getElem?_eq_getElem hil))).1 rfl
 rw [hci.1] at hci
 have hc:=((hr.2 i.toNat _ (Ja2 (List.getElem?_eq_getElem hil))).1 rfl).1
 refine ⟨(List.range xs.length).map fun j=>(inner.drop (j*d.sz)).take d.sz,by rw [List.length_map,List.length_range],⟨fun _ _=>trivial,inner,?_,?_,fun j p hj=>?_⟩,hci.2.1,hci.2.2,fun j u hu=>?_,fun w1 c' hg hraw=>?_⟩
 ·rw [List.length_map,List.length_range];rw [List.length_zipIdx] at ho;exact ho
 ·rw [List.length_map,List.length_range];exact hlen
 ·rw [List.getElem?_map] at hj
  obtain ⟨j',hj',rfl⟩:=Option.map_eq_some_iff.1 hj
  obtain ⟨hl,he⟩:=List.getElem?_eq_some_iff.1 hj'
  rw [List.getElem_range] at he
  subst he
  rw [List.length_range] at hl
  have hm:=(gap f d i.toNat c).K_of_M (hr.2 j _ (Ja2 (List.getElem?_eq_getElem hl)))
  exact ⟨rfl,(gap f d i.toNat c).K_len hm,(gap f d i.toNat c).K_one hm⟩
 ·rw [← hc,List.getElem?_take] at hu
  split at hu
  ·rw [List.getElem?_drop] at hu
   have:=ho.cells (g:=g) hgo.symm _ u hu
   rwa [J5t] at this
  cases hu
 obtain ⟨_,inner',ho',hr'⟩:=hraw
 have hl':inner'.length=xs.length*d.sz:=by have:=hr'.1;rw [List.length_set,List.length_map,List.length_range] at this;exact this
 rw [List.length_set,List.length_map,List.length_range] at ho'
 refine ⟨hoo,f,hok0,inner',by rw [List.length_zipIdx];exact ho',by rw [List.length_zipIdx];exact hl',fun m p hm=>?_⟩
 rw [List.getElem?_zipIdx,Nat.zero_add] at hm
 obtain ⟨q,hq,rfl⟩:=Option.map_eq_some_iff.1 hm
 have hml:m<xs.length:=(List.getElem?_eq_some_iff.1 hq).1
 have hold:=hr.2 m (q,m) (Ja2 hq)
 refine ⟨fun hx=>?_,fun hx=>?_⟩
 ·have hx':m=i.toNat:=hx
  subst hx'
  exact hr'.2 i.toNat c' (List.getElem?_set_self (by rw [List.length_map,List.length_range];exact hml))
 have hx':m≠i.toNat:=hx
 have hcm:=(hr'.2 m ((inner.drop (m*d.sz)).take d.sz) (by
  rw [List.getElem?_set_ne (Ne.symm hx'),List.getElem?_map,List.getElem?_eq_getElem (by rw [List.length_range];exact hml),List.getElem_range]
  rfl)).1
 show d.M w1 base _ q ((inner'.drop (m*d.sz)).take d.sz)
 rw [show (inner'.drop (m*d.sz)).take d.sz=_ from hcm]
 exact d.M_mono (fun k hk=>hk.1) (d.M_move (w1:=w1) (fun k hk=>hg.block k hk.2.2.1 (fun he=>hkg k hk.1.1.2 (by injection he))) (d.M_bound (hold.2 hx)))
theorem Jst (h:H d e W base ok (.slice (some ⟨g,0,none⟩) n cap) xs i oki c) (h0:0≤i) (h1:i<n) {seg:List Value} {j:Nat} (hj:j+seg.length≤d.sz) (hone:∀ q ∈ seg,q.oneCell'=true) :
  H d e (W.setCells g (i.toNat*d.sz+j) seg) base ok (.slice (some ⟨g,0,none⟩) n cap) xs i oki (c.take j++seg++c.drop (j+seg.length))∧W.grownBy (W.setCells g (i.toNat*d.sz+j) seg) (some g):=by
 obtain ⟨rows,_,hraw,hcl,hco,hcc,hback⟩:=Jru h h0 h1
 obtain ⟨h2,h3⟩:=R_seg hraw i h0 h1 (c:=c) (seg:=seg) (j:=j) (x':=c.take j++seg++c.drop (j+seg.length)) (okp:=fun _=>False) hcl hcc hj
  ⟨rfl,by
   show (c.take j++seg++c.drop (j+seg.length)).length=d.sz
   simp only [List.length_append,List.length_take,List.length_drop];omega,fun u hu=>by
   rcases List.mem_append.1 hu with hu | hu
   ·rcases List.mem_append.1 hu with hu | hu
    ·exact hco u (List.mem_of_mem_take hu)
    exact hone u hu
   exact hco u (List.mem_of_mem_drop hu)⟩ (fun _ hk=>hk.elim)
 exact ⟨hback _ _ h3 h2,h3⟩
theorem S_seg {okg:Nat→Prop} (hH:H d e W base (fun k=>ok k∧¬ okg k) (.slice (some ⟨g,0,none⟩) n cap) xs i oki c) (h0:0≤i) (h1:i<n) {seg:List Value} {j:Nat} (hj:j+seg.length≤d.sz)
  {x':α} (hM:d.M W base okp x' (c.take j++seg++c.drop (j+seg.length))) (hokp:∀ k,okp k→oki k∨okg k) (hg:∀ k,okg k→ok k∧k≠g) :
  S d e (W.setCells g (i.toNat*d.sz+j) seg) base ok (.slice (some ⟨g,0,none⟩) n cap) (xs.set i.toNat x')∧W.grownBy (W.setCells g (i.toNat*d.sz+j) seg) (some g):=by
 have hne:∀ k,oki k∨okg k→k≠g:=by
  intro k hk he
  subst he
  rcases hk with hk | hk
  ·obtain ⟨_,f,hR⟩:=hH
   exact (hR.1 k (by simp [Value.ownBlock])).2 hk
  exact (hg k hk).2 rfl
 obtain ⟨h2,h3⟩:=Jst (Jrv hH (fun k hk=>(hg k hk).1)) h0 h1 hj (fun q hq=>d.K_one (d.K_of_M hM) q (List.mem_append_left _ (List.mem_append_right _ hq)))
 exact ⟨Jrx h2 (Jpv hM (fun k hk hlt=>h3.block k hlt (fun he=>hne k (hokp k hk) (by injection he)))) hokp,h3⟩
end
end Kd
def Kept (w W:World) (S:Nat→Prop):Prop:=w.heap.size≤W.heap.size∧∀ i,i<w.heap.size→¬ S i→W.heap[i]?=w.heap[i]?
section
variable {w W W2:World} {S S2 S':Nat→Prop}
theorem Kept.refl (w:World) (S:Nat→Prop):Kept w w S:=⟨Nat.le_refl _,fun _ _ _=>rfl⟩
theorem Kept.of_below (h:Below w.heap.size w W) (S:Nat→Prop):Kept w W S:=⟨h.size,fun i hi _=>h.block i hi⟩
theorem Kept.mono (h:Kept w W S) (hs:∀ k,S k→S' k):Kept w W S':=⟨h.1,fun i hi hn=>h.2 i hi (fun hk=>hn (hs i hk))⟩
theorem Kept.then_ (h:Kept w W S) (k:Kept W W2 S2) (hs:∀ k,S2 k→S k∨w.heap.size≤k):Kept w W2 S :=
 ⟨Nat.le_trans h.1 k.1,fun i hi hn=>(k.2 i (Nat.lt_of_lt_of_le hi h.1) (fun h2=>(hs i h2).elim hn (fun h3=>by omega))).trans (h.2 i hi hn)⟩
theorem Kept.of_grown {row:Option Nat} (hg:W.grownBy W2 row) (h:Kept w W S) (hr:∀ k,row=some k→S k∨w.heap.size≤k):Kept w W2 S :=
 h.then_ (S2:=fun k=>row=some k) ⟨hg.size,fun i hi hn=>hg.block i hi (fun he=>hn he.symm)⟩ hr
theorem Kept.below (h:Kept w W S) (hb:Below W.heap.size W W2):Kept w W2 S:=h.then_ (Kept.of_below hb (fun _=>False)) (fun _ hk=>hk.elim)
theorem Kept.drew (h:Kept w W S):Kept w W.drew S:=h
theorem J0f {g:Nat} {o:Obj} (hb:W.heap[g]?=some o) (hk:Kept W W2 S) (hne:¬ S g):W2.heap[g]?=some o:=(hk.2 g (J0q hb) hne).trans hb
theorem cellKept {a:Addr} {v:Value} (hc:W.cell? a=some v) (hk:Kept W W2 S) (hne:¬ S a.block):W2.cell? a=some v:=by
 have:=hk.2 a.block (World.block_lt_of_cell? W a hc) hne
 simpa [World.cell?,this] using hc
end
namespace Kd
section
variable {α:Type} {d:Kd α} {e base n c:Nat} {ok oki S S2:Nat→Prop} {w w0 W W1 W2:World} {v:Value} {A:Option Addr} {xs:List α} {i:Int} {cs:List Value}
theorem c0a (h:d.R e W base ok v xs) (hk:Kept W W2 S) (hne:∀ k,ok k→¬ S k):d.R e W2 base ok v xs:=Jhg h (fun k ho hlt=>hk.2 k hlt (hne k ho))
theorem S_kept (h:Kd.S d e W base ok v xs) (hk:Kept W W2 S) (hne:∀ k,ok k→¬ S k):Kd.S d e W2 base ok v xs:=Jnr h (fun k ho hlt=>hk.2 k hlt (hne k ho))
end
end Kd
end Go.Proofs.YtbkfnmgkcgnifaaGreat.W1
namespace Go.Proofs.YtbkfnmgkcgnifaaGreat
open Go.RowKit Go.Shelf W1 Mdl Go.ChangeMaps
namespace Mdl
abbrev Led:=List (Mk × Int)
def getL (L:Led) (m:Mk):Int:=((L.find? (fun e=>e.1 == m)).map (·.2)).getD 0
def insK (m:Mk) (s:Int):Led→Led
 | []=>[(m,s)]
 | y::r=>if 0≤cmpM m y.1 then y::insK m s r else (m,s)::y::r
def J0j (L:Led) (m:Mk) (n:Int):Led :=
 if w64 (getL L m+n)=0 then L.filter (fun e=>!(e.1 == m)) else insK m (w64 (getL L m+n)) (L.filter (fun e=>!(e.1 == m)))
theorem J1g (m:Mk) (s:Int):∀ L:Led,(insK m s L).Perm ((m,s)::L)
 | []=>List.Perm.refl _
 | y::r=>by
  unfold insK
  split
  ·exact ((J1g m s r).cons y).trans (List.Perm.swap _ _ _)
  exact List.Perm.refl _
theorem J3s {L:Led} {m:Mk} (h:∀ e ∈ L,e.1≠m):L.filter (fun e=>!(e.1 == m))=L:=List.filter_eq_self.2 (fun e he=>by simpa using h e he)
theorem J3z {L:Led} {m:Mk} (h:∀ e ∈ L,e.1≠m):getL L m=0:=by
 unfold getL
 rw [List.find?_eq_none.2 (fun e he=>by simpa using h e he)];rfl
theorem J2e {L:Led} {m:Mk} {v:Int} (hn:(L.map (·.1)).Nodup) (h:(m,v) ∈ L):getL L m=v:=by
 induction L with
 | nil=>cases h
 | cons y r ih =>
  rw [List.map_cons,List.nodup_cons] at hn
  unfold getL
  by_cases hy:y.1=m
  ·rw [List.find?_cons_of_pos (by simpa using hy)]
   rcases List.mem_cons.1 h with h | h
   ·subst h;rfl
   exact absurd (List.mem_map.2 ⟨(m,v),h,hy.symm⟩) hn.1
  rw [List.find?_cons_of_neg (by simpa using hy)]
  rcases List.mem_cons.1 h with h | h
  ·subst h;exact absurd rfl hy
  exact ih hn.2 h
end Mdl
abbrev Ent:=Mk × Int × Nat
def entV (e:Ent):MapEntry:={ key:=mkV e.1,val:=.int .i64 e.2.1,born:=e.2.2 }
def prs (es:List Ent):Led:=es.map fun e=>(e.1,e.2.1)
def J1a (w:World) (b:Nat) (L:Led):Prop :=
 ∃ (es:List Ent) (clock:Nat),w.heap[b]?=some (.map (es.map entV).toArray clock)∧(es.map (·.2.2)).Nodup∧(∀ e ∈ es,e.2.2<clock)∧(prs es).Perm L∧(L.map (·.1)).Nodup
def Jcc (m:Mk):List Ent→Nat→Option (Nat × Value)
 | [],_=>none
 | e::es,i=>if (m == e.1)=true then some (i,.int .i64 e.2.1) else Jcc m es (i+1)
theorem Jdu (m:Mk):∀ (es:List Ent) (i:Nat),(Jcc m es i=none∧∀ e ∈ es,e.1≠m)∨∃ A e B,es=A++e::B∧e.1=m∧(∀ a ∈ A,a.1≠m)∧Jcc m es i=some (i+A.length,.int .i64 e.2.1)
 | [],i=>.inl ⟨rfl,by simp⟩
 | e::es,i=>by
  by_cases h:(m == e.1)=true
  ·exact .inr ⟨[],e,es,rfl,(by simpa using h:m=e.1).symm,by simp,by simp [Jcc,h]⟩
  rcases Jdu m es (i+1) with ⟨h1,h2⟩ | ⟨A,e',B,h1,h2,h3,h4⟩
  ·refine .inl ⟨by simp [Jcc,h,h1],fun x hx=>?_⟩
   rcases List.mem_cons.1 hx with rfl | hx
   ·intro he;exact h (by simp [he])
   exact h2 x hx
  refine .inr ⟨e::A,e',B,by rw [h1];rfl,h2,fun x hx=>?_,?_⟩
  ·rcases List.mem_cons.1 hx with rfl | hx
   ·intro he;exact h (by simp [he])
   exact h3 x hx
  rw [Y0z,show i+(A.length+1)=i+1+A.length by omega,← h4]
  simp only [Jcc]
  rw [if_neg h]
theorem J6r (b:Bool) (m:Mk) (w:World):(Instr.checkKey b 10000 101 (mkV m)).run Tryz.prog w=.ok () w:=by kernel_rfl
theorem Jdc (m:Mk) (w:World):∀ (es:List Ent) (i:Nat),(Instr.findAsking 101 (mkV m) (es.map entV) i).run Tryz.prog w=.ok (Jcc m es i) w
 | [],i=>rfl
 | e::es,i=>by
  have h:(Op.equal 101 (mkV m) (mkV e.1)).run Tryz.prog w=.ok (m == e.1) w:=Jqh 9997 m e.1 w
  simp only [List.map_cons,entV,Instr.findAsking,Sem.run_bind,h,Result.andThen_ok,Jcc]
  cases hm:(m == e.1)
  ·simp only [Bool.false_eq_true,if_false]
   exact Jdc m w es (i+1)
  rfl
theorem J8l (m:Mk) (es:List Ent) (w:World):(Instr.findKey 101 (mkV m) (es.map entV)).run Tryz.prog w=.ok (Jcc m es 0) w:=by
 unfold Instr.findKey
 have hu:(underlying 101).run Tryz.prog w=.ok (.struct (Tryz.prog.fieldsOf 101)) w:=by kernel_rfl
 simp only [Sem.run_bind,hu,Result.andThen_ok]
 cases es with
 | nil=>rfl
 | cons e es=>?_
 have:Instr.findNow (.struct (Tryz.prog.fieldsOf 101)) (mkV m) ((e::es).map entV) 0=none:=rfl
 rw [this]
 exact Jdc m w (e::es) 0
theorem J1a.perm {w:World} {b:Nat} {L L':Led} (h:J1a w b L) (hp:L.Perm L'):J1a w b L':=by
 obtain ⟨es,clock,h1,h2,h3,h4,h5⟩:=h
 exact ⟨es,clock,h1,h2,h3,h4.trans hp,(hp.map _).nodup_iff.1 h5⟩
theorem J1a.lt {w:World} {b:Nat} {L:Led} (h:J1a w b L):b<w.heap.size:=by
 obtain ⟨es,clock,h1,_⟩:=h
 exact J0q h1
theorem J1a.kept {w w':World} {b:Nat} {L:Led} {S:Nat→Prop} (h:J1a w b L) (hk:Kept w w' S) (hn:¬ S b):J1a w' b L:=by
 obtain ⟨es,clock,h1,h2⟩:=h
 exact ⟨es,clock,J0f h1 hk hn,h2⟩
theorem J1a.below {w w':World} {b:Nat} {L:Led} (h:J1a w b L) (hb:Below w.heap.size w w'):J1a w' b L:=h.kept (Kept.of_below hb (fun _=>False)) (fun h=>h)
theorem J1y (w:World) (b:Nat) (o:Obj):w.grownBy (setBlock w b o) (some b) :=
 ⟨rfl,rfl,rfl,by simp [setBlock],fun k _ hn=>by
  have:k≠b:=fun h=>hn (by rw [h])
  simp [setBlock,Array.getElem?_setIfInBounds,Ne.symm this]⟩
theorem J34 {w:World} {b:Nat} {o o':Obj} (h:w.heap[b]?=some o'):(setBlock w b o).heap[b]?=some o:=by
 simp [setBlock,Array.getElem?_setIfInBounds,J0q h]
theorem Jhr (m:Mk):Instr.sameBits 10000 (mkV m) (mkV m)=true:=by
 obtain ⟨a,b,c,d⟩:=m
 simp [mkV,Instr.sameBits]
theorem Ji5 {es:List Ent} {L:Led} (h:(prs es).Perm L) (hn:(L.map (·.1)).Nodup) (m:Mk) :
  (Jcc m es 0=none∧(∀ e ∈ es,e.1≠m)∧getL L m=0∧L.filter (fun e=>!(e.1 == m))=L) ∨
  ∃ A e B,es=A++e::B∧e.1=m∧Jcc m es 0=some (A.length,.int .i64 e.2.1)∧getL L m=e.2.1∧(prs (A++B)).Perm (L.filter (fun e=>!(e.1 == m)))∧(∀ a ∈ A++B,a.1≠m):=by
 have hnE:((prs es).map (·.1)).Nodup:=(h.map _).nodup_iff.2 hn
 rcases Jdu m es 0 with ⟨h1,h2⟩ | ⟨A,e,B,rfl,h2,h3,h4⟩
 ·have hL:∀ e ∈ L,e.1≠m:=fun e he=>by
   obtain ⟨x,hx,rfl⟩:=List.mem_map.1 (h.mem_iff.2 he)
   exact h2 x hx
  exact .inl ⟨h1,h2,J3z hL,J3s hL⟩
 have hB:∀ a ∈ B,a.1≠m:=fun a ha he=>by
  simp only [prs,List.map_append,List.map_cons,List.map_map] at hnE
  have:=(List.nodup_append.1 hnE).2.1
  rw [List.nodup_cons] at this
  exact this.1 (List.mem_map.2 ⟨a,ha,by simp [he,h2]⟩)
 have hAB:∀ a ∈ A++B,a.1≠m:=fun a ha=>(Y0m.1 ha).elim (h3 a) (hB a)
 refine .inr ⟨A,e,B,rfl,h2,by rw [h4,Nat.zero_add],J2e hn (h.mem_iff.1 (List.mem_map.2 ⟨e,by simp,by rw [h2]⟩)),?_,hAB⟩
 have hf:=h.filter (fun e=>!(e.1 == m))
 have:(prs (A++e::B)).filter (fun e=>!(e.1 == m))=prs (A++B):=by
  simp only [prs,List.map_append,List.map_cons,List.filter_append]
  rw [List.filter_cons_of_neg (by simp [h2])]
  have f1:(A.map fun e=>(e.1,e.2.1)).filter (fun e=>!(e.1 == m))=A.map fun e=>(e.1,e.2.1):=J3s (fun x hx=>by
   obtain ⟨y,hy,rfl⟩:=List.mem_map.1 hx
   exact h3 y hy)
  have f2:(B.map fun e=>(e.1,e.2.1)).filter (fun e=>!(e.1 == m))=B.map fun e=>(e.1,e.2.1):=J3s (fun x hx=>by
   obtain ⟨y,hy,rfl⟩:=List.mem_map.1 hx
   exact hB y hy)
  rw [f1,f2]
 rw [this] at hf
 exact hf
theorem J1z {w:World} {b:Nat} {L:Led} (h:J1a w b L) (m:Mk):(Instr.lookup 86 (.map (some b)) (mkV m) false).run Tryz.prog w=.ok (.int .i64 (getL L m)) w:=by
 obtain ⟨es,clock,h1,h2,h3,h4,h5⟩:=h
 have hu:(underlying 86).run Tryz.prog w=.ok (.map 101 3) w:=by kernel_rfl
 have hz:(zeroValue 3).run Tryz.prog w=.ok (.int .i64 0) w:=by kernel_rfl
 unfold Instr.lookup
 simp only [Sem.run_bind,hu,Result.andThen_ok,MapKept.run_getObj_map h1,Sem.run_pure,J6r,J8l]
 rcases Ji5 h4 h5 m with ⟨g1,_,g2,_⟩ | ⟨A,e,B,_,_,g1,g2,_⟩
 ·simp [g1,hz,g2,Result.andThen]
 simp [g1,g2,Result.andThen]
theorem J1a.with_ {w:World} {b:Nat} {L:Led} {m:Mk} {s:Int} {A B:List Ent} {clock st:Nat} (hb:w.heap[b]?=some (.map ((A++(m,s,st)::B).map entV).toArray clock))
  (hn:((A++(m,s,st)::B).map (·.2.2)).Nodup) (hc:∀ e ∈ A++(m,s,st)::B,e.2.2<clock) (hp:(prs (A++B)).Perm (L.filter (fun e=>!(e.1 == m)))) (hL:(L.map (·.1)).Nodup):J1a w b (insK m s (L.filter (fun e=>!(e.1 == m)))):=by
 refine ⟨_,clock,hb,hn,hc,?_,?_⟩
 ·refine List.Perm.trans ?_ (J1g m s _).symm
  refine List.Perm.trans ?_ (hp.cons (m,s))
  simp only [prs,List.map_append,List.map_cons]
  exact List.perm_middle
 have:=(J1g m s (L.filter (fun e=>!(e.1 == m)))).map (·.1)
 rw [this.nodup_iff,List.map_cons,List.nodup_cons]
 refine ⟨fun hm=>?_,(List.filter_sublist.map _).nodup hL⟩
 obtain ⟨x,hx,he⟩:=List.mem_map.1 hm
 have:=(List.mem_filter.1 hx).2
 have he:x.1=m:=he
 simp [he] at this
theorem Jei {w:World} {b:Nat} {L:Led} (h:J1a w b L) (m:Mk) :
  ∃ w1 st,(Instr.mapEntry 86 (.map (some b)) (mkV m)).run Tryz.prog w=.ok (.tuple #[.int .i64 (getL L m),.int .i64 st]) w1∧w.grownBy w1 (some b)∧w1.heap.size=w.heap.size∧(Instr.lookup 86 (.map (some b)) (mkV m) false).run Tryz.prog w1=.ok (.int .i64 (getL L m)) w1 ∧
   ∀ s w2,w2.heap[b]?=w1.heap[b]?→∃ w3,(Instr.entryStore 86 (.map (some b)) (.int .i64 st) (.int .i64 s)).run Tryz.prog w2=.ok () w3∧w2.grownBy w3 (some b)∧w3.heap.size=w2.heap.size∧J1a w3 b (insK m s (L.filter (fun e=>!(e.1 == m)))):=by
 obtain ⟨es,clock,h1,h2,h3,h4,h5⟩:=h
 have hu:∀ w,(underlying 86).run Tryz.prog w=.ok (.map 101 3) w:=fun _=>by kernel_rfl
 have hz:∀ w,(zeroValue 3).run Tryz.prog w=.ok (.int .i64 0) w:=fun _=>by kernel_rfl
 have store:∀ (A B:List Ent) (s0:Int) (st ck:Nat) (s:Int) (w2:World),w2.heap[b]?=some (.map ((A++(m,s0,st)::B).map entV).toArray ck)→((A++(m,s0,st)::B).map (·.2.2)).Nodup→(∀ e ∈ A++(m,s0,st)::B,e.2.2<ck)→(prs (A++B)).Perm (L.filter (fun e=>!(e.1 == m))) →
   ∃ w3,(Instr.entryStore 86 (.map (some b)) (.int .i64 st) (.int .i64 s)).run Tryz.prog w2=.ok () w3∧w2.grownBy w3 (some b)∧w3.heap.size=w2.heap.size∧J1a w3 b (insK m s (L.filter (fun e=>!(e.1 == m)))):=by
  intro A B s0 st ck s w2 hb hn hc hp
  refine ⟨setBlock w2 b (.map ((A++(m,s,st)::B).map entV).toArray ck),?_,J1y _ _ _,by simp [setBlock],J1a.with_ (J34 hb) (by simpa using hn) (fun e he=>?_) hp h5⟩
  ·have hf:(((A++(m,s0,st)::B).map entV).toArray).findIdx? (fun e=>(e.born:Int) == st)=some A.length:=by
    rw [List.findIdx?_toArray,List.map_append,List.map_cons,List.findIdx?_append]
    have hnA:(A.map entV).findIdx? (fun e=>(e.born:Int) == st)=none:=by
     rw [List.findIdx?_eq_none_iff]
     intro x hx
     obtain ⟨y,hy,rfl⟩:=List.mem_map.1 hx
     rw [List.map_append,List.nodup_append] at hn
     have:=hn.2.2 y.2.2 (List.mem_map.2 ⟨y,hy,rfl⟩) st (by simp)
     simp only [entV,beq_eq_false_iff_ne,ne_eq]
     omega
    rw [hnA]
    simp [entV,List.findIdx?_cons]
   have hm:(((A++(m,s0,st)::B).map entV).toArray).modify A.length (fun e=>{ e with val:=.int .i64 s })=((A++(m,s,st)::B).map entV).toArray:=by
    apply Array.ext_getElem?
    intro i
    simp only [List.map_append,List.map_cons,Array.getElem?_modify,List.getElem?_toArray]
    by_cases hi:A.length=i
    ·subst hi
     simp [entV,Y09]
    rw [if_neg hi]
    by_cases hlt:i<A.length
    ·rw [Y0a (by simpa using hlt),Y0a (by simpa using hlt)]
    rw [Y09 (by simp;omega),Y09 (by simp;omega)]
    obtain ⟨j,hj⟩:∃ j,i - (A.map entV).length=j+1:=⟨i - A.length - 1,by simp;omega⟩
    rw [hj];rfl
   have ha:(asInt (.int .i64 (st:Int))).run Tryz.prog w2=.ok (st:Int) w2:=rfl
   simp only [Instr.entryStore,Sem.run_bind,MapKept.run_getObj_map hb,Result.andThen_ok,ha,hf,hm,MapKept.run_setObj_map _ hb]
   rfl
  rcases Y0m.1 he with he | he
  ·exact hc e (by simp [he])
  rcases List.mem_cons.1 he with rfl | he
  ·exact hc (m,s0,st) (by simp)
  exact hc e (by simp [he])
 rcases Ji5 h4 h5 m with ⟨g1,gn,g2,gf⟩ | ⟨A,e,B,rfl,ge,g1,g2,g3,_⟩
 ·have hb2:(setBlock w b (.map ((es++[(m,0,clock)]).map entV).toArray (clock+1))).heap[b]?=some (.map ((es++[(m,0,clock)]).map entV).toArray (clock+1)):=J34 h1
  refine ⟨_,clock,?_,J1y w b (.map ((es++[(m,0,clock)]).map entV).toArray (clock+1)),by simp [setBlock],?_,fun s w2 hw=>?_⟩
  ·have hp:(es.map entV).toArray.push { key:=mkV m,val:=.int .i64 0,born:=clock }=((es++[(m,0,clock)]).map entV).toArray:=by simp [entV]
   simp only [Instr.mapEntry,Sem.run_bind,hu,Result.andThen_ok,MapKept.run_getObj_map h1,J6r,J8l,g1,hz,hp,MapKept.run_setObj_map _ h1,g2]
   rfl
  ·have hl:J1a (setBlock w b (.map ((es++[(m,0,clock)]).map entV).toArray (clock+1))) b (insK m 0 (L.filter (fun e=>!(e.1 == m)))) :=
    J1a.with_ (A:=es) (B:=[]) (st:=clock) (clock:=clock+1) hb2 (by
     rw [List.map_append,List.nodup_append]
     refine ⟨h2,by simp,fun x hx y hy=>?_⟩
     obtain ⟨z,hz,rfl⟩:=List.mem_map.1 hx
     have:=h3 z hz
     simp at hy
     omega) (fun e he=>by
     rcases Y0m.1 he with he | he
     ·have:=h3 e he;omega
     rw [Y11.1 he];exact Nat.lt_succ_self _) (by rw [List.append_nil,gf];exact h4) h5
   have:=J1z hl m
   rw [this,g2,J2e (m:=m) (v:=0)]
   ·obtain ⟨_,_,_,_,_,_,hn⟩:=hl
    exact hn
   exact (J1g m 0 _).mem_iff.2 Y03
  refine store es [] 0 clock (clock+1) s w2 (hw.trans hb2) ?_ ?_ (by rw [List.append_nil,gf];exact h4)
  ·rw [List.map_append,List.nodup_append]
   refine ⟨h2,by simp,fun x hx y hy=>?_⟩
   obtain ⟨z,hz,rfl⟩:=List.mem_map.1 hx
   have:=h3 z hz
   simp at hy
   omega
  intro e he
  rcases Y0m.1 he with he | he
  ·have:=h3 e he;omega
  rw [Y11.1 he];exact Nat.lt_succ_self _
 obtain ⟨em,ev,est⟩:=e
 have ge:em=m:=ge
 subst ge
 refine ⟨setBlock w b (.map ((A++(em,ev,est)::B).map entV).toArray clock),est,?_,J1y _ _ _,by simp [setBlock],?_,fun s w2 hw=>store A B ev est clock s w2 (hw.trans (J34 h1)) h2 h3 g3⟩
 ·have hget:(((A++(em,ev,est)::B).map entV).toArray)[A.length]?=some (entV (em,ev,est)):=by
   simp [Y09]
  have hm:(((A++(em,ev,est)::B).map entV).toArray).modify A.length (fun e=>{ e with key:=mkV em })=((A++(em,ev,est)::B).map entV).toArray:=by
   apply Array.ext_getElem?
   intro i
   rw [Array.getElem?_modify]
   by_cases hi:A.length=i
   ·subst hi
    rw [if_pos rfl,hget];rfl
   rw [if_neg hi]
  have hk:∀ w,(Instr.keyThatStays (entV (em,ev,est)).key (mkV em)).run Tryz.prog w=.ok (mkV em) w:=fun w=>by
   unfold Instr.keyThatStays
   rw [if_pos (show Instr.sameBits 10000 (entV (em,ev,est)).key (mkV em)=true from Jhr em)];rfl
  simp only [Instr.mapEntry,Sem.run_bind,hu,Result.andThen_ok,MapKept.run_getObj_map h1,J6r,J8l,g1,hget,Option.map_some,Option.getD_some,hk]
  rw [hm]
  simp only [MapKept.run_setObj_map _ h1,Result.andThen_ok,g2]
  rfl
 have hl:J1a (setBlock w b (.map ((A++(em,ev,est)::B).map entV).toArray clock)) b L:=⟨_,clock,J34 h1,h2,h3,h4,h5⟩
 exact J1z hl em
theorem Jcz {w:World} {b:Nat} {L:Led} (h:J1a w b L) (m:Mk) (ty:TypeId) :
  ∃ w1,(Builtin.delete_ #[86,101] ty #[.map (some b),mkV m]).run Tryz.prog w=.ok (.tuple #[]) w1∧w.grownBy w1 (some b)∧w1.heap.size=w.heap.size∧J1a w1 b (L.filter (fun e=>!(e.1 == m))):=by
 obtain ⟨es,clock,h1,h2,h3,h4,h5⟩:=h
 have hu:∀ w,(underlying 86).run Tryz.prog w=.ok (.map 101 3) w:=fun _=>by kernel_rfl
 rcases Ji5 h4 h5 m with ⟨g1,gn,g2,gf⟩ | ⟨A,e,B,rfl,ge,g1,g2,g3,_⟩
 ·refine ⟨setBlock w b (.map (es.map entV).toArray clock),?_,J1y _ _ _,by simp [setBlock],?_⟩
  ·simp only [Builtin.delete_,Sem.run_bind,List.getElem?_toArray,List.getElem?_cons_zero,List.getElem?_cons_succ,hu,Result.andThen_ok,MapKept.run_getObj_map h1,J6r,J8l,g1,MapKept.run_setObj_map _ h1]
   rfl
  rw [gf];exact ⟨es,clock,J34 h1,h2,h3,h4,h5⟩
 have he:(((A++e::B).map entV).toArray).eraseIdxIfInBounds A.length=((A++B).map entV).toArray:=by
  rw [List.eraseIdxIfInBounds_toArray]
  congr 1
  rw [← map_eraseIdx]
  congr 1
  rw [List.eraseIdx_append_of_length_le (Y0e _),Nat.sub_self];rfl
 refine ⟨setBlock w b (.map ((A++B).map entV).toArray clock),?_,J1y _ _ _,by simp [setBlock],?_⟩
 ·simp only [Builtin.delete_,Sem.run_bind,List.getElem?_toArray,List.getElem?_cons_zero,List.getElem?_cons_succ,hu,Result.andThen_ok,MapKept.run_getObj_map h1,J6r,J8l,g1,he,MapKept.run_setObj_map _ h1]
  rfl
 have hsub:(A++B).Sublist (A++e::B):=List.Sublist.append (List.Sublist.refl _) (List.sublist_cons_self _ _)
 exact ⟨A++B,clock,J34 h1,(hsub.map _).nodup h2,fun x hx=>h3 x (hsub.subset hx),g3,(List.filter_sublist.map _).nodup h5⟩
end Go.Proofs.YtbkfnmgkcgnifaaGreat
namespace Go.Proofs.YtbkfnmgkcgnifaaGreat.W1
open Go.RowKit
theorem J09 {W w1:World} {row:Option Nat} (hg:W.grownBy w1 row) {a:Addr} {v:Value} (h:W.cell? a=some v) (hne:some a.block≠row):w1.cell? a=some v:=by
 have:=hg.block a.block (World.block_lt_of_cell? W a h) hne
 simpa [World.cell?,this] using h
namespace Kd
section
variable {α:Type} {d:Kd α} {e base g n cap:Nat} {ok oki okp:Nat→Prop} {W:World} {xs:List α} {i:Int} {c:List Value}
theorem H_at (h:H d e W base ok (.slice (some ⟨g,0,none⟩) n cap) xs i oki c) (h0:0≤i) (h1:i<n):(∀ j u,c[j]?=some u→W.cell? ⟨g,i.toNat*d.sz+j,none⟩=some u)∧∀ j,W.frozen? ⟨g,i.toNat*d.sz+j,none⟩=false:=by
 obtain ⟨rows,_,hraw,_,_,hcc,_⟩:=Jru h h0 h1
 obtain ⟨_,_,_,_,hfr⟩:=R_elem hraw [] i h0 h1
 exact ⟨hcc,hfr⟩
theorem S_seg0 (hH:H d e W base ok (.slice (some ⟨g,0,none⟩) n cap) xs i oki c) (h0:0≤i) (h1:i<n) {seg:List Value} {j:Nat} (hj:j+seg.length≤d.sz)
  {x':α} (hM:d.M W base okp x' (c.take j++seg++c.drop (j+seg.length))) (hokp:∀ k,okp k→oki k) :
  S d e (W.setCells g (i.toNat*d.sz+j) seg) base ok (.slice (some ⟨g,0,none⟩) n cap) (xs.set i.toNat x')∧W.grownBy (W.setCells g (i.toNat*d.sz+j) seg) (some g) :=
 S_seg (okg:=fun _=>False) (Jrw hH (fun _ hk=>⟨hk,fun h=>h⟩)) h0 h1 hj hM (fun k hk=>.inl (hokp k hk)) (fun _ hk=>hk.elim)
end
section
variable {α:Type} {d:Kd α} {e base b b' g N:Nat} {ok ok1:Nat→Prop} {W W2 w1:World} {u v:Value} {xs ys:List α} {S:Nat→Prop}
theorem R_reok (hE:d.E=[]) (h:d.R e W base ok1 v xs) (hok:∀ k,v.ownBlock=some k→ok k):d.R e W base ok v xs:=c06 (Jqy hE h) (fun k hk=>hok k hk.symm)
end
end Kd
end Go.Proofs.YtbkfnmgkcgnifaaGreat.W1
namespace Go.Proofs.YtbkfnmgkcgnifaaGreat
open Go.RowKit Go.Shelf W1 W2 Mdl Go.ChangeMaps
theorem J5o (b:Nat) (L:Led) (m:Mk) (n:Int) (w:World) (hL:J1a w b L) :
  Calls Tryz.prog 46 #[.agg #[.map (some b)],mkV m,.int .i64 n] w fun e w'=>e=.returned (.tuple #[])∧w.grownBy w' (some b)∧J1a w' b (J0j L m n):=by
 have HL:=Y00 hL
 clear hL
 simp only [mkV]
 go_enter Tryz.func46,Tryz.ntmps46
 go_upto_region 1 with fail
 have b2:Below w.heap.size w ((w.alloc (.cells #[.map (some b)] 88)).alloc (.cells #[.int .i64 m.1,.int .i64 m.2.1,.int .i64 m.2.2.1,.int .i64 m.2.2.2] 101)):=J15
 have hz2:((w.alloc (.cells #[.map (some b)] 88)).alloc (.cells #[.int .i64 m.1,.int .i64 m.2.1,.int .i64 m.2.2.1,.int .i64 m.2.2.2] 101)).heap.size=w.heap.size+2:=by simp
 have k0:((w.alloc (.cells #[.map (some b)] 88)).alloc (.cells #[.int .i64 m.1,.int .i64 m.2.1,.int .i64 m.2.2.1,.int .i64 m.2.2.2] 101)).cell? ⟨w.heap.size,0,none⟩=some (.map (some b)):=J00 (J02 _ _) (J0a w _ _ 0)
 have hbk:((w.alloc (.cells #[.map (some b)] 88)).alloc (.cells #[.int .i64 m.1,.int .i64 m.2.1,.int .i64 m.2.2.1,.int .i64 m.2.2.2] 101)).heap[w.heap.size+1]?=some (.cells #[.int .i64 m.1,.int .i64 m.2.1,.int .i64 m.2.2.1,.int .i64 m.2.2.2] 101 (0,0)):=by
  have:=Y0c (w.alloc (.cells #[.map (some b)] 88)) (.cells #[.int .i64 m.1,.int .i64 m.2.1,.int .i64 m.2.2.1,.int .i64 m.2.2.2] 101)
  simpa using this
 generalize ((w.alloc (.cells #[.map (some b)] 88)).alloc (.cells #[.int .i64 m.1,.int .i64 m.2.1,.int .i64 m.2.2.1,.int .i64 m.2.2.2] 101))=w2 at *
 obtain ⟨k1,k2,k3,k4⟩:=bc4 hbk
 have HL2:=Y00 (HL.out.below b2)
 have hlt:=HL.out.lt
 have hlk:(Instr.lookup 86 (.map (some b)) (.agg #[.int .i64 m.1,.int .i64 m.2.1,.int .i64 m.2.2.1,.int .i64 m.2.2.2]) false).run Tryz.prog w2=.ok (.int .i64 (getL L m)) w2:=J1z HL2.out m
 have hlkd:(Instr.lookup 86 (.map (some b)) (.agg #[.int .i64 m.1,.int .i64 m.2.1,.int .i64 m.2.2.1,.int .i64 m.2.2.2]) false).run Tryz.prog w2.drew=.ok (.int .i64 (getL L m)) w2.drew:=J1z (L:=L) (w:=w2.drew) (HL2.out.below (J05 (Y0f _ _))) m
 refine sr1 9 (fun w'=>w'.cell? ⟨w.heap.size,0,none⟩=some (.map (some b))∧w'.cell? ⟨w.heap.size+1,0,none⟩=some (.int .i64 m.1)∧w'.cell? ⟨w.heap.size+1,1,none⟩=some (.int .i64 m.2.1)∧w'.cell? ⟨w.heap.size+1,2,none⟩=some (.int .i64 m.2.2.1)∧w'.cell? ⟨w.heap.size+1,3,none⟩=some (.int .i64 m.2.2.2)∧(Instr.lookup 86 (.map (some b)) (.agg #[.int .i64 m.1,.int .i64 m.2.1,.int .i64 m.2.2.1,.int .i64 m.2.2.2]) false).run Tryz.prog w'=.ok (.int .i64 (getL L m)) w') [8] ⟨k0,k1,k2,k3,k4,hlkd⟩ fun hJ0=>?_
 clear hlk hlkd
 refine pv 0 ?_
 refine tv6 1 ?_
 refine tv6 2 ?_
 refine tv6 3 ?_
 refine pv 4 ?_
 refine pv 5 ?_
 have HLD:=Y00 (HL2.out.below (J05 (Y0f w2.heap.size w2)))
 have HWD:=Y08 (Y07 (J05 b2) (show w2.drew.heap.size=w.heap.size+2 from hz2))
 clear hz2 b2 k0 k1 k2 k3 k4 hbk
 generalize w2.drew=wd at *
 obtain ⟨w3,st,hrun,hg3,hsz3,hlk3,hst3⟩:=Jei HLD.out m
 have hrun:(Instr.mapEntry 86 (.map (some b)) (.agg #[.int .i64 m.1,.int .i64 m.2.1,.int .i64 m.2.2.1,.int .i64 m.2.2.2])).run Tryz.prog wd=.ok (.tuple #[.int .i64 (getL L m),.int .i64 st]) w3:=hrun
 refine ov 6 fun K hK=>?_
 refine va0 ?_
 have nb:∀ k,b=k→k<w.heap.size:=fun k hk=>hk ▸ hlt
 have ng:∀ k,w.heap.size≤k→some k≠some b:=fun k hk he=>by injection he with he;omega
 refine hK.out _ _ ⟨J09 hg3 hJ0.1 (ng _ (Y0e _)),J09 hg3 hJ0.2.1 (ng _ (Nat.le_succ _)),J09 hg3 hJ0.2.2.1 (ng _ (Nat.le_succ _)),J09 hg3 hJ0.2.2.2.1 (ng _ (Nat.le_succ _)),J09 hg3 hJ0.2.2.2.2.1 (ng _ (Nat.le_succ _)),hlk3⟩ (fun hJ0=>?_)
 clear hK K
 refine nm0 _ ?_
 clear hrun
 refine pv 7 ?_
 obtain ⟨w4,hrun4,hg4,hsz4,hL4⟩:=hst3 (w64 (getL L m+n)) w3 rfl
 have hrun4:(Instr.entryStore 86 (.map (some b)) (.int .i64 st) (.int .i64 (wrap64 (getL L m+n)))).run Tryz.prog w3=.ok () w4:=by rw [J2u];exact hrun4
 refine la0 8 (bs 9 511) (N:=none) fun K hK=>?_
 refine sk0 ?_
 refine hK.out _ _ ?_
 clear hK K
 refine dn0 ?_
 have j0:=J09 hg4 hJ0.1 (ng _ (Y0e _))
 have j1:=J09 hg4 hJ0.2.1 (ng _ (Nat.le_succ _))
 have j2:=J09 hg4 hJ0.2.2.1 (ng _ (Nat.le_succ _))
 have j3:=J09 hg4 hJ0.2.2.2.1 (ng _ (Nat.le_succ _))
 have j4:=J09 hg4 hJ0.2.2.2.2.1 (ng _ (Nat.le_succ _))
 have HL4:=Y00 hL4
 have HG4:=Y08 (show w.grownBy w4 (some b) from ((J0b HWD.out.1).both hg3).both hg4)
 generalize hs:w64 (getL L m+n)=s at *
 have HS:=Y08 hs
 have hlk4:(Instr.lookup 86 (.map (some b)) (.agg #[.int .i64 m.1,.int .i64 m.2.1,.int .i64 m.2.2.1,.int .i64 m.2.2.2]) false).run Tryz.prog w4=.ok (.int .i64 s) w4:=by
  have:=J1z HL4.out m
  rw [J2e (m:=m) (v:=s) (by obtain ⟨_,_,_,_,_,_,hn⟩:=HL4.out;exact hn) ((J1g m s _).mem_iff.2 Y03)] at this
  exact this
 clear hs hL4 hJ0 hlk3 hst3 hg3 hg4 hsz3 hsz4 hrun4
 by_cases h0:s=0
 ·subst h0
  obtain ⟨w5,hrun5,hg5,hsz5,hL5⟩:=Jcz HL4.out m 0
  have hrun5:∀ ty,(Builtin.delete_ #[86,101] ty #[.map (some b),.agg #[.int .i64 m.1,.int .i64 m.2.1,.int .i64 m.2.2.1,.int .i64 m.2.2.2]]).run Tryz.prog w4=.ok (.tuple #[]) w5:=fun _=>hrun5
  go_wp2_with fail
  go_end0
  refine ⟨rfl,HG4.out.both hg5,?_⟩
  unfold J0j
  rw [HS.out,if_pos rfl]
  refine hL5.perm ?_
  have h1:=(J1g m 0 (L.filter (fun e=>!(e.1 == m)))).filter (fun e=>!(e.1 == m))
  refine h1.trans ?_
  rw [List.filter_cons_of_neg (by simp)]
  rw [J3s (fun e he=>by have:=(List.mem_filter.1 he).2;simpa using this)]
 have h0b:(s == 0)=false:=by simpa using h0
 go_wp2_with fail
 go_end0
 refine ⟨rfl,HG4.out,?_⟩
 have:=HL4.out
 unfold J0j
 rw [HS.out,if_neg h0]
 exact this
theorem J2q (w:World):Calls Tryz.prog 44 #[] w fun e w'=>∃ b,e=.returned (.agg #[.map (some b)])∧w.heap.size≤b∧Below w.heap.size w w'∧J1a w' b []:=by
 have hmm:(Instr.makeMap 86 none).run Tryz.prog (w.alloc (.cells #[.map none] 88))=.ok (.map (some (w.heap.size+1))) ((w.alloc (.cells #[.map none] 88)).alloc (.map #[] 0)):=by
  simp [Instr.makeMap,newObj,Sem.run]
  rfl
 go_enter Tryz.func44,Tryz.ntmps44
 go_wp2_with fail
 have hb:((w.alloc (.cells #[.map (some (w.heap.size+1))] 88)).alloc (.map #[] 0)).heap[w.heap.size+1]?=some (.map #[] 0):=by
  have:=Y0c (w.alloc (.cells #[.map (some (w.heap.size+1))] 88)) (.map #[] 0)
  simpa using this
 exact bodyPost_ret (v:=.agg #[.map (some (w.heap.size+1))]) (by simp [results,Tryz.results44,go_sem]) rfl ⟨_,rfl,Nat.le_succ _,J15,[],0,hb,List.nodup_nil,by simp,List.Perm.refl _,List.nodup_nil⟩
end Go.Proofs.YtbkfnmgkcgnifaaGreat
namespace Go.Proofs.YtbkfnmgkcgnifaaGreat
open Go.RowKit Go.Shelf W1 W2 Mdl
namespace Mdl
def swp {α:Type} (d:α) (l:List α) (i j:Nat):List α:=(l.set i (l.getD j d)).set j (l.getD i d)
theorem Jl0 {α:Type} (d:α) (l:List α) (i j:Nat):(swp d l i j).length=l.length:=by simp [swp]
def J2v {α:Type} (d:α) (a b:Nat):Nat→List α→List α
 | 0,l=>l
 | n+1,l=>swp d (J2v d a b n l) (a+n) (b+n)
theorem Jab {α:Type} (d:α) (a b:Nat):∀ (n:Nat) (l:List α),(J2v d a b n l).length=l.length
 | 0,_=>rfl
 | n+1,l=>by rw [J2v,Jl0,Jab d a b n l]
end Mdl
abbrev tz:Tm:=(0,0,0)
theorem J10 {w:World} {base g n cap:Nat} {ok:Nat→Prop} {l:List Tm} (h:kT.R 99 w base ok (.slice (some ⟨g,0,none⟩) n cap) l) {i:Nat} (hi:i<n) :
  (w.cell? ⟨g,i*3,none⟩=some (.int .i64 (l.getD i tz).1)∧w.cell? ⟨g,i*3+1,none⟩=some (.int .i64 (l.getD i tz).2.1)∧w.cell? ⟨g,i*3+2,none⟩=some (.int .i64 (l.getD i tz).2.2))∧(∀ j,w.frozen? ⟨g,i*3+j,none⟩=false) ∧
   ∀ t:Tm,kT.R 99 (w.setCells g (i*3) [.int .i64 t.1,.int .i64 t.2.1,.int .i64 t.2.2]) base ok (.slice (some ⟨g,0,none⟩) n cap) (l.set i t)∧w.grownBy (w.setCells g (i*3) [.int .i64 t.1,.int .i64 t.2.1,.int .i64 t.2.2]) (some g):=by
 obtain ⟨c,hcl,hM,hcc,hfr⟩:=Kd.R_elem h tz (i:Int) (by omega) (by omega)
 have hK:=kT_K.1 (kT.K_of_M hM)
 subst hK
 have e0:=hcc 0 _ rfl
 have e1:=hcc 1 _ rfl
 have e2:=hcc 2 _ rfl
 rw [Y06] at e0 e1 e2
 refine ⟨⟨e0,e1,e2⟩,fun j=>by have:=hfr j;rwa [Y06] at this,fun t=>?_⟩
 have:=Kd.R_seg h (i:Int) (by omega) (by omega) hcl hcc (seg:=[.int .i64 t.1,.int .i64 t.2.1,.int .i64 t.2.2]) (j:=0) (x':=t) (okp:=fun _=>False) (Y0e 3) (kT_M t) (fun _ h=>h.elim)
 rwa [Y06] at this
theorem swapT_any (g N cap a b n base:Nat) (ok:Nat→Prop) (l:List Tm) (cmp:Value) (w:World) (hR:kT.R 99 w base ok (.slice (some ⟨g,0,none⟩) N cap) l) (ha:a+n≤N) (hb:b+n≤N) (hN:N≤10000000000000) :
  Calls Tryz.prog 128 #[.slice (some ⟨g,0,none⟩) N cap,.int .i64 a,.int .i64 b,.int .i64 n,cmp] w fun e w'=>e=.returned (.tuple #[])∧kT.R 99 w' base ok (.slice (some ⟨g,0,none⟩) N cap) (J2v tz a b n l)∧w.grownBy w' (some g):=by
 have HR:=Y00 hR
 clear hR
 go_enter Tryz.func128,Tryz.ntmps128
 go_wp2
 go_loopw [10] (fun i wr=>∃ k:Nat,k≤n∧i=.int .i64 k∧J08 (kT.R 99 wr base ok (.slice (some ⟨g,0,none⟩) N cap) (J2v tz a b k l)∧w.grownBy wr (some g))) (fun i _=>n - (intOf i).toNat)
 case atStart=>exact ⟨0,Nat.zero_le _,rfl,⟨HR.out,⟨rfl,rfl,rfl,Y0e _,fun _ _ _=>rfl⟩⟩⟩
 obtain ⟨k,hk,rfl,hX⟩:=hrel
 by_cases hlt:k<n
 rotate_left
 ·go_wp2_with fail
  go_end0
  have hkn:k=n:=by omega
  subst hkn
  exact ⟨rfl,hX.out⟩
 obtain ⟨⟨x0,x1,x2⟩,xf,hxs⟩:=J10 hX.out.1 (i:=a+k) (by omega)
 obtain ⟨⟨y0,y1,y2⟩,yf,_⟩:=J10 hX.out.1 (i:=b+k) (by omega)
 have hl:=hX.out.1
 have hsw:J2v tz a b (k+1) l=((J2v tz a b k l).set (a+k) ((J2v tz a b k l).getD (b+k) tz)).set (b+k) ((J2v tz a b k l).getD (a+k) tz):=rfl
 have HSW:=Y08 hsw
 generalize hp:(J2v tz a b k l).getD (a+k) tz=p at *
 generalize hq:(J2v tz a b k l).getD (b+k) tz=q at *
 have HXS:=Y00 (hxs q)
 have HXD:=Y00 (show kT.R 99 (wr.drew.setCells g ((a+k)*3) [.int .i64 q.1,.int .i64 q.2.1,.int .i64 q.2.2]) base ok (.slice (some ⟨g,0,none⟩) N cap) ((J2v tz a b k l).set (a+k) q)∧wr.grownBy (wr.drew.setCells g ((a+k)*3) [.int .i64 q.1,.int .i64 q.2.1,.int .i64 q.2.2]) (some g) from by
  obtain ⟨_,_,hd⟩:=J10 (Kd.c0b hX.out.1) (i:=a+k) (by omega)
  exact ⟨(hd q).1,(J0b (J05 (Y0f _ _))).both (hd q).2⟩)
 have wa:IntKind.i64.wrap ((a:Int)+k)=((a+k:Nat):Int):=by rw [Y0b];omega
 have wb:IntKind.i64.wrap ((b:Int)+k)=((b+k:Nat):Int):=by rw [Y0b];omega
 have ha0:(0:Int)≤((a+k:Nat):Int):=by omega
 have ha1:((a+k:Nat):Int)<N:=by omega
 have hb0:(0:Int)≤((b+k:Nat):Int):=by omega
 have hb1:((b+k:Nat):Int)<N:=by omega
 have f0:wr.drew.frozen? ⟨g,(a+k)*3,none⟩=false:=xf 0
 have f1:wr.drew.frozen? ⟨g,(a+k)*3+1,none⟩=false:=xf 1
 have f2:wr.drew.frozen? ⟨g,(a+k)*3+2,none⟩=false:=xf 2
 clear hxs hsw hp hq hl
 generalize hak:a+k=ak at *
 generalize hbk:b+k=bk at *
 go_upto_region 3 with fail
 refine sr1 24 (fun w'=>w'.cell? ⟨g,ak*3,none⟩=some (.int .i64 p.1)∧w'.cell? ⟨g,ak*3+1,none⟩=some (.int .i64 p.2.1)∧w'.cell? ⟨g,ak*3+2,none⟩=some (.int .i64 p.2.2)∧w'.cell? ⟨g,bk*3,none⟩=some (.int .i64 q.1)∧w'.cell? ⟨g,bk*3+1,none⟩=some (.int .i64 q.2.1)∧w'.cell? ⟨g,bk*3+2,none⟩=some (.int .i64 q.2.2)) [21,23] ⟨x0,x1,x2,y0,y1,y2⟩ fun hJ0=>?_
 clear x0 x1 x2 y0 y1 y2 xf yf
 generalize wr.drew=wd at *
 refine pv 0 ?_
 refine pv 1 ?_
 refine pv 2 ?_
 refine pv 3 ?_
 refine pv 4 ?_
 refine pv 5 ?_
 refine pv 6 ?_
 refine pv 7 ?_
 refine pv 8 ?_
 refine pv 9 ?_
 refine pv 10 ?_
 refine pv 11 ?_
 refine pv 12 ?_
 refine tv6 13 ?_
 refine pv 14 ?_
 refine pv 15 ?_
 refine pv 16 ?_
 refine pv 17 ?_
 refine pv 18 ?_
 refine tv6 19 ?_
 refine pv 20 ?_
 refine la0 21 (bs 24 4194303) (N:=none) fun K hK=>?_
 refine sk0 ?_
 refine hK.out _ _ ?_
 clear hK K
 have h6:kT.R 99 (((wd.setCell ⟨g,ak*3,none⟩ (.int .i64 q.1)).setCell ⟨g,ak*3+1,none⟩ (.int .i64 q.2.1)).setCell ⟨g,ak*3+2,none⟩ (.int .i64 q.2.2)) base ok (.slice (some ⟨g,0,none⟩) N cap) ((J2v tz a b k l).set ak q)∧w.grownBy (((wd.setCell ⟨g,ak*3,none⟩ (.int .i64 q.1)).setCell ⟨g,ak*3+1,none⟩ (.int .i64 q.2.1)).setCell ⟨g,ak*3+2,none⟩ (.int .i64 q.2.2)) (some g):=⟨HXD.out.1,hX.out.2.both HXD.out.2⟩
 have H6:=Y00 h6
 clear h6 hJ0 f0 f1 f2
 generalize (((wd.setCell ⟨g,ak*3,none⟩ (.int .i64 q.1)).setCell ⟨g,ak*3+1,none⟩ (.int .i64 q.2.1)).setCell ⟨g,ak*3+2,none⟩ (.int .i64 q.2.2))=w6 at *
 have hbN:bk<N:=by omega
 obtain ⟨⟨z0,z1,z2⟩,zf,hz⟩:=J10 H6.out.1 (i:=bk) hbN
 have g0:w6.frozen? ⟨g,bk*3,none⟩=false:=zf 0
 have g1:w6.frozen? ⟨g,bk*3+1,none⟩=false:=zf 1
 have g2:w6.frozen? ⟨g,bk*3+2,none⟩=false:=zf 2
 have HZ:=Y00 (hz p)
 clear hz zf
 generalize ((J2v tz a b k l).set ak q).getD bk tz=pq at *
 refine pv 22 ?_
 refine la0 23 (bs 24 16777215) (N:=none) fun K hK=>?_
 refine sk0 ?_
 refine hK.out _ _ ?_
 clear hK K
 refine dn0 ?_
 have h7:kT.R 99 (((w6.setCell ⟨g,bk*3,none⟩ (.int .i64 p.1)).setCell ⟨g,bk*3+1,none⟩ (.int .i64 p.2.1)).setCell ⟨g,bk*3+2,none⟩ (.int .i64 p.2.2)) base ok (.slice (some ⟨g,0,none⟩) N cap) (J2v tz a b (k+1) l)∧w.grownBy (((w6.setCell ⟨g,bk*3,none⟩ (.int .i64 p.1)).setCell ⟨g,bk*3+1,none⟩ (.int .i64 p.2.1)).setCell ⟨g,bk*3+2,none⟩ (.int .i64 p.2.2)) (some g):=⟨by rw [HSW.out];exact HZ.out.1,H6.out.2.both HZ.out.2⟩
 have H7:=Y00 h7
 clear h7
 go_wp2_with fail
 exact ⟨⟨k+1,by omega,by go_num,H7⟩,by simp [intOf];omega⟩
end Go.Proofs.YtbkfnmgkcgnifaaGreat
namespace Go.Proofs.YtbkfnmgkcgnifaaGreat.Mdl
theorem Jfn {α:Type} (d:α) {a b:Nat} : ∀ (n:Nat) (l:List α),a+n≤b→b+n≤l.length→∀ i,(J2v d a b n l)[i]?=if a≤i∧i<a+n then l[i - a+b]? else if b≤i∧i<b+n then l[i - b+a]? else l[i]?
 | 0,l,_,_,i=>by
  rw [if_neg (show ¬ (a≤i∧i<a+0) by omega),if_neg (show ¬ (b≤i∧i<b+0) by omega)];rfl
 | n+1,l,h1,h2,i=>by
  have ih:=Jfn d (a:=a) (b:=b) n l (by omega) (by omega)
  have hlen:=Jab d a b n l
  have ea:(J2v d a b n l).getD (a+n) d=l.getD (a+n) d:=by
   rw [Y01,ih,if_neg (show ¬ (a≤a+n∧a+n<a+n) by omega),if_neg (show ¬ (b≤a+n∧a+n<b+n) by omega),Y01]
  have eb:(J2v d a b n l).getD (b+n) d=l.getD (b+n) d:=by
   rw [Y01,ih,if_neg (show ¬ (a≤b+n∧b+n<a+n) by omega),if_neg (show ¬ (b≤b+n∧b+n<b+n) by omega),Y01]
  rw [J2v,swp,ea,eb]
  rw [List.getElem?_set,Y0q,hlen,List.getElem?_set,hlen]
  by_cases hb:b+n=i
  ·subst hb
   rw [if_pos rfl,if_pos (by omega),if_neg (by omega),if_pos (by omega),show b+n - b+a=a+n by omega]
   rw [Y01,Y05 (show a+n<l.length by omega)];rfl
  rw [if_neg hb]
  by_cases ha:a+n=i
  ·subst ha
   rw [if_pos rfl,if_pos (by omega),if_pos (by omega),show a+n - a+b=b+n by omega]
   rw [Y01,Y05 (show b+n<l.length by omega)];rfl
  rw [if_neg ha,ih]
  by_cases h3:a≤i∧i<a+n
  ·rw [if_pos h3,if_pos (by omega)]
  rw [if_neg h3,if_neg (show ¬ (a≤i∧i<a+(n+1)) by omega)]
  by_cases h4:b≤i∧i<b+n
  ·rw [if_pos h4,if_pos (by omega)]
  rw [if_neg h4,if_neg (by omega)]
theorem Jb8 {α:Type} (d:α) (P X Q Y S:List α) (h:X.length=Y.length):J2v d P.length (P.length+X.length+Q.length) X.length (P++X++Q++Y++S)=P++Y++Q++X++S:=by
 apply List.ext_getElem?
 intro i
 rw [Jfn d _ _ (by omega) (by simp only [Y02];omega)]
 by_cases h0:i<P.length
 ·rw [if_neg (by omega),if_neg (by omega)]
  simp only [Y0d,Y0a h0]
 by_cases h1:i<P.length+X.length
 ·rw [if_pos (by omega)]
  simp only [Y0d]
  rw [Y09 (by omega),Y09 (by omega),Y09 (by omega),Y0a (by omega)]
  rw [Y09 (l₁:=P) (by omega),Y0a (by omega)]
  congr 1;omega
 by_cases h2:i<P.length+X.length+Q.length
 ·rw [if_neg (by omega),if_neg (by omega)]
  simp only [Y0d]
  rw [Y09 (by omega),Y09 (by omega),Y0a (by omega)]
  rw [Y09 (l₁:=P) (by omega),Y09 (by omega),Y0a (by omega),h]
 by_cases h3:i<P.length+X.length+Q.length+X.length
 ·rw [if_neg (by omega),if_pos (by omega)]
  simp only [Y0d]
  rw [Y09 (by omega),Y0a (by omega)]
  rw [Y09 (l₁:=P) (by omega),Y09 (by omega),Y09 (by omega),Y0a (by omega)]
  congr 1;omega
 rw [if_neg (by omega),if_neg (by omega)]
 simp only [Y0d]
 rw [Y09 (by omega),Y09 (by omega),Y09 (by omega),Y09 (by omega)]
 rw [Y09 (l₁:=P) (by omega),Y09 (by omega),Y09 (by omega),Y09 (by omega)]
 congr 1;omega
end Go.Proofs.YtbkfnmgkcgnifaaGreat.Mdl
namespace Go.Proofs.YtbkfnmgkcgnifaaGreat
open Go.RowKit Go.Shelf W1 W2 Mdl
theorem swapT_split (g N cap base:Nat) (ok:Nat→Prop) (P X Q Y S:List Tm) (cmp:Value) (w:World) (h:X.length=Y.length) (hR:kT.R 99 w base ok (.slice (some ⟨g,0,none⟩) N cap) (P++X++Q++Y++S)) (hN:N≤10000000000000) (a b n:Nat) (ha:a=P.length) (hb:b=P.length+X.length+Q.length) (hn:n=X.length) :
  Calls Tryz.prog 128 #[.slice (some ⟨g,0,none⟩) N cap,.int .i64 a,.int .i64 b,.int .i64 n,cmp] w fun e w'=>e=.returned (.tuple #[])∧kT.R 99 w' base ok (.slice (some ⟨g,0,none⟩) N cap) (P++Y++Q++X++S)∧w.grownBy w' (some g):=by
 subst ha hb hn
 have hl:=(Kd.c03 hR).1
 simp only [Y02] at hl
 have:=swapT_any g N cap P.length (P.length+X.length+Q.length) X.length base ok _ cmp w hR (by omega) (by omega) hN
 rw [Jb8 tz P X Q Y S h] at this
 exact this
theorem rotT_any (g N cap base:Nat) (ok:Nat→Prop) (P X Y S:List Tm) (cmp:Value) (w:World) (hR:kT.R 99 w base ok (.slice (some ⟨g,0,none⟩) N cap) (P++X++Y++S)) (hX:0<X.length) (hY:0<Y.length) (hN:N≤10000000000000) (a m b:Nat) (ha:a=P.length) (hm:m=P.length+X.length) (hb:b=P.length+X.length+Y.length) :
  Calls Tryz.prog 126 #[.slice (some ⟨g,0,none⟩) N cap,.int .i64 a,.int .i64 m,.int .i64 b,cmp] w fun e w'=>e=.returned (.tuple #[])∧kT.R 99 w' base ok (.slice (some ⟨g,0,none⟩) N cap) (P++Y++X++S)∧w.grownBy w' (some g):=by
 have HR:=Y00 hR
 have hl:=(Kd.c03 hR).1
 simp only [Y02] at hl
 have wi:IntKind.i64.wrap ((m:Int) - a)=(X.length:Int):=by rw [Y0b];omega
 have wj:IntKind.i64.wrap ((b:Int) - m)=(Y.length:Int):=by rw [Y0b];omega
 have HM:=Y08 (Y07 ha (Y07 hm hb))
 have HL:=Y08 hl
 have hmN:m≤N:=by omega
 clear hR ha hm hb hl
 go_enter Tryz.func126,Tryz.ntmps126
 go_wp2
 go_loopw [10,11] (fun i j wr=>∃ A U V B:List Tm,i=.int .i64 U.length∧j=.int .i64 V.length∧J08 (0<U.length∧0<V.length∧A.length+U.length=m∧m+V.length≤N∧A++V++U++B=P++Y++X++S∧kT.R 99 wr base ok (.slice (some ⟨g,0,none⟩) N cap) (A++U++V++B)∧w.grownBy wr (some g))) (fun i j _=>(intOf i).toNat+(intOf j).toNat)
 case atStart=>exact ⟨P,X,Y,S,rfl,rfl,⟨hX,hY,HM.out.2.1.symm,by have:=HM.out;have:=HL.out;omega,rfl,HR.out,⟨rfl,rfl,rfl,Y0e _,fun _ _ _=>rfl⟩⟩⟩
 obtain ⟨A,U,V,B,rfl,rfl,hI⟩:=hrel
 obtain ⟨hU,hV,hAU,hVN,heq,hRr,hgr⟩:=hI.out
 have HI:=Y00 (Y07 heq (Y07 hRr hgr))
 generalize hi:U.length=i at *
 generalize hj:V.length=j at *
 generalize hp:A.length=p at *
 have HH:=Y08 (Y07 hi (Y07 hj (Y07 hp (Y07 hAU hVN))))
 have w1:IntKind.i64.wrap ((m:Int) - (i:Int))=(p:Int):=by rw [Y0b];omega
 clear hI heq hRr hgr hi hj hp hAU hVN
 by_cases hij:i=j
 ·subst hij
  have hb:((i:Int) != (i:Int))=false:=by simp
  have HC:=Y08 (fun w' h=>swapT_split g N cap base ok A U [] V B cmp w' (by have:=HH.out;omega) h hN p m i (by have:=HH.out;omega) (by have:=HH.out;simp;omega) (by have:=HH.out;omega))
  go_wp2_with fail
  refine (HC.out wr (by simpa using HI.out.2.1)).mono ?_
  rintro e w5 ⟨rfl,hR5,hg5⟩
  go_wp2_with fail
  go_end0
  refine ⟨rfl,?_,HI.out.2.2.both hg5⟩
  rw [← HI.out.1]
  simpa using hR5
 have hb:((i:Int) != (j:Int))=true:=by simp;omega
 by_cases hgt:j<i
 ·have hgtI:(j:Int)<(i:Int):=by omega
  obtain ⟨dd,hdd⟩:∃ dd,dd=i - j:=⟨_,rfl⟩
  have w2:IntKind.i64.wrap ((i:Int) - (j:Int))=(dd:Int):=by rw [Y0b];have:=HH.out;omega
  have HDD:=Y08 hdd
  clear hdd
  have hX1:A++U++V++B=A++U.take j++U.drop j++V++B:=by simp
  have HC:=Y08 (fun w' h=>swapT_split g N cap base ok A (U.take j) (U.drop j) V B cmp w' (by have:=HH.out;simp;omega) h hN p m j (by have:=HH.out;omega) (by have:=HH.out;simp;omega) (by have:=HH.out;simp;omega))
  have HX1:=Y08 hX1
  clear hX1 hij
  go_wp2_with fail
  refine (HC.out wr (by rw [← HX1.out];exact HI.out.2.1)).mono ?_
  rintro e w5 ⟨rfl,hR5,hg5⟩
  have HR5:=Y00 (Y07 hR5 hg5)
  clear hR5 hg5
  go_wp2_with fail
  refine ⟨⟨A++V,U.drop j,U.take j,B,?_,?_,⟨?_,?_,?_,?_,?_,HR5.out.1,HI.out.2.2.both HR5.out.2⟩⟩,?_⟩
  ·have:=HH.out;have:=HDD.out;rw [Y0p];congr 1;omega
  ·have:=HH.out;rw [Y0o];congr 1;omega
  ·have:=HH.out;rw [Y0p];omega
  ·have:=HH.out;rw [Y0o];omega
  ·have:=HH.out;rw [Y02,Y0p];omega
  ·have:=HH.out;rw [Y0o];omega
  ·rw [← HI.out.1];simp
  have:=HH.out;have:=HDD.out;simp [intOf];omega
 have hlt:i<j:=by omega
 have hltI:¬ ((j:Int)<(i:Int)):=by omega
 have hltI2:(i:Int)≤(j:Int):=by omega
 obtain ⟨dd,hdd⟩:∃ dd,dd=j - i:=⟨_,rfl⟩
 obtain ⟨q,hq⟩:∃ q,q=m+j - i:=⟨_,rfl⟩
 have w2:IntKind.i64.wrap ((j:Int) - (i:Int))=(dd:Int):=by rw [Y0b];have:=HH.out;omega
 have w3:IntKind.i64.wrap ((m:Int)+(j:Int))=(m:Int)+(j:Int):=by rw [Y0b];have:=HH.out;omega
 have w4:IntKind.i64.wrap ((m:Int)+(j:Int) - (i:Int))=(q:Int):=by rw [Y0b];have:=HH.out;omega
 have HDD:=Y08 (Y07 hdd hq)
 have hX1:A++U++V++B=A++U++V.take (j - i)++V.drop (j - i)++B:=by simp
 have HC:=Y08 (fun w' h=>swapT_split g N cap base ok A U (V.take (j - i)) (V.drop (j - i)) B cmp w' (by have:=HH.out;simp;omega) h hN p q i (by have:=HH.out;omega) (by have:=HH.out;simp;omega) (by have:=HH.out;omega))
 have HX1:=Y08 hX1
 clear hX1 hij hgt hdd hq
 go_wp2_with fail
 refine (HC.out wr (by rw [← HX1.out];exact HI.out.2.1)).mono ?_
 rintro e w5 ⟨rfl,hR5,hg5⟩
 have HR5:=Y00 (Y07 hR5 hg5)
 clear hR5 hg5
 go_wp2_with fail
 refine ⟨⟨A,V.drop (j - i),V.take (j - i),U++B,?_,?_,⟨?_,?_,?_,?_,?_,?_,HI.out.2.2.both HR5.out.2⟩⟩,?_⟩
 ·have:=HH.out;rw [Y0p];congr 1;omega
 ·have:=HH.out;have:=HDD.out;rw [Y0o];congr 1;omega
 ·have:=HH.out;rw [Y0p];omega
 ·have:=HH.out;rw [Y0o];omega
 ·have:=HH.out;rw [Y0p];omega
 ·have:=HH.out;rw [Y0o];omega
 ·rw [← HI.out.1];simp
 ·simpa using HR5.out.1
 have:=HH.out;have:=HDD.out;simp [intOf];omega
end Go.Proofs.YtbkfnmgkcgnifaaGreat
namespace Go.Proofs.YtbkfnmgkcgnifaaGreat.Mdl
theorem Jf7 (x y:Int):cmp3 y x=- cmp3 x y:=by
 unfold cmp3
 by_cases h1:x<y
 ·rw [if_neg (show ¬ y<x by omega),if_pos h1,if_pos h1];rfl
 by_cases h2:y<x
 ·rw [if_pos h2,if_neg h1,if_pos h2]
 rw [if_neg h2,if_neg h1,if_neg h1,if_neg h2];rfl
theorem J97 {x y:Int} : cmp3 x y=0↔x=y:=by
 unfold cmp3
 by_cases h1:x<y
 ·rw [if_pos h1];omega
 rw [if_neg h1]
 by_cases h2:y<x
 ·rw [if_pos h2];omega
 rw [if_neg h2];omega
theorem Jid {x y:Int} : cmp3 x y≤0↔x≤y:=by
 unfold cmp3
 by_cases h1:x<y
 ·rw [if_pos h1];omega
 rw [if_neg h1]
 by_cases h2:y<x
 ·rw [if_pos h2];omega
 rw [if_neg h2];omega
theorem Jcj {a b:Tm} : cmpT a b≤0↔(a.1<b.1∨a.1=b.1∧(a.2.1<b.2.1∨a.2.1=b.2.1∧a.2.2≤b.2.2)):=by
 unfold cmpT
 by_cases h0:cmp3 a.1 b.1=0
 ·rw [if_neg (by simpa using h0)]
  rw [J97] at h0
  by_cases h1:cmp3 a.2.1 b.2.1=0
  ·rw [if_neg (by simpa using h1),Jid]
   rw [J97] at h1
   omega
  rw [if_pos h1,Jid]
  rw [J97] at h1
  omega
 rw [if_pos h0,Jid]
 rw [J97] at h0
 omega
theorem J32 (a b:Tm):cmpT b a=- cmpT a b:=by
 unfold cmpT
 rw [Jf7 a.1 b.1,Jf7 a.2.1 b.2.1,Jf7 a.2.2 b.2.2]
 by_cases h0:cmp3 a.1 b.1=0
 ·by_cases h1:cmp3 a.2.1 b.2.1=0
  ·simp [h0,h1]
  simp [h0,h1]
 simp [h0]
theorem J2o {a b:Tm} : cmpT a b=0↔a=b:=by
 constructor
 ·intro h
  have h1:=(Jcj (a:=a) (b:=b)).1 (by omega)
  have h2:=(Jcj (a:=b) (b:=a)).1 (by rw [J32];omega)
  obtain ⟨a0,a1,a2⟩:=a
  obtain ⟨b0,b1,b2⟩:=b
  simp only at h1 h2
  obtain rfl:a0=b0:=by omega
  obtain rfl:a1=b1:=by omega
  obtain rfl:a2=b2:=by omega
  rfl
 rintro rfl
 have:=J32 a a
 omega
theorem J7k {a b c:Tm} (h:cmpT a b≤0) (k:cmpT b c≤0):cmpT a c≤0:=by
 rw [Jcj] at *
 omega
structure Ord {α:Type} (cmp:α→α→Int) (p:α→Prop):Prop where
 neg:∀ a b,p a→p b→(cmp b a≤0↔0≤cmp a b)
 trans:∀ a b c,p a→p b→p c→cmp a b≤0→cmp b c≤0→cmp a c≤0
 zero:∀ a b,p a→p b→cmp a b≤0→cmp b a≤0→a=b
theorem ordT:Ord cmpT (fun _=>True) where
 neg:=fun a b _ _=>by rw [J32 a b];omega
 trans:=fun _ _ _ _ _ _=>J7k
 zero:=fun a b _ _ h1 h2=>J2o.1 (by rw [J32 a b] at h2;omega)
def J0c {α:Type} (cmp:α→α→Int) (l:List α):Prop:=l.Pairwise (fun x y=>cmp x y≤0)
section
variable {α:Type} {cmp:α→α→Int} {p:α→Prop}
theorem Ord.le_of_not (h:Ord cmp p) {a b:α} (ha:p a) (hb:p b) (hn:¬ cmp a b<0):cmp b a≤0:=(h.neg a b ha hb).2 (by omega)
theorem Ord.refl (h:Ord cmp p) {a:α} (ha:p a):cmp a a≤0:=by
 rcases Int.le_total (cmp a a) 0 with h1 | h1
 ·exact h1
 exact (h.neg a a ha ha).2 h1
theorem J4c (h:Ord cmp p) {Z1 Z2:List α} {x:α} (hx:p x) (hp:∀ z ∈ Z1++Z2,p z) (hs:J0c cmp (Z1++Z2)) (h2:∀ z ∈ Z2,cmp x z≤0) (h1:∀ y,Z1.getLast?=some y→cmp y x≤0):J0c cmp (Z1++x::Z2):=by
 unfold J0c at *
 rw [List.pairwise_append] at hs ⊢
 obtain ⟨s1,s2,s3⟩:=hs
 have hz:∀ z ∈ Z1,cmp z x≤0:=by
  intro z hz
  have hne:Z1≠[]:=List.ne_nil_of_mem hz
  have hl:Z1.getLast?=some (Z1.getLast hne):=List.getLast?_eq_some_getLast hne
  have hy:=h1 _ hl
  by_cases hzl:z=Z1.getLast hne
  ·rw [hzl];exact hy
  have hd:Z1=Z1.dropLast++[Z1.getLast hne]:=(List.dropLast_concat_getLast hne).symm
  rw [hd] at s1
  have hz':z ∈ Z1.dropLast:=by
   rw [hd] at hz
   rcases Y0m.1 hz with hz | hz
   ·exact hz
   exact absurd (Y11.1 hz) hzl
  have:=(List.pairwise_append.1 s1).2.2 z hz' _ (Y11.2 rfl)
  exact h.trans _ _ _ (hp z (by simp [hz])) (hp _ (by simp [List.getLast_mem])) hx this hy
 refine ⟨s1,List.pairwise_cons.2 ⟨h2,s2⟩,fun z hz1 y hy=>?_⟩
 rcases List.mem_cons.1 hy with rfl | hy
 ·exact hz z hz1
 exact s3 z hz1 y hy
theorem J47 (h:Ord cmp p):∀ {l m:List α},(∀ z ∈ l,p z)→l.Perm m→J0c cmp l→J0c cmp m→l=m
 | [],m,_,hp,_,_=>(List.nil_perm.1 hp).symm
 | a::l,[],_,hp,_,_=>absurd hp.symm (by simp)
 | a::l,b::m,hz,hp,s1,s2=>by
  have ha:=hz a Y03
  have hzb:p b:=hz b (hp.mem_iff.2 Y03)
  have e:a=b:=by
   rcases List.mem_cons.1 (hp.mem_iff.1 Y03) with h1 | h1
   ·exact h1
   rcases List.mem_cons.1 (hp.mem_iff.2 (Y03 (a:=b) (l:=m))) with h2 | h2
   ·exact h2.symm
   exact h.zero a b ha hzb ((List.pairwise_cons.1 s1).1 b h2) ((List.pairwise_cons.1 s2).1 a h1)
  subst e
  rw [J47 h (fun z hz'=>hz z (Y04 _ hz')) (List.Perm.cons_inv hp) (List.pairwise_cons.1 s1).2 (List.pairwise_cons.1 s2).2]
end
end Go.Proofs.YtbkfnmgkcgnifaaGreat.Mdl
namespace Go.Proofs.YtbkfnmgkcgnifaaGreat
open Go.RowKit Go.Shelf W1 W2 Mdl
theorem Jrg {P:Program} {ops:Array Oper} {Q:Exit→Act→World→Prop} {oi:Oper} {N:Option Tmp} {a:Act} {w:World} {K:Act→World→Prop} {f:FuncId} {fn:Func} {gv:Operand} {aas:Array Operand} {ts:Array TypeId} (hf:P.funcs[f]?=some fn) (hname:(fn.name == "runtime.NumGoroutine")=false) (hb:fn.body.isSome=true) (args:Array Value)
  (hw:Region.wanted oi (yielded ops a.tmps)=true) (hN:oi.dst=N) (hop:oi.op=.call { callee:=.value gv,args:=aas,argTypes:=ts }) (hg:a.eval gv=.func (.func f) #[] #[]) (hargs:aas.map a.eval=args)
  (h:Calls P f args w fun e w'=>∃ v,e=.returned v∧K (a.put N v) w'):if Region.wanted oi (yielded ops a.tmps)=true then Oper.wp P oi a w K Q else K (a.put N undef) w:=by
 refine Jrm f args hw hN ?_ h
 have he:=Jf1 hf hname hb args w
 have hargs':aas.map (fun x=>a.eval x)=args:=hargs
 unfold execOp
 simp [hop,resolve,Deferred.ofValue,invoke,hg,hargs',he]
theorem gv0 {P:Program} {ops:Array Oper} {Q:Exit→Act→World→Prop} {oi:Oper} {N:Option Tmp} {a:Act} {w:World} {K:Act→World→Prop} {f:FuncId} {fn:Func} {gv:Operand} {aas:Array Operand} {ts:Array TypeId} (hf:P.funcs[f]?=some fn) (args:Array Value) (h:Calls P f args w fun e w'=>∃ v,e=.returned v∧K (a.put N v) w') (hname:(fn.name== "runtime.NumGoroutine")=false:=by kernel_rfl) (hb:fn.body.isSome=true:=by rfl) (hw:Region.wanted oi (yielded ops a.tmps)=true:=by rfl) (hN:oi.dst=N:=by rfl) (hop:oi.op=.call { callee:=.value gv,args:=aas,argTypes:=ts }:=by rfl) (hg:a.eval gv=.func (.func f) #[] #[]:=by rfl) (hargs:aas.map a.eval=args:=by (try simp only [List.map_toArray,List.map_cons,List.map_nil]);first | done | rfl):if Region.wanted oi (yielded ops a.tmps)=true then Oper.wp P oi a w K Q else K (a.put N undef) w:=Jrg hf hname hb args hw hN hop hg hargs h
theorem insT_any (g N cap base:Nat) (ok:Nat→Prop) (P X S:List Tm) (w:World) (hR:kT.R 99 w base ok (.slice (some ⟨g,0,none⟩) N cap) (P++X++S)) (hok:ok g) (hN:N≤10000000000000) (a b:Nat) (ha:a=P.length) (hb:b=P.length+X.length) :
  Calls Tryz.prog 122 #[.slice (some ⟨g,0,none⟩) N cap,.int .i64 a,.int .i64 b,.func (.func 115) #[] #[]] w fun e w'=>e=.returned (.tuple #[])∧∃ X',X'.Perm X∧J0c cmpT X'∧kT.R 99 w' base ok (.slice (some ⟨g,0,none⟩) N cap) (P++X'++S)∧w.grownBy w' (some g):=by
 have HR:=Y00 hR
 have hl:=(Kd.c03 hR).1
 simp only [Y02] at hl
 have wa:IntKind.i64.wrap ((a:Int)+1)=((a+1:Nat):Int):=by rw [Y0b];omega
 have HM:=Y08 (Y07 ha (Y07 hb hl))
 clear hR ha hb hl
 cases X with
 | nil =>
  go_enter Tryz.func122,Tryz.ntmps122
  go_wp2
  go_loopw [8] (fun i wr=>i=.int .i64 ((a+1:Nat):Int)∧wr=w) (fun i _=>0)
  case atStart=>exact ⟨rfl,rfl⟩
  obtain ⟨rfl,rfl⟩:=hrel
  have hnl:¬ (((a+1:Nat):Int)<(b:Int)):=by have:=HM.out;simp at this;omega
  have hnl2:(b:Int)≤((a+1:Nat):Int):=by omega
  go_wp2_with fail
  go_end0
  exact ⟨rfl,List.Pairwise.nil,by simpa using HR.out,⟨rfl,rfl,rfl,Y0e _,fun _ _ _=>rfl⟩⟩
 | cons x0 X0=>?_
 go_enter Tryz.func122,Tryz.ntmps122
 go_wp2
 go_loopw [8] (fun i wr=>∃ (k:Nat) (Z R:List Tm),i=.int .i64 k∧J08 (k=a+Z.length∧0<Z.length∧(Z++R).Perm (x0::X0)∧J0c cmpT Z∧kT.R 99 wr base ok (.slice (some ⟨g,0,none⟩) N cap) (P++Z++R++S)∧w.grownBy wr (some g))) (fun i _=>b - (intOf i).toNat)
 case atStart=>exact ⟨a+1,[x0],X0,by go_num,⟨rfl,by simp,List.Perm.refl _,List.pairwise_singleton _ _,by simpa using HR.out,⟨rfl,rfl,rfl,Y0e _,fun _ _ _=>rfl⟩⟩⟩
 obtain ⟨k,Z,R,rfl,hI⟩:=hrel
 by_cases hlt:k<b
 rotate_left
 ·have hlt':¬ ((k:Int)<(b:Int)):=by omega
  have hle':(b:Int)≤(k:Int):=by omega
  go_wp2_with fail
  go_end0
  obtain ⟨h1,h2,h3,h4,h5,h6⟩:=hI.out
  have hR0:R=[]:=by
   have h:=h3.length_eq
   have:=HM.out
   simp only [Y02,Y0z] at h this
   exact List.eq_nil_of_length_eq_zero (by omega)
  subst hR0
  exact ⟨rfl,Z,by simpa using h3,h4,by simpa using h5,h6⟩
 have hlt':(k:Int)<(b:Int):=by omega
 cases R with
 | nil =>
  exfalso
  have h:=hI.out.2.2.1.length_eq
  have:=HM.out
  have:=hI.out.1
  simp at h
  simp only [Y0z] at *
  omega
 | cons x R=>?_
 have wk:IntKind.i64.wrap ((k:Int)+1)=(k:Int)+1:=by rw [Y0b];have:=HM.out;simp only [Y0z] at this;omega
 have FIN:=Y08 (fun (Z1 Z2:List Tm) (V:World) (hz:Z=Z1++Z2) (h2:∀ z ∈ Z2,cmpT x z≤0) (h1:∀ y,Z1.getLast?=some y→cmpT y x≤0) (hr:kT.R 99 V base ok (.slice (some ⟨g,0,none⟩) N cap) (P++Z1++x::Z2++R++S)) (hg:w.grownBy V (some g)) =>
  show ∃ (k1:Nat) (Z' R':List Tm),Value.int .i64 ((k:Int)+1)=.int .i64 (k1:Int)∧J08 (k1=a+Z'.length∧0<Z'.length∧(Z'++R').Perm (x0::X0)∧J0c cmpT Z'∧kT.R 99 V base ok (.slice (some ⟨g,0,none⟩) N cap) (P++Z'++R'++S)∧w.grownBy V (some g)) from
  ⟨k+1,Z1++x::Z2,R,by go_num,⟨by have:=hI.out.1;rw [hz] at this;simp at this ⊢;omega,by simp;omega,by
   have hp:=hI.out.2.2.1
   rw [hz] at hp
   refine List.Perm.trans ?_ hp
   simp only [Y0d,List.cons_append]
   exact List.Perm.append_left _ (List.perm_middle (l₁:=Z2) (l₂:=R) (a:=x)).symm,J4c ordT trivial (fun _ _=>trivial) (by rw [← hz];exact hI.out.2.2.2.1) h2 h1,by simpa using hr,hg⟩⟩)
 go_wp2_with fail
 go_loopw [9] (fun j wr=>∃ (q:Nat) (Z1 Z2:List Tm),j=.int .i64 q∧J08 (q=a+Z1.length∧Z=Z1++Z2∧(∀ z ∈ Z2,cmpT x z≤0)∧kT.R 99 wr base ok (.slice (some ⟨g,0,none⟩) N cap) (P++Z1++x::Z2++R++S)∧w.grownBy wr (some g))) (fun j _=>(intOf j).toNat)
 case atStart=>exact ⟨k,Z,[],rfl,⟨hI.out.1,by simp,by simp,by simpa using hI.out.2.2.2.2.1,hI.out.2.2.2.2.2⟩⟩
 obtain ⟨q,Z1,Z2,rfl,hJ⟩:=hrel
 rcases List.eq_nil_or_concat Z1 with rfl | ⟨Z0,y,rfl⟩
 ·have hqa:¬ ((a:Int)<(q:Int)):=by have:=hJ.out.1;simp at this;omega
  have hqa2:(q:Int)≤(a:Int):=by omega
  go_upto_region 4 with fail
  refine sr1 17 (fun _=>True) [] trivial fun hJ0=>?_
  refine pv 0 ?_
  refine pv 1 ?_
  refine pv 2 ?_
  refine pv 3 ?_
  refine uv 4 ?_
  refine uv 5 ?_
  refine uv 6 ?_
  refine uv 7 ?_
  refine uv 8 ?_
  refine uv 9 ?_
  refine uv 10 ?_
  refine uv 11 ?_
  refine uv 12 ?_
  refine uv 13 ?_
  refine uv 14 ?_
  refine uv 15 ?_
  refine pv 16 ?_
  refine dn0 ?_
  go_wp2_with fail
  refine ⟨FIN.out [] Z2 _ hJ.out.2.1 hJ.out.2.2.1 (by simp) (Kd.c0b hJ.out.2.2.2.1) (hJ.out.2.2.2.2.both (J0b (J05 (Y0f _ _)))),by simp [intOf];omega⟩
 obtain ⟨hq,hz,h2,hRr,hgr⟩:=hJ.out
 obtain ⟨r,hr⟩:∃ r,r=a+Z0.length:=⟨_,rfl⟩
 have hqr:q=r+1:=by simp at hq;omega
 have hrow:P++Z0.concat y++x::Z2++R++S=(P++Z0)++y::x::(Z2++R++S):=by simp
 rw [hrow] at hRr
 have hlen:=(Kd.c03 hRr).1
 simp only [Y02,Y0z] at hlen
 have hPa:=HM.out.1
 have gx:((P++Z0)++y::x::(Z2++R++S)).getD q tz=x:=by
  rw [Y01,Y09 (by simp;omega),Y02,show q - (P.length+Z0.length)=1 by omega];rfl
 have gy:((P++Z0)++y::x::(Z2++R++S)).getD r tz=y:=by
  rw [Y01,Y09 (by simp;omega),Y02,show r - (P.length+Z0.length)=0 by omega];rfl
 obtain ⟨⟨c0,c1,c2⟩,_,_⟩:=J10 hRr (i:=q) (by omega)
 obtain ⟨⟨d0,d1,d2⟩,_,_⟩:=J10 hRr (i:=r) (by omega)
 rw [gx] at c0 c1 c2
 rw [gy] at d0 d1 d2
 have HJ:=Y00 (Y07 hz (Y07 h2 (Y07 hRr hgr)))
 have HQ:=Y08 (Y07 hr (Y07 hqr hlen))
 have haq:(a:Int)<(q:Int):=by omega
 have hq0:(0:Int)≤(q:Int):=by omega
 have hqN:(q:Int)<(N:Int):=by omega
 have wq:IntKind.i64.wrap ((q:Int) - 1)=(r:Int):=by rw [Y0b];omega
 have hr0:(0:Int)≤(r:Int):=by omega
 have hrN:(r:Int)<(N:Int):=by omega
 clear hq hz h2 hRr hgr hr hqr hrow hlen hPa gx gy hJ
 go_upto_region 4 with fail
 refine sr1 17 (fun w'=>w'.cell? ⟨g,q*3,none⟩=some (.int .i64 x.1)∧w'.cell? ⟨g,q*3+1,none⟩=some (.int .i64 x.2.1)∧w'.cell? ⟨g,q*3+2,none⟩=some (.int .i64 x.2.2)∧w'.cell? ⟨g,r*3,none⟩=some (.int .i64 y.1)∧w'.cell? ⟨g,r*3+1,none⟩=some (.int .i64 y.2.1)∧w'.cell? ⟨g,r*3+2,none⟩=some (.int .i64 y.2.2)) [] ⟨c0,c1,c2,d0,d1,d2⟩ fun hJ0=>?_
 have HD:=Y00 (Y07 (Kd.c0b HJ.out.2.2.1) (HJ.out.2.2.2.both (J0b (J05 (Y0f wr.heap.size wr)))))
 clear c0 c1 c2 d0 d1 d2
 generalize wr.drew=wd at *
 refine pv 0 ?_
 refine pv 1 ?_
 refine pv 2 ?_
 refine pv 3 ?_
 refine pv 4 ?_
 refine pv 5 ?_
 refine pv 6 ?_
 refine pv 7 ?_
 refine tv6 8 ?_
 refine pv 9 ?_
 refine pv 10 ?_
 refine pv 11 ?_
 refine pv 12 ?_
 refine tv6 13 ?_
 refine ov 14 fun K hK=>?_
 have CM:=J4q x y wd
 simp only [tmV] at CM
 refine gv0 Tryz.func115 #[.agg #[.int .i64 x.1,.int .i64 x.2.1,.int .i64 x.2.2],.agg #[.int .i64 y.1,.int .i64 y.2.1,.int .i64 y.2.2]] ?_
 refine CM.mono ?_
 clear CM
 rintro e w5 ⟨rfl,hb5⟩
 have HS5:=Y00 (Y07 (Kd.c01 HD.out.1 hb5) (HD.out.2.both (J0b hb5)))
 refine ⟨_,rfl,hK.out _ _ (st6 hb5 hJ0) (fun hJ0=>?_)⟩
 clear hb5 HD
 by_cases hcx:cmpT x y<0
 rotate_left
 ·skip
  have hcd:decide (cmpT x y<0)=false:=Y0s hcx
  have hcg:0≤cmpT x y:=by omega
  clear hK K
  refine nm0 _ ?_
  refine pv 15 ?_
  refine pv 16 ?_
  refine dn0 ?_
  have HCX:=Y08 hcx
  go_wp2_with fail
  refine ⟨FIN.out (Z0.concat y) Z2 _ HJ.out.1 HJ.out.2.1 (fun y' hy'=>?_) (by have h:=HS5.out.1;simpa using h) HS5.out.2,by simp [intOf];omega⟩
  simp at hy'
  subst hy'
  exact ordT.le_of_not trivial trivial HCX.out
 have hcd:decide (cmpT x y<0)=true:=Y0r hcx
 clear hK K
 refine nm0 _ ?_
 refine pv 15 ?_
 refine pv 16 ?_
 refine dn0 ?_
 have HCX:=Y08 hcx
 clear hJ0
 obtain ⟨⟨c0,c1,c2⟩,cf,_⟩:=J10 (Kd.c0b HS5.out.1) (i:=q) (by have:=HQ.out;omega)
 obtain ⟨⟨d0,d1,d2⟩,_,_⟩:=J10 (Kd.c0b HS5.out.1) (i:=r) (by have:=HQ.out;omega)
 have hPa:=HM.out.1
 have gx:((P++Z0)++y::x::(Z2++R++S)).getD q tz=x:=by
  have:=HQ.out
  rw [Y01,Y09 (by simp;omega),Y02,show q - (P.length+Z0.length)=1 by omega];rfl
 have gy:((P++Z0)++y::x::(Z2++R++S)).getD r tz=y:=by
  have:=HQ.out
  rw [Y01,Y09 (by simp;omega),Y02,show r - (P.length+Z0.length)=0 by omega];rfl
 rw [gx] at c0 c1 c2
 rw [gy] at d0 d1 d2
 have f0:w5.drew.frozen? ⟨g,q*3,none⟩=false:=cf 0
 have f1:w5.drew.frozen? ⟨g,q*3+1,none⟩=false:=cf 1
 have f2:w5.drew.frozen? ⟨g,q*3+2,none⟩=false:=cf 2
 clear gx gy hPa cf
 go_upto_region 6 with fail
 refine sr1 18 (fun w'=>w'.cell? ⟨g,q*3,none⟩=some (.int .i64 x.1)∧w'.cell? ⟨g,q*3+1,none⟩=some (.int .i64 x.2.1)∧w'.cell? ⟨g,q*3+2,none⟩=some (.int .i64 x.2.2)∧w'.cell? ⟨g,r*3,none⟩=some (.int .i64 y.1)∧w'.cell? ⟨g,r*3+1,none⟩=some (.int .i64 y.2.1)∧w'.cell? ⟨g,r*3+2,none⟩=some (.int .i64 y.2.2)) [15,17] ⟨c0,c1,c2,d0,d1,d2⟩ fun hJ0=>?_
 have HD:=Y00 (Y07 (Kd.c0b HS5.out.1) (HS5.out.2.both (J0b (J05 (Y0f w5.heap.size w5)))))
 clear c0 c1 c2 d0 d1 d2
 generalize w5.drew=wd5 at *
 refine pv 0 ?_
 refine pv 1 ?_
 refine pv 2 ?_
 refine pv 3 ?_
 refine pv 4 ?_
 refine pv 5 ?_
 refine pv 6 ?_
 refine pv 7 ?_
 refine pv 8 ?_
 refine tv6 9 ?_
 refine pv 10 ?_
 refine pv 11 ?_
 refine pv 12 ?_
 refine tv6 13 ?_
 refine pv 14 ?_
 obtain ⟨_,_,hst⟩:=J10 HD.out.1 (i:=q) (by have:=HQ.out;omega)
 have HST:=Y00 (hst y)
 clear hst
 refine la0 15 (bs 18 65535) (N:=none) fun K hK=>?_
 refine sk0 ?_
 refine hK.out _ _ ?_
 clear hK K
 have h6:kT.R 99 (((wd5.setCell ⟨g,q*3,none⟩ (.int .i64 y.1)).setCell ⟨g,q*3+1,none⟩ (.int .i64 y.2.1)).setCell ⟨g,q*3+2,none⟩ (.int .i64 y.2.2)) base ok (.slice (some ⟨g,0,none⟩) N cap) (((P++Z0)++y::x::(Z2++R++S)).set q y)∧w.grownBy (((wd5.setCell ⟨g,q*3,none⟩ (.int .i64 y.1)).setCell ⟨g,q*3+1,none⟩ (.int .i64 y.2.1)).setCell ⟨g,q*3+2,none⟩ (.int .i64 y.2.2)) (some g):=⟨HST.out.1,HD.out.2.both HST.out.2⟩
 have H6:=Y00 h6
 clear h6 hJ0 f0 f1 f2
 generalize (((wd5.setCell ⟨g,q*3,none⟩ (.int .i64 y.1)).setCell ⟨g,q*3+1,none⟩ (.int .i64 y.2.1)).setCell ⟨g,q*3+2,none⟩ (.int .i64 y.2.2))=w6 at *
 obtain ⟨⟨z0,z1,z2⟩,zf,hz⟩:=J10 H6.out.1 (i:=r) (by have:=HQ.out;omega)
 have g0:w6.frozen? ⟨g,r*3,none⟩=false:=zf 0
 have g1:w6.frozen? ⟨g,r*3+1,none⟩=false:=zf 1
 have g2:w6.frozen? ⟨g,r*3+2,none⟩=false:=zf 2
 have HZ:=Y00 (hz x)
 clear hz zf
 generalize (((P++Z0)++y::x::(Z2++R++S)).set q y).getD r tz=pq at *
 refine pv 16 ?_
 refine la0 17 (bs 18 262143) (N:=none) fun K hK=>?_
 refine sk0 ?_
 refine hK.out _ _ ?_
 clear hK K
 refine dn0 ?_
 have hset:(((P++Z0)++y::x::(Z2++R++S)).set q y).set r x=P++Z0++x::(y::Z2)++R++S:=by
  have h1:=HQ.out
  have h2:=HM.out.1
  rw [List.set_append_right _ _ (by simp;omega),Y02,show q - (P.length+Z0.length)=1 by omega]
  rw [List.set_append_right _ _ (by simp;omega),Y02,show r - (P.length+Z0.length)=0 by omega]
  simp
 have H7:=Y00 (show kT.R 99 (((w6.setCell ⟨g,r*3,none⟩ (.int .i64 x.1)).setCell ⟨g,r*3+1,none⟩ (.int .i64 x.2.1)).setCell ⟨g,r*3+2,none⟩ (.int .i64 x.2.2)) base ok (.slice (some ⟨g,0,none⟩) N cap) (P++Z0++x::(y::Z2)++R++S)∧w.grownBy (((w6.setCell ⟨g,r*3,none⟩ (.int .i64 x.1)).setCell ⟨g,r*3+1,none⟩ (.int .i64 x.2.1)).setCell ⟨g,r*3+2,none⟩ (.int .i64 x.2.2)) (some g) from ⟨by rw [← hset];exact HZ.out.1,H6.out.2.both HZ.out.2⟩)
 clear hset
 go_wp2_with fail
 refine ⟨⟨r,Z0,y::Z2,by first | rfl | (rw [wq]),⟨HQ.out.1,by rw [HJ.out.1];simp,fun z hz=>?_,H7.out.1,H7.out.2⟩⟩,by have:=HQ.out;simp [intOf];omega⟩
 rcases List.mem_cons.1 hz with rfl | hz
 ·exact Int.le_of_lt HCX.out
 exact HJ.out.2.1 z hz
theorem J5q {a b c:Tm} (h:cmpT a b≤0) (k:cmpT b c<0):cmpT a c<0:=by
 have h1:=J7k h (Int.le_of_lt k)
 by_cases h2:cmpT a c=0
 ·have:=J2o.1 h2
  subst this
  have h3:=J32 a b
  omega
 omega
theorem sorted_getD {l:List Tm} (hs:J0c cmpT l) {i j:Nat} (h:i≤j) (hj:j<l.length):cmpT (l.getD i tz) (l.getD j tz)≤0:=by
 rw [Y01,Y01,Y05 (by omega),Y05 hj]
 rcases Nat.lt_or_eq_of_le h with h | h
 ·exact List.pairwise_iff_getElem.1 hs i j (by omega) hj h
 subst h;exact Int.le_of_eq (J2o.2 rfl)
def MergePost (g N cap base:Nat) (ok:Nat→Prop) (P X Y S:List Tm) (w:World) (e:Ending) (w':World):Prop :=
 e=.returned (.tuple #[])∧∃ Z,Z.Perm (X++Y)∧J0c cmpT Z∧kT.R 99 w' base ok (.slice (some ⟨g,0,none⟩) N cap) (P++Z++S)∧w.grownBy w' (some g)
theorem sym_one (g N cap base:Nat) (ok:Nat→Prop) (P Y S:List Tm) (x:Tm) (w:World) (hR:kT.R 99 w base ok (.slice (some ⟨g,0,none⟩) N cap) (P++x::Y++S)) (hY:0<Y.length) (hs:J0c cmpT Y) (hN:N≤10000000000000) (a m b:Nat) (ha:a=P.length) (hm:m=P.length+1) (hb:b=P.length+1+Y.length) :
  Calls Tryz.prog 123 #[.slice (some ⟨g,0,none⟩) N cap,.int .i64 a,.int .i64 m,.int .i64 b,.func (.func 115) #[] #[]] w (MergePost g N cap base ok P [x] Y S w):=by
 have HR:=Y00 hR
 have hl:=(Kd.c03 hR).1
 simp only [Y02,Y0z] at hl
 have wi:IntKind.i64.wrap ((m:Int) - a)=1:=by rw [Y0b];omega
 have HM:=Y08 (Y07 ha (Y07 hm (Y07 hb hl)))
 clear hR ha hm hb hl
 go_enter Tryz.func123,Tryz.ntmps123
 go_wp2
 go_loopw [10,11] (fun i j wr=>∃ p q:Nat,i=.int .i64 p∧j=.int .i64 q∧m≤p∧p≤q∧q≤b∧J08 (kT.R 99 wr base ok (.slice (some ⟨g,0,none⟩) N cap) (P++x::Y++S)∧w.grownBy wr (some g)∧(∀ k,m≤k→k<p→cmpT (Y.getD (k - m) tz) x<0)∧(∀ k,q≤k→k<b→¬ cmpT (Y.getD (k - m) tz) x<0))) (fun i j _=>(intOf j).toNat - (intOf i).toNat)
 case atStart=>exact ⟨m,b,rfl,rfl,Y0e _,by have:=HM.out;omega,Y0e _,HR.out,⟨rfl,rfl,rfl,Y0e _,fun _ _ _=>rfl⟩,fun k h1 h2=>by omega,fun k h1 h2=>by omega⟩
 obtain ⟨p,q,rfl,rfl,hmp,hpq,hqb,hI⟩:=hrel
 by_cases hlt:p<q
 ·have hltI:(p:Int)<(q:Int):=by omega
  have hM:=HM.out
  obtain ⟨h,hh⟩:∃ h,h=(p+q) / 2:=⟨_,rfl⟩
  have w1:IntKind.i64.wrap ((p:Int)+(q:Int))=(p:Int)+(q:Int):=by rw [Y0b];omega
  have w2:IntKind.u64.wrap ((p:Int)+(q:Int))=(p:Int)+(q:Int):=by simp only [IntKind.wrap];simp [IntKind.bits,IntKind.signed];omega
  have w3:IntKind.i64.wrap (((p:Int)+(q:Int)) / 2)=(h:Int):=by rw [Y0b];omega
  have w4:IntKind.i64.wrap ((h:Int)+1)=(h:Int)+1:=by rw [Y0b];omega
  have gy:(P++x::Y++S).getD h tz=Y.getD (h - m) tz:=by
   rw [Y01,Y0d,Y09 (by omega),List.cons_append,show h - P.length=(h - m)+1 by omega,List.getElem?_cons_succ,Y0a (by omega),Y01]
  have gx:(P++x::Y++S).getD a tz=x:=by
   rw [Y01,Y0d,Y09 (by omega),show a - P.length=0 by omega];rfl
  obtain ⟨⟨c0,c1,c2⟩,_,_⟩:=J10 hI.out.1 (i:=h) (by omega)
  obtain ⟨⟨d0,d1,d2⟩,_,_⟩:=J10 hI.out.1 (i:=a) (by omega)
  rw [gy] at c0 c1 c2
  rw [gx] at d0 d1 d2
  have hh0:(0:Int)≤(h:Int):=by omega
  have hhN:(h:Int)<(N:Int):=by omega
  have ha0:(0:Int)≤(a:Int):=by omega
  have haN:(a:Int)<(N:Int):=by omega
  generalize hy:Y.getD (h - m) tz=y at *
  have HY:=Y08 (Y07 hh hy)
  clear gy gx hM hh hy
  go_upto_region 5 with fail
  refine sr1 11 (fun w'=>w'.cell? ⟨g,h*3,none⟩=some (.int .i64 y.1)∧w'.cell? ⟨g,h*3+1,none⟩=some (.int .i64 y.2.1)∧w'.cell? ⟨g,h*3+2,none⟩=some (.int .i64 y.2.2)∧w'.cell? ⟨g,a*3,none⟩=some (.int .i64 x.1)∧w'.cell? ⟨g,a*3+1,none⟩=some (.int .i64 x.2.1)∧w'.cell? ⟨g,a*3+2,none⟩=some (.int .i64 x.2.2)) [] ⟨c0,c1,c2,d0,d1,d2⟩ fun hJ0=>?_
  have HD:=Y00 (Y07 (Kd.c0b hI.out.1) (hI.out.2.1.both (J0b (J05 (Y0f wr.heap.size wr)))))
  clear c0 c1 c2 d0 d1 d2
  generalize wr.drew=wd at *
  refine pv 0 ?_
  refine pv 1 ?_
  refine pv 2 ?_
  refine pv 3 ?_
  refine tv6 4 ?_
  refine pv 5 ?_
  refine pv 6 ?_
  refine pv 7 ?_
  refine tv6 8 ?_
  refine ov 9 fun K hK=>?_
  have CM:=J4q y x wd
  simp only [tmV] at CM
  refine gv0 Tryz.func115 #[.agg #[.int .i64 y.1,.int .i64 y.2.1,.int .i64 y.2.2],.agg #[.int .i64 x.1,.int .i64 x.2.1,.int .i64 x.2.2]] ?_
  refine CM.mono ?_
  clear CM
  rintro e w5 ⟨rfl,hb5⟩
  have HS5:=Y00 (Y07 (Kd.c01 HD.out.1 hb5) (HD.out.2.both (J0b hb5)))
  refine ⟨_,rfl,hK.out _ _ (st6 hb5 hJ0) (fun hJ0=>?_)⟩
  clear hb5 HD
  clear hK K
  refine nm0 _ ?_
  refine pv 10 ?_
  refine dn0 ?_
  clear hJ0
  have HCX:=Y08 (Int.lt_or_le (cmpT y x) 0)
  by_cases hcx:cmpT y x<0
  ·have hcd:decide (cmpT y x<0)=true:=Y0r hcx
   have HX:=Y08 hcx
   go_wp2_with fail
   have hY2:=HY.out
   have hM:=HM.out
   refine ⟨⟨h+1,q,by go_num,rfl,by omega,by omega,hqb,HS5.out.1,HS5.out.2,fun k hk1 hk2=>?_,hI.out.2.2.2⟩,by simp [intOf];omega⟩
   refine J5q (sorted_getD hs (show k - m≤h - m by omega) (by omega)) ?_
   rw [hY2.2];exact HX.out
  have hcd:decide (cmpT y x<0)=false:=Y0s hcx
  have hcg:0≤cmpT y x:=by omega
  have HX:=Y08 hcx
  go_wp2_with fail
  have hY2:=HY.out
  have hM:=HM.out
  refine ⟨⟨p,h,rfl,rfl,hmp,by omega,by omega,HS5.out.1,HS5.out.2,hI.out.2.2.1,fun k hk1 hk2 hk3=>?_⟩,by simp [intOf];omega⟩
  refine HX.out ?_
  rw [← hY2.2]
  exact J5q (sorted_getD hs (show h - m≤k - m by omega) (by omega)) hk3
 have hltI:¬ (p:Int)<(q:Int):=by omega
 have hltI2:(q:Int)≤(p:Int):=by omega
 obtain rfl:p=q:=by omega
 obtain ⟨t,ht⟩:∃ t,p=t+1:=⟨p - 1,by have:=HM.out;omega⟩
 have wp1:IntKind.i64.wrap ((p:Int) - 1)=(t:Int):=by rw [Y0b];have:=HM.out;omega
 have HT:=Y08 (Y07 ht (Y07 hmp hqb))
 clear ht
 go_wp2_with fail
 go_loopw [13] (fun i wr=>∃ (k:Nat) (A B:List Tm),i=.int .i64 k∧J08 (k=a+A.length∧k≤t∧Y=A++B∧kT.R 99 wr base ok (.slice (some ⟨g,0,none⟩) N cap) (P++A++x::B++S)∧w.grownBy wr (some g))) (fun i _=>t - (intOf i).toNat)
 case atStart=>exact ⟨a,[],Y,rfl,⟨rfl,by have:=HM.out;have:=HT.out;omega,rfl,by simpa using hI.out.1,hI.out.2.1⟩⟩
 obtain ⟨k,A,B,rfl,hJ⟩:=hrel
 by_cases hkt:k<t
 rotate_left
 ·have hktI:¬ (k:Int)<(t:Int):=by omega
  have hktI2:(t:Int)≤(k:Int):=by omega
  go_wp2_with fail
  refine bodyPost_ret (results_none rfl _ _ _) rfl ⟨rfl,A++x::B,?_,?_,by rw [← Y0d];exact hJ.out.2.2.2.1,hJ.out.2.2.2.2⟩
  ·rw [hJ.out.2.2.1]
   exact List.perm_middle
  have h1:=hJ.out
  have h2:=HM.out
  have h3:=HT.out
  have hYe:=h1.2.2.1
  refine J4c ordT trivial (fun _ _=>trivial) (by rw [← hYe];exact hs) (fun z hz=>?_) (fun y hy=>?_)
  ·obtain ⟨i,hi,rfl⟩:=List.getElem_of_mem hz
   have hlen:Y.length=A.length+B.length:=by rw [hYe];simp
   have:=hI.out.2.2.2 (p+i) (by omega) (by omega)
   have e:Y.getD (p+i - m) tz=B[i]:=by
    rw [hYe,Y01,Y09 (by omega),show p+i - m - A.length=i by omega,Y05 hi];rfl
   rw [e] at this
   exact ordT.le_of_not trivial trivial (Int.not_lt.2 this)
  have hne:A≠[]:=by rintro rfl;simp at hy
  have hlen:Y.length=A.length+B.length:=by rw [hYe];simp
  have hpos:0<A.length:=List.length_pos_iff.2 hne
  have:=hI.out.2.2.1 (p - 1) (by omega) (by omega)
  have e:Y.getD (p - 1 - m) tz=y:=by
   rw [hYe,Y01,Y0a (by omega),show p - 1 - m=A.length - 1 by omega,← List.getLast?_eq_getElem?,hy];rfl
  rw [e] at this
  exact Int.le_of_lt this
 have hktI:(k:Int)<(t:Int):=by omega
 cases B with
 | nil =>
  exfalso
  have h1:=hJ.out
  have h2:=HM.out
  have h3:=HT.out
  have h4:Y.length=A.length:=by rw [h1.2.2.1];simp
  omega
 | cons y B=>?_
 obtain ⟨hk,hkt2,hYe,hRr,hgr⟩:=hJ.out
 obtain ⟨r,hr⟩:∃ r,r=k+1:=⟨_,rfl⟩
 have hPa:=HM.out.1
 have hrow:P++A++x::(y::B)++S=(P++A)++x::y::(B++S):=by simp
 rw [hrow] at hRr
 have hlen:=(Kd.c03 hRr).1
 simp only [Y02,Y0z] at hlen
 have gx:((P++A)++x::y::(B++S)).getD k tz=x:=by
  rw [Y01,Y09 (by simp;omega),Y02,show k - (P.length+A.length)=0 by omega];rfl
 have gy:((P++A)++x::y::(B++S)).getD r tz=y:=by
  rw [Y01,Y09 (by simp;omega),Y02,show r - (P.length+A.length)=1 by omega];rfl
 obtain ⟨⟨c0,c1,c2⟩,cf,_⟩:=J10 hRr (i:=k) (by omega)
 obtain ⟨⟨d0,d1,d2⟩,_,_⟩:=J10 hRr (i:=r) (by omega)
 rw [gx] at c0 c1 c2
 rw [gy] at d0 d1 d2
 have HQ:=Y08 (Y07 hk (Y07 hr (Y07 hlen (Y07 hPa hYe))))
 have HJ:=Y00 (Y07 hRr hgr)
 have f0:wr.drew.frozen? ⟨g,k*3,none⟩=false:=cf 0
 have f1:wr.drew.frozen? ⟨g,k*3+1,none⟩=false:=cf 1
 have f2:wr.drew.frozen? ⟨g,k*3+2,none⟩=false:=cf 2
 have wk:IntKind.i64.wrap ((k:Int)+1)=(r:Int):=by rw [Y0b];omega
 have hk0:(0:Int)≤(k:Int):=by omega
 have hkN:(k:Int)<(N:Int):=by omega
 have hr0:(0:Int)≤(r:Int):=by omega
 have hrN:(r:Int)<(N:Int):=by omega
 clear hk hkt2 hYe hRr hgr hr hPa hrow hlen gx gy cf hJ
 go_upto_region 11 with fail
 refine sr1 18 (fun w'=>w'.cell? ⟨g,r*3,none⟩=some (.int .i64 y.1)∧w'.cell? ⟨g,r*3+1,none⟩=some (.int .i64 y.2.1)∧w'.cell? ⟨g,r*3+2,none⟩=some (.int .i64 y.2.2)∧w'.cell? ⟨g,k*3,none⟩=some (.int .i64 x.1)∧w'.cell? ⟨g,k*3+1,none⟩=some (.int .i64 x.2.1)∧w'.cell? ⟨g,k*3+2,none⟩=some (.int .i64 x.2.2)) [15,17] ⟨d0,d1,d2,c0,c1,c2⟩ fun hJ0=>?_
 have HD:=Y00 (Y07 (Kd.c0b HJ.out.1) (HJ.out.2.both (J0b (J05 (Y0f wr.heap.size wr)))))
 clear c0 c1 c2 d0 d1 d2
 generalize wr.drew=wd5 at *
 refine pv 0 ?_
 refine pv 1 ?_
 refine pv 2 ?_
 refine pv 3 ?_
 refine pv 4 ?_
 refine pv 5 ?_
 refine pv 6 ?_
 refine pv 7 ?_
 refine pv 8 ?_
 refine tv6 9 ?_
 refine pv 10 ?_
 refine pv 11 ?_
 refine pv 12 ?_
 refine tv6 13 ?_
 refine pv 14 ?_
 obtain ⟨_,_,hst⟩:=J10 HD.out.1 (i:=k) (by have:=HQ.out;omega)
 have HST:=Y00 (hst y)
 clear hst
 refine la0 15 (bs 18 65535) (N:=none) fun K hK=>?_
 refine sk0 ?_
 refine hK.out _ _ ?_
 clear hK K
 have h6:kT.R 99 (((wd5.setCell ⟨g,k*3,none⟩ (.int .i64 y.1)).setCell ⟨g,k*3+1,none⟩ (.int .i64 y.2.1)).setCell ⟨g,k*3+2,none⟩ (.int .i64 y.2.2)) base ok (.slice (some ⟨g,0,none⟩) N cap) (((P++A)++x::y::(B++S)).set k y)∧w.grownBy (((wd5.setCell ⟨g,k*3,none⟩ (.int .i64 y.1)).setCell ⟨g,k*3+1,none⟩ (.int .i64 y.2.1)).setCell ⟨g,k*3+2,none⟩ (.int .i64 y.2.2)) (some g):=⟨HST.out.1,HD.out.2.both HST.out.2⟩
 have H6:=Y00 h6
 clear h6 hJ0 f0 f1 f2
 generalize (((wd5.setCell ⟨g,k*3,none⟩ (.int .i64 y.1)).setCell ⟨g,k*3+1,none⟩ (.int .i64 y.2.1)).setCell ⟨g,k*3+2,none⟩ (.int .i64 y.2.2))=w6 at *
 obtain ⟨⟨z0,z1,z2⟩,zf,hz⟩:=J10 H6.out.1 (i:=r) (by have:=HQ.out;omega)
 have g0:w6.frozen? ⟨g,r*3,none⟩=false:=zf 0
 have g1:w6.frozen? ⟨g,r*3+1,none⟩=false:=zf 1
 have g2:w6.frozen? ⟨g,r*3+2,none⟩=false:=zf 2
 have HZ:=Y00 (hz x)
 clear hz zf
 generalize (((P++A)++x::y::(B++S)).set k y).getD r tz=pq at *
 refine pv 16 ?_
 refine la0 17 (bs 18 262143) (N:=none) fun K hK=>?_
 refine sk0 ?_
 refine hK.out _ _ ?_
 clear hK K
 refine dn0 ?_
 have hset:(((P++A)++x::y::(B++S)).set k y).set r x=P++(A++[y])++x::B++S:=by
  have h1:=HQ.out
  rw [List.set_append_right _ _ (by simp;omega),Y02,show k - (P.length+A.length)=0 by omega]
  rw [List.set_append_right _ _ (by simp;omega),Y02,show r - (P.length+A.length)=1 by omega]
  simp
 have H7:=Y00 (show kT.R 99 (((w6.setCell ⟨g,r*3,none⟩ (.int .i64 x.1)).setCell ⟨g,r*3+1,none⟩ (.int .i64 x.2.1)).setCell ⟨g,r*3+2,none⟩ (.int .i64 x.2.2)) base ok (.slice (some ⟨g,0,none⟩) N cap) (P++(A++[y])++x::B++S)∧w.grownBy (((w6.setCell ⟨g,r*3,none⟩ (.int .i64 x.1)).setCell ⟨g,r*3+1,none⟩ (.int .i64 x.2.1)).setCell ⟨g,r*3+2,none⟩ (.int .i64 x.2.2)) (some g) from ⟨by rw [← hset];exact HZ.out.1,H6.out.2.both HZ.out.2⟩)
 clear hset
 go_wp2_with fail
 have h1:=HQ.out
 refine ⟨⟨r,A++[y],B,rfl,⟨by rw [Y02,Y10];omega,by omega,by rw [h1.2.2.2.2];simp,H7.out.1,H7.out.2⟩⟩,by simp [intOf];omega⟩
theorem J7l {a b c:Tm} (h:cmpT a b<0) (k:cmpT b c≤0):cmpT a c<0:=by
 have h1:=J7k (Int.le_of_lt h) k
 by_cases h2:cmpT a c=0
 ·have:=J2o.1 h2
  subst this
  have h3:=J32 a b
  omega
 omega
theorem sym_last (g N cap base:Nat) (ok:Nat→Prop) (P X S:List Tm) (y:Tm) (w:World) (hR:kT.R 99 w base ok (.slice (some ⟨g,0,none⟩) N cap) (P++X++y::S)) (hX:1<X.length) (hs:J0c cmpT X) (hN:N≤10000000000000) (a m b:Nat) (ha:a=P.length) (hm:m=P.length+X.length) (hb:b=P.length+X.length+1) :
  Calls Tryz.prog 123 #[.slice (some ⟨g,0,none⟩) N cap,.int .i64 a,.int .i64 m,.int .i64 b,.func (.func 115) #[] #[]] w (MergePost g N cap base ok P X [y] S w):=by
 have HR:=Y00 hR
 have hl:=(Kd.c03 hR).1
 simp only [Y02,Y0z] at hl
 obtain ⟨n1,hn1⟩:∃ n1,n1=X.length:=⟨_,rfl⟩
 have wi:IntKind.i64.wrap ((m:Int) - a)=(n1:Int):=by rw [Y0b];omega
 have wj:IntKind.i64.wrap ((b:Int) - m)=1:=by rw [Y0b];omega
 have hn2:((n1:Int) == 1)=false:=by simp;omega
 have HM:=Y08 (Y07 ha (Y07 hm (Y07 hb (Y07 hl hX))))
 clear hR ha hm hb hl hX hn1
 go_enter Tryz.func123,Tryz.ntmps123
 go_wp2
 go_loopw [14,15] (fun i j wr=>∃ p q:Nat,i=.int .i64 p∧j=.int .i64 q∧a≤p∧p≤q∧q≤m∧J08 (kT.R 99 wr base ok (.slice (some ⟨g,0,none⟩) N cap) (P++X++y::S)∧w.grownBy wr (some g)∧(∀ k,a≤k→k<p→¬ cmpT y (X.getD (k - a) tz)<0)∧(∀ k,q≤k→k<m→cmpT y (X.getD (k - a) tz)<0))) (fun i j _=>(intOf j).toNat - (intOf i).toNat)
 case atStart=>exact ⟨a,m,rfl,rfl,Y0e _,by have:=HM.out;omega,Y0e _,HR.out,⟨rfl,rfl,rfl,Y0e _,fun _ _ _=>rfl⟩,fun k h1 h2=>by omega,fun k h1 h2=>by omega⟩
 obtain ⟨p,q,rfl,rfl,hap,hpq,hqm,hI⟩:=hrel
 by_cases hlt:p<q
 ·have hltI:(p:Int)<(q:Int):=by omega
  have hM:=HM.out
  obtain ⟨h,hh⟩:∃ h,h=(p+q) / 2:=⟨_,rfl⟩
  have w1:IntKind.i64.wrap ((p:Int)+(q:Int))=(p:Int)+(q:Int):=by rw [Y0b];omega
  have w2:IntKind.u64.wrap ((p:Int)+(q:Int))=(p:Int)+(q:Int):=by simp only [IntKind.wrap];simp [IntKind.bits,IntKind.signed];omega
  have w3:IntKind.i64.wrap (((p:Int)+(q:Int)) / 2)=(h:Int):=by rw [Y0b];omega
  have w4:IntKind.i64.wrap ((h:Int)+1)=(h:Int)+1:=by rw [Y0b];omega
  have gx:(P++X++y::S).getD h tz=X.getD (h - a) tz:=by
   rw [Y01,Y0d,Y09 (by omega),show h - P.length=h - a by omega,Y0a (by omega),Y01]
  have gy:(P++X++y::S).getD m tz=y:=by
   rw [Y01,Y09 (by simp;omega),Y02,show m - (P.length+X.length)=0 by omega];rfl
  obtain ⟨⟨c0,c1,c2⟩,_,_⟩:=J10 hI.out.1 (i:=h) (by omega)
  obtain ⟨⟨d0,d1,d2⟩,_,_⟩:=J10 hI.out.1 (i:=m) (by omega)
  rw [gx] at c0 c1 c2
  rw [gy] at d0 d1 d2
  have hh0:(0:Int)≤(h:Int):=by omega
  have hhN:(h:Int)<(N:Int):=by omega
  have hm0:(0:Int)≤(m:Int):=by omega
  have hmN:(m:Int)<(N:Int):=by omega
  generalize hy:X.getD (h - a) tz=x at *
  have HY:=Y08 (Y07 hh hy)
  clear gy gx hM hh hy
  go_upto_region 17 with fail
  refine sr1 12 (fun w'=>w'.cell? ⟨g,m*3,none⟩=some (.int .i64 y.1)∧w'.cell? ⟨g,m*3+1,none⟩=some (.int .i64 y.2.1)∧w'.cell? ⟨g,m*3+2,none⟩=some (.int .i64 y.2.2)∧w'.cell? ⟨g,h*3,none⟩=some (.int .i64 x.1)∧w'.cell? ⟨g,h*3+1,none⟩=some (.int .i64 x.2.1)∧w'.cell? ⟨g,h*3+2,none⟩=some (.int .i64 x.2.2)) [] ⟨d0,d1,d2,c0,c1,c2⟩ fun hJ0=>?_
  have HD:=Y00 (Y07 (Kd.c0b hI.out.1) (hI.out.2.1.both (J0b (J05 (Y0f wr.heap.size wr)))))
  clear c0 c1 c2 d0 d1 d2
  generalize wr.drew=wd at *
  refine pv 0 ?_
  refine pv 1 ?_
  refine pv 2 ?_
  refine pv 3 ?_
  refine tv6 4 ?_
  refine pv 5 ?_
  refine pv 6 ?_
  refine pv 7 ?_
  refine tv6 8 ?_
  refine ov 9 fun K hK=>?_
  have CM:=J4q y x wd
  simp only [tmV] at CM
  refine gv0 Tryz.func115 #[.agg #[.int .i64 y.1,.int .i64 y.2.1,.int .i64 y.2.2],.agg #[.int .i64 x.1,.int .i64 x.2.1,.int .i64 x.2.2]] ?_
  refine CM.mono ?_
  clear CM
  rintro e w5 ⟨rfl,hb5⟩
  have HS5:=Y00 (Y07 (Kd.c01 HD.out.1 hb5) (HD.out.2.both (J0b hb5)))
  refine ⟨_,rfl,hK.out _ _ (st6 hb5 hJ0) (fun hJ0=>?_)⟩
  clear hb5 HD
  by_cases hcx:cmpT y x<0
  ·have hcd:decide (cmpT y x<0)=true:=Y0r hcx
   clear hK K
   refine nm0 _ ?_
   refine pv 10 ?_
   refine pv 11 ?_
   refine dn0 ?_
   clear hJ0
   have HX:=Y08 hcx
   go_wp2_with fail
   have hY2:=HY.out
   have hM:=HM.out
   refine ⟨⟨p,h,rfl,rfl,hap,by omega,by omega,HS5.out.1,HS5.out.2,hI.out.2.2.1,fun k hk1 hk2=>?_⟩,by simp [intOf];omega⟩
   refine J7l (b:=x) HX.out ?_
   rw [← hY2.2]
   exact sorted_getD hs (show h - a≤k - a by omega) (by omega)
  skip
  have hcd:decide (cmpT y x<0)=false:=Y0s hcx
  have hcg:0≤cmpT y x:=by omega
  clear hK K
  refine nm0 _ ?_
  refine pv 10 ?_
  refine pv 11 ?_
  refine dn0 ?_
  clear hJ0
  have HX:=Y08 hcx
  go_wp2_with fail
  have hY2:=HY.out
  have hM:=HM.out
  refine ⟨⟨h+1,q,by go_num,rfl,by omega,by omega,hqm,HS5.out.1,HS5.out.2,fun k hk1 hk2 hk3=>?_,hI.out.2.2.2⟩,by simp [intOf];omega⟩
  refine HX.out (J7l hk3 ?_)
  rw [← hY2.2]
  exact sorted_getD hs (show k - a≤h - a by omega) (by omega)
 have hltI:¬ (p:Int)<(q:Int):=by omega
 have hltI2:(q:Int)≤(p:Int):=by omega
 obtain rfl:p=q:=by omega
 have HT:=Y08 (Y07 hap hqm)
 go_wp2_with fail
 go_loopw [17] (fun i wr=>∃ (k:Nat) (A B:List Tm),i=.int .i64 k∧J08 (k=a+A.length∧p≤k∧X=A++B∧kT.R 99 wr base ok (.slice (some ⟨g,0,none⟩) N cap) (P++A++y::B++S)∧w.grownBy wr (some g))) (fun i _=>(intOf i).toNat)
 case atStart=>exact ⟨m,X,[],rfl,⟨by have:=HM.out;omega,hqm,by simp,by simpa using hI.out.1,hI.out.2.1⟩⟩
 obtain ⟨k,A,B,rfl,hJ⟩:=hrel
 by_cases hkt:p<k
 rotate_left
 ·have hktI:¬ (p:Int)<(k:Int):=by omega
  have hktI2:(k:Int)≤(p:Int):=by omega
  go_wp2_with fail
  refine bodyPost_ret (results_none rfl _ _ _) rfl ⟨rfl,A++y::B,?_,?_,by rw [← Y0d];exact hJ.out.2.2.2.1,hJ.out.2.2.2.2⟩
  ·rw [hJ.out.2.2.1]
   exact List.perm_middle.trans (List.perm_append_singleton _ _).symm
  have h1:=hJ.out
  have h2:=HM.out
  have hXe:=h1.2.2.1
  refine J4c ordT trivial (fun _ _=>trivial) (by rw [← hXe];exact hs) (fun z hz=>?_) (fun x hx=>?_)
  ·obtain ⟨i,hi,rfl⟩:=List.getElem_of_mem hz
   have hlen:X.length=A.length+B.length:=by rw [hXe];simp
   have:=hI.out.2.2.2 (p+i) (by omega) (by omega)
   have e:X.getD (p+i - a) tz=B[i]:=by
    rw [hXe,Y01,Y09 (by omega),show p+i - a - A.length=i by omega,Y05 hi];rfl
   rw [e] at this
   exact Int.le_of_lt this
  have hne:A≠[]:=by rintro rfl;simp at hx
  have hlen:X.length=A.length+B.length:=by rw [hXe];simp
  have hpos:0<A.length:=List.length_pos_iff.2 hne
  have:=hI.out.2.2.1 (p - 1) (by omega) (by omega)
  have e:X.getD (p - 1 - a) tz=x:=by
   rw [hXe,Y01,Y0a (by omega),show p - 1 - a=A.length - 1 by omega,← List.getLast?_eq_getElem?,hx];rfl
  rw [e] at this
  exact ordT.le_of_not trivial trivial (by simpa using this)
 have hktI:(p:Int)<(k:Int):=by omega
 rcases List.eq_nil_or_concat A with rfl | ⟨A,x,rfl⟩
 ·exfalso
  have h1:=hJ.out.1
  simp at h1
  omega
 obtain ⟨hk,hkt2,hXe,hRr,hgr⟩:=hJ.out
 obtain ⟨r,hr⟩:∃ r,r=a+A.length:=⟨_,rfl⟩
 have hkr:k=r+1:=by simp at hk;omega
 have hPa:=HM.out.1
 have hrow:P++A.concat x++y::B++S=(P++A)++x::y::(B++S):=by simp
 rw [hrow] at hRr
 have hlen:=(Kd.c03 hRr).1
 simp only [Y02,Y0z] at hlen
 have gx:((P++A)++x::y::(B++S)).getD r tz=x:=by
  rw [Y01,Y09 (by simp;omega),Y02,show r - (P.length+A.length)=0 by omega];rfl
 have gy:((P++A)++x::y::(B++S)).getD k tz=y:=by
  rw [Y01,Y09 (by simp;omega),Y02,show k - (P.length+A.length)=1 by omega];rfl
 obtain ⟨⟨c0,c1,c2⟩,cf,_⟩:=J10 hRr (i:=k) (by omega)
 obtain ⟨⟨d0,d1,d2⟩,_,_⟩:=J10 hRr (i:=r) (by omega)
 rw [gy] at c0 c1 c2
 rw [gx] at d0 d1 d2
 have HQ:=Y08 (Y07 hkr (Y07 hr (Y07 hlen (Y07 hPa hXe))))
 have HJ:=Y00 (Y07 hRr hgr)
 have f0:wr.drew.frozen? ⟨g,k*3,none⟩=false:=cf 0
 have f1:wr.drew.frozen? ⟨g,k*3+1,none⟩=false:=cf 1
 have f2:wr.drew.frozen? ⟨g,k*3+2,none⟩=false:=cf 2
 have wk:IntKind.i64.wrap ((k:Int) - 1)=(r:Int):=by rw [Y0b];omega
 have hk0:(0:Int)≤(k:Int):=by omega
 have hkN:(k:Int)<(N:Int):=by omega
 have hr0:(0:Int)≤(r:Int):=by omega
 have hrN:(r:Int)<(N:Int):=by omega
 clear hk hkt2 hXe hRr hgr hr hkr hPa hrow hlen gx gy cf hJ
 go_upto_region 23 with fail
 refine sr1 18 (fun w'=>w'.cell? ⟨g,r*3,none⟩=some (.int .i64 x.1)∧w'.cell? ⟨g,r*3+1,none⟩=some (.int .i64 x.2.1)∧w'.cell? ⟨g,r*3+2,none⟩=some (.int .i64 x.2.2)∧w'.cell? ⟨g,k*3,none⟩=some (.int .i64 y.1)∧w'.cell? ⟨g,k*3+1,none⟩=some (.int .i64 y.2.1)∧w'.cell? ⟨g,k*3+2,none⟩=some (.int .i64 y.2.2)) [15,17] ⟨d0,d1,d2,c0,c1,c2⟩ fun hJ0=>?_
 have HD:=Y00 (Y07 (Kd.c0b HJ.out.1) (HJ.out.2.both (J0b (J05 (Y0f wr.heap.size wr)))))
 clear c0 c1 c2 d0 d1 d2
 generalize wr.drew=wd5 at *
 refine pv 0 ?_
 refine pv 1 ?_
 refine pv 2 ?_
 refine pv 3 ?_
 refine pv 4 ?_
 refine pv 5 ?_
 refine pv 6 ?_
 refine pv 7 ?_
 refine pv 8 ?_
 refine tv6 9 ?_
 refine pv 10 ?_
 refine pv 11 ?_
 refine pv 12 ?_
 refine tv6 13 ?_
 refine pv 14 ?_
 obtain ⟨_,_,hst⟩:=J10 HD.out.1 (i:=k) (by have:=HQ.out;omega)
 have HST:=Y00 (hst x)
 clear hst
 refine la0 15 (bs 18 65535) (N:=none) fun K hK=>?_
 refine sk0 ?_
 refine hK.out _ _ ?_
 clear hK K
 have h6:kT.R 99 (((wd5.setCell ⟨g,k*3,none⟩ (.int .i64 x.1)).setCell ⟨g,k*3+1,none⟩ (.int .i64 x.2.1)).setCell ⟨g,k*3+2,none⟩ (.int .i64 x.2.2)) base ok (.slice (some ⟨g,0,none⟩) N cap) (((P++A)++x::y::(B++S)).set k x)∧w.grownBy (((wd5.setCell ⟨g,k*3,none⟩ (.int .i64 x.1)).setCell ⟨g,k*3+1,none⟩ (.int .i64 x.2.1)).setCell ⟨g,k*3+2,none⟩ (.int .i64 x.2.2)) (some g):=⟨HST.out.1,HD.out.2.both HST.out.2⟩
 have H6:=Y00 h6
 clear h6 hJ0 f0 f1 f2
 generalize (((wd5.setCell ⟨g,k*3,none⟩ (.int .i64 x.1)).setCell ⟨g,k*3+1,none⟩ (.int .i64 x.2.1)).setCell ⟨g,k*3+2,none⟩ (.int .i64 x.2.2))=w6 at *
 obtain ⟨⟨z0,z1,z2⟩,zf,hz⟩:=J10 H6.out.1 (i:=r) (by have:=HQ.out;omega)
 have g0:w6.frozen? ⟨g,r*3,none⟩=false:=zf 0
 have g1:w6.frozen? ⟨g,r*3+1,none⟩=false:=zf 1
 have g2:w6.frozen? ⟨g,r*3+2,none⟩=false:=zf 2
 have HZ:=Y00 (hz y)
 clear hz zf
 generalize (((P++A)++x::y::(B++S)).set k x).getD r tz=pq at *
 refine pv 16 ?_
 refine la0 17 (bs 18 262143) (N:=none) fun K hK=>?_
 refine sk0 ?_
 refine hK.out _ _ ?_
 clear hK K
 refine dn0 ?_
 have hset:(((P++A)++x::y::(B++S)).set k x).set r y=P++A++y::(x::B)++S:=by
  have h1:=HQ.out
  rw [List.set_append_right _ _ (by simp;omega),Y02,show k - (P.length+A.length)=1 by omega]
  rw [List.set_append_right _ _ (by simp;omega),Y02,show r - (P.length+A.length)=0 by omega]
  simp
 have H7:=Y00 (show kT.R 99 (((w6.setCell ⟨g,r*3,none⟩ (.int .i64 y.1)).setCell ⟨g,r*3+1,none⟩ (.int .i64 y.2.1)).setCell ⟨g,r*3+2,none⟩ (.int .i64 y.2.2)) base ok (.slice (some ⟨g,0,none⟩) N cap) (P++A++y::(x::B)++S)∧w.grownBy (((w6.setCell ⟨g,r*3,none⟩ (.int .i64 y.1)).setCell ⟨g,r*3+1,none⟩ (.int .i64 y.2.1)).setCell ⟨g,r*3+2,none⟩ (.int .i64 y.2.2)) (some g) from ⟨by rw [← hset];exact HZ.out.1,H6.out.2.both HZ.out.2⟩)
 clear hset
 go_wp2_with fail
 have h1:=HQ.out
 refine ⟨⟨r,A,x::B,rfl,⟨h1.2.1,by omega,by rw [h1.2.2.2.2];simp,H7.out.1,H7.out.2⟩⟩,by simp [intOf];omega⟩
end Go.Proofs.YtbkfnmgkcgnifaaGreat
namespace Go.Proofs.YtbkfnmgkcgnifaaGreat.Mdl
section
variable {α:Type} {cmp:α→α→Int} {p:α→Prop}
theorem Jhm (h:Ord cmp p) {A:List α} (hp:∀ z ∈ A,p z) (hs:J0c cmp A) {l:α} (hl:A.getLast?=some l):∀ z ∈ A,cmp z l≤0:=by
 intro z hz
 obtain ⟨B,rfl⟩:=List.getLast?_eq_some_iff.1 hl
 rcases Y0m.1 hz with hz | hz
 ·exact (List.pairwise_append.1 hs).2.2 z hz l (Y11.2 rfl)
 rw [Y11.1 hz];exact h.refl (hp l (by simp))
theorem Jhn (h:Ord cmp p) {A:List α} (hp:∀ z ∈ A,p z) (hs:J0c cmp A) {l:α} (hl:A.head?=some l):∀ z ∈ A,cmp l z≤0:=by
 intro z hz
 cases A with
 | nil=>cases hz
 | cons a A=>?_
 cases hl
 rcases List.mem_cons.1 hz with rfl | hz
 ·exact h.refl (hp _ Y03)
 exact (List.pairwise_cons.1 hs).1 z hz
theorem Jmz (h:Ord cmp p) {A B:List α} (hA:∀ z ∈ A,p z) (hB:∀ z ∈ B,p z) (sA:J0c cmp A) (sB:J0c cmp B) (hm:∀ u,A.getLast?=some u→∀ v,B.head?=some v→cmp u v≤0):∀ u ∈ A,∀ v ∈ B,cmp u v≤0:=by
 intro u hu v hv
 have hAn:A≠[]:=List.ne_nil_of_mem hu
 have hBn:B≠[]:=List.ne_nil_of_mem hv
 have hl:=List.getLast?_eq_some_getLast hAn
 have hh:=List.head?_eq_some_head hBn
 have h1:=Jhm h hA sA hl u hu
 have h2:=Jhn h hB sB hh v hv
 have h3:=hm _ hl _ hh
 have pl:=hA _ (List.getLast_mem hAn)
 have ph:=hB _ (List.head_mem hBn)
 exact h.trans _ _ _ (hA u hu) pl (hB v hv) h1 (h.trans _ _ _ pl ph (hB v hv) h3 h2)
theorem Job (h:Ord cmp p) {X1 X2 Y1 Y2:List α} (hp:∀ z ∈ X1++X2++Y1++Y2,p z) (hX:J0c cmp (X1++X2)) (hY:J0c cmp (Y1++Y2)) (hA:∀ u,X1.getLast?=some u→∀ v,Y2.head?=some v→cmp u v≤0) (hB:∀ u,Y1.getLast?=some u→∀ v,X2.head?=some v→cmp u v≤0) :
  ∀ u ∈ X1++Y1,∀ v ∈ X2++Y2,cmp u v≤0:=by
 obtain ⟨sX1,sX2,hX12⟩:=List.pairwise_append.1 hX
 obtain ⟨sY1,sY2,hY12⟩:=List.pairwise_append.1 hY
 intro u hu v hv
 rcases Y0m.1 hu with hu | hu<;>rcases Y0m.1 hv with hv | hv
 ·exact hX12 u hu v hv
 ·exact Jmz h (fun z hz=>hp z (by simp [hz])) (fun z hz=>hp z (by simp [hz])) sX1 sY2 hA u hu v hv
 ·exact Jmz h (fun z hz=>hp z (by simp [hz])) (fun z hz=>hp z (by simp [hz])) sY1 sX2 hB u hu v hv
 exact hY12 u hu v hv
theorem Jbf {Z1 Z2:List α} (s1:J0c cmp Z1) (s2:J0c cmp Z2) (h:∀ u ∈ Z1,∀ v ∈ Z2,cmp u v≤0):J0c cmp (Z1++Z2):=List.pairwise_append.2 ⟨s1,s2,h⟩
theorem J70 (x:α):∀ l:List α,(insL cmp x l).Perm (x::l)
 | []=>List.Perm.refl _
 | y::r=>by
  unfold insL
  split
  ·exact ((J70 x r).cons y).trans (List.Perm.swap _ _ _)
  exact List.Perm.refl _
theorem J8a (h:Ord cmp p) {x:α} (hx:p x):∀ {l:List α},(∀ z ∈ l,p z)→J0c cmp l→J0c cmp (insL cmp x l)
 | [],_,_=>List.pairwise_singleton _ _
 | y::r,hp,hs=>by
  obtain ⟨h1,h2⟩:=List.pairwise_cons.1 hs
  unfold insL
  split
  ·rename_i hyx
   refine List.pairwise_cons.2 ⟨fun z hz=>?_,J8a h hx (fun z hz=>hp z (Y04 _ hz)) h2⟩
   rcases List.mem_cons.1 ((J70 x r).mem_iff.1 hz) with rfl | hz
   ·exact hyx
   exact h1 z hz
  rename_i hyx
  have hxy:cmp x y≤0:=h.le_of_not (hp y Y03) hx (by omega)
  refine List.pairwise_cons.2 ⟨fun z hz=>?_,hs⟩
  rcases List.mem_cons.1 hz with rfl | hz
  ·exact hxy
  exact h.trans _ _ _ hx (hp y Y03) (hp z (Y04 _ hz)) hxy (h1 z hz)
theorem Jgl (h:Ord cmp p):∀ (l acc:List α),(∀ z ∈ l,p z)→(∀ z ∈ acc,p z)→J0c cmp acc→J0c cmp (l.foldl (fun a x=>insL cmp x a) acc)∧(l.foldl (fun a x=>insL cmp x a) acc).Perm (l++acc)
 | [],acc,_,_,hs=>⟨hs,List.Perm.refl _⟩
 | x::l,acc,hl,ha,hs=>by
  have hx:=hl x Y03
  obtain ⟨h1,h2⟩:=Jgl h l (insL cmp x acc) (fun z hz=>hl z (Y04 _ hz)) (fun z hz=>by
   rcases List.mem_cons.1 ((J70 x acc).mem_iff.1 hz) with rfl | hz
   ·exact hx
   exact ha z hz) (J8a h hx ha hs)
  exact ⟨h1,h2.trans (((J70 x acc).append_left l).trans List.perm_middle)⟩
theorem J2a (h:Ord cmp p) {l:List α} (hl:∀ z ∈ l,p z):J0c cmp (Jho cmp l)∧(Jho cmp l).Perm l:=by
 have:=Jgl h l [] hl (by simp) List.Pairwise.nil
 rw [List.append_nil] at this
 exact this
theorem Jan (h:Ord cmp p) {l m:List α} (hl:∀ z ∈ l,p z) (hm:m.Perm l) (hs:J0c cmp m):m=Jho cmp l:=by
 obtain ⟨h1,h2⟩:=J2a h hl
 exact J47 h (fun z hz=>hl z (hm.mem_iff.1 hz)) (hm.trans h2.symm) hs h1
theorem Jfm (h:Ord cmp p) {X Y:List α} (hp:∀ z ∈ X++Y,p z) (sX:J0c cmp X) (sY:J0c cmp Y) (i j:Nat) (hi:i≤X.length) (hj:j≤Y.length) (d:α)
  (hA:0<i→j<Y.length→¬ cmp (Y.getD j d) (X.getD (i - 1) d)<0) (hB:0<j→i<X.length→cmp (Y.getD (j - 1) d) (X.getD i d)<0) :
  ∃ X1 X2 Y1 Y2,X=X1++X2∧Y=Y1++Y2∧X1.length=i∧Y1.length=j∧J0c cmp X1∧J0c cmp X2∧J0c cmp Y1∧J0c cmp Y2∧∀ u ∈ X1++Y1,∀ v ∈ X2++Y2,cmp u v≤0:=by
 have eX:X=X.take i++X.drop i:=(List.take_append_drop i X).symm
 have eY:Y=Y.take j++Y.drop j:=(List.take_append_drop j Y).symm
 have pX:∀ z ∈ X,p z:=fun z hz=>hp z (by simp [hz])
 have pY:∀ z ∈ Y,p z:=fun z hz=>hp z (by simp [hz])
 have sX':J0c cmp (X.take i++X.drop i):=by rw [← eX];exact sX
 have sY':J0c cmp (Y.take j++Y.drop j):=by rw [← eY];exact sY
 obtain ⟨a1,a2,_⟩:=List.pairwise_append.1 sX'
 obtain ⟨b1,b2,_⟩:=List.pairwise_append.1 sY'
 refine ⟨X.take i,X.drop i,Y.take j,Y.drop j,eX,eY,by simp;omega,by simp;omega,a1,a2,b1,b2,Job h (fun z hz=>?_) sX' sY' (fun u hu v hv=>?_) (fun u hu v hv=>?_)⟩
 ·simp only [Y0m] at hz
  rcases hz with ((hz | hz) | hz) | hz
  ·exact pX z (List.mem_of_mem_take hz)
  ·exact pX z (List.mem_of_mem_drop hz)
  ·exact pY z (List.mem_of_mem_take hz)
  exact pY z (List.mem_of_mem_drop hz)
 ·have hi0:0<i:=by
   rcases Nat.eq_zero_or_pos i with rfl | h0
   ·simp at hu
   exact h0
  have hj0:j<Y.length:=by
   rcases Nat.lt_or_ge j Y.length with h0 | h0
   ·exact h0
   rw [List.drop_of_length_le h0] at hv;simp at hv
  rw [List.getLast?_eq_getElem?,Y0o,Nat.min_eq_left hi,List.getElem?_take,if_pos (by omega),Y05 (by omega)] at hu
  rw [List.head?_drop,Y05 hj0] at hv
  have hu:X[i - 1]=u:=by injection hu
  have hv:Y[j]=v:=by injection hv
  have:=hA hi0 hj0
  rw [Y01,Y05 hj0,Y01,Y05 (by omega)] at this
  simp only [Option.getD_some] at this
  rw [hu,hv] at this
  exact h.le_of_not (hv ▸ pY _ (Y0l hj0)) (hu ▸ pX _ (Y0l _)) this
 have hj0:0<j:=by
  rcases Nat.eq_zero_or_pos j with rfl | h0
  ·simp at hu
  exact h0
 have hi0:i<X.length:=by
  rcases Nat.lt_or_ge i X.length with h0 | h0
  ·exact h0
  rw [List.drop_of_length_le h0] at hv;simp at hv
 rw [List.getLast?_eq_getElem?,Y0o,Nat.min_eq_left hj,List.getElem?_take,if_pos (by omega),Y05 (by omega)] at hu
 rw [List.head?_drop,Y05 hi0] at hv
 have hu:Y[j - 1]=u:=by injection hu
 have hv:X[i]=v:=by injection hv
 have:=hB hj0 hi0
 rw [Y01,Y05 (show j - 1<Y.length by omega),Y01,Y05 hi0] at this
 simp only [Option.getD_some] at this
 rw [hu,hv] at this
 exact Int.le_of_lt this
end
end Go.Proofs.YtbkfnmgkcgnifaaGreat.Mdl
namespace Go.Proofs.YtbkfnmgkcgnifaaGreat
open Go.RowKit Go.Shelf W1 W2 Mdl
theorem symT_any (g N cap base:Nat) (ok:Nat→Prop) (hN:N≤10000000000000):∀ (f:Nat) (P X Y S:List Tm) (w:World) (a m b:Nat),X.length+Y.length≤f→0<X.length→0<Y.length→J08 (J0c cmpT X∧J0c cmpT Y∧kT.R 99 w base ok (.slice (some ⟨g,0,none⟩) N cap) (P++X++Y++S))→a=P.length→m=P.length+X.length→b=P.length+X.length+Y.length →
  Calls Tryz.prog 123 #[.slice (some ⟨g,0,none⟩) N cap,.int .i64 a,.int .i64 m,.int .i64 b,.func (.func 115) #[] #[]] w (MergePost g N cap base ok P X Y S w):=by
 intro f
 induction f with
 | zero=>intro P X Y S w a m b hf hX;omega
 | succ f ih =>
  intro P X Y S w a m b hf hX hY hR ha hm hb
  by_cases hX1:X.length=1
  ·obtain ⟨x,rfl⟩:=List.length_eq_one_iff.1 hX1
   exact sym_one g N cap base ok P Y S x w (by simpa using hR.out.2.2) hY hR.out.2.1 hN a m b ha (by simpa using hm) (by simpa using hb)
  by_cases hY1:Y.length=1
  ·obtain ⟨y,rfl⟩:=List.length_eq_one_iff.1 hY1
   exact sym_last g N cap base ok P X S y w (by simpa using hR.out.2.2) (by omega) hR.out.1 hN a m b ha hm (by simpa using hb)
  have HR:=hR
  have hl:=(Kd.c03 hR.out.2.2).1
  simp only [Y02] at hl
  obtain ⟨n1,hn1⟩:∃ n1,n1=X.length:=⟨_,rfl⟩
  obtain ⟨n2,hn2⟩:∃ n2,n2=Y.length:=⟨_,rfl⟩
  obtain ⟨d,hd⟩:∃ d,d=(a+b) / 2:=⟨_,rfl⟩
  have wi:IntKind.i64.wrap ((m:Int) - a)=(n1:Int):=by rw [Y0b];omega
  have wj:IntKind.i64.wrap ((b:Int) - m)=(n2:Int):=by rw [Y0b];omega
  have e1:((n1:Int) == 1)=false:=by simp;omega
  have e2:((n2:Int) == 1)=false:=by simp;omega
  have w1:IntKind.i64.wrap ((a:Int)+(b:Int))=(a:Int)+(b:Int):=by rw [Y0b];omega
  have w2:IntKind.u64.wrap ((a:Int)+(b:Int))=(a:Int)+(b:Int):=by simp only [IntKind.wrap];simp [IntKind.bits,IntKind.signed];omega
  have w3:IntKind.i64.wrap (((a:Int)+(b:Int)) / 2)=(d:Int):=by rw [Y0b];omega
  obtain ⟨nn,hnn⟩:∃ nn,nn=d+m:=⟨_,rfl⟩
  have w4:IntKind.i64.wrap ((d:Int)+(m:Int))=(nn:Int):=by rw [Y0b];omega
  obtain ⟨pp,hpp⟩:∃ pp,nn=pp+1:=⟨nn - 1,by omega⟩
  have w5:IntKind.i64.wrap ((nn:Int) - 1)=(pp:Int):=by rw [Y0b];omega
  have HM:=Y08 (Y07 ha (Y07 hm (Y07 hb (Y07 hl (Y07 hn1 (Y07 hn2 (Y07 hd (Y07 hnn hpp))))))))
  have HS:=Y08 (Y07 hf (Y07 hX (Y07 hY (Y07 hX1 hY1))))
  have IH:=Y08 ih
  obtain ⟨s0,hs0⟩:∃ s0,s0=if d<m then nn - b else a:=⟨_,rfl⟩
  obtain ⟨r0,hr0⟩:∃ r0,r0=if d<m then d else m:=⟨_,rfl⟩
  have HT:=Y08 (show s0≤r0∧a≤s0∧r0≤m∧r0≤d∧nn - b≤s0∧(s0=a∨s0=nn - b)∧(r0=d∨r0=m) from by
   by_cases hmd:d<m
   ·rw [if_pos hmd] at hs0 hr0;omega
   rw [if_neg hmd] at hs0 hr0;omega)
  have HSR:=Y08 (Y07 hs0 hr0)
  have w6:d<m→IntKind.i64.wrap ((nn:Int) - (b:Int))=((nn - b:Nat):Int):=fun h=>by rw [Y0b];omega
  have W6:=Y08 w6
  clear ha hm hb hl hn1 hn2 hd hnn hpp hf hX hY hX1 hY1 ih hs0 hr0 hR w6
  go_enter Tryz.func123,Tryz.ntmps123
  go_upto_if 140 with fail
  go_cut [20,21] from 138 to 146 (fun s20 s21 wx=>s20=.int .i64 s0∧s21=.int .i64 r0∧w=wx)
  case first =>
   by_cases hmd:d<m
   ·have hmdI:(d:Int)<(m:Int):=by omega
    have w6:=W6.out hmd
    go_wp2_with fail
    go_meet
    have h:=HSR.out
    rw [if_pos hmd,if_pos hmd] at h
    exact ⟨by rw [h.1],by rw [h.2],rfl⟩
   have hmdI:¬ ((d:Int)<(m:Int)):=by omega
   have hmdI2:(m:Int)≤(d:Int):=by omega
   go_wp2_with fail
   go_meet
   have h:=HSR.out
   rw [if_neg hmd,if_neg hmd] at h
   exact ⟨by rw [h.1],by rw [h.2],rfl⟩
  obtain ⟨rfl,rfl,rfl⟩:=hcut
  go_wp2_with fail
  go_loopw [20,21] (fun i j wr=>∃ p q:Nat,i=.int .i64 p∧j=.int .i64 q∧s0≤p∧p≤q∧q≤r0∧J08 (kT.R 99 wr base ok (.slice (some ⟨g,0,none⟩) N cap) (P++X++Y++S)∧w.grownBy wr (some g)∧(∀ c,s0≤c→c<p→¬ cmpT (Y.getD (pp - c - m) tz) (X.getD (c - a) tz)<0)∧(∀ c,q≤c→c<r0→cmpT (Y.getD (pp - c - m) tz) (X.getD (c - a) tz)<0))) (fun i j _=>(intOf j).toNat - (intOf i).toNat)
  case atStart=>exact ⟨s0,r0,rfl,rfl,Y0e _,by have:=HM.out;have:=HT.out;omega,Y0e _,HR.out.2.2,⟨rfl,rfl,rfl,Y0e _,fun _ _ _=>rfl⟩,fun k h1 h2=>by omega,fun k h1 h2=>by omega⟩
  obtain ⟨p,q,rfl,rfl,hap,hpq,hqm,hI⟩:=hrel
  by_cases hlt:p<q
  ·have hltI:(p:Int)<(q:Int):=by omega
   have hM:=HM.out
   have hT:=HT.out
   have hSS:=HS.out
   obtain ⟨h,hh⟩:∃ h,h=(p+q) / 2:=⟨_,rfl⟩
   obtain ⟨u,hu⟩:∃ u,u=pp - h:=⟨_,rfl⟩
   have w7:IntKind.i64.wrap ((p:Int)+(q:Int))=(p:Int)+(q:Int):=by rw [Y0b];omega
   have w8:IntKind.u64.wrap ((p:Int)+(q:Int))=(p:Int)+(q:Int):=by simp only [IntKind.wrap];simp [IntKind.bits,IntKind.signed];omega
   have w9:IntKind.i64.wrap (((p:Int)+(q:Int)) / 2)=(h:Int):=by rw [Y0b];omega
   have w10:IntKind.i64.wrap ((h:Int)+1)=(h:Int)+1:=by rw [Y0b];omega
   have w11:IntKind.i64.wrap ((pp:Int) - (h:Int))=(u:Int):=by rw [Y0b];omega
   have gx:(P++X++Y++S).getD h tz=X.getD (h - a) tz:=by
    rw [Y01,Y0d,Y0d,Y09 (by omega),show h - P.length=h - a by omega,Y0a (by omega),Y01]
   have gy:(P++X++Y++S).getD u tz=Y.getD (u - m) tz:=by
    rw [Y01,Y0d,Y09 (by simp;omega),Y02,show u - (P.length+X.length)=u - m by omega,Y0a (by omega),Y01]
   obtain ⟨⟨c0,c1,c2⟩,_,_⟩:=J10 hI.out.1 (i:=h) (by omega)
   obtain ⟨⟨d0,d1,d2⟩,_,_⟩:=J10 hI.out.1 (i:=u) (by omega)
   rw [gx] at c0 c1 c2
   rw [gy] at d0 d1 d2
   have hh0:(0:Int)≤(h:Int):=by omega
   have hhN:(h:Int)<(N:Int):=by omega
   have hu0:(0:Int)≤(u:Int):=by omega
   have huN:(u:Int)<(N:Int):=by omega
   have hyu:Y.getD (pp - h - m) tz=Y.getD (u - m) tz:=by rw [hu]
   generalize hy:Y.getD (u - m) tz=y at *
   generalize hx:X.getD (h - a) tz=x at *
   have HY:=Y08 (Y07 hh (Y07 hu (Y07 hy (Y07 hx hyu))))
   clear gy gx hM hT hSS hh hu hy hx hyu
   go_upto_region 35 with fail
   refine sr1 14 (fun w'=>w'.cell? ⟨g,h*3,none⟩=some (.int .i64 x.1)∧w'.cell? ⟨g,h*3+1,none⟩=some (.int .i64 x.2.1)∧w'.cell? ⟨g,h*3+2,none⟩=some (.int .i64 x.2.2)∧w'.cell? ⟨g,u*3,none⟩=some (.int .i64 y.1)∧w'.cell? ⟨g,u*3+1,none⟩=some (.int .i64 y.2.1)∧w'.cell? ⟨g,u*3+2,none⟩=some (.int .i64 y.2.2)) [] ⟨c0,c1,c2,d0,d1,d2⟩ fun hJ0=>?_
   have HD:=Y00 (Y07 (Kd.c0b hI.out.1) (hI.out.2.1.both (J0b (J05 (Y0f wr.heap.size wr)))))
   clear c0 c1 c2 d0 d1 d2
   generalize wr.drew=wd at *
   refine pv 0 ?_
   refine pv 1 ?_
   refine pv 2 ?_
   refine pv 3 ?_
   refine pv 4 ?_
   refine pv 5 ?_
   refine tv6 6 ?_
   refine pv 7 ?_
   refine pv 8 ?_
   refine pv 9 ?_
   refine tv6 10 ?_
   refine ov 11 fun K hK=>?_
   have CM:=J4q y x wd
   simp only [tmV] at CM
   refine gv0 Tryz.func115 #[.agg #[.int .i64 y.1,.int .i64 y.2.1,.int .i64 y.2.2],.agg #[.int .i64 x.1,.int .i64 x.2.1,.int .i64 x.2.2]] ?_
   refine CM.mono ?_
   clear CM
   rintro e w5 ⟨rfl,hb5⟩
   have HS5:=Y00 (Y07 (Kd.c01 HD.out.1 hb5) (HD.out.2.both (J0b hb5)))
   refine ⟨_,rfl,hK.out _ _ (st6 hb5 hJ0) (fun hJ0=>?_)⟩
   clear hb5 HD
   by_cases hcx:cmpT y x<0
   ·have hcd:decide (cmpT y x<0)=true:=Y0r hcx
    clear hK K
    refine nm0 _ ?_
    refine pv 12 ?_
    refine pv 13 ?_
    refine dn0 ?_
    clear hJ0
    have HX:=Y08 hcx
    go_wp2_with fail
    have hY2:=HY.out
    have hM:=HM.out
    have hT:=HT.out
    refine ⟨⟨p,h,rfl,rfl,hap,by omega,by omega,HS5.out.1,HS5.out.2,hI.out.2.2.1,fun k hk1 hk2=>?_⟩,by simp [intOf];omega⟩
    refine J5q (b:=y) ?_ (J7l (b:=x) HX.out ?_)
    ·rw [← hY2.2.2.2.2]
     exact sorted_getD HR.out.2.1 (show pp - k - m≤pp - h - m by omega) (by omega)
    rw [← hY2.2.2.2.1]
    exact sorted_getD HR.out.1 (show h - a≤k - a by omega) (by omega)
   skip
   have hcd:decide (cmpT y x<0)=false:=Y0s hcx
   clear hK K
   refine nm0 _ ?_
   refine pv 12 ?_
   refine pv 13 ?_
   refine dn0 ?_
   clear hJ0
   have HX:=Y08 hcx
   go_wp2_with fail
   have hY2:=HY.out
   have hM:=HM.out
   have hT:=HT.out
   refine ⟨⟨h+1,q,by go_num,rfl,by omega,by omega,hqm,HS5.out.1,HS5.out.2,fun k hk1 hk2 hk3=>?_,hI.out.2.2.2⟩,by simp [intOf];omega⟩
   refine HX.out (J5q (b:=Y.getD (pp - k - m) tz) ?_ (J7l (b:=X.getD (k - a) tz) hk3 ?_))
   ·rw [← hY2.2.2.2.2]
    exact sorted_getD HR.out.2.1 (show pp - h - m≤pp - k - m by omega) (by omega)
   rw [← hY2.2.2.2.1]
   exact sorted_getD HR.out.1 (show k - a≤h - a by omega) (by omega)
  have hpe:p=q:=by omega
  subst hpe
  have hltI:¬ (p:Int)<(p:Int):=by omega
  obtain ⟨e,he⟩:∃ e,e=nn - p:=⟨_,rfl⟩
  have w7:IntKind.i64.wrap ((nn:Int) - (p:Int))=(e:Int):=by
   have hM:=HM.out
   have hT:=HT.out
   rw [Y0b];omega
  have hM:=HM.out
  have hT:=HT.out
  obtain ⟨X1,X2,Y1,Y2,eX,eY,l1,l2,sX1,sX2,sY1,sY2,hle⟩:=Jfm ordT (fun _ _=>trivial) HR.out.1 HR.out.2.1 (p - a) (e - m) (by omega) (by omega) tz
   (fun h1 h2=>by
    have:=hI.out.2.2.1 (p - 1) (by omega) (by omega)
    rwa [show pp - (p - 1) - m=e - m by omega,show p - 1 - a=p - a - 1 by omega] at this)
   (fun h1 h2=>by
    have:=hI.out.2.2.2 p (by omega) (by omega)
    rwa [show pp - p - m=e - m - 1 by omega] at this)
  have hlX:X.length=X1.length+X2.length:=by rw [eX];simp
  have hlY:Y.length=Y1.length+Y2.length:=by rw [eY];simp
  have hRp:kT.R 99 wr base ok (.slice (some ⟨g,0,none⟩) N cap) (P++X1++X2++(Y1++Y2)++S):=by
   have:=hI.out.1
   rw [eX,eY] at this
   simpa only [Y0d] using this
  have HP:=Y00 (Y07 hRp hI.out.2.1)
  have HN:=Y08 (show a=P.length∧p=P.length+X1.length∧m=P.length+X1.length+X2.length∧e=m+Y1.length∧b=m+Y1.length+Y2.length∧d=P.length+X1.length+Y1.length∧m≤N∧b≤N∧X1.length+Y1.length≤f∧X2.length+Y2.length≤f from by
   have:=HS.out
   omega)
  have HQ:=Y00 (Y07 sX1 (Y07 sX2 (Y07 sY1 (Y07 sY2 (Y07 hle (Y07 eX eY))))))
  clear hM hT l1 l2 sX1 sX2 sY1 sY2 hle hlX hlY hRp he hI eX eY
  obtain ⟨c1,hc1⟩:∃ c1,c1=decide (p<m∧m<e):=⟨_,rfl⟩
  obtain ⟨c2,hc2⟩:∃ c2,c2=decide (a<p∧p<d):=⟨_,rfl⟩
  obtain ⟨c3,hc3⟩:∃ c3,c3=decide (d<e∧e<b):=⟨_,rfl⟩
  have HC1:=Y08 hc1
  have HC2:=Y08 hc2
  have HC3:=Y08 hc3
  clear hc1 hc2 hc3
  go_upto_region 39 with fail
  go_cut [185] from 178 to 184 (fun s wx=>s=.bool c1∧wr=wx)
  case first =>
   by_cases h1:p<m
   ·have h1I:(p:Int)<(m:Int):=by omega
    by_cases h2:m<e
    ·have h2I:(m:Int)<(e:Int):=by omega
     go_wp2_with fail
     go_meet
     exact ⟨by rw [HC1.out,Y0r ⟨h1,h2⟩],rfl⟩
    have h2I:¬ ((m:Int)<(e:Int)):=by omega
    have h2J:(e:Int)≤(m:Int):=by omega
    go_wp2_with fail
    go_meet
    exact ⟨by rw [HC1.out,Y0s (fun h=>h2 h.2)],rfl⟩
   have h1I:¬ ((p:Int)<(m:Int)):=by omega
   have h1J:(m:Int)≤(p:Int):=by omega
   go_wp2_with fail
   go_meet
   exact ⟨by rw [HC1.out,Y0s (fun h=>h1 h.1)],rfl⟩
  obtain ⟨rfl,rfl⟩:=hcut
  go_upto_if 185 with fail
  go_cut [] from 186 to 191 (fun wx=>J08 (kT.R 99 wx base ok (.slice (some ⟨g,0,none⟩) N cap) (P++(X1++Y1)++(X2++Y2)++S)∧w.grownBy wx (some g)))
  case first =>
   cases c1 with
   | true =>
    have HD:=Y00 (show Calls Tryz.prog 126 #[.slice (some ⟨g,0,none⟩) N cap,.int .i64 p,.int .i64 m,.int .i64 e,.func (.func 115) #[] #[]] wr _ from by
     have hn:=HN.out
     have hc:p<m∧m<e:=of_decide_eq_true HC1.out.symm
     exact rotT_any g N cap base ok (P++X1) X2 Y1 (Y2++S) (.func (.func 115) #[] #[]) wr (by have:=HP.out.1;simpa only [Y0d] using this) (by omega) (by omega) hN p m e (by simp;omega) (by simp;omega) (by simp;omega))
    go_wp2_with fail
    refine HD.out.mono ?_
    rintro e w5 ⟨rfl,hR5,hg5⟩
    have H5:=Y00 (Y07 hR5 hg5)
    clear hR5 hg5
    go_wp2_with fail
    go_meet
    exact ⟨by have:=H5.out.1;simpa only [Y0d] using this,HP.out.2.both H5.out.2⟩
   | false=>?_
   have hz:X2=[]∨Y1=[]:=by
    have hn:=HN.out
    have hc:¬ (p<m∧m<e):=of_decide_eq_false HC1.out.symm
    rcases Nat.eq_zero_or_pos X2.length with h | h
    ·exact .inl (List.eq_nil_of_length_eq_zero h)
    exact .inr (List.eq_nil_of_length_eq_zero (by omega))
   have HZ:=Y08 hz
   clear hz
   go_wp2_with fail
   go_meet
   refine ⟨?_,HP.out.2⟩
   have:=HP.out.1
   rcases HZ.out with h | h<;>(rw [h] at this ⊢;simpa only [Y0d,List.append_nil,List.nil_append] using this)
  have HA:=hcut
  clear hcut
  go_upto_region 41 with fail
  go_cut [199] from 192 to 198 (fun s w'=>s=.bool c2∧wc=w')
  case first =>
   by_cases h1:a<p
   ·have h1I:(a:Int)<(p:Int):=by omega
    by_cases h2:p<d
    ·have h2I:(p:Int)<(d:Int):=by omega
     go_wp2_with fail
     go_meet
     exact ⟨by rw [HC2.out,Y0r ⟨h1,h2⟩],rfl⟩
    have h2I:¬ ((p:Int)<(d:Int)):=by omega
    have h2J:(d:Int)≤(p:Int):=by omega
    go_wp2_with fail
    go_meet
    exact ⟨by rw [HC2.out,Y0s (fun h=>h2 h.2)],rfl⟩
   have h1I:¬ ((a:Int)<(p:Int)):=by omega
   have h1J:(p:Int)≤(a:Int):=by omega
   go_wp2_with fail
   go_meet
   exact ⟨by rw [HC2.out,Y0s (fun h=>h1 h.1)],rfl⟩
  obtain ⟨rfl,rfl⟩:=hcut
  go_upto_if 199 with fail
  go_cut [] from 200 to 205 (fun wx=>∃ Z1:List Tm,J08 (Z1.Perm (X1++Y1)∧J0c cmpT Z1∧kT.R 99 wx base ok (.slice (some ⟨g,0,none⟩) N cap) (P++Z1++(X2++Y2)++S)∧w.grownBy wx (some g)))
  case first =>
   cases c2 with
   | true =>
    have HD:=Y00 (show Calls Tryz.prog 123 #[.slice (some ⟨g,0,none⟩) N cap,.int .i64 a,.int .i64 p,.int .i64 d,.func (.func 115) #[] #[]] wc _ from by
     have hn:=HN.out
     have hc:a<p∧p<d:=of_decide_eq_true HC2.out.symm
     exact IH.out P X1 Y1 (X2++Y2++S) wc a p d (by omega) (by omega) (by omega) ⟨HQ.out.1,HQ.out.2.2.1,by have:=HA.out.1;simpa only [Y0d] using this⟩ hn.1 hn.2.1 (by omega))
    go_wp2_with fail
    refine HD.out.mono ?_
    rintro e w5 ⟨rfl,Z1,hz1,hz2,hR5,hg5⟩
    have H5:=Y00 (Y07 hz1 (Y07 hz2 (Y07 hR5 hg5)))
    clear hz1 hz2 hR5 hg5
    go_wp2_with fail
    go_meet
    exact ⟨Z1,H5.out.1,H5.out.2.1,by have:=H5.out.2.2.1;simpa only [Y0d] using this,HA.out.2.both H5.out.2.2.2⟩
   | false=>?_
   have hz:X1=[]∨Y1=[]:=by
    have hn:=HN.out
    have hc:¬ (a<p∧p<d):=of_decide_eq_false HC2.out.symm
    rcases Nat.eq_zero_or_pos X1.length with h | h
    ·exact .inl (List.eq_nil_of_length_eq_zero h)
    exact .inr (List.eq_nil_of_length_eq_zero (by omega))
   have HZ:=Y08 hz
   clear hz
   go_wp2_with fail
   go_meet
   refine ⟨X1++Y1,List.Perm.refl _,?_,HA.out.1,HA.out.2⟩
   rcases HZ.out with h | h
   ·rw [h,List.nil_append];exact HQ.out.2.2.1
   rw [h,List.append_nil];exact HQ.out.1
  obtain ⟨Z1,HB⟩:=hcut
  clear HA HC1 HC2
  go_upto_region 43 with fail
  go_cut [213] from 206 to 212 (fun s w'=>s=.bool c3∧wc=w')
  case first =>
   by_cases h1:d<e
   ·have h1I:(d:Int)<(e:Int):=by omega
    by_cases h2:e<b
    ·have h2I:(e:Int)<(b:Int):=by omega
     go_wp2_with fail
     go_meet
     exact ⟨by rw [HC3.out,Y0r ⟨h1,h2⟩],rfl⟩
    have h2I:¬ ((e:Int)<(b:Int)):=by omega
    have h2J:(b:Int)≤(e:Int):=by omega
    go_wp2_with fail
    go_meet
    exact ⟨by rw [HC3.out,Y0s (fun h=>h2 h.2)],rfl⟩
   have h1I:¬ ((d:Int)<(e:Int)):=by omega
   have h1J:(e:Int)≤(d:Int):=by omega
   go_wp2_with fail
   go_meet
   exact ⟨by rw [HC3.out,Y0s (fun h=>h1 h.1)],rfl⟩
  obtain ⟨rfl,rfl⟩:=hcut
  have FIN:=Y08 (fun (Z2:List Tm) (V:World) (hp:Z2.Perm (X2++Y2)) (hs:J0c cmpT Z2) (hr:kT.R 99 V base ok (.slice (some ⟨g,0,none⟩) N cap) (P++Z1++Z2++S)) (hg:w.grownBy V (some g)) =>
   show MergePost g N cap base ok P X Y S w (.returned (.tuple #[])) V from by
    have hq:=HQ.out
    refine ⟨rfl,Z1++Z2,?_,Jbf HB.out.2.1 hs (fun u hu v hv=>hq.2.2.2.2.1 u (HB.out.1.mem_iff.1 hu) v (hp.mem_iff.1 hv)),by simpa only [Y0d] using hr,hg⟩
    rw [hq.2.2.2.2.2.1,hq.2.2.2.2.2.2]
    refine (HB.out.1.append hp).trans ?_
    simp only [Y0d]
    refine List.Perm.append_left _ ?_
    simp only [← Y0d]
    exact List.Perm.append_right _ List.perm_append_comm)
  cases c3 with
  | false =>
   have hz:X2=[]∨Y2=[]:=by
    have hn:=HN.out
    have hc:¬ (d<e∧e<b):=of_decide_eq_false HC3.out.symm
    rcases Nat.eq_zero_or_pos X2.length with h | h
    ·exact .inl (List.eq_nil_of_length_eq_zero h)
    exact .inr (List.eq_nil_of_length_eq_zero (by omega))
   have HZ:=Y08 hz
   clear hz
   go_wp2_with fail
   refine bodyPost_ret (results_none rfl _ _ _) rfl (FIN.out (X2++Y2) wc (List.Perm.refl _) ?_ HB.out.2.2.1 HB.out.2.2.2)
   rcases HZ.out with h | h
   ·rw [h,List.nil_append];exact HQ.out.2.2.2.1
   rw [h,List.append_nil];exact HQ.out.2.1
  | true=>?_
  have HD:=Y00 (show Calls Tryz.prog 123 #[.slice (some ⟨g,0,none⟩) N cap,.int .i64 d,.int .i64 e,.int .i64 b,.func (.func 115) #[] #[]] wc _ from by
   have hn:=HN.out
   have hl:=HB.out.1.length_eq
   rw [Y02] at hl
   have hc:d<e∧e<b:=of_decide_eq_true HC3.out.symm
   exact IH.out (P++Z1) X2 Y2 S wc d e b (by omega) (by omega) (by omega) ⟨HQ.out.2.1,HQ.out.2.2.2.1,by have:=HB.out.2.2.1;simpa only [Y0d] using this⟩ (by simp;omega) (by simp;omega) (by simp;omega))
  go_wp2_with fail
  refine HD.out.mono ?_
  rintro e w5 ⟨rfl,Z2,hz1,hz2,hR5,hg5⟩
  have H5:=Y00 (Y07 hz1 (Y07 hz2 (Y07 hR5 hg5)))
  clear hz1 hz2 hR5 hg5
  go_wp2_with fail
  exact bodyPost_ret (results_none rfl _ _ _) rfl (FIN.out Z2 w5 H5.out.1 H5.out.2.1 (by simpa only [Y0d] using H5.out.2.2.1) (HB.out.2.2.2.both H5.out.2.2.2))
def BlkT (s:Nat) (Ls:List (List Tm)):Prop:=∀ L ∈ Ls,L.length=s∧J0c cmpT L
theorem stableT_any (g N cap base:Nat) (ok:Nat→Prop) (l:List Tm) (w:World) (hR:kT.R 99 w base ok (.slice (some ⟨g,0,none⟩) N cap) l) (hok:ok g) (hN:N≤10000000000000) :
  Calls Tryz.prog 118 #[.slice (some ⟨g,0,none⟩) N cap,.int .i64 N,.func (.func 115) #[] #[]] w fun e w'=>e=.returned (.tuple #[])∧kT.R 99 w' base ok (.slice (some ⟨g,0,none⟩) N cap) (J2w l)∧w.grownBy w' (some g):=by
 have HR:=Y00 hR
 have hl:=(Kd.c03 hR).1
 have HL:=Y08 hl
 clear hR hl
 go_enter Tryz.func118,Tryz.ntmps118
 go_wp2
 go_loopw [7,8] (fun i j wr=>∃ (p q:Nat) (Ls:List (List Tm)) (T:List Tm),i=.int .i64 p∧j=.int .i64 q∧q=p+20∧p≤N∧J08 (p=Ls.flatten.length∧BlkT 20 Ls∧(Ls.flatten++T).Perm l∧kT.R 99 wr base ok (.slice (some ⟨g,0,none⟩) N cap) (Ls.flatten++T)∧w.grownBy wr (some g))) (fun _ j _=>N+1 - (intOf j).toNat)
 case atStart=>exact ⟨0,20,[],l,rfl,rfl,rfl,Nat.zero_le _,rfl,by intro L hL;simp at hL,List.Perm.refl _,HR.out,⟨rfl,rfl,rfl,Y0e _,fun _ _ _=>rfl⟩⟩
 obtain ⟨p,q,Ls,T,rfl,rfl,hq,hpN,hI⟩:=hrel
 have hlen:p+T.length=N:=by
  have h1:=hI.out.1
  have h2:=(Kd.c03 hI.out.2.2.2.1).1
  rw [Y02] at h2
  omega
 by_cases hqn:q≤N
 ·have hqnI:(q:Int)≤(N:Int):=by omega
  have wq:IntKind.i64.wrap ((q:Int)+20)=(q:Int)+20:=by rw [Y0b];omega
  have hRT:kT.R 99 wr base ok (.slice (some ⟨g,0,none⟩) N cap) (Ls.flatten++T.take 20++T.drop 20):=by
   rw [Y0d,List.take_append_drop];exact hI.out.2.2.2.1
  have hlT:(T.take 20).length=20:=by rw [Y0o];omega
  have HC:=Y00 (insT_any g N cap base ok Ls.flatten (T.take 20) (T.drop 20) wr hRT hok hN p q hI.out.1 (by rw [hlT];have:=hI.out.1;omega))
  have HH:=Y08 (Y07 hlen (Y07 hlT hq))
  clear hRT hlT hlen hq
  go_wp2_with fail
  refine HC.out.mono ?_
  rintro e w5 ⟨rfl,X',hp,hs,hR5,hg5⟩
  have H5:=Y00 (Y07 hp (Y07 hs (Y07 hR5 hg5)))
  clear hp hs hR5 hg5 HC
  go_wp2_with fail
  have hh:=HH.out
  have hx:=H5.out.1.length_eq
  refine ⟨⟨q,q+20,Ls++[X'],T.drop 20,rfl,by go_num,rfl,hqn,?_,?_,?_,?_,hI.out.2.2.2.2.both H5.out.2.2.2⟩,by simp [intOf];omega⟩
  ·have:=hI.out.1
   simp only [List.flatten_append,List.flatten_cons,List.flatten_nil,List.append_nil,Y02];omega
  ·intro L hL
   rcases Y0m.1 hL with hL | hL
   ·exact hI.out.2.1 L hL
   rw [Y11.1 hL];exact ⟨by omega,H5.out.2.1⟩
  ·refine List.Perm.trans ?_ hI.out.2.2.1
   simp only [List.flatten_append,List.flatten_cons,List.flatten_nil,List.append_nil,Y0d]
   refine List.Perm.append_left _ ?_
   have:=H5.out.1.append_right (T.drop 20)
   rwa [List.take_append_drop] at this
  have:=H5.out.2.2.1
  simpa only [List.flatten_append,List.flatten_cons,List.flatten_nil,List.append_nil,Y0d] using this
 have hqnI:¬ ((q:Int)≤(N:Int)):=by omega
 have hqnJ:(N:Int)<(q:Int):=by omega
 have hRT:kT.R 99 wr base ok (.slice (some ⟨g,0,none⟩) N cap) (Ls.flatten++T++[]):=by
  rw [List.append_nil];exact hI.out.2.2.2.1
 have HC:=Y00 (insT_any g N cap base ok Ls.flatten T [] wr hRT hok hN p N hI.out.1 (by have:=hI.out.1;omega))
 have HH:=Y08 (show T.length<20 from by omega)
 clear hRT hlen hq
 go_wp2_with fail
 refine HC.out.mono ?_
 rintro e w5 ⟨rfl,X',hp,hs,hR5,hg5⟩
 have H5:=Y00 (show (Ls.flatten++X').Perm l∧BlkT 20 Ls∧J0c cmpT X'∧X'.length<20∧kT.R 99 w5 base ok (.slice (some ⟨g,0,none⟩) N cap) (Ls.flatten++X')∧w.grownBy w5 (some g) from
  ⟨(hp.append_left _).trans hI.out.2.2.1,hI.out.2.1,hs,by have:=hp.length_eq;have:=HH.out;omega,by rwa [List.append_nil] at hR5,hI.out.2.2.2.2.both hg5⟩)
 clear hp hs hR5 hg5 HC HH hI
 go_wp2_with fail
 go_loopw [6] (fun i wr=>∃ (s:Nat) (Ls:List (List Tm)) (T:List Tm),i=.int .i64 s∧20≤s∧s≤20000000000000∧J08 (BlkT s Ls∧J0c cmpT T∧T.length<s∧(Ls.flatten++T).Perm l∧kT.R 99 wr base ok (.slice (some ⟨g,0,none⟩) N cap) (Ls.flatten++T)∧w.grownBy wr (some g))) (fun i _=>N - (intOf i).toNat)
 case atStart=>exact ⟨20,Ls,X',rfl,Y0e _,by omega,H5.out.2.1,H5.out.2.2.1,H5.out.2.2.2.1,H5.out.1,H5.out.2.2.2.2.1,H5.out.2.2.2.2.2⟩
 clear H5
 obtain ⟨s,Ls,T,rfl,hs20,hsm,hI⟩:=hrel
 have hlen:Ls.flatten.length+T.length=N:=by
  have h2:=(Kd.c03 hI.out.2.2.2.2.1).1
  rw [Y02] at h2
  omega
 by_cases hsn:s<N
 rotate_left
 ·have hsnI:¬ ((s:Int)<(N:Int)):=by omega
  have hsnJ:(N:Int)≤(s:Int):=by omega
  go_wp2_with fail
  go_end0
  refine ⟨rfl,?_,hI.out.2.2.2.2.2⟩
  have he:Ls.flatten++T=J2w l:=Jan ordT (fun _ _=>trivial) hI.out.2.2.2.1 (by
   cases Ls with
   | nil=>simpa using hI.out.2.1
   | cons L Ls=>?_
   have h1:=hI.out.1 L Y03
   simp only [List.flatten_cons,Y02] at hlen
   have h2:Ls.flatten=[]:=List.eq_nil_of_length_eq_zero (by omega)
   have h3:T=[]:=List.eq_nil_of_length_eq_zero (by omega)
   rw [List.flatten_cons,h2,h3]
   simpa using h1.2)
  rw [← he]
  exact hI.out.2.2.2.2.1
 have hsnI:(s:Int)<(N:Int):=by omega
 have ws:IntKind.i64.wrap (2*(s:Int))=((2*s:Nat):Int):=by rw [Y0b];omega
 have ws2:IntKind.i64.wrap ((s:Int)*2)=((2*s:Nat):Int):=by rw [Y0b];omega
 have HS:=Y08 ws2
 clear ws2
 go_wp2_with fail
 go_loopw [7,8] (fun i j wr=>∃ (p q:Nat) (Ms Ks:List (List Tm)),i=.int .i64 p∧j=.int .i64 q∧q=p+2*s∧p≤N∧J08 (p=Ms.flatten.length∧BlkT (2*s) Ms∧BlkT s Ks∧(Ms.flatten++Ks.flatten++T).Perm l∧kT.R 99 wr base ok (.slice (some ⟨g,0,none⟩) N cap) (Ms.flatten++Ks.flatten++T)∧w.grownBy wr (some g))) (fun _ j _=>N+1 - (intOf j).toNat)
 case atStart=>exact ⟨0,2*s,[],Ls,rfl,rfl,by omega,Nat.zero_le _,rfl,by intro L hL;simp at hL,hI.out.1,by simpa using hI.out.2.2.2.1,by simpa using hI.out.2.2.2.2.1,hI.out.2.2.2.2.2⟩
 obtain ⟨p,q,Ms,Ks,rfl,rfl,hq,hpN,hJ⟩:=hrel
 have hlen2:p+Ks.flatten.length+T.length=N:=by
  have h1:=hJ.out.1
  have h2:=(Kd.c03 hJ.out.2.2.2.2.1).1
  rw [Y02,Y02] at h2
  omega
 have HTS:=Y08 (Y07 hI.out.2.1 hI.out.2.2.1)
 by_cases hqn:q≤N
 ·have hqnI:(q:Int)≤(N:Int):=by omega
  match Ks,hJ,hlen2 with
  | [],hJ,hlen2=>exact absurd hlen2 (by have:=HTS.out.2;simp;omega)
  | [K1],hJ,hlen2=>exact absurd hlen2 (by have:=HTS.out.2;have:=(hJ.out.2.2.1 K1 Y03).1;simp;omega)
  | K1::K2::Ks,hJ,hlen2 =>
   have h1:=hJ.out.2.2.1 K1 Y03
   have h2:=hJ.out.2.2.1 K2 (Y04 _ Y03)
   have h3:BlkT s Ks:=fun L hL=>hJ.out.2.2.1 L (Y04 _ (Y04 _ hL))
   have hrow:Ms.flatten++(K1::K2::Ks).flatten++T=Ms.flatten++K1++K2++(Ks.flatten++T):=by simp
   have hrw:=hJ.out.2.2.2.2.1
   have hpm:=hJ.out.2.2.2.1
   rw [hrow] at hrw hpm
   have wps:IntKind.i64.wrap ((p:Int)+(s:Int))=((p+s:Nat):Int):=by rw [Y0b];omega
   have wqs:IntKind.i64.wrap ((q:Int)+((2*s:Nat):Int))=((q+2*s:Nat):Int):=by rw [Y0b];omega
   have HC:=Y00 (symT_any g N cap base ok hN (K1.length+K2.length) Ms.flatten K1 K2 (Ks.flatten++T) wr p (p+s) q (Y0e _) (by omega) (by omega) ⟨h1.2,h2.2,hrw⟩ hJ.out.1 (by have:=hJ.out.1;omega) (by have:=hJ.out.1;omega))
   have HH:=Y00 (Y07 hq (Y07 hJ.out (Y07 h1 (Y07 h2 (Y07 h3 (Y07 hpm hlen2))))))
   clear h1 h2 h3 hrow hrw hpm hq hlen2 hJ
   go_wp2_with fail
   refine HC.out.mono ?_
   rintro e w5 ⟨rfl,Z,hz1,hz2,hR5,hg5⟩
   have H5:=Y00 (Y07 hz1 (Y07 hz2 (Y07 hR5 hg5)))
   clear hz1 hz2 hR5 hg5 HC
   go_wp2_with fail
   have hh:=HH.out
   have hzl:=H5.out.1.length_eq
   rw [Y02] at hzl
   refine ⟨⟨q,q+2*s,Ms++[Z],Ks,rfl,by go_num,rfl,hqn,?_,?_,hh.2.2.2.2.1,?_,?_,hh.2.1.2.2.2.2.2.both H5.out.2.2.2⟩,by simp [intOf];omega⟩
   ·have h1:=hh.1
    have h2:=hh.2.1.1
    have h3:=hh.2.2.1.1
    have h4:=hh.2.2.2.1.1
    simp only [List.flatten_append,List.flatten_cons,List.flatten_nil,List.append_nil,Y02];omega
   ·intro L hL
    rcases Y0m.1 hL with hL | hL
    ·exact hh.2.1.2.1 L hL
    rw [Y11.1 hL]
    exact ⟨by have h3:=hh.2.2.1.1;have h4:=hh.2.2.2.1.1;omega,H5.out.2.1⟩
   ·refine List.Perm.trans ?_ hh.2.2.2.2.2.1
    simp only [List.flatten_append,List.flatten_cons,List.flatten_nil,List.append_nil,Y0d]
    refine List.Perm.append_left _ ?_
    simp only [← Y0d]
    exact (H5.out.1.append_right _).append_right _
   have:=H5.out.2.2.1
   simpa only [List.flatten_append,List.flatten_cons,List.flatten_nil,List.append_nil,Y0d] using this
 have hqnI:¬ ((q:Int)≤(N:Int)):=by omega
 have hqnJ:(N:Int)<(q:Int):=by omega
 have wps:IntKind.i64.wrap ((p:Int)+(s:Int))=((p+s:Nat):Int):=by rw [Y0b];omega
 have wsx:=HS.out
 have FIN:=Y08 (fun (Z:List Tm) (V:World) (h1:J0c cmpT Z) (h2:Z.length<2*s) (h3:(Ms.flatten++Z).Perm l) (h4:kT.R 99 V base ok (.slice (some ⟨g,0,none⟩) N cap) (Ms.flatten++Z)) (h5:w.grownBy V (some g)) =>
  show ∃ (s1:Nat) (Ls:List (List Tm)) (T:List Tm),Value.int .i64 ((2*s:Nat):Int)=.int .i64 s1∧20≤s1∧s1≤20000000000000∧J08 (BlkT s1 Ls∧J0c cmpT T∧T.length<s1∧(Ls.flatten++T).Perm l∧kT.R 99 V base ok (.slice (some ⟨g,0,none⟩) N cap) (Ls.flatten++T)∧w.grownBy V (some g)) from
  ⟨2*s,Ms,Z,rfl,by omega,by omega,hJ.out.2.1,h1,h2,h3,h4,h5⟩)
 by_cases hm:p+s<N
 ·have hmI:((p+s:Nat):Int)<(N:Int):=by omega
  match Ks,hJ,hlen2 with
  | [],hJ,hlen2=>exact absurd hlen2 (by have:=HTS.out.2;simp;omega)
  | K1::K2::Ks,hJ,hlen2=>exact absurd hlen2 (by have:=(hJ.out.2.2.1 K1 Y03).1;have:=(hJ.out.2.2.1 K2 (Y04 _ Y03)).1;simp only [List.flatten_cons,Y02];omega)
  | [K1],hJ,hlen2 =>
   have h1:=hJ.out.2.2.1 K1 Y03
   have hrow:Ms.flatten++[K1].flatten++T=Ms.flatten++K1++T++[]:=by simp
   have hrw:=hJ.out.2.2.2.2.1
   have hpm:=hJ.out.2.2.2.1
   rw [hrow] at hrw hpm
   have hl1:p+K1.length+T.length=N:=by simpa using hlen2
   have HC:=Y00 (symT_any g N cap base ok hN (K1.length+T.length) Ms.flatten K1 T [] wr p (p+s) N (Y0e _) (by omega) (by omega) ⟨h1.2,HTS.out.1,hrw⟩ hJ.out.1 (by have:=hJ.out.1;omega) (by have:=hJ.out.1;omega))
   have HH:=Y00 (Y07 hJ.out (Y07 h1 (Y07 hpm hl1)))
   clear h1 hrow hrw hpm hq hlen2 hJ hl1
   go_wp2_with fail
   refine HC.out.mono ?_
   rintro e w5 ⟨rfl,Z,hz1,hz2,hR5,hg5⟩
   have H5:=Y00 (Y07 hz1 (Y07 hz2 (Y07 hR5 hg5)))
   clear hz1 hz2 hR5 hg5 HC
   go_wp2_with fail
   have hzl:=H5.out.1.length_eq
   rw [Y02] at hzl
   have h3:=HH.out.2.1.1
   refine ⟨FIN.out Z w5 H5.out.2.1 (by have:=HTS.out.2;omega) ?_ (by simpa only [List.append_nil,Y0d] using H5.out.2.2.1) (HH.out.1.2.2.2.2.2.both H5.out.2.2.2),by simp [intOf];omega⟩
   refine List.Perm.trans (List.Perm.append_left _ H5.out.1) ?_
   have:=HH.out.2.2.1
   simpa only [List.append_nil,Y0d] using this
 have hmI:¬ (((p+s:Nat):Int)<(N:Int)):=by omega
 have hmJ:(N:Int)≤((p+s:Nat):Int):=by omega
 have hz:∃ Z,J0c cmpT Z∧Z.length<2*s∧Ms.flatten++Ks.flatten++T=Ms.flatten++Z:=by
  match Ks,hJ,hlen2 with
  | [],hJ,hlen2=>exact ⟨T,HTS.out.1,by have:=HTS.out.2;omega,by simp⟩
  | K1::K2::Ks,hJ,hlen2=>exact absurd hlen2 (by have:=(hJ.out.2.2.1 K1 Y03).1;have:=(hJ.out.2.2.1 K2 (Y04 _ Y03)).1;simp only [List.flatten_cons,Y02];omega)
  | [K1],hJ,hlen2 =>
   have h1:=hJ.out.2.2.1 K1 Y03
   have hl1:p+K1.length+T.length=N:=by simpa using hlen2
   have h3:T=[]:=List.eq_nil_of_length_eq_zero (by omega)
   exact ⟨K1,h1.2,by omega,by rw [h3];simp⟩
 have HZ:=Y00 hz
 clear hz hlen2 hq
 go_wp2_with fail
 obtain ⟨Z,hz1,hz2,hz3⟩:=HZ.out
 have h3:=hJ.out.2.2.2
 rw [hz3] at h3
 exact ⟨FIN.out Z wr hz1 hz2 h3.1 h3.2.1 h3.2.2,by simp [intOf];omega⟩
theorem Jju {α:Type} {P:Program} (d:Kd α) {W:World} {base e:Nat} {ok:Nat→Prop} {g N cap c:Nat} {A:Option Addr} {xs ys:List α} (t t' ty:TypeId) (ht:P.underlying t=some (.slice e)) (hinfo:(P.info? e).map (·.size)=some d.sz)
  (HO:d.R e W base ok (.slice (some ⟨g,0,none⟩) N cap) xs) (HR:d.C W A N ys) (KM:∀ w w' x cs,d.K w x cs→d.M w' base (fun _=>False) x cs) (hs0:0<d.sz) :
  ∃ w1,(Builtin.copy_ #[t,t'] ty #[.slice (some ⟨g,0,none⟩) N cap,.slice A N c]).run P W=.ok (.int .i64 (N:Int)) w1∧d.R e w1 base ok (.slice (some ⟨g,0,none⟩) N cap) ys∧W.grownBy w1 (some g):=by
 obtain ⟨i0,hi,hi0⟩:=Option.map_eq_some_iff.1 hinfo
 obtain rfl:=(Kd.c03 HO).1
 have hy:ys.length=xs.length:=HR.1
 obtain ⟨hok,inner,hown,_⟩:=HO
 obtain ⟨hil,hv | ⟨g',cap',cur,hv,hbg,hg,hNc,hcm,hcs,hct⟩⟩:=hown
 ·cases hv.1
 cases hv
 have hsz:∀ w,(sizeOf e).run P w=.ok d.sz w:=fun w=>by simp [sizeOf,typeInfo,hi,hi0]
 rcases Nat.eq_zero_or_pos xs.length with h0 | hN
 ·have hxe:=List.eq_nil_of_length_eq_zero h0
  subst hxe
  obtain rfl:ys=[]:=List.eq_nil_of_length_eq_zero hy
  refine ⟨W,?_,⟨hok,[],⟨by simp,.inr ⟨g,cap,cur,rfl,hbg,hg,Nat.zero_le _,hcm,hcs,by simp⟩⟩,Reps.none _ _⟩,World.grownBy.refl W _⟩
  have hf:∀ w,(Builtin.firstCells d.sz 0 (.slice A 0 c)).run P w=.ok #[] w:=fun w=>by
   cases A with
   | some ad=>exact run_firstCells_some (P:=P) w d.sz 0 ad 0 c [] (by simp) (by simp)
   | none=>simp [Builtin.firstCells]
  simp only [Builtin.copy_,Sem.run_bind,List.getElem?_toArray,List.getElem?_cons_zero,List.getElem?_cons_succ,run_underlying ht,Result.andThen_ok,Builtin.lenOf,Sem.run_pure,hsz]
  simp [hf,storeCells,goInt]
 obtain ⟨ad,rfl,_⟩:=HR.2.2 hN
 obtain ⟨news,hnr,hnc⟩:=J19.inner_ HR
 have hnl:news.length=xs.length*d.sz:=by rw [hnr.1,hy]
 have hone:∀ u ∈ news,u.oneCell'=true:=by
  intro u hu
  obtain ⟨q,hq,rfl⟩:=List.mem_iff_getElem.1 hu
  have hql:q / d.sz<ys.length:=by
   rw [Nat.div_lt_iff_lt_mul hs0,← hnr.1];exact hq
  refine d.K_one (hnr.2 (q / d.sz) _ (Y05 hql)) _ ?_
  rw [List.mem_iff_getElem?]
  refine ⟨q % d.sz,?_⟩
  rw [List.getElem?_take,if_pos (Nat.mod_lt _ hs0),List.getElem?_drop,Nat.mul_comm,Nat.div_add_mod,Y05 hq]
 have hfit:news.length≤cur.size:=by rw [hnl,hcs];exact Nat.mul_le_mul_right _ hNc
 have hf:=run_firstCells_some (P:=P) W d.sz xs.length ad xs.length c news hnl hnc
 have hst:=run_storeCells_at P g 0 e news 0 cur W hg (by simpa using hfit) hone
 simp only [Nat.add_zero,Nat.zero_add,List.take_zero,List.nil_append] at hst
 refine ⟨W.setRow g (news++List.drop news.length cur.toList).toArray,?_,⟨hok,news,⟨by rw [hnl,hy],.inr ⟨g,cap,(news++List.drop news.length cur.toList).toArray,by rw [hy],hbg,setRow_heap W g cur _ e (0,0) hg,by rw [hy];exact hNc,hcm,?_,?_⟩⟩,hnr.imp_ (fun x cs hk=>d.M_mono (fun _ h=>h.elim) (KM W _ x cs hk))⟩,⟨rfl,rfl,rfl,by simp [World.setRow],fun k _ hk=>setRow_other W g k _ (fun e=>hk (by rw [e]))⟩⟩
 ·simp only [Builtin.copy_,Sem.run_bind,List.getElem?_toArray,List.getElem?_cons_zero,List.getElem?_cons_succ,run_underlying ht,Result.andThen_ok,Builtin.lenOf,Sem.run_pure,hsz]
  simp [hf,hst,goInt]
 ·simp only [List.size_toArray,Y02,Y0p,Array.length_toList]
  omega
 rw [hy,← hnl]
 exact List.take_left
theorem Jdy {P:Program} {ops:Array Oper} {rest:List Oper} {o:Oper} {a:Act} {Q:Exit→Act→World→Prop} {W w1:World} (hgd:o.guard=none) (s x:Operand) (t t':TypeId)
  (ho:o.op=.call { callee:=.builtin .copy,args:=#[s,x],argTypes:=#[t,t'] }) (v u r:Value) (hs:a.eval s=v) (hx:a.eval x=u) (hrun:(Builtin.copy_ #[t,t'] o.type #[v,u]).run P W=.ok r w1) (h:wpList P ops Q rest (a.put o.dst r) w1) :
  wpList P ops Q (o::rest) a W:=by
 refine wpList_plain hgd fun K hK=>?_
 unfold Oper.wp execOp
 simp only [ho,resolve,invoke,builtin,Sem.run_bind,Sem.run_pure,Result.andThen_ok,List.map_toArray,List.map_cons,List.map_nil,hs,hx,hrun]
 exact hK _ _ h
theorem Js6 (base:Nat) (w w':World) (x:Tm) (cs:List Value) (h:kT.K w x cs):kT.M w' base (fun _=>False) x cs:=by
 rw [kT_K.1 h];exact kT_M x
theorem sortT_any (g N cap base:Nat) (ok:Nat→Prop) (l:List Tm) (w:World) (hR:kT.R 99 w base ok (.slice (some ⟨g,0,none⟩) N cap) l) (hok:ok g) (hN:N≤10000000000000) :
  Calls Tryz.prog 114 #[.slice (some ⟨g,0,none⟩) N cap,.func (.func 115) #[] #[]] w fun e w'=>e=.returned (.tuple #[])∧kT.R 99 w' base ok (.slice (some ⟨g,0,none⟩) N cap) (J2w l)∧w.grownBy w' (some g):=by
 have HC:=Y00 (stableT_any g N cap base ok l w hR hok hN)
 clear hR
 go_enter Tryz.func114,Tryz.ntmps114
 go_wp2_with fail
 refine HC.out.mono ?_
 rintro e w5 ⟨rfl,hR5,hg5⟩
 go_wp2_with fail
 go_end0
 exact ⟨rfl,hR5,hg5⟩
theorem sortedT_any (A:Option Addr) (c:Nat) (l:List Tm) (w:World) (hl:kT.C w A l.length l) (hn:l.length*24≤140737488355328) :
  Calls Tryz.prog 99 #[.slice A l.length c,.agg #[.func (.func 115) #[] #[]]] w fun e w' =>
   ∃ v,e=.returned v∧kT.R 99 w' w.heap.size (fun _=>True) v (J2w l)∧Below w.heap.size w w':=by
 have HL:=Y00 hl
 have HLL:=Y00 (rfl:l.length=l.length)
 have hmf:∀ (w:World) ,(Instr.field 173 (.agg #[.func (.func 115) #[] #[]]) 0).run Tryz.prog w=.ok (.func (.func 115) #[] #[]) w:=fun _=>by kernel_rfl
 have HB1:=Y00 (J02 w (.cells #[.func (.func 115) #[] #[]] 173))
 clear hl
 go_enter Tryz.func99,Tryz.ntmps99
 go_upto_region 2 with (at_make;go_must (refine Kd.R_make kT (w0:=w) w.heap.size 99 rfl (N:=8) rfl _ _ _ rfl l.length rfl rfl Tryz.underlying68 _ 24 Tryz.infoTime rfl (by decide) (by decide) ((0,0,0):Tm) (ok:=fun _=>True) (okp:=fun _=>False) (kT_M _) (fun _ h=>h.elim) trivial (by omega) (by omega) HB1.out HB1.out.size ?_);intro v1 w3 hR3 hb3 hg3 hown3)
 obtain ⟨b,hvb,hbw⟩:=hown3
 obtain ⟨_,hown⟩:=Kd.R_own hR3
 obtain ⟨g,cap,rfl⟩:∃ g cap,v1=.slice (some ⟨g,0,none⟩) l.length cap:=by
  rcases hown.2 with ⟨rfl,_⟩ | ⟨g,cap,cur,hv,_⟩
  ·cases hvb
  exact ⟨g,cap,by simpa using hv⟩
 have hcp:∃ w4,(Builtin.copy_ #[68,68] 3 #[.slice (some ⟨g,0,none⟩) l.length cap,.slice A l.length c]).run Tryz.prog w3=.ok (.int .i64 (l.length:Int)) w4∧kT.R 99 w4 w.heap.size (fun _=>True) (.slice (some ⟨g,0,none⟩) l.length cap) l∧w3.grownBy w4 (some g) :=
  Jju (P:=Tryz.prog) kT 68 68 3 rfl (by kernel_rfl) hR3 (Kd.c00 HL.out hb3) (Js6 _) (by decide)
 obtain ⟨w4,hrun,hR4,hg4⟩:=hcp
 have hz:(w.alloc (.cells #[.func (.func 115) #[] #[]] 173)).heap.size=w.heap.size+1:=by simp
 have hgb:g=b:=by injection hvb
 have hc0:w4.cell? ⟨w.heap.size,0,none⟩=some (.func (.func 115) #[] #[]):=by
  refine J09 hg4 (J09 hg3 (J0a w _ _ 0) (by simp)) (fun he=>?_)
  injection he with he
  have:w.heap.size=g:=he
  omega
 have HB4:=Y00 (Y07 hR4 (hb3.grown hg4 hb3.size (fun k hk=>by injection hk with hk;omega)))
 have HRUN:=Y08 hrun
 clear hb3 hg3 hbw hR4 hg4 hz hgb hrun hvb hR3 hown
 go_wp2_with (with_reducible refine Jdy rfl (.tmp 9) (.tmp 10) _ _ rfl (.slice (some ⟨g,0,none⟩) l.length cap) (.slice A l.length c) _ rfl rfl HRUN.out ?_)
 refine (sortT_any g l.length cap w.heap.size (fun _=>True) l w4 HB4.out.1 trivial (by omega)).mono ?_
 rintro e w5 ⟨rfl,hR5,hg5⟩
 have H5:=Y00 (Y07 hR5 (HB4.out.2.grown hg5 HB4.out.2.size (fun k hk=>by injection hk with hk;subst hk;exact Kd.R_base HB4.out.1 g rfl)))
 clear hR5 hg5
 go_wp2_with fail
 go_ret
 exact ⟨_,rfl,H5.out.1,H5.out.2⟩
end Go.Proofs.YtbkfnmgkcgnifaaGreat
