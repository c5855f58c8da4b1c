/- Part 3 of the proof of ProgressRuns and ProgressTells. -/
import Derived.Test.YtbkfnmgkcgnifaaGreatVr2
import Derived.WalkMore
import Derived.Defers
import Derived.Recover
set_option linter.all false
set_option maxRecDepth 8000
set_option maxHeartbeats 16000000
namespace Go.Proofs.YtbkfnmgkcgnifaaGreat
open Go.RowKit Go.Shelf W1 W2 Mdl Go.ChangeMaps
structure RG where
 rb:Nat
 wa:Nat
 wc:Nat
 gb:Nat
 wb:Nat→Nat
 lb:Nat→Nat
 hb:Nat→Nat
 nb:Nat→Nat
 nc:Nat→Nat
 z:Nat→Array Value→Prop:=fun _ _=>False
structure J12 (w0:World) (G:RG) (W lim:Nat) (st:St) (q:Nat→Nat→Value) (w:World):Prop where
 below:Below w0.heap.size w0 w
 run:∃ A c,w.heap[G.rb]?=some (.cells (J31 st.works st.nts st.sent G.gb (.slice (some ⟨G.wa,0,none⟩) W G.wc) (.slice A st.script.length c)) 92 (0,0))∧kI.C w0 A st.script.length st.script∧st.script.length≤c
 ws:∃ cells,w.heap[G.wa]?=some (.cells cells 93 (0,0))∧∀ i,i<W→cells[i]?=some (.pointer (some ⟨G.wb i,0,none⟩))
 wk:∀ i,i<W→w.heap[G.wb i]?=some (.cells #[.map (some (G.lb i)),.map (some (G.hb i)),.slice (some ⟨G.nb i,0,none⟩) W (G.nc i)] 97 (0,0))
 led:∀ i,i<W→J1a w (G.lb i) (st.ledOf i)
 has:∀ i,i<W→J1a w (G.hb i) (st.hasOf i)
 nbk:∀ i,i<W→∃ cells,w.heap[G.nb i]?=some (.cells cells 180 (0,0))∧∀ k,k<W→cells[k]?=some (q i k)
 qs:∀ i k,i<W→k<W→QAt w0.heap.size lim w (q i k) (st.queue i k)
 qdis:∀ i k i' k',i<W→k<W→i'<W→k'<W→(i≠i'∨k≠k')→qOwn (q i k)=none∨qOwn (q i k)≠qOwn (q i' k')
 iwb:∀ i j,i<W→j<W→G.wb i=G.wb j→i=j
 inb:∀ i j,i<W→j<W→G.nb i=G.nb j→i=j
 ilb:∀ i j,i<W→j<W→G.lb i=G.lb j→i=j
 ihb:∀ i j,i<W→j<W→G.hb i=G.hb j→i=j
 ilh:∀ i j,i<W→j<W→G.lb i≠G.hb j
 low:w0.heap.size≤G.rb∧w0.heap.size≤G.wa∧∀ i,i<W→w0.heap.size≤G.wb i∧w0.heap.size≤G.lb i∧w0.heap.size≤G.hb i∧w0.heap.size≤G.nb i
 lens:st.led.length=W∧st.has.length=W∧st.notes.length=W∧∀ r ∈ st.notes,r.length=W
 frz:∀ k cs,G.z k cs→w.heap[k]?=some (.cells cs 101 (0,0))
section
variable {w0 w w':World} {G:RG} {W lim:Nat} {st:St} {q:Nat→Nat→Value}
theorem J12.t_rb (h:J12 w0 G W lim st q w):J0m w G.rb 92:=by
 obtain ⟨A,c,h1,_⟩:=h.run
 exact ⟨_,h1⟩
theorem J12.t_wa (h:J12 w0 G W lim st q w):J0m w G.wa 93:=by
 obtain ⟨c,h1,_⟩:=h.ws
 exact ⟨c,h1⟩
theorem J12.t_wb (h:J12 w0 G W lim st q w) {i:Nat} (hi:i<W):J0m w (G.wb i) 97:=⟨_,h.wk i hi⟩
theorem J12.t_nb (h:J12 w0 G W lim st q w) {i:Nat} (hi:i<W):J0m w (G.nb i) 180:=by
 obtain ⟨c,h1,_⟩:=h.nbk i hi
 exact ⟨c,h1⟩
theorem not_typed {w:World} {k:Nat} {t t':TypeId} (h:J0m w k t) (hne:(t == t')=false):¬ J0m w k t':=fun h'=>by
 have:=h.ne h'
 subst this
 simp at hne
theorem J1t {w:World} {k k':Nat} {t t':TypeId} (h:J0m w k t) (h':J0m w k' t') (hne:(t == t')=false):k≠k':=fun e=>by
 subst e;exact not_typed h hne h'
theorem J45 {w:World} {k k':Nat} {t:TypeId} {L:Led} (h:J1a w k L) (h':J0m w k' t):k≠k':=fun e=>by
 subst e;exact h.not_typed h'
theorem J12.c08 (h:J12 w0 G W lim st q w) (hb:Below w.heap.size w w'):J12 w0 G W lim st q w':=by
 have hk:Kept w w' (fun _=>False):=Kept.of_below hb _
 obtain ⟨A,c,r1,r2,r3⟩:=h.run
 obtain ⟨cs,s1,s2⟩:=h.ws
 exact ⟨J01 h.below h.below.size hb,⟨A,c,J04 r1 hb,r2,r3⟩,⟨cs,J04 s1 hb,s2⟩,fun i hi=>J04 (h.wk i hi) hb,fun i hi=>(h.led i hi).below hb,fun i hi=>(h.has i hi).below hb,
  fun i hi=>by obtain ⟨c,n1,n2⟩:=h.nbk i hi;exact ⟨c,J04 n1 hb,n2⟩,fun i k hi hk'=>(h.qs i k hi hk').kept hk (fun _ h=>h.elim) (fun _ _ h=>h),h.qdis,h.iwb,h.inb,h.ilb,h.ihb,h.ilh,h.low,h.lens,fun k cs hz=>J04 (h.frz k cs hz) hb⟩
theorem J0k {b:Nat} {w0 w w':World} (hb:Below w0.heap.size w0 w) (hg:w.grownBy w' (some b)) (hB:w0.heap.size≤b):Below w0.heap.size w0 w':=by
 refine ⟨hg.os.trans hb.os,hg.tape.trans hb.tape,hg.output.trans hb.output,Nat.le_trans hb.size hg.size,fun k hk=>?_⟩
 exact (hg.block k (Nat.lt_of_lt_of_le hk (by have:=hb.size;omega)) (fun he=>by injection he with he;omega)).trans (hb.block k hk)
theorem J12.set_run (h:J12 w0 G W lim st q w) (hg:w.grownBy w' (some G.rb)) {x y z:Int} {script:List Int} {A:Option Addr} {c:Nat}
  (hr:w'.heap[G.rb]?=some (.cells (J31 x y z G.gb (.slice (some ⟨G.wa,0,none⟩) W G.wc) (.slice A script.length c)) 92 (0,0))) (hC:kI.C w0 A script.length script) (hc:script.length≤c) :
  J12 w0 G W lim { st with works:=x,nts:=y,sent:=z,script:=script } q w':=by
 have hk:Kept w w' (fun k=>k=G.rb):=⟨hg.size,fun i hi hn=>hg.block i hi (fun he=>hn (by injection he))⟩
 have t:=h.t_rb
 obtain ⟨cs,s1,s2⟩:=h.ws
 exact ⟨J0k h.below hg h.low.1,⟨A,c,hr,hC,hc⟩,⟨cs,J0f s1 hk (J1t h.t_wa t rfl),s2⟩,fun i hi=>J0f (h.wk i hi) hk (J1t (h.t_wb hi) t rfl),fun i hi=>(h.led i hi).kept hk (J45 (h.led i hi) t),fun i hi=>(h.has i hi).kept hk (J45 (h.has i hi) t),
  fun i hi=>by obtain ⟨c,n1,n2⟩:=h.nbk i hi;exact ⟨c,J0f n1 hk (J1t (h.t_nb hi) t rfl),n2⟩,fun i k hi hk'=>(h.qs i k hi hk').kept hk (fun b hb _=>by subst hb;exact not_typed t rfl) (fun b hb he=>by subst he;exact not_typed t rfl ((h.qs i k hi hk').c07 hb).2),h.qdis,h.iwb,h.inb,h.ilb,h.ihb,h.ilh,h.low,h.lens,fun k cs hz=>J0f (h.frz k cs hz) hk (J1t ⟨_,h.frz k cs hz⟩ t rfl)⟩
theorem J0o {α:Type} (l:List α) (i:Nat) (x d:α) (h:i<l.length):(l.set i x).getD i d=x:=by
 rw [Y01,List.getElem?_set_self h];rfl
theorem getD_set_ne {α:Type} (l:List α) {i j:Nat} (x d:α) (h:i≠j):(l.set i x).getD j d=l.getD j d:=by
 rw [Y01,List.getElem?_set_ne h,← Y01]
theorem J12.set_has (h:J12 w0 G W lim st q w) {i:Nat} (hi:i<W) (hg:w.grownBy w' (some (G.hb i))) {L:Led} (hL:J1a w' (G.hb i) L):J12 w0 G W lim { st with has:=st.has.set i L } q w':=by
 have hk:Kept w w' (fun k=>k=G.hb i):=⟨hg.size,fun i hi hn=>hg.block i hi (fun he=>hn (by injection he))⟩
 have l:=h.has i hi
 obtain ⟨A,c,r1,r2,r3⟩:=h.run
 obtain ⟨cs,s1,s2⟩:=h.ws
 refine ⟨J0k h.below hg (h.low.2.2 i hi).2.2.1,⟨A,c,J0f r1 hk (Ne.symm (J45 l h.t_rb)),r2,r3⟩,⟨cs,J0f s1 hk (Ne.symm (J45 l h.t_wa)),s2⟩,fun j hj=>J0f (h.wk j hj) hk (Ne.symm (J45 l (h.t_wb hj))),fun j hj=>(h.led j hj).kept hk (h.ilh j i hj hi),fun j hj=>?_,
  fun j hj=>by obtain ⟨c,n1,n2⟩:=h.nbk j hj;exact ⟨c,J0f n1 hk (Ne.symm (J45 l (h.t_nb hj))),n2⟩,fun j k hj hk'=>(h.qs j k hj hk').kept hk (fun b hb _=>by subst hb;exact l.not_typed) (fun b hb he=>by subst he;exact l.not_typed ((h.qs j k hj hk').c07 hb).2),h.qdis,h.iwb,h.inb,h.ilb,h.ihb,h.ilh,h.low,⟨h.lens.1,by rw [← h.lens.2.1];simp,h.lens.2.2⟩,fun k cs hz=>J0f (h.frz k cs hz) hk (Ne.symm (J45 l ⟨_,h.frz k cs hz⟩))⟩
 by_cases hij:i=j
 ·subst hij
  have:(St.hasOf { st with has:=st.has.set i L } i)=L:=J0o _ _ _ _ (by rw [h.lens.2.1];exact hi)
  rw [this];exact hL
 have:(St.hasOf { st with has:=st.has.set i L } j)=st.hasOf j:=getD_set_ne _ _ _ hij
 rw [this]
 exact (h.has j hj).kept hk (fun he=>hij (h.ihb j i hj hi he).symm)
theorem J12.set_led (h:J12 w0 G W lim st q w) {i:Nat} (hi:i<W) (hg:w.grownBy w' (some (G.lb i))) {L:Led} (hL:J1a w' (G.lb i) L):J12 w0 G W lim { st with led:=st.led.set i L } q w':=by
 have hk:Kept w w' (fun k=>k=G.lb i):=⟨hg.size,fun i hi hn=>hg.block i hi (fun he=>hn (by injection he))⟩
 have l:=h.led i hi
 obtain ⟨A,c,r1,r2,r3⟩:=h.run
 obtain ⟨cs,s1,s2⟩:=h.ws
 refine ⟨J0k h.below hg (h.low.2.2 i hi).2.1,⟨A,c,J0f r1 hk (Ne.symm (J45 l h.t_rb)),r2,r3⟩,⟨cs,J0f s1 hk (Ne.symm (J45 l h.t_wa)),s2⟩,fun j hj=>J0f (h.wk j hj) hk (Ne.symm (J45 l (h.t_wb hj))),fun j hj=>?_,fun j hj=>(h.has j hj).kept hk (Ne.symm (h.ilh i j hi hj)),
  fun j hj=>by obtain ⟨c,n1,n2⟩:=h.nbk j hj;exact ⟨c,J0f n1 hk (Ne.symm (J45 l (h.t_nb hj))),n2⟩,fun j k hj hk'=>(h.qs j k hj hk').kept hk (fun b hb _=>by subst hb;exact l.not_typed) (fun b hb he=>by subst he;exact l.not_typed ((h.qs j k hj hk').c07 hb).2),h.qdis,h.iwb,h.inb,h.ilb,h.ihb,h.ilh,h.low,⟨by rw [← h.lens.1];simp,h.lens.2⟩,fun k cs hz=>J0f (h.frz k cs hz) hk (Ne.symm (J45 l ⟨_,h.frz k cs hz⟩))⟩
 by_cases hij:i=j
 ·subst hij
  have:(St.ledOf { st with led:=st.led.set i L } i)=L:=J0o _ _ _ _ (by rw [h.lens.1];exact hi)
  rw [this];exact hL
 have:(St.ledOf { st with led:=st.led.set i L } j)=st.ledOf j:=getD_set_ne _ _ _ hij
 rw [this]
 exact (h.led j hj).kept hk (fun he=>hij (h.ilb j i hj hi he).symm)
theorem J12.set_q (h:J12 w0 G W lim st q w) {i k:Nat} (hi:i<W) (hk:k<W) {w1:World} (hg:w.grownBy w1 (qOwn (q i k))) {v:Value} {l:List Note} (hv:QAt w0.heap.size lim w1 v l) (ho:qOwn v=none∨qOwn v=qOwn (q i k)∨∃ b,qOwn v=some b∧w.heap.size≤b) :
  J12 w0 G W lim { st with notes:=putQ st.notes i k l } (fun j m=>if j=i∧m=k then v else q j m) (w1.setCell ⟨G.nb i,k,none⟩ v):=by
 obtain ⟨cells,n1,n2⟩:=h.nbk i hi
 have hq:=h.qs i k hi hk
 have hqt:∀ b,qOwn (q i k)=some b→J0m w b 214:=fun b hb=>(hq.c07 hb).2
 have hk1:Kept w w1 (fun b=>qOwn (q i k)=some b):=⟨hg.size,fun b hb hn=>hg.block b hb (fun he=>hn he.symm)⟩
 have hn1:w1.heap[G.nb i]?=some (.cells cells 180 (0,0)):=J0f n1 hk1 (fun hb=>J1t (h.t_nb hi) (hqt _ hb) rfl rfl)
 have hg2:w1.grownBy (w1.setCell ⟨G.nb i,k,none⟩ v) (some (G.nb i)):=J0e (G.nb i) [v] k w1
 have hk2:Kept w (w1.setCell ⟨G.nb i,k,none⟩ v) (fun b=>qOwn (q i k)=some b∨b=G.nb i) :=
  Kept.then_ (S2:=fun b=>b=G.nb i) (hk1.mono (fun _ hb=>.inl hb)) ⟨hg2.size,fun b hb hn=>hg2.block b hb (fun he=>hn (by injection he))⟩ (fun b hb=>.inl (.inr hb))
 have hsome:∀ {t:TypeId} {b:Nat},J0m w b t→(214 == t)=false→(180 == t)=false→¬ (qOwn (q i k)=some b∨b=G.nb i):=by
  intro t b ht h1 h2 hb
  rcases hb with hb | hb
  ·exact not_typed (hqt _ hb) h1 ht
  subst hb;exact not_typed (h.t_nb hi) h2 ht
 have hled:∀ {b:Nat} {L:Led},J1a w b L→¬ (qOwn (q i k)=some b∨b=G.nb i):=by
  intro b L hL hb
  rcases hb with hb | hb
  ·exact hL.not_typed (hqt _ hb)
  subst hb;exact hL.not_typed (h.t_nb hi)
 obtain ⟨A,c,r1,r2,r3⟩:=h.run
 obtain ⟨cs,s1,s2⟩:=h.ws
 have hbelow:Below w0.heap.size w0 (w1.setCell ⟨G.nb i,k,none⟩ v):=by
  have hb1:Below w0.heap.size w0 w1:=by
   cases hqo:qOwn (q i k) with
   | some b=>rw [hqo] at hg;exact J0k h.below hg (hq.c07 hqo).1
   | none=>rw [hqo] at hg;exact ⟨hg.os.trans h.below.os,hg.tape.trans h.below.tape,hg.output.trans h.below.output,Nat.le_trans h.below.size hg.size,fun b hb=>(hg.block b (Nat.lt_of_lt_of_le hb h.below.size) (by simp)).trans (h.below.block b hb)⟩
  exact J0k hb1 hg2 (h.low.2.2 i hi).2.2.2
 have hqother:∀ j m,j<W→m<W→(j≠i∨m≠k)→qOwn (q j m)=none∨qOwn (q j m)≠qOwn v:=by
  intro j m hj hm hne
  rcases ho with ho | ho | ⟨b,ho,hb⟩
  ·cases hqo:qOwn (q j m) with
   | some b'=>right;rw [ho];simp
   | none=>exact .inl rfl
  ·rw [ho];exact h.qdis j m i k hj hm hi hk hne
  cases hqo:qOwn (q j m) with
  | none=>exact .inl rfl
  | some b'=>?_
  right
  rw [ho]
  intro he
  injection he with he
  obtain ⟨cc,hcc⟩:=((h.qs j m hj hm).c07 hqo).2
  have:=J0q hcc
  omega
 refine ⟨hbelow,⟨A,c,J0f r1 hk2 (hsome h.t_rb rfl rfl),r2,r3⟩,⟨cs,J0f s1 hk2 (hsome h.t_wa rfl rfl),s2⟩,fun j hj=>J0f (h.wk j hj) hk2 (hsome (h.t_wb hj) rfl rfl),fun j hj=>(h.led j hj).kept hk2 (hled (h.led j hj)),fun j hj=>(h.has j hj).kept hk2 (hled (h.has j hj)),
  fun j hj=>?_,fun j m hj hm=>?_,fun j m j' m' hj hm hj' hm' hne=>?_,h.iwb,h.inb,h.ilb,h.ihb,h.ilh,h.low,⟨h.lens.1,h.lens.2.1,by simp only [putQ,Y0q];exact h.lens.2.2.1,fun r hr=>?_⟩,fun k cs hz=>J0f (h.frz k cs hz) hk2 (hsome ⟨_,h.frz k cs hz⟩ rfl rfl)⟩
 ·by_cases hji:j=i
  ·subst hji
   refine ⟨_,J9y hn1 k v,fun m hm=>?_⟩
   by_cases hmk:m=k
   ·subst hmk
    have hsz:m<cells.size:=(Array.getElem?_eq_some_iff.1 (n2 m hm)).1
    simp [hsz]
   rw [Y0i (Ne.symm hmk),if_neg (fun h=>hmk h.2)]
   exact n2 m hm
  obtain ⟨c',m1,m2⟩:=h.nbk j hj
  refine ⟨c',J0f m1 hk2 (fun hb=>?_),fun m hm=>by rw [if_neg (fun h=>hji h.1)];exact m2 m hm⟩
  rcases hb with hb | hb
  ·exact J1t (hqt _ hb) (h.t_nb hj) rfl rfl
  exact hji (h.inb j i hj hi hb)
 ·by_cases hjm:j=i∧m=k
  ·obtain ⟨rfl,rfl⟩:=hjm
   rw [if_pos ⟨rfl,rfl⟩]
   have e:St.queue { st with notes:=putQ st.notes j m l } j m=l:=by
    simp only [St.queue,putQ]
    rw [J0o _ _ _ _ (by rw [h.lens.2.2.1];exact hj),J0o]
    have:st.notes.getD j [] ∈ st.notes:=by
     rw [Y01,Y05 (by rw [h.lens.2.2.1];exact hj)]
     exact Y0l _
    rw [h.lens.2.2.2 _ this];exact hm
   rw [e]
   refine hv.kept (S:=fun b=>b=G.nb j) ⟨hg2.size,fun b hb hn=>hg2.block b hb (fun he=>hn (by injection he))⟩ (fun b hb _=>?_) (fun b hb he=>?_)
   ·subst hb;exact not_typed ⟨cells,hn1⟩ rfl
   subst he;exact not_typed ⟨cells,hn1⟩ rfl (hv.c07 hb).2
  rw [if_neg hjm]
  have hne:j≠i∨m≠k:=by
   by_cases h1:j=i
   ·exact .inr (fun h2=>hjm ⟨h1,h2⟩)
   exact .inl h1
  have e:St.queue { st with notes:=putQ st.notes i k l } j m=st.queue j m:=by
   simp only [St.queue,putQ]
   by_cases h1:i=j
   ·subst h1
    rw [J0o _ _ _ _ (by rw [h.lens.2.2.1];exact hj),getD_set_ne _ _ _ (fun h2=>hjm ⟨rfl,h2.symm⟩)]
   rw [getD_set_ne _ _ _ h1]
  rw [e]
  refine (h.qs j m hj hm).kept hk2 (fun b hb _=>?_) (fun b hb he=>?_)
  ·rcases hb with hb | hb
   ·exact not_typed (hqt _ hb) rfl
   subst hb;exact not_typed (h.t_nb hi) rfl
  rcases he with he | he
  ·rcases h.qdis j m i k hj hm hi hk hne with h1 | h1
   ·rw [h1] at hb;cases hb
   exact h1 (hb.trans he.symm)
  subst he;exact not_typed (h.t_nb hi) rfl ((h.qs j m hj hm).c07 hb).2
 ·by_cases h1:j=i∧m=k
  ·obtain ⟨rfl,rfl⟩:=h1
   rw [if_pos ⟨rfl,rfl⟩,if_neg (fun h=>hne.elim (fun h1=>h1 h.1.symm) (fun h1=>h1 h.2.symm))]
   rcases hqother j' m' hj' hm' (hne.imp Ne.symm Ne.symm) with h2 | h2
   ·cases hv':qOwn v with
    | some b=>right;rw [h2];simp
    | none=>exact .inl rfl
   exact .inr (Ne.symm h2)
  rw [if_neg h1]
  by_cases h2:j'=i∧m'=k
  ·obtain ⟨rfl,rfl⟩:=h2
   rw [if_pos ⟨rfl,rfl⟩]
   exact hqother j m hj hm hne
  rw [if_neg h2]
  exact h.qdis j m j' m' hj hm hj' hm' hne
 simp only [putQ] at hr
 rcases List.mem_or_eq_of_mem_set hr with hr | rfl
 ·exact h.lens.2.2.2 r hr
 rw [Y0q]
 refine h.lens.2.2.2 _ ?_
 rw [Y01,Y05 (by rw [h.lens.2.2.1];exact hi)]
 exact Y0l _
theorem J12.mono {lim':Nat} (h:J12 w0 G W lim st q w) (hn:∀ nv n,J2f w0.heap.size lim w nv n→J2f w0.heap.size lim' w nv n):J12 w0 G W lim' st q w :=
 ⟨h.below,h.run,h.ws,h.wk,h.led,h.has,h.nbk,fun i k hi hk=>(h.qs i k hi hk).mono hn,h.qdis,h.iwb,h.inb,h.ilb,h.ihb,h.ilh,h.low,h.lens,h.frz⟩
theorem J12.relim (h:J12 w0 G W lim st q w):J12 w0 G W w.heap.size st q w:=h.mono (fun _ _ hn=>hn.relim)
theorem J12.lift {lim':Nat} (h:J12 w0 G W lim st q w) (hl:lim≤lim'):J12 w0 G W lim' st q w:=h.mono (fun _ _ hn=>hn.mono hl)
theorem J12.set_new (h:J12 w0 G W lim st q w) {row:Option Nat} (hg:w.grownBy w' row) (hr:∀ k,row=some k→lim≤k∧w0.heap.size≤k∧J0m w k 213):J12 w0 G W lim st q w':=by
 have hk:Kept w w' (fun k=>row=some k):=⟨hg.size,fun i hi hn=>hg.block i hi (fun he=>hn he.symm)⟩
 obtain ⟨A,c,r1,r2,r3⟩:=h.run
 obtain ⟨cs,s1,s2⟩:=h.ws
 have hne:∀ {b:Nat} {t:TypeId},J0m w b t→(t == 213)=false→¬ row=some b:=fun ht h1 he=>not_typed ht h1 (hr _ he).2.2
 have hl:∀ {b:Nat} {L:Led},J1a w b L→¬ row=some b:=fun hL he=>hL.not_typed (hr _ he).2.2
 have hb:Below w0.heap.size w0 w':=by
  cases row with
  | some k=>exact J0k h.below hg (hr k rfl).2.1
  | none=>exact ⟨hg.os.trans h.below.os,hg.tape.trans h.below.tape,hg.output.trans h.below.output,Nat.le_trans h.below.size hg.size,fun b hb=>(hg.block b (Nat.lt_of_lt_of_le hb h.below.size) (by simp)).trans (h.below.block b hb)⟩
 exact ⟨hb,⟨A,c,J0f r1 hk (hne h.t_rb rfl),r2,r3⟩,⟨cs,J0f s1 hk (hne h.t_wa rfl),s2⟩,fun i hi=>J0f (h.wk i hi) hk (hne (h.t_wb hi) rfl),fun i hi=>(h.led i hi).kept hk (hl (h.led i hi)),fun i hi=>(h.has i hi).kept hk (hl (h.has i hi)),
  fun i hi=>by obtain ⟨c,n1,n2⟩:=h.nbk i hi;exact ⟨c,J0f n1 hk (hne (h.t_nb hi) rfl),n2⟩,fun i k hi hk'=>(h.qs i k hi hk').kept hk (fun b hb hlt=>by have:=(hr b hb).1;omega) (fun b hb he=>hne ((h.qs i k hi hk').c07 hb).2 rfl he),h.qdis,h.iwb,h.inb,h.ilb,h.ihb,h.ilh,h.low,h.lens,fun k cs hz=>J0f (h.frz k cs hz) hk (hne ⟨_,h.frz k cs hz⟩ rfl)⟩
theorem J12.freeze (h:J12 w0 G W lim st q w) {g:Nat} {cs:Array Value} (hg:w.heap[g]?=some (.cells cs 101 (0,0))):J12 w0 { G with z:=fun k c=>k=g∧c=cs } W lim st q w :=
 ⟨h.below,h.run,h.ws,h.wk,h.led,h.has,h.nbk,h.qs,h.qdis,h.iwb,h.inb,h.ilb,h.ihb,h.ilh,h.low,h.lens,fun k c hz=>by obtain ⟨rfl,rfl⟩:=hz;exact hg⟩
end
def J6e (w0:World) (G:RG) (W:Nat) (st:St) (w:World):Prop:=∃ q,J12 w0 G W w.heap.size st q w
theorem J12.cells {w0 w:World} {G:RG} {W lim:Nat} {st:St} {q:Nat→Nat→Value} (h:J12 w0 G W lim st q w):∃ A c,kI.C w0 A st.script.length st.script∧st.script.length≤c ∧
  w.heap[G.rb]?=some (.cells (J31 st.works st.nts st.sent G.gb (.slice (some ⟨G.wa,0,none⟩) W G.wc) (.slice A st.script.length c)) 92 (0,0)) ∧
  w.cell? ⟨G.rb,0,none⟩=some (.int .i64 st.works)∧w.cell? ⟨G.rb,1,none⟩=some (.int .i64 st.nts)∧w.cell? ⟨G.rb,2,none⟩=some (.int .i64 st.sent)∧w.cell? ⟨G.rb,3,none⟩=some (.pointer (some ⟨G.gb,0,none⟩))∧w.cell? ⟨G.rb,4,none⟩=some (.slice (some ⟨G.wa,0,none⟩) W G.wc)∧∀ j,w.frozen? ⟨G.rb,j,none⟩=false:=by
 obtain ⟨A,c,r1,r2,r3⟩:=h.run
 exact ⟨A,c,r2,r3,r1,(J03 r1 0).trans rfl,(J03 r1 1).trans rfl,(J03 r1 2).trans rfl,(J03 r1 3).trans rfl,(J03 r1 4).trans rfl,fun j=>J07 r1 j⟩
theorem J12.wcells {w0 w:World} {G:RG} {W lim:Nat} {st:St} {q:Nat→Nat→Value} (h:J12 w0 G W lim st q w) {i:Nat} (hi:i<W) :
  w.cell? ⟨G.wa,i,none⟩=some (.pointer (some ⟨G.wb i,0,none⟩))∧w.cell? ⟨G.wb i,0,none⟩=some (.map (some (G.lb i)))∧w.cell? ⟨G.wb i,1,none⟩=some (.map (some (G.hb i)))∧w.cell? ⟨G.wb i,2,none⟩=some (.slice (some ⟨G.nb i,0,none⟩) W (G.nc i)):=by
 obtain ⟨cs,s1,s2⟩:=h.ws
 have:=h.wk i hi
 exact ⟨(J03 s1 i).trans (s2 i hi),(J03 this 0).trans rfl,(J03 this 1).trans rfl,(J03 this 2).trans rfl⟩
theorem J12.qcell {w0 w:World} {G:RG} {W lim:Nat} {st:St} {q:Nat→Nat→Value} (h:J12 w0 G W lim st q w) {i k:Nat} (hi:i<W) (hk:k<W):w.cell? ⟨G.nb i,k,none⟩=some (q i k)∧w.frozen? ⟨G.nb i,k,none⟩=false:=by
 obtain ⟨cs,s1,s2⟩:=h.nbk i hi
 exact ⟨(J03 s1 k).trans (s2 k hk),J07 s1 k⟩
theorem J12.drew {w0 w:World} {G:RG} {W lim:Nat} {st:St} {q:Nat→Nat→Value} (h:J12 w0 G W lim st q w):J12 w0 G W lim st q w.drew:=h.c08 (J05 (Y0f _ _))
theorem Jfl (w0:World) (G:RG) (W:Nat) (st:St) (i k:Nat) (n:Note) (l:List Note) (w:World) (h:J6e w0 G W st w) (hi:i<W) (hk:k<W) (hW:W≤4) (hq:st.queue i k=n::l) :
  Calls Tryz.prog 146 #[.agg #[.int .i64 i,.int .i64 k],.pointer (some ⟨G.rb,0,none⟩)] w fun e w'=>e=.returned (.tuple #[])∧J6e w0 G W (J9g st i k) w':=by
 obtain ⟨q,h⟩:=h
 obtain ⟨lim,hlim⟩:∃ lim,lim=w.heap.size:=⟨_,rfl⟩
 rw [← hlim] at h
 have hi0:(0:Int)≤i:=by omega
 have hiW:(i:Int)<W:=by omega
 have hk0:(0:Int)≤k:=by omega
 have hkW:(k:Int)<W:=by omega
 have hb1:=J02 w (.cells #[.int .i64 i,.int .i64 k] 182)
 have H1:=Y00 (h.c08 hb1)
 have t0:(w.alloc (.cells #[.int .i64 i,.int .i64 k] 182)).cell? ⟨w.heap.size,0,none⟩=some (.int .i64 i):=J0a w _ _ 0
 have t1:(w.alloc (.cells #[.int .i64 i,.int .i64 k] 182)).cell? ⟨w.heap.size,1,none⟩=some (.int .i64 k):=J0a w _ _ 1
 have HQ:=Y00 hq
 clear h hb1 hq hlim
 go_enter Tryz.func146,Tryz.ntmps146
 go_upto_region 1 with fail
 generalize w.alloc (.cells #[.int .i64 i,.int .i64 k] 182)=w1 at *
 generalize w.heap.size=bt at *
 obtain ⟨A,c,_,_,_,_,_,_,_,r4,_⟩:=H1.out.cells
 obtain ⟨s1,s2,s3,s4⟩:=H1.out.wcells hi
 obtain ⟨n1,nf⟩:=H1.out.qcell hi hk
 obtain ⟨g,off,c',nv,hqv,hnc,hnote,hqo,hp1,hp2⟩:=QAt.pop (by have:=H1.out.qs i k hi hk;rwa [HQ.out] at this)
 have HP:=Y00 (Y07 hqv (Y07 hnote (Y07 hqo (Y07 hp1 hp2))))
 rw [hqv] at n1
 clear hqv hnote hqo hp1 hp2
 refine sr1 9 (fun w'=>w'.cell? ⟨bt,0,none⟩=some (.int .i64 i)∧w'.cell? ⟨bt,1,none⟩=some (.int .i64 k)∧w'.cell? ⟨G.rb,4,none⟩=some (.slice (some ⟨G.wa,0,none⟩) W G.wc)∧w'.cell? ⟨G.wa,i,none⟩=some (.pointer (some ⟨G.wb i,0,none⟩))∧w'.cell? ⟨G.wb i,2,none⟩=some (.slice (some ⟨G.nb i,0,none⟩) W (G.nc i))∧w'.cell? ⟨G.nb i,k,none⟩=some (.slice (some ⟨g,off,none⟩) (l.length+1) (c'+1))∧w'.cell? ⟨g,off,none⟩=some nv) [] ⟨t0,t1,r4,s1,s4,n1,hnc⟩ fun hJ0=>?_
 have HD:=Y00 H1.out.drew
 have HP2:=Y00 (Y07 (show J2f w0.heap.size lim w1.drew nv n from HP.out.2.1.kept (Kept.drew (Kept.refl w1 (fun _=>False))) (fun _ h=>h.elim)) (show w1.drew.frozen? ⟨G.nb i,k,none⟩=false from nf))
 clear t0 t1 r4 s1 s2 s3 s4 n1 hnc nf
 generalize w1.drew=w2 at *
 refine pv 0 ?_
 refine pv 1 ?_
 refine pv 2 ?_
 refine tv7 3 ?_
 refine pv 4 ?_
 refine tv7 5 ?_
 refine pv 6 ?_
 refine tv7 7 ?_
 refine pv 8 ?_
 refine dn0 ?_
 have hH:=Y08 hJ0
 clear hJ0
 go_upto_region 2 with fail
 refine sr1 11 (fun w'=>w'.cell? ⟨bt,0,none⟩=some (.int .i64 i)∧w'.cell? ⟨bt,1,none⟩=some (.int .i64 k)∧w'.cell? ⟨G.rb,4,none⟩=some (.slice (some ⟨G.wa,0,none⟩) W G.wc)∧w'.cell? ⟨G.wa,i,none⟩=some (.pointer (some ⟨G.wb i,0,none⟩))∧w'.cell? ⟨G.wb i,2,none⟩=some (.slice (some ⟨G.nb i,0,none⟩) W (G.nc i))∧w'.cell? ⟨G.nb i,k,none⟩=some (.slice (some ⟨g,off,none⟩) (l.length+1) (c'+1))∧w'.cell? ⟨g,off,none⟩=some nv) [] hH.out fun hJ0=>?_
 have HD2:=Y00 HD.out.drew
 generalize w2.drew=w3 at *
 refine pv 0 ?_
 refine pv 1 ?_
 refine pv 2 ?_
 refine tv7 3 ?_
 refine pv 4 ?_
 refine tv7 5 ?_
 refine pv 6 ?_
 refine tv7 7 ?_
 refine pv 8 ?_
 refine tv7 9 ?_
 refine pv 10 ?_
 refine dn0 ?_
 have hH2:=Y08 hJ0
 clear hJ0 hH
 go_upto_region 3 with fail
 refine sr1 17 (fun w'=>w'.cell? ⟨bt,0,none⟩=some (.int .i64 i)∧w'.cell? ⟨bt,1,none⟩=some (.int .i64 k)∧w'.cell? ⟨G.rb,4,none⟩=some (.slice (some ⟨G.wa,0,none⟩) W G.wc)∧w'.cell? ⟨G.wa,i,none⟩=some (.pointer (some ⟨G.wb i,0,none⟩))∧w'.cell? ⟨G.wb i,2,none⟩=some (.slice (some ⟨G.nb i,0,none⟩) W (G.nc i))∧w'.cell? ⟨G.nb i,k,none⟩=some (.slice (some ⟨g,off,none⟩) (l.length+1) (c'+1))∧w'.cell? ⟨g,off,none⟩=some nv) [16] hH2.out fun hJ0=>?_
 have HD3:=Y00 HD2.out.drew
 generalize w3.drew=w4 at *
 refine pv 0 ?_
 refine pv 1 ?_
 refine pv 2 ?_
 refine tv7 3 ?_
 refine pv 4 ?_
 refine tv7 5 ?_
 refine pv 6 ?_
 refine pv 7 ?_
 refine pv 8 ?_
 refine tv7 9 ?_
 refine pv 10 ?_
 refine tv7 11 ?_
 refine pv 12 ?_
 refine tv7 13 ?_
 have h1l:(1:Int)≤(l.length:Int)+1:=by omega
 refine pv 14 ?_
 refine pv 15 ?_
 have hv:QAt w0.heap.size lim w4 (.slice (if c'=0 then some ⟨g,off,none⟩ else some ⟨g,off+1,none⟩) l.length c') l∧(qOwn (.slice (if c'=0 then some ⟨g,off,none⟩ else some ⟨g,off+1,none⟩) l.length c')=none∨qOwn (.slice (if c'=0 then some ⟨g,off,none⟩ else some ⟨g,off+1,none⟩) l.length c')=qOwn (q i k)):=by
  have hq4:=HD3.out.qs i k hi hk
  rw [HQ.out,HP.out.1] at hq4
  obtain ⟨g',off',c'',nv',hqv,_,_,hqo,hp1,hp2⟩:=QAt.pop hq4
  cases hqv
  by_cases hc:c'=0
  ·rw [if_pos hc]
   subst hc
   exact ⟨hp2 rfl,.inl rfl⟩
  rw [if_neg hc]
  exact ⟨(hp1 hc).1,.inr (by rw [(hp1 hc).2,HP.out.2.2.1])⟩
 generalize (if c'=0 then some (⟨g,off,none⟩:Addr) else some ⟨g,off+1,none⟩)=A' at *
 have HV:=Y00 hv
 clear hv h1l
 have hf4:w4.frozen? ⟨G.nb i,k,none⟩=false:=(HD3.out.qcell hi hk).2
 refine la0 16 (bs 17 131071) (N:=none) fun K hK=>?_
 refine sk0 ?_
 refine hK.out _ _ ?_
 clear hK K
 refine dn0 ?_
 have h5:=Y00 (HD3.out.set_q hi hk (World.grownBy.refl w4 _) HV.out.1 (HV.out.2.imp id .inl))
 have hn5:J2f w0.heap.size lim (w4.setCell ⟨G.nb i,k,none⟩ (.slice A' l.length c')) nv n:=by
  have h1:J2f w0.heap.size lim w4 nv n:=by
   have hq4:=HD3.out.qs i k hi hk
   rw [HQ.out,HP.out.1] at hq4
   obtain ⟨g',off',c'',nv',hqv,hc4,hn4,_⟩:=QAt.pop hq4
   cases hqv
   have:nv'=nv:=by
    have e:=hJ0.2.2.2.2.2.2
    rw [hc4] at e
    injection e
   rw [← this];exact hn4
  exact h1.kept (S:=fun b=>b=G.nb i) ⟨by simp [World.setCell],fun b hb hn=>Below.heap_setCell w4 ⟨G.nb i,k,none⟩ (.slice A' l.length c') b hn⟩ (fun b hb _=>by subst hb;exact not_typed (HD3.out.t_nb hi) rfl)
 have HN5:=Y00 hn5
 clear hn5 hJ0 hf4
 generalize w4.setCell ⟨G.nb i,k,none⟩ (.slice A' l.length c')=w5 at *
 obtain ⟨s1,s2,s3,s4⟩:=h5.out.wcells hi
 obtain ⟨An,cn,hnv,_,hCn⟩:=Kd.c09 HN5.out
 subst hnv
 have HR:=Y08 (Jiv (G.wb i) (G.lb i) (st.ledOf i) An cn n w5 s2 (h5.out.led i hi) hCn)
 clear s1 s2 s3 s4 hCn
 go_wp2_with fail
 refine HR.out.mono ?_
 rintro e w6 ⟨rfl,hg6,hL6⟩
 have h6:=Y00 (h5.out.set_led hi hg6 hL6)
 clear hg6 hL6 HR
 obtain ⟨A6,c6,hC6,hc6,hr6,_,k1,_,_,_,kf⟩:=h6.out.cells
 have kf1:=kf 1
 have HR6:=Y08 (Y07 hC6 (Y07 hc6 hr6))
 have k1:w6.cell? ⟨G.rb,1,none⟩=some (.int .i64 st.nts):=k1
 clear kf hC6 hc6 hr6
 go_wp2_with fail
 go_end0
 have hg7:w6.grownBy (w6.setCell ⟨G.rb,1,none⟩ (.int .i64 (wrap64 (st.nts+1)))) (some G.rb):=J0e G.rb [_] 1 w6
 have hb7:(w6.setCell ⟨G.rb,1,none⟩ (.int .i64 (wrap64 (st.nts+1)))).heap[G.rb]?=some (.cells (J31 st.works (w64 (st.nts+1)) st.sent G.gb (.slice (some ⟨G.wa,0,none⟩) W G.wc) (.slice A6 st.script.length c6)) 92 (0,0)):=J0d HR6.out.2.2 1 _ (by rw [J2u];rfl)
 have h7:=h6.out.set_run hg7 hb7 HR6.out.1 HR6.out.2.1
 have e:J9g st i k={ { { st with notes:=putQ st.notes i k l } with led:=st.led.set i (J2h (st.ledOf i) n) } with works:=st.works,nts:=w64 (st.nts+1),sent:=st.sent,script:=st.script }:=by
  simp only [J9g,HQ.out];rfl
 exact ⟨rfl,by rw [e];exact ⟨_,h7.relim⟩⟩
namespace Mdl
theorem J3q (script:List Int) {many:Int} (h:1≤many):0≤numP script many∧numP script many<many:=by
 unfold numP
 cases script with
 | nil=>simp;omega
 | cons s r=>?_
 have h1:=Int.tmod_lt_of_pos s (show 0<many by omega)
 have h2:=Int.lt_tmod_of_pos s (show 0<many by omega)
 simp only
 split<;>omega
def stW (st:St) (s:WS):St:={ st with has:=s.has,script:=s.script,sent:=s.sent }
theorem Jp4 {W:Nat} {m:Mk} {s:WS} {e:Ed} (h:e.1≠m.1):J20 W m s e=s:=by unfold J20;rw [if_neg h]
theorem Jl9 {W:Nat} {m:Mk} {s:WS} {e:Ed} (h:e.1=m.1) (h0:numP s.script ((W:Int)+1)=0):J20 W m s e={ s with script:=s.script.tail }:=by unfold J20;rw [if_pos h,if_pos h0]
theorem Jla {W:Nat} {m:Mk} {s:WS} {e:Ed} {j:Nat} (h:e.1=m.1) (h0:numP s.script ((W:Int)+1)=(j:Int)+1) :
  J20 W m s e={ has:=s.has.set j (J0j (s.has.getD j []) (e.2.1,J0l m.2 (tmOf e.2.2)) 1),script:=s.script.tail,sent:=w64 (s.sent+1),note:=s.note++[((e.2.1,J0l m.2 (tmOf e.2.2)),1)] }:=by
 unfold J20
 rw [if_pos h,if_neg (by omega),show (numP s.script ((W:Int)+1) - 1).toNat=j by omega]
theorem Jlb {W:Nat} {m:Mk} {s:WS} {e:Ed} : (J20 W m s e).note.length≤s.note.length+1:=by
 unfold J20
 split
 ·split
  ·simp
  simp
 simp
theorem Jds {W:Nat} {m:Mk} : ∀ (E:List Ed) (s:WS),(E.foldl (J20 W m) s).note.length≤s.note.length+E.length
 | [],s=>by simp
 | e::E,s=>by
  have h1:=Jds (W:=W) (m:=m) E (J20 W m s e)
  have h2:=Jlb (W:=W) (m:=m) (s:=s) (e:=e)
  rw [List.foldl_cons,List.length_cons];omega
def qOf (ns:List (List (List Note))) (a b:Nat):List Note:=(ns.getD a []).getD b []
theorem J68 {α:Type} (l:List α) (i j:Nat) (x d:α):(l.set i x).getD j d=x∨(l.set i x).getD j d=l.getD j d:=by
 by_cases h:i=j
 ·subst h
  by_cases hl:i<l.length
  ·left;rw [List.getD_eq_getElem?_getD,List.getElem?_set_self hl];rfl
  right;rw [List.set_eq_of_length_le (by omega)]
 right;rw [List.getD_eq_getElem?_getD,List.getElem?_set_ne h,← List.getD_eq_getElem?_getD]
theorem Jg1 (i:Nat) (note:Note) (ns:List (List (List Note))) (j a b:Nat):(qOf (J0y i note ns j) a b).length≤(qOf ns a b).length+1:=by
 unfold J0y
 split
 ·omega
 unfold qOf putQ
 by_cases h:j=a
 ·subst h
  rcases J68 ns j j (((ns.getD j []).set i ((ns.getD j []).getD i []++[note]))) [] with h1 | h1
  ·rw [h1]
   by_cases h2:i=b
   ·subst h2
    rcases J68 (ns.getD j []) i i ((ns.getD j []).getD i []++[note]) [] with h3 | h3<;>rw [h3]<;>simp
   rw [List.getD_eq_getElem?_getD,List.getElem?_set_ne h2,← List.getD_eq_getElem?_getD];omega
  rw [h1];omega
 rw [List.getD_eq_getElem?_getD (l:=ns.set _ _),List.getElem?_set_ne h,← List.getD_eq_getElem?_getD];omega
theorem Jj3 (i:Nat) (note:Note) (ns:List (List (List Note))) (a b:Nat):∀ j:Nat,(qOf ((List.range j).foldl (J0y i note) ns) a b).length≤(qOf ns a b).length+j
 | 0=>Nat.le_refl _
 | j+1=>by
  rw [List.range_succ,List.foldl_append]
  have h1:=Jj3 i note ns a b j
  have h2:=Jg1 i note ((List.range j).foldl (J0y i note) ns) j a b
  simp only [List.foldl_cons,List.foldl_nil]
  omega
end Mdl
theorem Jcq {P:Program} {ops:Array Oper} {Q:Exit→Act→World→Prop} {oi:Oper} {N:Option Tmp} {a:Act} {w w1:World} {r:Value} {K:Act→World→Prop} (hw:Region.wanted oi (yielded ops a.tmps)=true) (hN:oi.dst=N) (s x:Operand) (t:TypeId)
  (hop:oi.op=.call { callee:=.builtin .append,args:=#[s,x],argTypes:=#[t,t] }) (v u:Value) (hs:a.eval s=v) (hx:a.eval x=u) (hrun:(Builtin.append_ #[t,t] oi.type #[v,u]).run P w=.ok r w1) (h:K (a.put N r) w1):if Region.wanted oi (yielded ops a.tmps)=true then Oper.wp P oi a w K Q else K (a.put N undef) w:=by
 refine Jpj hw hN ?_ h
 unfold execOp
 simp only [hop,resolve,invoke,builtin,Sem.run_bind,Sem.run_pure,Result.andThen_ok,List.map_toArray,List.map_cons,List.map_nil,hs,hx,hrun]
theorem Tryz.infoEntry:(Tryz.prog.info? 213).map (fun i=>(i.zero,i.size,i.bytes))=some (some (.agg #[.int .i64 0,.int .i64 0,.int .i64 0,.int .i64 0,.int .i64 0]),5,40):=by kernel_rfl
def BoxW (w:World) (bt i:Nat) (m:Mk):Prop:=w.heap[bt]?=some (.cells #[.int .i64 i,.int .i64 m.1,.int .i64 m.2.1,.int .i64 m.2.2.1,.int .i64 m.2.2.2] 179 (0,0))
theorem BoxW.cells {w:World} {bt i:Nat} {m:Mk} (h:BoxW w bt i m):w.cell? ⟨bt,0,none⟩=some (.int .i64 i)∧w.cell? ⟨bt,1,none⟩=some (.int .i64 m.1)∧w.cell? ⟨bt,2,none⟩=some (.int .i64 m.2.1)∧w.cell? ⟨bt,3,none⟩=some (.int .i64 m.2.2.1)∧w.cell? ⟨bt,4,none⟩=some (.int .i64 m.2.2.2) :=
 ⟨(J03 h 0).trans rfl,(J03 h 1).trans rfl,(J03 h 2).trans rfl,(J03 h 3).trans rfl,(J03 h 4).trans rfl⟩
theorem BoxW.below {w w':World} {bt i:Nat} {m:Mk} (h:BoxW w bt i m) (hb:Below w.heap.size w w'):BoxW w' bt i m:=J04 h hb
theorem BoxW.grown {w w':World} {bt i:Nat} {m:Mk} {row:Option Nat} (h:BoxW w bt i m) (hg:w.grownBy w' row) (hr:∀ k,row=some k→¬ J0m w k 179):BoxW w' bt i m:=J0x h hg (fun he=>hr bt he.symm ⟨_,h⟩)
theorem Jfe (w0:World) (G:RG) (W:Nat) (st:St) (i:Nat) (m:Mk) (N Wd:Int) (E:List Ed) (ways:Ways) (w:World) (h:J6e w0 G W st w) (hG:J4v w0 G.gb N Wd E ways) (hi:i<W) (hW:W≤4) (h16:E.length≤16) (hql:∀ j k,(st.queue j k).length≤1000000000) :
  Calls Tryz.prog 144 #[.agg #[.int .i64 i,.int .i64 m.1,.int .i64 m.2.1,.int .i64 m.2.2.1,.int .i64 m.2.2.2],.pointer (some ⟨G.rb,0,none⟩)] w fun e w'=>e=.returned (.tuple #[])∧J6e w0 G W (J33 E W st i m) w':=by
 obtain ⟨q,h⟩:=h
 obtain ⟨lim,hlim⟩:∃ lim,lim=w.heap.size:=⟨_,rfl⟩
 rw [← hlim] at h
 have HLW:=Lib.hid (show w0.heap.size≤lim from by rw [hlim];exact h.below.size)
 have hi0:(0:Int)≤i:=by omega
 have hiW:(i:Int)<W:=by omega
 have hb1:=J02 w (.cells #[.int .i64 i,.int .i64 m.1,.int .i64 m.2.1,.int .i64 m.2.2.1,.int .i64 m.2.2.2] 179)
 have hX:BoxW (w.alloc (.cells #[.int .i64 i,.int .i64 m.1,.int .i64 m.2.1,.int .i64 m.2.2.1,.int .i64 m.2.2.2] 179)) w.heap.size i m:=heap_alloc_new w _
 have H1:=J08.mk (And.intro (h.c08 hb1) hX)
 have HZ1:=Lib.hid (show (w.alloc (.cells #[.int .i64 i,.int .i64 m.1,.int .i64 m.2.1,.int .i64 m.2.2.1,.int .i64 m.2.2.2] 179)).heap.size=lim+1 by simp [hlim])
 rw [← hlim] at H1
 have HG:=J08.mk hG
 clear h hb1 hG hX
 go_enter Tryz.func144,Tryz.ntmps144
 go_upto_region 1 with fail
 rw [← hlim]
 clear hlim
 generalize w.alloc (.cells #[.int .i64 i,.int .i64 m.1,.int .i64 m.2.1,.int .i64 m.2.2.1,.int .i64 m.2.2.2] 179)=w1 at *
 obtain ⟨A,c,_,_,_,_,_,_,_,r4,_⟩:=H1.out.1.cells
 obtain ⟨s1,s2,s3,s4⟩:=H1.out.1.wcells hi
 obtain ⟨t0,t1,t2,t3,t4⟩:=H1.out.2.cells
 refine Jd9 (n:=9) (S:=fun w'=>w'.cell? ⟨lim,0,none⟩=some (.int .i64 i)∧w'.cell? ⟨lim,1,none⟩=some (.int .i64 m.1)∧w'.cell? ⟨lim,2,none⟩=some (.int .i64 m.2.1)∧w'.cell? ⟨lim,3,none⟩=some (.int .i64 m.2.2.1)∧w'.cell? ⟨lim,4,none⟩=some (.int .i64 m.2.2.2)∧w'.cell? ⟨G.rb,4,none⟩=some (.slice (some ⟨G.wa,0,none⟩) W G.wc)∧w'.cell? ⟨G.wa,i,none⟩=some (.pointer (some ⟨G.wb i,0,none⟩))∧w'.cell? ⟨G.wb i,1,none⟩=some (.map (some (G.hb i)))) (ds:=[]) (bs 9 0) (by kernel_rfl) rfl (by kernel_rfl) ⟨t0,t1,t2,t3,t4,r4,s1,s3⟩ (fun hJ0=>?_)
 have H2:=J08.mk (And.intro H1.out.1.drew (show BoxW w1.drew lim i m from H1.out.2))
 have HZ2:=Lib.hid (show w1.drew.heap.size=lim+1 from HZ1.out)
 clear t0 t1 t2 t3 t4 r4 s1 s2 s3 s4
 generalize w1.drew=w2 at *
 refine pu 0 12 (bs 9 1) ?_
 refine pu 1 13 (bs 9 3) ?_
 refine pu 2 14 (bs 9 7) ?_
 refine tk8 3 15 (bs 9 15) hJ0 ?_
 refine pu 4 16 (bs 9 31) ?_
 refine tk8 5 17 (bs 9 63) hJ0 ?_
 refine pu 6 18 (bs 9 127) ?_
 refine tk8 7 19 (bs 9 255) hJ0 ?_
 refine pu 8 4 (bs 9 511) ?_
 refine dn0 ?_
 have hH:=Lib.hid hJ0
 clear hJ0 H1 HZ1
 go_upto_region 2 with fail
 refine Jd9 (n:=7) (S:=fun w'=>w'.cell? ⟨lim,0,none⟩=some (.int .i64 i)∧w'.cell? ⟨lim,1,none⟩=some (.int .i64 m.1)∧w'.cell? ⟨lim,2,none⟩=some (.int .i64 m.2.1)∧w'.cell? ⟨lim,3,none⟩=some (.int .i64 m.2.2.1)∧w'.cell? ⟨lim,4,none⟩=some (.int .i64 m.2.2.2)∧w'.cell? ⟨G.rb,4,none⟩=some (.slice (some ⟨G.wa,0,none⟩) W G.wc)∧w'.cell? ⟨G.wa,i,none⟩=some (.pointer (some ⟨G.wb i,0,none⟩))∧w'.cell? ⟨G.wb i,1,none⟩=some (.map (some (G.hb i)))) (ds:=[6]) (bs 7 0) (by kernel_rfl) rfl (by kernel_rfl) hH.out (fun hJ0=>?_)
 have H3:=J08.mk (And.intro H2.out.1.drew (show BoxW w2.drew lim i m from H2.out.2))
 have HZ3:=Lib.hid (show w2.drew.heap.size=lim+1 from HZ2.out)
 generalize w2.drew=w3 at *
 refine pu 0 20 (bs 7 1) ?_
 refine pu 1 21 (bs 7 3) ?_
 refine pu 2 22 (bs 7 7) ?_
 refine tk8 3 23 (bs 7 15) hJ0 ?_
 refine pu 4 24 (bs 7 31) ?_
 refine tk8 5 25 (bs 7 63) hJ0 ?_
 refine la0 6 (bs 7 127) (N:=(some 26)) fun K hK=>?_
 refine gs0 Tryz.func46 #[.agg #[.map (some (G.hb i))],.agg #[.int .i64 m.1,.int .i64 m.2.1,.int .i64 m.2.2.1,.int .i64 m.2.2.2],.int .i64 (-1)] ?_
 have EN:=J5o (G.hb i) (st.hasOf i) m (-1) w3 (H3.out.1.has i hi)
 simp only [mkV] at EN
 refine EN.mono ?_
 clear EN
 rintro e w4 ⟨rfl,hg4,hL4⟩
 refine ⟨_,rfl,hK.out _ _ ?_⟩
 clear hK K
 refine dn0 ?_
 have H4:=J08.mk (And.intro (H3.out.1.set_has hi hg4 hL4) (H3.out.2.grown hg4 (fun k hk=>by injection hk with hk;subst hk;exact (H3.out.1.has i hi).not_typed)))
 have HZ4:=Lib.hid (show lim+1≤w4.heap.size by have:=hg4.size;have:=HZ3.out;omega)
 clear hg4 hL4 hJ0 hH H2 HZ2 H3 HZ3
 obtain ⟨t0,t1,t2,t3,t4⟩:=H4.out.2.cells
 go_upto_region 4 with fail
 have hb5:=J02 w4 (.cells #[.int .i64 m.1,.int .i64 m.2.1,.int .i64 m.2.2.1,.int .i64 m.2.2.2,.int .i64 (-1)] 213)
 have hn5:kEn.R 213 (w4.alloc (.cells #[.int .i64 m.1,.int .i64 m.2.1,.int .i64 m.2.2.1,.int .i64 m.2.2.2,.int .i64 (-1)] 213)) (lim+1) (fun _=>True) (.slice (some ⟨w4.heap.size,0,none⟩) 1 1) [(m,-1)]:=by
  refine ⟨fun _ _=>trivial,[.int .i64 m.1,.int .i64 m.2.1,.int .i64 m.2.2.1,.int .i64 m.2.2.2,.int .i64 (-1)],⟨rfl,.inr ⟨w4.heap.size,1,_,rfl,HZ4.out,heap_alloc_new w4 _,Nat.le_refl _,by decide,rfl,rfl⟩⟩,⟨rfl,fun j p hj=>?_⟩⟩
  cases j with
  | succ j=>simp at hj
  | zero=>?_
  have hj:(m,(-1:Int))=p:=by simpa using hj
  subst hj
  exact Jre (m,-1)
 have H5:=J08.mk (And.intro (H4.out.1.c08 hb5) (And.intro (H4.out.2.below hb5) hn5))
 clear t0 t1 t2 t3 t4 hb5 hn5
 obtain ⟨ws0,hws0⟩:∃ ws0:WS,ws0=⟨st.has.set i (J0j (st.hasOf i) m (-1)),st.script,st.sent,[(m,-1)]⟩:=⟨_,rfl⟩
 have HS0:=Lib.hid hws0
 have hz5:lim+1≤(w4.alloc (.cells #[.int .i64 m.1,.int .i64 m.2.1,.int .i64 m.2.2.1,.int .i64 m.2.2.2,.int .i64 (-1)] 213)).heap.size:=by have:=HZ4.out;simp;omega
 have H6:=J08.mk (show J12 w0 G W lim (stW st ws0) q (w4.alloc (.cells #[.int .i64 m.1,.int .i64 m.2.1,.int .i64 m.2.2.1,.int .i64 m.2.2.2,.int .i64 (-1)] 213))∧BoxW (w4.alloc (.cells #[.int .i64 m.1,.int .i64 m.2.1,.int .i64 m.2.2.1,.int .i64 m.2.2.2,.int .i64 (-1)] 213)) lim i m∧kEn.R 213 (w4.alloc (.cells #[.int .i64 m.1,.int .i64 m.2.1,.int .i64 m.2.2.1,.int .i64 m.2.2.2,.int .i64 (-1)] 213)) (lim+1) (fun _=>True) (.slice (some ⟨w4.heap.size,0,none⟩) 1 1) ws0.note∧lim+1≤(w4.alloc (.cells #[.int .i64 m.1,.int .i64 m.2.1,.int .i64 m.2.2.1,.int .i64 m.2.2.2,.int .i64 (-1)] 213)).heap.size from
  ⟨by rw [hws0];exact H5.out.1,H5.out.2.1,by rw [hws0];exact H5.out.2.2,hz5⟩)
 have HL0:=Lib.hid (show ws0.note.length=1 by rw [hws0];rfl)
 clear hz5 H5 H4 HZ4 hws0
 generalize w4.alloc (.cells #[.int .i64 m.1,.int .i64 m.2.1,.int .i64 m.2.2.1,.int .i64 m.2.2.2,.int .i64 (-1)] 213)=w5 at *
 generalize w4.heap.size=nb0 at *
 obtain ⟨_,_,_,_,_,_,_,_,r3,_,_⟩:=H6.out.1.cells
 obtain ⟨eA,eC,hg2,hE⟩:=HG.out.c2
 have hg2':=J00 H6.out.1.below hg2
 have HE:=J08.mk hE
 have hEm:=Kd.C_max hE
 clear hE hg2
 go_wp2_with fail
 clear r3 hg2'
 go_loopw [5,40] (fun v ix wr=>∃ k:Nat,k≤E.length∧ix=.int .i64 k∧J08 (J12 w0 G W lim (stW st ((E.take k).foldl (J20 W m) ws0)) q wr∧BoxW wr lim i m∧kEn.R 213 wr (lim+1) (fun _=>True) v ((E.take k).foldl (J20 W m) ws0).note∧lim+1≤wr.heap.size)) (fun _ ix _=>E.length - (intOf ix).toNat)
 case atStart=>exact ⟨0,Nat.zero_le _,rfl,H6⟩
 clear H6
 obtain ⟨k,hk,rfl,hX⟩:=hrel
 by_cases hlt:k<E.length
 rotate_left
 ·have hkl:k=E.length:=by omega
  subst hkl
  have hkE:¬ ((E.length:Int)<E.length):=by omega
  have HW:=Lib.hid (show E.foldl (J20 W m) ws0=J4w E W st i m by rw [HS0.out];rfl)
  have hX2:=hX.out
  rw [List.take_length,HW.out] at hX2
  generalize hsF:J4w E W st i m=sF at *
  have HSF:=Lib.hid hsF
  clear hX hsF HW HS0
  obtain ⟨h1,h2,h3,h4⟩:=hX2
  obtain ⟨An,cn,rfl⟩:=Kd.c02 h3
  obtain ⟨lim2,hl2⟩:∃ lim2,lim2=wr.heap.size:=⟨_,rfl⟩
  have hnote:J2f w0.heap.size lim2 wr (.slice An sF.note.length cn) sF.note:=Kd.c06 (Kd.c04 (Kd.c05 h3) (by have:=HLW.out;omega)) (fun k hk=>by rw [hl2];exact hk.2.2.1)
  have H3:=J08.mk (And.intro (h1.lift (show lim≤lim2 by omega)) (And.intro h2 hnote))
  obtain ⟨_,_,_,_,_,_,_,_,_,r4,_⟩:=h1.cells
  clear h1 h2 h3 h4 hnote hl2 HE hEm
  generalize hnl:sF.note.length=nl at *
  have HNN:=Lib.hid hnl
  clear hnl
  go_wp2_with fail
  clear r4
  go_loopw [103] (fun ix wv=>∃ (j:Nat) (q':Nat→Nat→Value),j≤W∧ix=.int .i64 j∧J08 (J12 w0 G W lim2 { stW st sF with notes:=(List.range j).foldl (J0y i sF.note) st.notes } q' wv∧BoxW wv lim i m∧J2f w0.heap.size lim2 wv (.slice An nl cn) sF.note)) (fun ix _=>W - (intOf ix).toNat)
  case atStart=>exact ⟨0,q,Nat.zero_le _,rfl,H3⟩
  clear H3
  obtain ⟨j,q',hjw,rfl,hX⟩:=hrel
  by_cases hjW:j<W
  rotate_left
  ·have hjw2:j=W:=by omega
   have hjWI:¬ ((j:Int)<(W:Int)):=by omega
   obtain ⟨_,s2,_,_⟩:=hX.out.1.wcells hi
   have hC:=(Kd.c03 hX.out.2.2).2.2
   have hrd:=Jiv (G.wb i) (G.lb i) (st.ledOf i) An cn sF.note wr s2 (hX.out.1.led i hi) hC
   rw [HNN.out] at hrd
   have HRD:=Lib.hid hrd
   clear hC hrd s2
   go_wp2_with fail
   refine HRD.out.mono ?_
   rintro e w8 ⟨rfl,hg8,hL8⟩
   have h8:=J08.mk (hX.out.1.set_led hi hg8 hL8)
   obtain ⟨A8,c8,hC8,hc8,hr8,k0,_,_,_,_,kf⟩:=h8.out.cells
   have k0:w8.cell? ⟨G.rb,0,none⟩=some (.int .i64 st.works):=k0
   have kf0:=kf 0
   have HR8:=Lib.hid (And.intro hC8 (And.intro hc8 hr8))
   clear hg8 hL8 HRD kf hC8 hc8 hr8
   go_wp2_with fail
   go_end0
   have hg9:w8.grownBy (w8.setCell ⟨G.rb,0,none⟩ (.int .i64 (wrap64 (st.works+1)))) (some G.rb):=J0e G.rb [_] 0 w8
   have hb9:(w8.setCell ⟨G.rb,0,none⟩ (.int .i64 (wrap64 (st.works+1)))).heap[G.rb]?=some (.cells (J31 (w64 (st.works+1)) st.nts sF.sent G.gb (.slice (some ⟨G.wa,0,none⟩) W G.wc) (.slice A8 sF.script.length c8)) 92 (0,0)):=J0d HR8.out.2.2 0 _ (by rw [J2u];rfl)
   have h9:=h8.out.set_run hg9 hb9 HR8.out.1 HR8.out.2.1
   have e:J33 E W st i m={ { { stW st sF with notes:=(List.range j).foldl (J0y i sF.note) st.notes } with led:=st.led.set i (J2h (st.ledOf i) sF.note) } with works:=w64 (st.works+1),nts:=st.nts,sent:=sF.sent,script:=sF.script }:=by
    simp only [J33,HSF.out,J9l,hjw2];rfl
   exact ⟨rfl,by rw [e];exact ⟨_,h9.relim⟩⟩
  have hj0:(0:Int)≤j:=by omega
  have hjWI:(j:Int)<W:=by omega
  obtain ⟨s1,_,_,s4⟩:=hX.out.1.wcells hjW
  obtain ⟨t0,_,_,_,_⟩:=hX.out.2.1.cells
  have HRS:=Lib.hid (show (List.range (j+1)).foldl (J0y i sF.note) st.notes=J0y i sF.note ((List.range j).foldl (J0y i sF.note) st.notes) j by rw [List.range_succ,List.foldl_append];rfl)
  by_cases hji:j=i
  ·have hb:((j:Int) != (i:Int))=false:=by simp;omega
   have HRT:=Lib.hid (show (List.range (j+1)).foldl (J0y i sF.note) st.notes=(List.range j).foldl (J0y i sF.note) st.notes by rw [HRS.out];unfold J0y;rw [if_pos hji])
   clear s4 hji
   go_wp2_with fail
   exact ⟨⟨j+1,q',by omega,by go_num,by rw [HRT.out];exact hX⟩,by simp [intOf];omega⟩
  have hb:((j:Int) != (i:Int))=true:=by simp;omega
  have HRT:=Lib.hid (show (List.range (j+1)).foldl (J0y i sF.note) st.notes=putQ ((List.range j).foldl (J0y i sF.note) st.notes) j i (St.queue { stW st sF with notes:=(List.range j).foldl (J0y i sF.note) st.notes } j i++[sF.note]) by rw [HRS.out];unfold J0y;rw [if_neg hji];rfl)
  clear hji
  obtain ⟨n1,nf⟩:=hX.out.1.qcell hjW hi
  have HQL:=Lib.hid (show (St.queue { stW st sF with notes:=(List.range j).foldl (J0y i sF.note) st.notes } j i).length≤2000000000 by
   have h1:=Jj3 i sF.note st.notes j i j
   have h2:=hql j i
   have h3:(qOf st.notes j i).length≤1000000000:=h2
   show (qOf ((List.range j).foldl (J0y i sF.note) st.notes) j i).length≤_
   omega)
  have hqa:=hX.out.1.qs j i hjW hi
  generalize hqo:St.queue { stW st sF with notes:=(List.range j).foldl (J0y i sF.note) st.notes } j i=qo at *
  have HQO:=Lib.hid hqo
  have HQA:=J08.mk hqa
  clear hqo hqa
  generalize hqv:q' j i=qv at *
  have HQV:=Lib.hid hqv
  clear hqv
  go_upto_region 19 with fail
  refine Jd9 (n:=19) (S:=fun w'=>w'.cell? ⟨lim,0,none⟩=some (.int .i64 i)∧w'.cell? ⟨G.wb j,2,none⟩=some (.slice (some ⟨G.nb j,0,none⟩) W (G.nc j))∧w'.cell? ⟨G.nb j,i,none⟩=some qv) (ds:=[18]) (bs 19 0) (by kernel_rfl) rfl (by kernel_rfl) ⟨t0,s4,n1⟩ (fun hJ0=>?_)
  have HD:=J08.mk (And.intro hX.out.1.drew (And.intro (show BoxW wr.drew lim i m from hX.out.2.1) (And.intro (show J2f w0.heap.size lim2 wr.drew (.slice An nl cn) sF.note from hX.out.2.2.kept (Kept.drew (Kept.refl wr (fun _=>False))) (fun _ h=>h.elim)) (show QAt w0.heap.size lim2 wr.drew qv qo from HQA.out.kept (Kept.drew (Kept.refl wr (fun _=>False))) (fun _ h=>h.elim) (fun _ _ h=>h)))))
  clear t0 s1 s4 n1 nf hX HQA
  generalize wr.drew=wd at *
  refine pu 0 112 (bs 19 1) ?_
  refine pu 1 113 (bs 19 3) ?_
  refine pu 2 114 (bs 19 7) ?_
  refine tk3 3 115 (bs 19 15) hJ0 ?_
  refine pu 4 116 (bs 19 31) ?_
  refine tk3 5 117 (bs 19 63) hJ0 ?_
  refine pu 6 118 (bs 19 127) ?_
  refine pu 7 119 (bs 19 255) ?_
  refine pu 8 120 (bs 19 511) ?_
  refine tk3 9 121 (bs 19 1023) hJ0 ?_
  refine pu 10 122 (bs 19 2047) ?_
  refine tk3 11 123 (bs 19 4095) hJ0 ?_
  refine pu 12 124 (bs 19 8191) ?_
  refine tk3 13 125 (bs 19 16383) hJ0 ?_
  refine pu 14 126 (bs 19 32767) ?_
  refine on0 15 127 (bs 19 65535) fun K hK=>?_
  refine va0 ?_
  have HD0:=J08.mk hJ0
  have b0:=J02 wd (.cells #[.slice An nl cn] 214)
  refine hK.out _ _ ⟨J00 b0 hJ0.1,J00 b0 hJ0.2.1,J00 b0 hJ0.2.2⟩ (fun hJ0=>?_)
  clear hK K
  refine nm0 (some 127) ?_
  refine on0 16 128 (bs 19 131071) fun K hK=>?_
  obtain ⟨vn,w6,hrun,hqn,hg6,hon⟩:=QAt.append 180 (Nat.le_trans HD.out.1.below.size (Nat.le_refl _)) HD.out.2.2.2 HD.out.2.2.1 HQL.out
  have hvs:∃ A c,vn=Value.slice A (qo++[sF.note]).length c:=by obtain ⟨A,c,h,_⟩:=hqn;exact ⟨A,c,h⟩
  obtain ⟨A6,c6,rfl⟩:=hvs
  have HQN:=J08.mk hqn
  clear hqn
  generalize (qo++[sF.note]).length=l6 at *
  refine Jcq (by rfl) rfl (.tmp 125) (.tmp 127) 180 rfl qv (.slice (some ⟨wd.heap.size,0,none⟩) 1 1) rfl rfl hrun ?_
  have hqt:∀ (t:TypeId),(214 == t)=false→∀ k,qOwn qv=some k→¬ J0m wd k t:=fun t ht k hk=>not_typed (HD.out.2.2.2.c07 hk).2 ht
  have f6:=(HD.out.1.qcell hjW hi).2
  have g0:=J09 hg6 HD0.out.1 (fun he=>hqt 179 rfl _ he.symm ⟨_,HD.out.2.1⟩)
  have g1:=J09 hg6 HD0.out.2.1 (fun he=>hqt 97 rfl _ he.symm (HD.out.1.t_wb hjW))
  have g2:=J09 hg6 HD0.out.2.2 (fun he=>hqt 180 rfl _ he.symm (HD.out.1.t_nb hjW))
  have g3:w6.frozen? ⟨G.nb j,i,none⟩=false:=by
   obtain ⟨cc,hcc⟩:=HD.out.1.t_nb hjW
   exact J07 (J0x hcc hg6 (fun he=>hqt 180 rfl _ he.symm (HD.out.1.t_nb hjW))) _
  have H6:=J08.mk (And.intro (HD.out.1.set_q hjW hi (by rw [HQV.out];exact hg6) HQN.out (by rw [HQV.out];exact .inr (hon.imp id id))) (And.intro (HD.out.2.1.grown hg6 (hqt _ rfl)) (HD.out.2.2.1.kept (S:=fun k=>qOwn qv=some k) ⟨hg6.size,fun b hb hn=>hg6.block b hb (fun he=>hn he.symm)⟩ (fun b hb _=>hqt _ rfl b hb))))
  have HT6:=Lib.hid (show J0m w6 (G.nb j) 180 by
   obtain ⟨cc,hcc⟩:=HD.out.1.t_nb hjW
   exact ⟨cc,J0x hcc hg6 (fun he=>hqt 180 rfl _ he.symm (HD.out.1.t_nb hjW))⟩)
  refine hK.out _ _ ⟨g0,g1,g2⟩ (fun hJ0=>?_)
  clear hrun hg6 hon hqt f6 g0 g1 g2 HD0 HD HQN
  clear hK K
  refine nm0 (some 128) ?_
  refine pu 17 129 (bs 19 262143) ?_
  refine la0 18 (bs 19 524287) (N:=none) fun K hK=>?_
  refine sk0 ?_
  refine hK.out _ _ ?_
  clear hK K hJ0
  refine dn0 ?_
  have hg7:w6.grownBy (w6.setCell ⟨G.nb j,i,none⟩ (.slice A6 l6 c6)) (some (G.nb j)):=J0e (G.nb j) [_] i w6
  have H7:=J08.mk (And.intro H6.out.1 (And.intro (H6.out.2.1.grown hg7 (fun k hk=>by injection hk with hk;subst hk;exact not_typed HT6.out rfl)) (H6.out.2.2.kept (S:=fun k=>k=G.nb j) ⟨hg7.size,fun b hb hn=>hg7.block b hb (fun he=>hn (by injection he))⟩ (fun b hb _=>by subst hb;exact not_typed HT6.out rfl))))
  clear hg7 H6 HT6 g3
  generalize w6.setCell ⟨G.nb j,i,none⟩ (.slice A6 l6 c6)=w7 at *
  go_wp2_with fail
  exact ⟨⟨j+1,_,by omega,by go_num,by rw [HRT.out];exact H7⟩,by simp [intOf];omega⟩
 obtain ⟨ad,sA,sC,rfl,he0,he1,he2,heL,heC⟩:=J8e HE.out hlt
 replace he0:=J00 hX.out.1.below he0
 replace he1:=J00 hX.out.1.below he1
 replace he2:=J00 hX.out.1.below he2
 have HEL:=J08.mk heL
 have hkE:(k:Int)<E.length:=by omega
 have hk0:(0:Int)≤k:=by omega
 have hnl:((E.take k).foldl (J20 W m) ws0).note.length≤20:=by
  have h1:=Jds (W:=W) (m:=m) (E.take k) ws0
  have h2:=HL0.out
  rw [List.length_take] at h1
  omega
 have HST:=Lib.hid (J1m (J20 W m) ws0 E hlt)
 have HNL:=Lib.hid hnl
 generalize (E.take k).foldl (J20 W m) ws0=sk at *
 generalize E[k]=ee at *
 clear hnl
 go_upto_region 7 with fail
 have bE:=J02 wr (.cells #[.int .i64 ee.1,.int .i64 ee.2.1,.slice sA ee.2.2.length sC] 129)
 have hsz:(wr.alloc (.cells #[.int .i64 ee.1,.int .i64 ee.2.1,.slice sA ee.2.2.length sC] 129)).heap.size=wr.heap.size+1:=by simp
 have e0:(wr.alloc (.cells #[.int .i64 ee.1,.int .i64 ee.2.1,.slice sA ee.2.2.length sC] 129)).cell? ⟨wr.heap.size,0,none⟩=some (.int .i64 ee.1):=J0a wr _ _ 0
 have e1:(wr.alloc (.cells #[.int .i64 ee.1,.int .i64 ee.2.1,.slice sA ee.2.2.length sC] 129)).cell? ⟨wr.heap.size,1,none⟩=some (.int .i64 ee.2.1):=J0a wr _ _ 1
 have e2:(wr.alloc (.cells #[.int .i64 ee.1,.int .i64 ee.2.1,.slice sA ee.2.2.length sC] 129)).cell? ⟨wr.heap.size,2,none⟩=some (.slice sA ee.2.2.length sC):=J0a wr _ _ 2
 have hT:J0m (wr.alloc (.cells #[.int .i64 ee.1,.int .i64 ee.2.1,.slice sA ee.2.2.length sC] 129)) wr.heap.size 129:=⟨_,heap_alloc_new wr _⟩
 have HX:=J08.mk (And.intro (hX.out.1.c08 bE) (And.intro (hX.out.2.1.below bE) (And.intro (Kd.c01 hX.out.2.2.1 bE) (show lim+1≤(wr.alloc (.cells #[.int .i64 ee.1,.int .i64 ee.2.1,.slice sA ee.2.2.length sC] 129)).heap.size by have:=hX.out.2.2.2;omega))))
 clear heL bE hsz he0 he1 he2 hX
 generalize wr.alloc (.cells #[.int .i64 ee.1,.int .i64 ee.2.1,.slice sA ee.2.2.length sC] 129)=wq at *
 generalize wr.heap.size=be at *
 obtain ⟨t0,t1,t2,t3,t4⟩:=HX.out.2.1.cells
 by_cases hne:ee.1=m.1
 rotate_left
 ·have hneb:(ee.1 != m.1)=true:=by simpa using hne
  have HNE:=Lib.hid hne
  clear hne
  go_wp2_with fail
  exact ⟨⟨k+1,by omega,by go_num,by rw [HST.out,Jp4 HNE.out];exact ⟨HX.out.1,HX.out.2.1,HX.out.2.2.1,HX.out.2.2.2⟩⟩,by simp [intOf];omega⟩
 have hneb:(ee.1 != m.1)=false:=by simpa using hne
 have HNE:=Lib.hid hne
 clear hne
 obtain ⟨A8,c8,hC8,hc8,hr8,_,_,_,r3,r4,_⟩:=HX.out.1.cells
 have HN:=Lib.hid (Jdi G.rb _ _ _ G.gb _ A8 c8 sk.script ((W:Int)+1) w0 wq HX.out.1.below (by omega) (by omega) hr8 hC8 hc8)
 have HRG:=Lib.hid (J3q sk.script (show (1:Int)≤(W:Int)+1 by omega))
 have HE2:=Lib.hid (And.intro e1 (And.intro e2 hT))
 clear hC8 hc8 hr8 r3 e1 e2 hT
 go_wp2_with fail
 refine HN.out.mono ?_
 rintro e w8 ⟨rfl,A9,c9,hr9,hg9,hz9,hC9,hc9⟩
 have h9:=HX.out.1.set_run hg9 hr9 hC9 hc9
 have hne9:∀ {b:Nat} {t:TypeId},J0m wq b t→(92 == t)=false→some b≠some G.rb:=fun ht h1 he=>by injection he with he;subst he;exact not_typed HX.out.1.t_rb h1 ht
 have H9:=J08.mk (And.intro h9 (And.intro (HX.out.2.1.grown hg9 (fun k hk=>by injection hk with hk;subst hk;exact not_typed HX.out.1.t_rb rfl)) (And.intro (Kd.c06 (Kd.R_grown (Kd.c05 HX.out.2.2.1) hg9 (fun k hk=>by
   obtain ⟨_,_,_,qq,hq,hcc⟩:=hk
   have hq:qq=213:=by simpa [show kEn.E=[] from rfl] using hq
   subst hq
   exact hne9 hcc rfl)) (fun _ _=>trivial)) (show lim+1≤w8.heap.size by rw [hz9];exact HX.out.2.2.2))))
 have E9:=Lib.hid (And.intro (J09 hg9 HE2.out.1 (hne9 HE2.out.2.2 rfl)) (J09 hg9 HE2.out.2.1 (hne9 HE2.out.2.2 rfl)))
 clear hr9 hg9 hz9 hC9 hc9 h9 hne9 HE2 HN r4 t0 t1 t2 t3 t4 HX e0
 by_cases hz:numP sk.script ((W:Int)+1)=0
 ·have HST2:=Lib.hid (HST.out.trans (Jl9 HNE.out hz))
  rw [hz]
  clear hz
  go_wp2_with fail
  exact ⟨⟨k+1,by omega,by go_num,by rw [HST2.out];exact H9⟩,by simp [intOf];omega⟩
 obtain ⟨j,hj⟩:∃ j:Nat,numP sk.script ((W:Int)+1)=(j:Int)+1:=⟨(numP sk.script ((W:Int)+1) - 1).toNat,by have:=HRG.out;omega⟩
 have hjW:j<W:=by have:=HRG.out;omega
 have HST2:=Lib.hid (HST.out.trans (Jla HNE.out hj))
 rw [hj]
 have hjb:((j:Int)+1 == 0)=false:=by simp;omega
 have hj0:(0:Int)≤j:=by omega
 have hjWI:(j:Int)<W:=by omega
 clear hz hj
 obtain ⟨t0,t1,t2,t3,t4⟩:=H9.out.2.1.cells
 obtain ⟨f1,f2⟩:=E9.out
 go_upto_region 10 with fail
 have PL:=fun w=>Lib.hid (Jen m.2 (tmOf ee.2.2) w)
 have TI:=fun w h=>Lib.hid (J6m sA sC ee.2.2 w h)
 simp only [tmV] at PL TI
 have HD:=J08.mk (J05 (Below.refl w8.heap.size w8))
 refine Jd9 (n:=12) (S:=fun w'=>w'.cell? ⟨be,1,none⟩=some (.int .i64 ee.2.1)∧w'.cell? ⟨be,2,none⟩=some (.slice sA ee.2.2.length sC)∧w'.cell? ⟨lim,2,none⟩=some (.int .i64 m.2.1)∧w'.cell? ⟨lim,3,none⟩=some (.int .i64 m.2.2.1)∧w'.cell? ⟨lim,4,none⟩=some (.int .i64 m.2.2.2)) (ds:=[11]) (bs 12 0) (by kernel_rfl) rfl (by kernel_rfl) ⟨f1,f2,t2,t3,t4⟩ (fun hJ0=>?_)
 have HS:∀ V,Below w8.heap.size w8 V→V.cell? ⟨be,1,none⟩=some (.int .i64 ee.2.1)∧V.cell? ⟨be,2,none⟩=some (.slice sA ee.2.2.length sC)∧V.cell? ⟨lim,2,none⟩=some (.int .i64 m.2.1)∧V.cell? ⟨lim,3,none⟩=some (.int .i64 m.2.2.1)∧V.cell? ⟨lim,4,none⟩=some (.int .i64 m.2.2.2):=fun V hb=>⟨J00 hb f1,J00 hb f2,J00 hb t2,J00 hb t3,J00 hb t4⟩
 have HSH:=Lib.hid HS
 clear HS
 generalize w8.drew=wd at *
 refine pu 0 60 (bs 12 1) ?_
 refine tk5 1 61 (bs 12 3) hJ0 ?_
 refine pu 2 62 (bs 12 7) ?_
 refine pu 3 63 (bs 12 15) ?_
 refine tk5 4 64 (bs 12 31) hJ0 ?_
 refine pu 5 65 (bs 12 63) ?_
 refine tk5 6 66 (bs 12 127) hJ0 ?_
 refine Jl1 1 #[true,true,true,true,true,true,true,true,true,true,true,false] (fun g:Nat=>[(67,.agg #[.int .i64 (tmOf ee.2.2).1,.int .i64 (tmOf ee.2.2).2.1,.int .i64 (tmOf ee.2.2).2.2]),(68,.agg #[.int .i64 (J0l m.2 (tmOf ee.2.2)).1,.int .i64 (J0l m.2 (tmOf ee.2.2)).2.1,.int .i64 (J0l m.2 (tmOf ee.2.2)).2.2]),(69,.agg #[.int .i64 ee.2.1,.int .i64 (J0l m.2 (tmOf ee.2.2)).1,.int .i64 (J0l m.2 (tmOf ee.2.2)).2.1,.int .i64 (J0l m.2 (tmOf ee.2.2)).2.2]),(9,.pointer (some ⟨g,0,none⟩))]) (fun g w'=>Below w8.heap.size w8 w'∧w'.heap[g]?=some (.cells #[.int .i64 0,.int .i64 0,.int .i64 0,.int .i64 0] 101)∧w8.heap.size≤g) ?_ ?_
 ·rintro g w' ⟨hbw,hbk,hge⟩
  have z0:=(J03 hbk 0).trans rfl
  have z1:=(J03 hbk 1).trans rfl
  have z2:=(J03 hbk 2).trans rfl
  have z3:=(J03 hbk 3).trans rfl
  have y0:=J07 hbk 0
  have y1:=J07 hbk 1
  have y2:=J07 hbk 2
  have y3:=J07 hbk 3
  refine Jkr (a':=?_) ?_ ?_
  rotate_left
  ·show J2x _ _=_
   simp only [J2x,Act.put,List.setIfInBounds_toArray,List.set_cons_zero,List.set_cons_succ]
   rfl
  refine la0 11 (bs 12 4095) (N:=none) fun K hK=>?_
  refine sk0 ?_
  refine hK.out _ _ ?_
  clear hK K
  refine dn0 ?_
  obtain ⟨mk,hmk⟩:∃ mk:Mk,mk=(ee.2.1,J0l m.2 (tmOf ee.2.2)):=⟨_,rfl⟩
  have hbm:((((w'.setCell ⟨g,0,none⟩ (.int .i64 ee.2.1)).setCell ⟨g,1,none⟩ (.int .i64 (J0l m.2 (tmOf ee.2.2)).1)).setCell ⟨g,2,none⟩ (.int .i64 (J0l m.2 (tmOf ee.2.2)).2.1)).setCell ⟨g,3,none⟩ (.int .i64 (J0l m.2 (tmOf ee.2.2)).2.2)).heap[g]?=some (.cells #[.int .i64 mk.1,.int .i64 mk.2.1,.int .i64 mk.2.2.1,.int .i64 mk.2.2.2] 101 (0,0)):=by
   rw [hmk]
   exact J0d (J0d (J0d (J0d hbk 0 _ rfl) 1 _ rfl) 2 _ rfl) 3 _ rfl
  have hB:Below w8.heap.size w8 ((((w'.setCell ⟨g,0,none⟩ (.int .i64 ee.2.1)).setCell ⟨g,1,none⟩ (.int .i64 (J0l m.2 (tmOf ee.2.2)).1)).setCell ⟨g,2,none⟩ (.int .i64 (J0l m.2 (tmOf ee.2.2)).2.1)).setCell ⟨g,3,none⟩ (.int .i64 (J0l m.2 (tmOf ee.2.2)).2.2)):=(((hbw.setCell hge _).setCell hge _).setCell hge _).setCell hge _
  have H10:=J08.mk (And.intro (H9.out.1.c08 hB) (And.intro (H9.out.2.1.below hB) (And.intro (Kd.c01 H9.out.2.2.1 hB) (And.intro (show lim+1≤((((w'.setCell ⟨g,0,none⟩ (.int .i64 ee.2.1)).setCell ⟨g,1,none⟩ (.int .i64 (J0l m.2 (tmOf ee.2.2)).1)).setCell ⟨g,2,none⟩ (.int .i64 (J0l m.2 (tmOf ee.2.2)).2.1)).setCell ⟨g,3,none⟩ (.int .i64 (J0l m.2 (tmOf ee.2.2)).2.2)).heap.size by have:=hB.size;have:=H9.out.2.2.2;omega) hbm))))
  clear hB hbm hbw hbk hge z0 z1 z2 z3 y0 y1 y2 y3 hJ0
  generalize ((((w'.setCell ⟨g,0,none⟩ (.int .i64 ee.2.1)).setCell ⟨g,1,none⟩ (.int .i64 (J0l m.2 (tmOf ee.2.2)).1)).setCell ⟨g,2,none⟩ (.int .i64 (J0l m.2 (tmOf ee.2.2)).2.1)).setCell ⟨g,3,none⟩ (.int .i64 (J0l m.2 (tmOf ee.2.2)).2.2))=wA at *
  have HMK:=Lib.hid hmk
  clear hmk H9 E9 HD HSH PL TI t0 t1 t2 t3 t4 f1 f2
  have hcA:=H10.out.1.cells
  obtain ⟨_,_,_,_,_,_,_,_,_,r4,_⟩:=hcA
  obtain ⟨s1,_,s3,_⟩:=H10.out.1.wcells hjW
  have hbm:=H10.out.2.2.2.2
  have m0:wA.cell? ⟨g,0,none⟩=some (.int .i64 mk.1):=(J03 hbm 0).trans rfl
  have m1:wA.cell? ⟨g,1,none⟩=some (.int .i64 mk.2.1):=(J03 hbm 1).trans rfl
  have m2:wA.cell? ⟨g,2,none⟩=some (.int .i64 mk.2.2.1):=(J03 hbm 2).trans rfl
  have m3:wA.cell? ⟨g,3,none⟩=some (.int .i64 mk.2.2.2):=(J03 hbm 3).trans rfl
  have wj:IntKind.i64.wrap ((j:Int)+1 - 1)=(j:Int):=by rw [IntKind.wrap_i64];omega
  have wj2:IntKind.i64.wrap (j:Int)=(j:Int):=by rw [IntKind.wrap_i64];omega
  clear hbm
  go_upto_region 11 with fail
  refine Jd9 (n:=13) (S:=fun w'=>w'.cell? ⟨G.rb,4,none⟩=some (.slice (some ⟨G.wa,0,none⟩) W G.wc)∧w'.cell? ⟨G.wa,j,none⟩=some (.pointer (some ⟨G.wb j,0,none⟩))∧w'.cell? ⟨G.wb j,1,none⟩=some (.map (some (G.hb j)))∧w'.cell? ⟨g,0,none⟩=some (.int .i64 mk.1)∧w'.cell? ⟨g,1,none⟩=some (.int .i64 mk.2.1)∧w'.cell? ⟨g,2,none⟩=some (.int .i64 mk.2.2.1)∧w'.cell? ⟨g,3,none⟩=some (.int .i64 mk.2.2.2)) (ds:=[12]) (bs 13 0) (by kernel_rfl) rfl (by kernel_rfl) ⟨r4,s1,s3,m0,m1,m2,m3⟩ (fun hJ0=>?_)
  have H11:=J08.mk (And.intro H10.out.1.drew (And.intro (show BoxW wA.drew lim i m from H10.out.2.1) (And.intro (Kd.c0b H10.out.2.2.1) (And.intro (show lim+1≤wA.drew.heap.size from H10.out.2.2.2.1) (show wA.drew.heap[g]?=_ from H10.out.2.2.2.2)))))
  clear r4 s1 s3 m0 m1 m2 m3 H10
  generalize wA.drew=wB at *
  refine pu 0 70 (bs 13 1) ?_
  refine pu 1 71 (bs 13 3) ?_
  refine pu 2 72 (bs 13 7) ?_
  refine tk7 3 73 (bs 13 15) hJ0 ?_
  refine pu 4 74 (bs 13 31) ?_
  refine pu 5 75 (bs 13 63) ?_
  refine pu 6 76 (bs 13 127) ?_
  refine tk7 7 77 (bs 13 255) hJ0 ?_
  refine pu 8 78 (bs 13 511) ?_
  refine pu 9 79 (bs 13 1023) ?_
  refine tk7 10 80 (bs 13 2047) hJ0 ?_
  refine tk7 11 81 (bs 13 4095) hJ0 ?_
  refine la0 12 (bs 13 8191) (N:=(some 82)) fun K hK=>?_
  refine gs0 Tryz.func46 #[.agg #[.map (some (G.hb j))],.agg #[.int .i64 mk.1,.int .i64 mk.2.1,.int .i64 mk.2.2.1,.int .i64 mk.2.2.2],.int .i64 1] ?_
  have EN:=J5o (G.hb j) (sk.has.getD j []) mk 1 wB (H11.out.1.has j hjW)
  simp only [mkV] at EN
  refine EN.mono ?_
  clear EN
  rintro e wC ⟨rfl,hgC,hLC⟩
  refine ⟨_,rfl,hK.out _ _ ?_⟩
  clear hK K
  refine dn0 ?_
  have nt:∀ (t:TypeId) (k:Nat),some (G.hb j)=some k→¬ J0m wB k t:=fun t k hk=>by injection hk with hk;subst hk;exact (H11.out.1.has j hjW).not_typed
  have H12:=J08.mk (And.intro (H11.out.1.set_has hjW hgC hLC) (And.intro (H11.out.2.1.grown hgC (nt _)) (And.intro (Kd.c06 (Kd.R_grown (Kd.c05 H11.out.2.2.1) hgC (fun k hk he=>by
    obtain ⟨_,_,_,qq,hq,hcc⟩:=hk
    exact nt qq k he.symm hcc)) (fun _ _=>trivial)) (And.intro (show lim+1≤wC.heap.size by have:=hgC.size;have:=H11.out.2.2.2.1;omega) (J0x H11.out.2.2.2.2 hgC (fun he=>nt 101 g he.symm ⟨_,H11.out.2.2.2.2⟩))))))
  clear hgC hLC nt H11 hJ0
  have hbm:=H12.out.2.2.2.2
  have m0:wC.cell? ⟨g,0,none⟩=some (.int .i64 mk.1):=(J03 hbm 0).trans rfl
  have m1:wC.cell? ⟨g,1,none⟩=some (.int .i64 mk.2.1):=(J03 hbm 1).trans rfl
  have m2:wC.cell? ⟨g,2,none⟩=some (.int .i64 mk.2.2.1):=(J03 hbm 2).trans rfl
  have m3:wC.cell? ⟨g,3,none⟩=some (.int .i64 mk.2.2.2):=(J03 hbm 3).trans rfl
  have HRn:=J08.mk H12.out.2.2.1
  have HZC:=Lib.hid H12.out.2.2.2.1
  clear hbm
  go_upto_region 13 with (at_builtin;go_must (refine Kd.R_append kEn (w0:=wC) (lim+1) rfl (.tmp 83) (.tmp 86) _ 213 _ 40 rfl Tryz.underlying214 Tryz.infoEntry rfl (by decide) (by decide) u5 sk.note (mk,1) _ (fun _=>True) (fun _=>False) rfl rfl (Jre _) (fun _ h=>h.elim) (fun _ _=>trivial) HRn.out (Below.refl _ _) HZC.out (by have:=HNL.out;omega) ?_);intro v13 w13 hR13 hb13 hg13 hat13)
  have hown:∀ k,u5.ownBlock=some k→lim+1≤k∧J0m wC k 213:=fun k hk=>by
   obtain ⟨_,ho⟩:=Kd.R_own HRn.out
   exact ⟨Kd.R_base HRn.out k hk,c07 ho k hk⟩
  have H13:=J08.mk (And.intro (H12.out.1.set_new hg13 (fun k hk=>⟨by have:=(hown k hk).1;omega,by have:=(hown k hk).1;have:=HLW.out;omega,(hown k hk).2⟩)) (And.intro (H12.out.2.1.grown hg13 (fun k hk=>not_typed (hown k hk).2 rfl)) (And.intro hR13 (show lim+1≤w13.heap.size by have:=hg13.size;have:=HZC.out;omega))))
  clear hR13 hb13 hg13 hat13 hown m0 m1 m2 m3 H12 HRn HZC
  obtain ⟨AD,cD,hCD,hcD,hrD,_,_,k2,_,_,kf⟩:=H13.out.1.cells
  have k2:w13.cell? ⟨G.rb,2,none⟩=some (.int .i64 sk.sent):=k2
  have kf2:=kf 2
  have HD:=Lib.hid (And.intro hCD (And.intro hcD hrD))
  clear hCD hcD hrD kf
  go_wp2_with fail
  have hg14:w13.grownBy (w13.setCell ⟨G.rb,2,none⟩ (.int .i64 (wrap64 (sk.sent+1)))) (some G.rb):=J0e G.rb [_] 2 w13
  have hb14:(w13.setCell ⟨G.rb,2,none⟩ (.int .i64 (wrap64 (sk.sent+1)))).heap[G.rb]?=some (.cells (J31 st.works st.nts (w64 (sk.sent+1)) G.gb (.slice (some ⟨G.wa,0,none⟩) W G.wc) (.slice AD sk.script.tail.length cD)) 92 (0,0)):=J0d HD.out.2.2 2 _ (by rw [J2u];rfl)
  have nr:∀ (t:TypeId),(92 == t)=false→∀ k,some G.rb=some k→¬ J0m w13 k t:=fun t ht k hk=>by injection hk with hk;subst hk;exact not_typed H13.out.1.t_rb ht
  refine ⟨⟨k+1,by omega,by go_num,?_⟩,by simp [intOf];omega⟩
  rw [HST2.out,← HMK.out]
  exact ⟨H13.out.1.set_run hg14 hb14 HD.out.1 HD.out.2.1,H13.out.2.1.grown hg14 (nr _ rfl),Kd.c06 (Kd.R_grown (Kd.c05 H13.out.2.2.1) hg14 (fun k hk he=>by
    obtain ⟨_,_,_,qq,hq,hcc⟩:=hk
    have hq:qq=213:=by simpa [show kEn.E=[] from rfl] using hq
    subst hq
    exact nr _ rfl k he.symm hcc)) (fun _ _=>trivial),Nat.le_trans H13.out.2.2.2 hg14.size⟩
 intro hcont
 simp only [J2x,Act.put,List.setIfInBounds_toArray,List.set_cons_zero,List.set_cons_succ] at hcont
 have HCT:=Lib.hid hcont
 clear hcont
 refine two_ (i:=7) (j:=10) (Ni:=some 67) (Nj:=some 9) #[true,true,true,true,true,true,true,true,false,false,false,false] #[true,true,true,true,true,true,true,false,false,false,true,false] rfl rfl rfl rfl (by kernel_rfl) (by decide) (by decide) (fun K hK=>?_) (fun K hK=>?_)
 ·refine gs0 Tryz.func64 #[.slice sA ee.2.2.length sC] ?_
  refine (TI _ (Kd.c00 HEL.out (J01 H9.out.1.below H9.out.1.below.size HD.out))).out.mono ?_
  rintro e w1 ⟨rfl,hb1⟩
  have hB1:=J01 HD.out HD.out.size hb1
  refine ⟨_,rfl,hK.out _ _ (HSH.out _ hB1) (fun hJ0=>?_)⟩
  clear hK K
  refine nm0 (some 67) ?_
  refine two_ (i:=8) (j:=10) (Ni:=some 68) (Nj:=some 9) #[true,true,true,true,true,true,true,true,true,false,false,false] #[true,true,true,true,true,true,true,true,false,false,true,false] rfl rfl rfl rfl (by kernel_rfl) (by decide) (by decide) (fun K hK=>?_) (fun K hK=>?_)
  ·refine gs0 Tryz.func75 #[.agg #[.int .i64 m.2.1,.int .i64 m.2.2.1,.int .i64 m.2.2.2],.agg #[.int .i64 (tmOf ee.2.2).1,.int .i64 (tmOf ee.2.2).2.1,.int .i64 (tmOf ee.2.2).2.2]] ?_
   refine (PL _).out.mono ?_
   rintro e w2 ⟨rfl,hb2⟩
   have hB2:=J01 hB1 hB1.size hb2
   refine ⟨_,rfl,hK.out _ _ (HSH.out _ hB2) (fun hJ0=>?_)⟩
   clear hK K
   refine nm0 (some 68) ?_
   refine pu 9 69 (bs 12 1023) ?_
   refine one_ (i:=10) (N:=some 9) #[true,true,true,true,true,true,true,true,true,true,true,false] rfl rfl (by kernel_rfl) (by decide) (fun K hK=>?_)
   refine va0 ?_
   have hB3:=J1e hB2 (.cells #[.int .i64 0,.int .i64 0,.int .i64 0,.int .i64 0] 101)
   refine hK.out _ _ (HSH.out _ hB3) (fun hJ0=>?_)
   clear hK K
   refine nm0 (some 9) ?_
   exact HCT.out w2.heap.size _ ⟨hB3,heap_alloc_new w2 _,hB2.size⟩
  skip
  refine va0 ?_
  have hB2:=J1e hB1 (.cells #[.int .i64 0,.int .i64 0,.int .i64 0,.int .i64 0] 101)
  refine hK.out _ _ (HSH.out _ hB2) (fun hJ0=>?_)
  clear hK K
  refine nm0 (some 9) ?_
  refine one_ (i:=8) (N:=some 68) #[true,true,true,true,true,true,true,true,true,false,true,false] rfl rfl (by kernel_rfl) (by decide) (fun K hK=>?_)
  refine gs0 Tryz.func75 #[.agg #[.int .i64 m.2.1,.int .i64 m.2.2.1,.int .i64 m.2.2.2],.agg #[.int .i64 (tmOf ee.2.2).1,.int .i64 (tmOf ee.2.2).2.1,.int .i64 (tmOf ee.2.2).2.2]] ?_
  refine (PL _).out.mono ?_
  rintro e w2 ⟨rfl,hb2⟩
  have hB3:=J01 hB2 hB2.size hb2
  refine ⟨_,rfl,hK.out _ _ (HSH.out _ hB3) (fun hJ0=>?_)⟩
  clear hK K
  refine nm0 (some 68) ?_
  refine pu 9 69 (bs 12 2047) ?_
  exact HCT.out w1.heap.size _ ⟨hB3,J04 (heap_alloc_new w1 _) hb2,hB1.size⟩
 skip
 refine va0 ?_
 have hB1:=J1e HD.out (.cells #[.int .i64 0,.int .i64 0,.int .i64 0,.int .i64 0] 101)
 refine hK.out _ _ (HSH.out _ hB1) (fun hJ0=>?_)
 clear hK K
 refine nm0 (some 9) ?_
 refine one_ (i:=7) (N:=some 67) #[true,true,true,true,true,true,true,true,false,false,true,false] rfl rfl (by kernel_rfl) (by decide) (fun K hK=>?_)
 refine gs0 Tryz.func64 #[.slice sA ee.2.2.length sC] ?_
 refine (TI _ (Kd.c00 HEL.out (J01 H9.out.1.below H9.out.1.below.size hB1))).out.mono ?_
 rintro e w1 ⟨rfl,hb1⟩
 have hB2:=J01 hB1 hB1.size hb1
 refine ⟨_,rfl,hK.out _ _ (HSH.out _ hB2) (fun hJ0=>?_)⟩
 clear hK K
 refine nm0 (some 67) ?_
 refine one_ (i:=8) (N:=some 68) #[true,true,true,true,true,true,true,true,true,false,true,false] rfl rfl (by kernel_rfl) (by decide) (fun K hK=>?_)
 refine gs0 Tryz.func75 #[.agg #[.int .i64 m.2.1,.int .i64 m.2.2.1,.int .i64 m.2.2.2],.agg #[.int .i64 (tmOf ee.2.2).1,.int .i64 (tmOf ee.2.2).2.1,.int .i64 (tmOf ee.2.2).2.2]] ?_
 refine (PL _).out.mono ?_
 rintro e w2 ⟨rfl,hb2⟩
 have hB3:=J01 hB2 hB2.size hb2
 refine ⟨_,rfl,hK.out _ _ (HSH.out _ hB3) (fun hJ0=>?_)⟩
 clear hK K
 refine nm0 (some 68) ?_
 refine pu 9 69 (bs 12 2047) ?_
 exact HCT.out wd.heap.size _ ⟨hB3,J04 (J04 (heap_alloc_new wd _) hb1) hb2,HD.out.size⟩
end Go.Proofs.YtbkfnmgkcgnifaaGreat
namespace Go.Proofs.YtbkfnmgkcgnifaaGreat
open Go.RowKit Go.Shelf W1 W2 Mdl
section
variable {P:Program} {Q:Exit→Act→World→Prop} {l n:Nat}
def KO (o:Obj):Bool:=match o with
 | .cells _ t _=>t != 144&&t != 147
 | _=>true
def NK (B:Nat) (W W':World):Prop:=(W'.os=W.os∧W'.tape=W.tape∧W'.output=W.output)∧W.heap.size≤W'.heap.size∧∀ (k:Nat) (o:Obj),W.heap[k]?=some o→(k<B∨KO o=true)→W'.heap[k]?=some o
theorem NK.refl (B:Nat) (W:World):NK B W W:=⟨⟨rfl,rfl,rfl⟩,Y0e _,fun _ _ h _=>h⟩
def SeqK {α:Type} (P:Program) (gf:Nat) (first cap:Array Value) (enc:α→Array Value) (S:List α→Prop) (B:Nat) (w:World):Prop :=
 ∀ (l:Nat) (J:List α→World→Prop) (W:World),Below w.heap.size w W→Stab W.heap.size J →
  (∀ pre m W1,J pre W1→(∃ xs,S xs∧(pre++[m]) <+: xs)→YieldAt Fence.wide 5 P l (enc m) W1 fun e W'=>e=.returned (.bool true)∧J (pre++[m]) W'∧NK B W1 W')→J [] W →
  CallsIn Fence.wide 5 P gf (first++#[.func (.yield l) #[] #[]]++cap) W fun e W'=>(∃ v,e=.returned v)∧∃ xs,S xs∧J xs W'
def Jsl (B:Nat) (I:World→Prop) (W:World):Exit→Act→World→Prop
 | .normal,_,W'=>NK B W W'∧I W'
 | _,_,_=>False
theorem Jkn {α:Type} {g:Operand} {ps:Array Tmp} {assign body:Code} {a:Act} {w:World} {gf:Nat} {first cap:Array Value} (hg:a.eval g=.func (.func gf) first cap) (eg:∀ args w,(callFunc gf args).run P w=.ok (.enter gf args) w)
  {enc:α→Array Value} (hps:∀ m,(enc m).size=ps.size) {S:List α→Prop} {B:Nat} (hseq:SeqK P gf first cap enc S B w) (I:List α→World→Prop) (hI:Stab w.heap.size I) (h0:I [] w)
  (A:List α→α→Act→World→Prop) (hA:∀ pre m a1,Stab w.heap.size (fun (_:Unit) W=>A pre m a1 W))
  (hassign:∀ l pre m W (K:Act→World→Prop),w.heap.size≤W.heap.size→(∃ xs,S xs∧(pre++[m]) <+: xs)→I pre W→(∀ a1 W1,NK B W W1→A pre m a1 W1→K a1 W1)→assign.wpIn (RF l) 5 P (Exit.then K (fun _ _ _=>False)) { tmps:=(ps.zip (enc m)).foldl (fun t (p,v)=>t.setIfInBounds p v) a.tmps,defers:=[] } W)
  (hbody:∀ l pre m a1 W,w.heap.size≤W.heap.size→(∃ xs,S xs∧(pre++[m]) <+: xs)→A pre m a1 W→body.wpIn (RF l) 5 P (Jsl B (I (pre++[m])) W) a1 W)
  (hdone:∀ D xs W,w.heap.size≤D→S xs→I xs W→W.heap[D]?=some (.deferred (some []))→Q .normal { a with defers:={ target:=.collected D,args:=#[] }::a.defers } W) :
  (Code.rangeFunc g ps assign body).wpIn Fence.wide 6 P Q a w:=by
 refine wpIn_rangeFunc ?_
 intro fn hfn
 obtain ⟨rec,hrec⟩:∃ rec:LoopState→Loop,rec=fun st=>{ state:=st,pending:=none,fn,tmps:=a.tmps,params:=ps,assign,body,defers:=w.heap.size }:=⟨_,rfl⟩
 obtain ⟨W1,hW1⟩:∃ W1,(w.alloc (.deferred (some []))).alloc (.loop (rec .ready))=W1:=⟨_,rfl⟩
 have hL1:W1.heap[w.heap.size+1]?=some (.loop (rec .ready)):=by
  rw [← hW1];have:=Y0c (w.alloc (.deferred (some []))) (.loop (rec .ready));simpa using this
 have hK1:W1.heap[w.heap.size]?=some (.deferred (some [])):=by
  rw [← hW1];exact Jh7 (Y0c w _) _
 have hB1:Below w.heap.size w W1:=by rw [← hW1];exact J15
 have hsz1:W1.heap.size=w.heap.size+2:=by rw [← hW1];simp
 have hI1:I [] W1:=hI _ _ _ (Y0e _) h0 (.below hB1)
 refine ⟨w.heap.size+1,[{ target:=.collected w.heap.size,args:=#[] }],W1,{ target:=.fn (.func gf) cap,args:=first++#[.func (.yield (w.heap.size+1)) #[] #[]] },W1,gf,first++#[.func (.yield (w.heap.size+1)) #[] #[]]++cap,W1,?_,?_,fun _ _=>trivial,?_,fun _=>by omega,?_⟩
 ·rw [← hW1,hrec];exact run_enterLoop_outer _ _ _ _ _
 ·simp only [resolve,hg]
  simp [go_sem]
 ·simp [invoke,go_sem,eg]
 refine (hseq (w.heap.size+1) (fun pre W=>w.heap.size+2≤W.heap.size∧I pre W∧W.heap[w.heap.size+1]?=some (.loop (rec .ready))∧W.heap[w.heap.size]?=some (.deferred (some []))) W1 hB1 ?_ ?_ ⟨by omega,hI1,hL1,hK1⟩).mono ?_
 ·intro s V V' hV h hq
  exact ⟨Nat.le_trans h.1 hq.size,hI _ _ _ (by omega) h.2.1 (hq.mono (by omega)),hq.same _ _ h.2.2.1 (.inl (by omega)),hq.same _ _ h.2.2.2 (.inl (by omega))⟩
 ·rintro pre m W ⟨hsz,hi,hl,hk⟩ hpx
  have hy:=run_yield (P:=P) (args:=enc m) hl (by rw [hrec];exact hps m)
  rw [hrec] at hy
  refine ⟨fn,_,assign,body,hy,roundIn_of_wpIn trivial (wpIn_mono (hassign (w.heap.size+1) pre m W (fun a1 W1=>NK B W W1∧A pre m a1 W1) (by omega) hpx hi (fun a1 W1 h1 h2=>⟨h1,h2⟩)) ?_)⟩
  rintro e a1 V1 he
  cases e with
  | normal =>
   obtain ⟨hnc,ha⟩:=he
   have hl1:=hnc.2.2 _ _ hl (.inr rfl)
   have hk1:=hnc.2.2 _ _ hk (.inr rfl)
   refine ⟨_,run_beginRound hl1 (by rw [hrec]),wpIn_mono (hbody (w.heap.size+1) pre m a1 _ (by have:=hnc.2.1;rw [World.putObj_size];omega) hpx (hA pre m a1 () _ _ (by have:=hnc.2.1;omega) ha (.putObj hl1 rfl (by omega)))) ?_⟩
   rintro e a2 V2 he
   cases e with
   | normal =>
    obtain ⟨hnc2,hi2⟩:=he
    have hl2:=hnc2.2.2 _ _ (World.putObj_heap_same (J0q hl1)) (.inr rfl)
    have hk2:=hnc2.2.2 _ _ ((World.putObj_heap_other (by omega)).trans hk1) (.inr rfl)
    have hr:=run_endRound (P:=P) none hl2
    have hfin:(V2.putObj (w.heap.size+1) (.loop { { rec .ready with state:=.busy } with state:=.ready,pending:=none })).heap[w.heap.size+1]?=some (.loop (rec .ready)):=by
     refine (World.putObj_heap_same (J0q hl2)).trans ?_
     rw [hrec]
    refine ⟨_,_,hr,rfl,⟨?_,hI _ _ _ (by have:=hnc.2.1;have:=hnc2.2.1;rw [World.putObj_size] at this;omega) hi2 (.putObj hl2 rfl (by omega)),?_,?_⟩,?_⟩
    ·have:=hnc.2.1;have:=hnc2.2.1
     rw [World.putObj_size] at this ⊢;omega
    ·exact hfin
    ·exact (World.putObj_heap_other (by omega)).trans hk2
    refine ⟨⟨hnc2.1.1.trans hnc.1.1,hnc2.1.2.1.trans hnc.1.2.1,hnc2.1.2.2.trans hnc.1.2.2⟩,by have:=hnc.2.1;have:=hnc2.2.1;rw [World.putObj_size] at this ⊢;omega,fun k o hko ho=>?_⟩
    by_cases hkl:k=w.heap.size+1
    ·subst hkl
     rw [hl] at hko
     cases hko
     exact hfin
    have h1:=hnc.2.2 k o hko ho
    have h2:=hnc2.2.2 k o ((World.putObj_heap_other hkl).trans h1) ho
    exact (World.putObj_heap_other hkl).trans h2
   | _=>exact he.elim
  | _=>exact he.elim
 rintro e W2 ⟨⟨v,rfl⟩,xs,hS,hsz,hi,hl,hk⟩
 have he:(Instr.endLoop (w.heap.size+1)).run P W2=.ok none (W2.putObj (w.heap.size+1) (.loop { rec .ready with state:=.exhausted })):=by
  have:=run_endLoop (P:=P) hl (by rw [hrec];simp)
  rw [hrec] at this ⊢
  exact this
 exact ⟨none,_,he,hdone _ xs _ (Y0e _) hS (hI _ _ _ (by omega) hi (.putObj hl rfl (by omega))) ((World.putObj_heap_other (by omega)).trans hk)⟩
end
end Go.Proofs.YtbkfnmgkcgnifaaGreat
namespace Go.Proofs.YtbkfnmgkcgnifaaGreat
open Go.RowKit Go.Shelf W1 W2 Mdl Go.ChangeMaps
namespace Mdl
def fW (st:St) (i:Nat):List Mv:=(J61 ((st.hasOf i).map (·.1))).map (Mv.work i)
def gT (st:St) (i k:Nat):List Mv:=if st.queue i k=[] then [] else [Mv.take i k]
def fT (W:Nat) (st:St) (i:Nat):List Mv:=(List.range W).flatMap (gT st i)
theorem J8w (W:Nat) (st:St):J28 W st=(List.range W).flatMap (fW st)++(List.range W).flatMap (fT W st):=rfl
theorem flat_succ {α:Type} (f:Nat→List α) (n:Nat):(List.range (n+1)).flatMap f=(List.range n).flatMap f++f n:=by
 rw [List.range_succ,List.flatMap_append];simp
theorem Jar {α:Type} {f:Nat→List α} {i:Nat} {l:List α} (hl:l <+: f i):∀ (n:Nat) (rest:List α),i<n→(List.range i).flatMap f++l <+: (List.range n).flatMap f++rest
 | 0,_,h=>absurd h (Nat.not_lt_zero _)
 | n+1,rest,h=>by
  rw [flat_succ,Y0d]
  rcases Nat.lt_or_eq_of_le (Nat.le_of_lt_succ h) with h | h
  ·exact Jar hl n _ h
  subst h
  rw [List.prefix_append_right_inj]
  exact hl.trans (List.prefix_append _ _)
end Mdl
def mvV:Mv→Value
 | .work i m=>.iface 179 (.agg #[.int .i64 i,.int .i64 m.1,.int .i64 m.2.1,.int .i64 m.2.2.1,.int .i64 m.2.2.2])
 | .take i k=>.iface 182 (.agg #[.int .i64 i,.int .i64 k])
theorem J12.keeps {B:Nat} {w0 w w':World} {G:RG} {W lim:Nat} {st:St} {q:Nat→Nat→Value} (h:J12 w0 G W lim st q w) (hn:NK B w w') (hB:w0.heap.size≤B):J12 w0 G W lim st q w':=by
 have hk:Kept w w' (fun k=>∃ o,w.heap[k]?=some o∧KO o=false):=⟨hn.2.1,fun i hi hS=>by
  have hs:=Array.getElem?_eq_getElem hi
  rw [hs]
  refine hn.2.2 i _ hs (.inr ?_)
  cases hko:KO w.heap[i] with
  | true=>rfl
  | false=>exact absurd ⟨_,hs,hko⟩ hS⟩
 have ht:∀ {b:Nat} {t:TypeId},J0m w b t→(t == 144)=false→(t == 147)=false→¬ ∃ o,w.heap[b]?=some o∧KO o=false:=by
  rintro b t ⟨c,hc⟩ h1 h2 ⟨o,ho,hko⟩
  rw [hc] at ho;cases ho
  simp [KO,bne,h1,h2] at hko
 have hl:∀ {b:Nat} {L:Led},J1a w b L→¬ ∃ o,w.heap[b]?=some o∧KO o=false:=by
  rintro b L ⟨es,ck,hc,_⟩ ⟨o,ho,hko⟩
  rw [hc] at ho;cases ho
  simp [KO] at hko
 have hb:Below w0.heap.size w0 w':=by
  refine ⟨hn.1.1.trans h.below.os,hn.1.2.1.trans h.below.tape,hn.1.2.2.trans h.below.output,Nat.le_trans h.below.size hn.2.1,fun k hk'=>?_⟩
  have hlt:k<w.heap.size:=Nat.lt_of_lt_of_le hk' h.below.size
  have hs:=Array.getElem?_eq_getElem hlt
  rw [hn.2.2 k _ hs (.inl (by omega)),← hs]
  exact h.below.block k hk'
 obtain ⟨A,c,r1,r2,r3⟩:=h.run
 obtain ⟨cs,s1,s2⟩:=h.ws
 exact ⟨hb,⟨A,c,J0f r1 hk (ht h.t_rb rfl rfl),r2,r3⟩,⟨cs,J0f s1 hk (ht h.t_wa rfl rfl),s2⟩,fun i hi=>J0f (h.wk i hi) hk (ht (h.t_wb hi) rfl rfl),fun i hi=>(h.led i hi).kept hk (hl (h.led i hi)),fun i hi=>(h.has i hi).kept hk (hl (h.has i hi)),
  fun i hi=>by obtain ⟨c,n1,n2⟩:=h.nbk i hi;exact ⟨c,J0f n1 hk (ht (h.t_nb hi) rfl rfl),n2⟩,fun i k hi hk'=>(h.qs i k hi hk').kept hk (fun b hb _ h1=>ht h1 rfl rfl hb) (fun b hb=>ht ((h.qs i k hi hk').c07 hb).2 rfl rfl),h.qdis,h.iwb,h.inb,h.ilb,h.ihb,h.ilh,h.low,h.lens,fun k cs hz=>J0f (h.frz k cs hz) hk (ht ⟨_,h.frz k cs hz⟩ rfl rfl)⟩
theorem NK.kept {B:Nat} {w w':World} (hn:NK B w w'):Kept w w' (fun k=>∃ o,w.heap[k]?=some o∧KO o=false):=⟨hn.2.1,fun i hi hS=>by
 have hs:=Array.getElem?_eq_getElem hi
 rw [hs]
 refine hn.2.2 i _ hs (.inr ?_)
 cases hko:KO w.heap[i] with
 | true=>rfl
 | false=>exact absurd ⟨_,hs,hko⟩ hS⟩
theorem Jqz {α:Type} {d:Kd α} {e base B:Nat} {ok:Nat→Prop} {w w':World} {v:Value} {xs:List α} (hE:∀ q,q ∈ e::d.E→(q != 144&&q != 147)=true) (h:d.R e w base ok v xs) (hn:NK B w w'):d.R e w' base ok v xs:=by
 refine Kd.c06 (Kd.c0a (Kd.c05 h) hn.kept ?_) (fun _ h=>h.1)
 rintro k ⟨_,_,_,q,hq,c,hc⟩ ⟨o,ho,hko⟩
 rw [hc] at ho;cases ho
 have:=hE q hq
 simp only [KO] at hko
 rw [hko] at this;cases this
theorem Jqw {w:World} {A:Option Addr} {l:List Mk} (h:kM.C w A l.length l) {k:Nat} (hk:k<l.length) :
  ∃ ad,A=some ad∧w.cell? (ad.add (k*4))=some (.int .i64 l[k].1)∧w.cell? ⟨(ad.add (k*4)).block,(ad.add (k*4)).off+1,none⟩=some (.int .i64 l[k].2.1)∧w.cell? ⟨(ad.add (k*4)).block,(ad.add (k*4)).off+2,none⟩=some (.int .i64 l[k].2.2.1) ∧
   w.cell? ⟨(ad.add (k*4)).block,(ad.add (k*4)).off+3,none⟩=some (.int .i64 l[k].2.2.2):=by
 obtain ⟨ad,c,e,hl,hK,hc⟩:=Kd.C_get h (0,0,0,0) (k:Int) (by omega) (by omega)
 rw [Y06,Y01,Y05 hk] at hK
 rw [Y06] at hc
 rw [kM_K.1 hK] at hc
 refine ⟨ad,e,?_,?_,?_,?_⟩
 ·have:=hc 0 _ rfl
  rwa [show kM.sz=4 from rfl,Nat.add_zero] at this
 ·have:=hc 1 _ rfl
  rwa [show kM.sz=4 from rfl,J1i _ _ _ (by omega)] at this
 ·have:=hc 2 _ rfl
  rwa [show kM.sz=4 from rfl,J1i _ _ _ (by omega)] at this
 have:=hc 3 _ rfl
 rwa [show kM.sz=4 from rfl,J1i _ _ _ (by omega)] at this
structure Jnv (W:Nat) (st:St):Prop where
 ok:∀ i,i<W→∀ e ∈ st.hasOf i,okM e.1
 len:∀ i,i<W→(st.hasOf i).length≤1000000000
theorem Jku (w0:World) (G:RG) (W lim:Nat) (st:St) (q:Nat→Nat→Value) (bx:Nat) (B:Nat) (w:World) (h:J12 w0 G W lim st q w) (hB:w0.heap.size≤B) (hbx:w.heap[bx]?=some (.cells #[.pointer (some ⟨G.rb,0,none⟩)] 84 (0,0))) (hW:W≤4) (hh:Jnv W st) :
  SeqK Tryz.prog 105 #[] #[.pointer (some ⟨bx,0,none⟩)] (fun m=>#[mvV m]) (fun xs=>xs=J28 W st) B w:=by
 intro l J V hV hJ hY h0
 have H1:=Y00 (Y07 (h.c08 hV) (Y07 (J04 hbx hV) h0))
 have HY:=Y08 hY
 clear h hV hY h0 hbx
 refine callsIn_of_wp Tryz.func105 rfl trivial ?_ rfl
 simp only [Tryz.ntmps105,List.size_toArray,Y0z,List.length_nil,Nat.reduceAdd,Nat.reduceSub,Array.replicate_succ,Array.replicate_zero,List.push_toArray,List.append_toArray,List.nil_append,List.cons_append,List.append_nil]
 obtain ⟨_,_,_,_,_,_,_,_,_,r4,_⟩:=H1.out.1.cells
 have bc:V.cell? ⟨bx,0,none⟩=some (.pointer (some ⟨G.rb,0,none⟩)):=(J03 H1.out.2.1 0).trans rfl
 gi_wp2
 clear r4 bc
 gi_loopw [16] (fun ix wr=>∃ i:Nat,i≤W∧ix=.int .i64 i∧J08 (J12 w0 G W lim st q wr∧wr.heap[bx]?=some (.cells #[.pointer (some ⟨G.rb,0,none⟩)] 84 (0,0))∧V.heap.size≤wr.heap.size∧J ((List.range i).flatMap (fW st)) wr)) (fun ix _=>W - (intOf ix).toNat)
 case atStart=>exact ⟨0,Nat.zero_le _,rfl,H1.out.1,H1.out.2.1,Y0e _,H1.out.2.2⟩
 clear H1
 obtain ⟨i,hi,rfl,hX⟩:=hrel
 by_cases hlt:i<W
 ·have hi0:(0:Int)≤i:=by omega
  have hiW:(i:Int)<W:=by omega
  obtain ⟨s1,_,s3,_⟩:=hX.out.1.wcells hlt
  have HM:=Y08 (Jbv (G.hb i) (st.hasOf i) wr (hX.out.1.has i hlt) (hh.ok i hlt) (by have:=hh.len i hlt;omega))
  gi_wp2
  refine ⟨trivial,callsIn_wide.2 (HM.out.mono ?_)⟩
  rintro e w1 ⟨v,rfl,hR,hb⟩
  have hJ1:=hJ _ _ _ hX.out.2.2.1 hX.out.2.2.2 (.below hb)
  obtain ⟨Am,cm,rfl⟩:=Kd.c02 hR
  have H2:=Y00 (Y07 (hX.out.1.c08 hb) (Y07 (J04 hX.out.2.1 hb) (Y07 (show V.heap.size≤w1.heap.size by have:=hX.out.2.2.1;have:=hb.size;omega) (Y07 hJ1 (Kd.c04 hR (Nat.zero_le _))))))
  have HFW:=Y08 (show fW st i=(J61 ((st.hasOf i).map (·.1))).map (Mv.work i) from rfl)
  clear hb hJ1 hR hX HM s1 s3
  generalize J61 ((st.hasOf i).map (·.1))=ms at *
  obtain ⟨nm,hnm⟩:∃ nm,nm=ms.length:=⟨_,rfl⟩
  have HNM:=Y08 hnm
  rw [← hnm]
  have hmm:nm≤9223372036854775807:=by
   have:=(Kd.c03 H2.out.2.2.2.2).2.2.2.1
   rw [hnm];exact this
  clear hnm
  gi_wp2
  gi_loopw [27] (fun ix wv=>∃ k:Nat,k≤nm∧ix=.int .i64 k∧J08 (J12 w0 G W lim st q wv∧wv.heap[bx]?=some (.cells #[.pointer (some ⟨G.rb,0,none⟩)] 84 (0,0))∧V.heap.size≤wv.heap.size∧J ((List.range i).flatMap (fW st)++(ms.take k).map (Mv.work i)) wv∧kM.R 101 wv 0 (fun _=>True) (.slice Am ms.length cm) ms)) (fun ix _=>nm - (intOf ix).toNat)
  case atStart=>exact ⟨0,Nat.zero_le _,rfl,H2.out.1,H2.out.2.1,H2.out.2.2.1,by simpa using H2.out.2.2.2.1,H2.out.2.2.2.2⟩
  clear H2
  obtain ⟨k,hk,rfl,hX⟩:=hrel
  by_cases hkn:k<nm
  rotate_left
  ·have hknI:¬ ((k:Int)<nm):=by omega
   have hkm:k=ms.length:=by have:=HNM.out;omega
   gi_wp2
   refine ⟨⟨i+1,by omega,by go_num,hX.out.1,hX.out.2.1,hX.out.2.2.1,?_⟩,by simp [intOf];omega⟩
   rw [flat_succ,HFW.out]
   have:=hX.out.2.2.2.1
   rwa [Y0t (by omega)] at this
  have hk0:(0:Int)≤k:=by omega
  have hknI:(k:Int)<nm:=by omega
  have hkm:k<ms.length:=by have:=HNM.out;omega
  obtain ⟨ad,rfl,c0,c1,c2,c3⟩:=Jqw (Kd.c03 hX.out.2.2.2.2).2.2 hkm
  have HTK:=Y08 (show (ms.take (k+1)).map (Mv.work i)=(ms.take k).map (Mv.work i)++[Mv.work i ms[k]] by rw [Y0u hkm,List.map_append];rfl)
  have HPX:=Y08 (show (List.range i).flatMap (fW st)++(ms.take k).map (Mv.work i)++[Mv.work i ms[k]] <+: J28 W st by
   rw [Y0d,← HTK.out,J8w]
   refine Jar ?_ W _ hlt
   rw [HFW.out]
   exact (List.take_prefix _ _).map _)
  generalize ms[k]=mk at *
  have hb1:=J02 wr (.cells #[.int .i64 mk.1,.int .i64 mk.2.1,.int .i64 mk.2.2.1,.int .i64 mk.2.2.2] 101)
  have hJ4:=hJ _ _ _ hX.out.2.2.1 hX.out.2.2.2.1 (.below hb1)
  have H4:=Y00 (Y07 (hX.out.1.c08 hb1) (Y07 (J04 hX.out.2.1 hb1) (Y07 (show V.heap.size≤(wr.alloc (.cells #[.int .i64 mk.1,.int .i64 mk.2.1,.int .i64 mk.2.2.1,.int .i64 mk.2.2.2] 101)).heap.size by have:=hX.out.2.2.1;have:=hb1.size;omega) (Kd.c01 hX.out.2.2.2.2 hb1))))
  obtain ⟨fn,tmps,assign,body,hy,hR⟩:=HY.out _ (Mv.work i mk) _ hJ4 ⟨_,rfl,HPX.out⟩
  have HR:=Y08 hR
  simp only [mvV] at hy
  clear hb1 hJ4 hR hX
  gi_wp2
  refine (J6s HR.out).mono ?_
  rintro e' W' ⟨rfl,hJ',hnk⟩
  have H5:=Y00 (show J12 w0 G W lim st q W'∧W'.heap[bx]?=some (.cells #[.pointer (some ⟨G.rb,0,none⟩)] 84 (0,0))∧V.heap.size≤W'.heap.size∧J ((List.range i).flatMap (fW st)++(ms.take (k+1)).map (Mv.work i)) W'∧kM.R 101 W' 0 (fun _=>True) (.slice (some ad) ms.length cm) ms from
   ⟨H4.out.1.keeps hnk hB,hnk.2.2 _ _ H4.out.2.1 (.inr rfl),Nat.le_trans H4.out.2.2.1 hnk.2.1,by rw [HTK.out,← Y0d];exact hJ',Jqz (by intro q hq;rw [show kM.E=[] from rfl] at hq;rw [Y11.1 hq];rfl) H4.out.2.2.2 hnk⟩)
  clear hJ' hnk H4 HR hy
  gi_wp2
  exact ⟨⟨k+1,by omega,by go_num,H5⟩,by simp [intOf];omega⟩
 have hiW:¬ ((i:Int)<W):=by omega
 have hiw:i=W:=by omega
 obtain ⟨_,_,_,_,_,_,_,_,_,r4,_⟩:=hX.out.1.cells
 have bc:wr.cell? ⟨bx,0,none⟩=some (.pointer (some ⟨G.rb,0,none⟩)):=(J03 hX.out.2.1 0).trans rfl
 have H1:=Y00 (show J12 w0 G W lim st q wr∧wr.heap[bx]?=some (.cells #[.pointer (some ⟨G.rb,0,none⟩)] 84 (0,0))∧V.heap.size≤wr.heap.size∧J ((List.range W).flatMap (fW st)) wr from ⟨hX.out.1,hX.out.2.1,hX.out.2.2.1,by rw [← hiw];exact hX.out.2.2.2⟩)
 clear hX
 gi_wp2
 clear r4 bc
 gi_loopw [45] (fun ix wv=>∃ a:Nat,a≤W∧ix=.int .i64 a∧J08 (J12 w0 G W lim st q wv∧wv.heap[bx]?=some (.cells #[.pointer (some ⟨G.rb,0,none⟩)] 84 (0,0))∧V.heap.size≤wv.heap.size∧J ((List.range W).flatMap (fW st)++(List.range a).flatMap (fT W st)) wv)) (fun ix _=>W - (intOf ix).toNat)
 case atStart=>exact ⟨0,Nat.zero_le _,rfl,H1.out.1,H1.out.2.1,H1.out.2.2.1,by simpa using H1.out.2.2.2⟩
 clear H1
 obtain ⟨a,ha,rfl,hX⟩:=hrel
 by_cases haW:a<W
 rotate_left
 ·have haWI:¬ ((a:Int)<W):=by omega
  have haw:a=W:=by omega
  gi_wp2
  go_end0
  refine ⟨⟨_,rfl⟩,?_⟩
  have h:=hX.out.2.2.2
  rw [haw] at h
  exact h
 have ha0:(0:Int)≤a:=by omega
 have haWI:(a:Int)<W:=by omega
 obtain ⟨s1,_,_,s4⟩:=hX.out.1.wcells haW
 gi_wp2
 refine wpIn_wide.2 (wp_scope_straight ((wpIn_wide (n:=5)).1 (wpIn_seq (wpIn_label ?_))))
 show Code.wpIn _ _ _ _ _ _ _
 gi_wp2
 clear s1 s4
 gi_loopw [55] (fun ix wv=>∃ k:Nat,k≤W∧ix=.int .i64 k∧J08 (J12 w0 G W lim st q wv∧wv.heap[bx]?=some (.cells #[.pointer (some ⟨G.rb,0,none⟩)] 84 (0,0))∧V.heap.size≤wv.heap.size∧J ((List.range W).flatMap (fW st)++((List.range a).flatMap (fT W st)++(List.range k).flatMap (gT st a))) wv)) (fun ix _=>W - (intOf ix).toNat)
 case atStart=>exact ⟨0,Nat.zero_le _,rfl,hX.out.1,hX.out.2.1,hX.out.2.2.1,by simpa using hX.out.2.2.2⟩
 clear hX
 obtain ⟨k,hk,rfl,hX⟩:=hrel
 by_cases hkW:k<W
 rotate_left
 ·have hkWI:¬ ((k:Int)<W):=by omega
  have hkw:k=W:=by omega
  gi_wp2
  refine ⟨⟨a+1,by omega,by go_num,hX.out.1,hX.out.2.1,hX.out.2.2.1,?_⟩,by simp [intOf];omega⟩
  rw [flat_succ]
  have:=hX.out.2.2.2
  rw [hkw] at this
  exact this
 have hk0:(0:Int)≤k:=by omega
 have hkWI:(k:Int)<W:=by omega
 obtain ⟨n1,_⟩:=hX.out.1.qcell haW hkW
 obtain ⟨Aq,cq,hqv⟩:∃ A c,q a k=.slice A (st.queue a k).length c:=by obtain ⟨A,c,h,_⟩:=hX.out.1.qs a k haW hkW;exact ⟨A,c,h⟩
 rw [hqv] at n1
 clear hqv
 by_cases hz:st.queue a k=[]
 ·have hlb:(((st.queue a k).length:Int) == 0)=true:=by rw [hz];rfl
  have hlb2:(st.queue a k).length=0:=by rw [hz];rfl
  have HG:=Y08 (show gT st a k=[] by unfold gT;rw [if_pos hz])
  rw [hlb2] at n1
  clear hlb hlb2 hz
  gi_wp2
  exact ⟨⟨k+1,by omega,by go_num,hX.out.1,hX.out.2.1,hX.out.2.2.1,by rw [flat_succ,HG.out,List.append_nil];exact hX.out.2.2.2⟩,by simp [intOf];omega⟩
 have hpos:0<(st.queue a k).length:=List.length_pos_iff.2 hz
 have HG:=Y08 (show gT st a k=[Mv.take a k] by unfold gT;rw [if_neg hz])
 have HPX:=Y08 (show (List.range W).flatMap (fW st)++((List.range a).flatMap (fT W st)++(List.range k).flatMap (gT st a))++[Mv.take a k] <+: J28 W st by
  rw [J8w,Y0d,Y0d]
  rw [List.prefix_append_right_inj]
  have:=Jar (f:=fT W st) (i:=a) (l:=(List.range k).flatMap (gT st a)++[Mv.take a k]) (by
   have h1:=Jar (f:=gT st a) (i:=k) (l:=[Mv.take a k]) (by rw [HG.out];exact List.prefix_rfl) W [] hkW
   rwa [List.append_nil] at h1) W [] haW
  rwa [List.append_nil] at this)
 generalize hql:(st.queue a k).length=ql at *
 have hlb:((ql:Int) == 0)=false:=by simp;omega
 obtain ⟨fn,tmps,assign,body,hy,hR⟩:=HY.out _ (Mv.take a k) _ hX.out.2.2.2 ⟨_,rfl,HPX.out⟩
 have HR:=Y08 hR
 simp only [mvV] at hy
 clear hR hz hpos hql
 gi_wp2
 refine (J6s HR.out).mono ?_
 rintro e' W' ⟨rfl,hJ',hnk⟩
 have H5:=Y00 (show J12 w0 G W lim st q W'∧W'.heap[bx]?=some (.cells #[.pointer (some ⟨G.rb,0,none⟩)] 84 (0,0))∧V.heap.size≤W'.heap.size∧J ((List.range W).flatMap (fW st)++((List.range a).flatMap (fT W st)++(List.range (k+1)).flatMap (gT st a))) W' from
  ⟨hX.out.1.keeps hnk hB,hnk.2.2 _ _ hX.out.2.1 (.inr rfl),Nat.le_trans hX.out.2.2.1 hnk.2.1,by rw [flat_succ,HG.out,← Y0d,← Y0d];rw [← Y0d] at hJ';exact hJ'⟩)
 clear hJ' hnk HR hy
 gi_wp2
 exact ⟨⟨k+1,by omega,by go_num,H5⟩,by simp [intOf];omega⟩
attribute [local go_sem] Oper.semAt_some
section
variable {P:Program} {Q:Exit→Act→World→Prop} {l n:Nat}
theorem Jbz {ops:Array Oper} (hQ:¬ LetsOut Q):∀ (os:List Oper) (a:Act) (w:World),os.all J6u=true→wpList P ops Q os a w→wpListIn (RF l) n P ops Q os a w
 | [],_,_,_,h=>h
 | o::os,a,w,hd,h=>by
  rw [List.all_cons,Y0x] at hd
  unfold wpList at h
  unfold wpListIn
  split
  ·rename_i hw
   rw [if_pos hw] at h
   exact Oper.wpIn_mono (fun a w hk=>Jbz hQ os a w hd.2 hk) (Jg5 (l:=l) (n:=n) hd.1 (h.resolve_right (fun h2=>hQ h2.2)))
  rename_i hw
  rw [if_neg hw] at h
  exact ⟨fun _ _=>trivial,Jbz hQ os _ w hd.2 h⟩
end
theorem Jqa (m:Mv):(mvV m).oneCell'=true:=by cases m<;>rfl
abbrev kMv:Kd Mv:=Kd.scalar mvV Jqa
theorem Tryz.infoMove:(Tryz.prog.info? 147).map (fun i=>(i.zero,i.size,i.bytes))=some (some .nilIface,1,16):=by kernel_rfl
theorem Jfd {α:Type} {d:Kd α} {e base B:Nat} {ok:Nat→Prop} {W W':World} {v:Value} {xs:List α} (h:d.R e W base ok v xs) (hq:J3m B W W'):d.R e W' base ok v xs :=
 Kd.c06 (Kd.R_move (Kd.c05 h) (fun k hk=>by
  obtain ⟨_,_,_,q,_,cells,hc⟩:=hk
  rw [hc];exact hq.same _ _ hc (.inr rfl))) (fun _ hk=>hk.1)
def ColI (w:World) (bx:Nat) (pre:List Mv) (V:World):Prop:=∃ A c,V.heap[bx]?=some (.cells #[.slice A pre.length c] 144 (0,0))∧kMv.R 147 V (bx+1) (fun _=>True) (.slice A pre.length c) pre∧Below w.heap.size w V
theorem Jfb (w0:World) (G:RG) (W lim:Nat) (st:St) (q:Nat→Nat→Value) (bx:Nat) (w:World) (h:J12 w0 G W lim st q w) (hbx:w.heap[bx]?=some (.cells #[.pointer (some ⟨G.rb,0,none⟩)] 84 (0,0))) (hW:W≤4) (hh:Jnv W st) (hlen:(J28 W st).length≤1000000000000) :
  Calls Tryz.prog 104 #[.slice none 0 0,.func (.func 105) #[] #[.pointer (some ⟨bx,0,none⟩)]] w fun e w'=>∃ v,e=.returned v∧kMv.R 147 w' w.heap.size (fun _=>True) v (J28 W st)∧Below w.heap.size w w':=by
 have hb1:=J02 w (.cells #[.slice none 0 0] 144)
 have H1:=Y00 (Y07 (h.c08 hb1) (Y07 (J04 hbx hb1) (Y07 (show (w.alloc (.cells #[.slice none 0 0] 144)).heap[w.heap.size]?=some (.cells #[.slice none 0 0] 144 (0,0)) from Y0c w _) (Y07 hb1 (show (w.alloc (.cells #[.slice none 0 0] 144)).heap.size=w.heap.size+1 by simp)))))
 have HB:=Y08 (show w0.heap.size≤w.heap.size from h.below.size)
 have HLN:=Y08 hlen
 clear h hbx hb1 hlen
 refine (callsIn_wide (n:=6)).1 (callsIn_of_wp_marks Tryz.func104 rfl trivial ?_ rfl)
 refine wpIn_wide.2 ?_
 simp only [Tryz.ntmps104,List.size_toArray,Y0z,List.length_nil,Nat.reduceAdd,Nat.reduceSub,Array.replicate_succ,Array.replicate_zero,List.push_toArray,List.append_toArray,List.nil_append,List.cons_append,List.append_nil]
 go_wp2_with fail
 generalize hw1:w.alloc (.cells #[.slice none 0 0] 144)=w1 at *
 have HSQ:=Y08 (Jku w0 G W lim st q bx w.heap.size w1 H1.out.1 HB.out H1.out.2.1 hW hh)
 clear hw1
 refine (wpIn_wide (n:=6)).1 ?_
 refine Jkn (P:=Tryz.prog) (gf:=105) (first:=#[]) (cap:=#[.pointer (some ⟨bx,0,none⟩)]) rfl (enters_of Tryz.func105 (by kernel_rfl) rfl) (enc:=fun m=>#[mvV m]) (fun _=>rfl) HSQ.out
  (fun pre V=>ColI w w.heap.size pre V) ?stab ?start
  (fun pre m a1 V=>a1={ tmps:=#[.slice none 0 0,.func (.func 105) #[] #[.pointer (some ⟨bx,0,none⟩)],.pointer (some ⟨w.heap.size,0,none⟩),undef,.slice none 0 0,mvV m,.func (.func 105) #[] #[.pointer (some ⟨bx,0,none⟩)],mvV m,undef,undef,undef,undef,undef],defers:=[] }∧ColI w w.heap.size pre V)
  ?stab2 ?assign ?body ?done
 case stab =>
  rintro pre V V' hV ⟨A,c,h1,h2,h3⟩ hq
  exact ⟨A,c,hq.same _ _ h1 (.inr rfl),Jfd h2 hq,h3.trans ((hq.toBelow hV).mono (by have:=H1.out.2.2.2.2;omega))⟩
 case start=>exact ⟨none,0,H1.out.2.2.1,Kd.R_nil _ _ _ _ _,H1.out.2.2.2.1⟩
 case stab2 =>
  rintro pre m a1 _ V V' hV ⟨h0,A,c,h1,h2,h3⟩ hq
  exact ⟨h0,A,c,hq.same _ _ h1 (.inr rfl),Jfd h2 hq,h3.trans ((hq.toBelow hV).mono (by have:=H1.out.2.2.2.2;omega))⟩
 case assign =>
  rintro l pre m V K hV hp hI hK
  have HKK:=Y08 hK
  have HI:=Y00 hI
  clear hK hI
  gi_wp2
  exact HKK.out _ _ (NK.refl _ _) ⟨rfl,HI.out⟩
 case body =>
  rintro l pre m a1 V hV hp ⟨rfl,hI⟩
  obtain ⟨A,c,hbk,hR,hB⟩:=hI
  have hpl:pre.length≤1000000000000:=by
   obtain ⟨xs,rfl,hpx⟩:=hp
   have:=hpx.length_le
   have:=HLN.out
   rw [Y02] at *;omega
  have HR:=Y00 (Y07 hR (Y07 hB hbk))
  have k0:V.cell? ⟨w.heap.size,0,none⟩=some (.slice A pre.length c):=(J03 hbk 0).trans rfl
  have HPL:=Y08 hpl
  clear hR hB hbk hp hpl
  obtain ⟨t,x,hmv⟩:∃ t x,mvV m=.iface t x:=by cases m<;>exact ⟨_,_,rfl⟩
  have HMV:=Y08 hmv
  rw [hmv]
  clear hmv
  refine wpIn_block (wpIn_region_lit (Jbz (fun ⟨_,_,h⟩=>h) _ _ _ rfl ?_))
  go_wp2_with (at_builtin;go_must (refine Kd.R_append kMv (w0:=V) (w.heap.size+1) rfl (.tmp 8) (.tmp 10) _ 147 _ 16 rfl Tryz.underlying144 Tryz.infoMove rfl (by decide) (by decide) (.slice A pre.length c) pre m [.iface t x] (fun _=>True) (fun _=>False) rfl rfl (by show _=[mvV m];rw [HMV.out]) (fun _ h=>h.elim) (fun _ _=>trivial) HR.out.1 (Y0f _ _) (by have:=H1.out.2.2.2.2;omega) (by have:=HPL.out;omega) ?_);intro v6 w6 hR6 hb6 hg6 hat6;obtain ⟨A6,c6,hv6⟩:=Kd.c02 hR6;have hbk6:=J0x HR.out.2.2 hg6 (fun he=>by have:=Kd.R_base HR.out.1 _ he.symm;omega);have H6:=Y00 (Y07 hR6 (Y07 (HR.out.2.1.trans (hb6.mono (Nat.le_succ _))) (Y07 hbk6 hg6)));clear hR6 hb6 hg6 hat6;generalize hl6:(pre++[m]).length=l6 at *;have HL6:=Y08 hl6;subst hv6;have k6:w6.cell? ⟨w.heap.size,0,none⟩=some (.slice A pre.length c):=(J03 hbk6 0).trans rfl;have kf6:w6.frozen? ⟨w.heap.size,0,none⟩=false:=J07 hbk6 0;clear hbk6 hl6 k0)
  have hg7:w6.grownBy (w6.setCell ⟨w.heap.size,0,none⟩ (.slice A6 l6 c6)) (some w.heap.size):=J0e w.heap.size [_] 0 w6
  have hbx7:(w6.setCell ⟨w.heap.size,0,none⟩ (.slice A6 l6 c6)).heap[w.heap.size]?=some (.cells #[.slice A6 l6 c6] 144 (0,0)):=J0d H6.out.2.2.1 0 _ rfl
  refine ⟨?_,A6,c6,by rw [HL6.out];exact hbx7,?_,?_⟩
  ·refine ⟨⟨hg7.os.trans H6.out.2.2.2.os,hg7.tape.trans H6.out.2.2.2.tape,hg7.output.trans H6.out.2.2.2.output⟩,Nat.le_trans H6.out.2.2.2.size hg7.size,fun k o hk ho=>?_⟩
   have hne:k≠w.heap.size:=fun he=>by
    subst he
    rw [HR.out.2.2] at hk;cases hk
    rcases ho with ho | ho
    ·exact absurd ho (Nat.lt_irrefl _)
    simp [KO] at ho
   have hne2:some k≠(Value.slice A pre.length c).ownBlock:=fun he=>by
    obtain ⟨_,hown⟩:=Kd.R_own HR.out.1
    obtain ⟨cc,hcc⟩:=c07 hown k he.symm
    rw [hcc] at hk;cases hk
    rcases ho with ho | ho
    ·have:=Kd.R_base HR.out.1 k he.symm;omega
    simp [KO] at ho
   exact J0x (J0x hk H6.out.2.2.2 hne2) hg7 (fun he=>hne (by injection he))
  ·rw [HL6.out]
   exact Kd.R_grown (Kd.c05 H6.out.1) hg7 (fun k hk he=>by injection he with he;subst he;have:=hk.2.1;omega) |> (Kd.c06 · (fun _ _=>trivial))
  exact H6.out.2.1.grown hg7 H6.out.2.1.size (fun k hk=>by injection hk with hk;omega)
 rintro D xs V hD rfl hI hK
 obtain ⟨A,c,hbk,hR,hB⟩:=hI
 have k0:V.cell? ⟨w.heap.size,0,none⟩=some (.slice A (J28 W st).length c):=(J03 hbk 0).trans rfl
 have HR:=Y00 (Y07 hR (Y07 hB hK))
 clear hR hB hK hbk
 generalize hms:J28 W st=ms at *
 have HMS:=Y08 hms
 clear hms
 obtain ⟨nm,hnm⟩:∃ nm,nm=ms.length:=⟨_,rfl⟩
 rw [← hnm] at k0
 have HNM:=Y08 hnm
 clear hnm
 go_wp2_with fail
 have hq:J3m w1.heap.size V (V.putObj D (.deferred none)):=.putObj HR.out.2.2 rfl hD
 have hsz:=H1.out.2.2.2.2
 have hVs:w1.heap.size≤V.heap.size:=by have:=J0q HR.out.2.2;omega
 refine ⟨by simp,.inl ⟨_,_,rfl,run_takeDeferred HR.out.2.2,?_⟩⟩
 refine ⟨_,results_tmp rfl _ _ _,.slice A ms.length c,?_,?_,HR.out.2.1.trans ((hq.toBelow hVs).mono (by omega))⟩
 ·rw [← HNM.out];rfl
 rw [HMS.out]
 exact Jfd (Kd.c04 HR.out.1 (Nat.le_succ _)) hq
theorem Jic (w0:World) (G:RG) (W lim:Nat) (st:St) (q:Nat→Nat→Value) (bx:Nat) (w:World) (h:J12 w0 G W lim st q w) (hbx:w.heap[bx]?=some (.cells #[.pointer (some ⟨G.rb,0,none⟩)] 84 (0,0))) (hW:W≤4) (hh:Jnv W st) (hlen:(J28 W st).length≤1000000000000) :
  Calls Tryz.prog 79 #[.func (.func 105) #[] #[.pointer (some ⟨bx,0,none⟩)]] w fun e w'=>∃ v,e=.returned v∧kMv.R 147 w' w.heap.size (fun _=>True) v (J28 W st)∧Below w.heap.size w w':=by
 have HC:=Y08 (Jfb w0 G W lim st q bx w h hbx hW hh hlen)
 clear h hbx
 go_enter Tryz.func79,Tryz.ntmps79
 go_wp2_with fail
 refine HC.out.mono ?_
 rintro e w1 ⟨v,rfl,hR,hb⟩
 have HR:=Y00 (Y07 hR hb)
 clear hR hb
 go_wp2_with fail
 go_ret
 exact ⟨v,rfl,HR.out.1,HR.out.2⟩
theorem Jmw (rb:Nat) (w:World):Calls Tryz.prog 80 #[.pointer (some ⟨rb,0,none⟩)] w fun e w'=>e=.returned (.func (.func 105) #[] #[.pointer (some ⟨w.heap.size,0,none⟩)])∧w'.heap[w.heap.size]?=some (.cells #[.pointer (some ⟨rb,0,none⟩)] 84 (0,0))∧Below w.heap.size w w':=by
 have hmf:=hmf0
 have H:=Y00 (Y07 (show (w.alloc (.cells #[.pointer (some ⟨rb,0,none⟩)] 84)).heap[w.heap.size]?=some (.cells #[.pointer (some ⟨rb,0,none⟩)] 84 (0,0)) from Y0c w _) (J02 w (.cells #[.pointer (some ⟨rb,0,none⟩)] 84)))
 go_enter Tryz.func80,Tryz.ntmps80
 go_wp2_with fail
 go_ret
 exact ⟨rfl,H.out.1,H.out.2⟩
end Go.Proofs.YtbkfnmgkcgnifaaGreat
namespace Go.Proofs.YtbkfnmgkcgnifaaGreat
open Go.RowKit Go.Shelf W1 W2 Mdl Go.ChangeMaps
namespace Mdl
def MvOk (W:Nat) (st:St):Mv→Prop
 | .work i m=>i<W∧∃ v,(m,v) ∈ st.hasOf i
 | .take i k=>i<W∧k<W∧st.queue i k≠[]
theorem Jfq {l:List Mk} {m:Mk} : m ∈ J61 l↔m ∈ l:=(J2a ordN (l:=l) (fun _ _=>trivial)).2.mem_iff
theorem J6w {W:Nat} {st:St} {mv:Mv} (h:mv ∈ J28 W st):MvOk W st mv:=by
 rw [J8w,Y0m] at h
 rcases h with h | h
 ·obtain ⟨i,hi,hm⟩:=List.mem_flatMap.1 h
  unfold fW at hm
  obtain ⟨m,hm2,rfl⟩:=List.mem_map.1 hm
  obtain ⟨e,he,rfl⟩:=List.mem_map.1 (Jfq.1 hm2)
  exact ⟨Y12.1 hi,e.2,he⟩
 obtain ⟨i,hi,hm⟩:=List.mem_flatMap.1 h
 unfold fT at hm
 obtain ⟨k,hk,hm⟩:=List.mem_flatMap.1 hm
 unfold gT at hm
 split at hm
 ·cases hm
 rename_i hq
 rw [Y11.1 hm]
 exact ⟨Y12.1 hi,Y12.1 hk,hq⟩
end Mdl
theorem Jsm {w:World} {A:Option Addr} {l:List Mv} (h:kMv.C w A l.length l) {k:Nat} (hk:k<l.length):∃ ad,A=some ad∧w.cell? (ad.add k)=some (mvV l[k]):=by
 obtain ⟨ad,c,e,hl,hK,hc⟩:=Kd.C_get h (Mv.take 0 0) (k:Int) (by omega) (by omega)
 rw [Y06,Y01,Y05 hk] at hK
 rw [Y06] at hc
 have hK:c=[mvV l[k]]:=hK
 subst hK
 refine ⟨ad,e,?_⟩
 have:=hc 0 _ rfl
 rwa [show kMv.sz=1 from rfl,Nat.mul_one,Nat.add_zero] at this
def J6d (w0:World) (G:RG) (W:Nat) (E:List Ed) (st:St) (e:Ending) (w':World):Prop:=match J2j E W st with
 | none=>e=.returned (.bool false)∧J6e w0 G W st w'
 | some st'=>e=.returned (.bool true)∧J6e w0 G W st' w'
theorem Jec (w0:World) (G:RG) (W:Nat) (st:St) (N Wd:Int) (E:List Ed) (ways:Ways) (w:World) (h:J6e w0 G W st w) (hG:J4v w0 G.gb N Wd E ways) (hW:W≤4) (h16:E.length≤16) (hql:∀ j k,(st.queue j k).length≤1000000000) (hh:Jnv W st) (hlen:(J28 W st).length≤1000000) :
  Calls Tryz.prog 61 #[.pointer (some ⟨G.rb,0,none⟩)] w (J6d w0 G W E st):=by
 obtain ⟨q,h⟩:=h
 have HM:=Y08 (Jmw G.rb w)
 have HR:=Y00 h
 have HG:=Y00 hG
 have HLN:=Y08 hlen
 clear h hG hlen
 go_enter Tryz.func61,Tryz.ntmps61
 go_wp2_with fail
 refine HM.out.mono ?_
 rintro e w1 ⟨rfl,hbx,hb1⟩
 have H1:=Y00 (HR.out.c08 hb1)
 have HC:=Y08 (Jic w0 G W _ st q _ w1 H1.out hbx hW hh (by have:=HLN.out;omega))
 clear hbx hb1 HM HR
 go_wp2_with fail
 refine HC.out.mono ?_
 rintro e w2 ⟨v,rfl,hR2,hb2⟩
 have H2:=Y00 (Y07 (H1.out.c08 hb2) hR2)
 obtain ⟨Am,cm,rfl⟩:=Kd.c02 hR2
 clear hR2 hb2 HC H1
 obtain ⟨ms,hms⟩:∃ ms,J28 W st=ms:=⟨_,rfl⟩
 have HMS:=Y08 hms
 rw [hms] at H2 HLN ⊢
 clear hms
 cases ms with
 | nil =>
  go_wp2_with fail
  go_ret
  unfold J6d J2j
  rw [HMS.out]
  exact ⟨rfl,q,H2.out.1.relim⟩
 | cons a l=>?_
 obtain ⟨nm,hnm⟩:∃ nm,nm=l.length:=⟨_,rfl⟩
 have hnz:(((a::l).length:Nat):Int)=(nm:Int)+1:=by rw [Y0z,hnm];omega
 have hnl:(a::l).length=nm+1:=by rw [Y0z,hnm]
 have HNM:=Y08 hnm
 rw [hnl]
 have hz:((nm:Int)+1 == 0)=false:=by simp;omega
 have hnmb:nm≤1000000:=by have:=HLN.out;rw [hnl] at this;omega
 obtain ⟨A8,c8,hC8,hc8,hr8,_⟩:=H2.out.1.cells
 have HN:=Y08 (Jdi G.rb _ _ _ G.gb _ A8 c8 st.script ((nm:Int)+1) w0 w2 H2.out.1.below (by omega) (by have:=HLN.out;rw [hnl] at this;omega) hr8 hC8 hc8)
 have HRG:=Y08 (J3q st.script (show (1:Int)≤(nm:Int)+1 by omega))
 clear hC8 hc8 hr8 hnz hnm hnl
 go_wp2_with fail
 refine HN.out.mono ?_
 rintro e w3 ⟨rfl,A9,c9,hr9,hg9,hz9,hC9,hc9⟩
 obtain ⟨k,hk⟩:∃ k:Nat,numP st.script ((nm:Int)+1)=k:=⟨(numP st.script ((nm:Int)+1)).toNat,by have:=HRG.out;omega⟩
 rw [hk]
 have hkn:k<(a::l).length:=by have:=HRG.out;have:=HNM.out;rw [Y0z];omega
 have hk0:(0:Int)≤k:=by omega
 have hk1:(k:Int)<(nm:Int)+1:=by have:=HRG.out;omega
 have hst:J2j E W st=some (Jkv E W { st with script:=st.script.tail } (a::l)[k]):=by
  unfold J2j
  rw [HMS.out]
  simp only
  rw [← HNM.out,hk,Y06,Y01,Y05 hkn]
  rfl
 have hmo:MvOk W st (a::l)[k]:=J6w (by rw [HMS.out];exact Y0l hkn)
 have h3:=H2.out.1.set_run hg9 hr9 hC9 hc9
 have hR3:kMv.R 147 w3 0 (fun _=>True) (.slice Am (a::l).length cm) (a::l):=by
  refine Kd.c06 (Kd.R_grown (Kd.c05 (Kd.c04 H2.out.2 (Nat.zero_le _))) hg9 (fun j hj he=>?_)) (fun _ _=>trivial)
  obtain ⟨_,_,_,qq,hq,cc,hcc⟩:=hj
  have hq:qq=147:=by simpa [show kMv.E=[] from rfl] using hq
  subst hq
  injection he with he
  subst he
  exact not_typed H2.out.1.t_rb rfl ⟨cc,hcc⟩
 obtain ⟨ad,rfl,hcell⟩:=Jsm (Kd.c03 hR3).2.2 hkn
 have H3:=Y00 (Y07 h3.relim (Y07 hst hmo))
 clear h3 hst hmo hR3 hr9 hg9 hz9 hC9 hc9 HN H2 hk HRG
 generalize (a::l)[k]=mv at *
 cases mv with
 | work i m =>
  simp only [mvV] at hcell
  have hm:∀ w,(method 317 179 (.agg #[.int .i64 i,.int .i64 m.1,.int .i64 m.2.1,.int .i64 m.2.2.1,.int .i64 m.2.2.2]) "deltaworks/progress.make").run Tryz.prog w=.ok (144,.agg #[.int .i64 i,.int .i64 m.1,.int .i64 m.2.1,.int .i64 m.2.2.1,.int .i64 m.2.2.2]) w:=fun _=>by kernel_rfl
  have HWM:=Y08 (Jfe w0 G W { st with script:=st.script.tail } i m N Wd E ways w3 ⟨q,H3.out.1⟩ HG.out H3.out.2.2.1 hW h16 hql)
  go_wp2_with fail
  refine HWM.out.mono ?_
  rintro e w4 ⟨rfl,h4⟩
  have H4:=Y00 h4
  clear h4 HWM
  go_wp2_with fail
  go_ret
  unfold J6d
  rw [H3.out.2.1]
  exact ⟨rfl,H4.out⟩
 | take i j=>?_
 simp only [mvV] at hcell
 have hm:∀ w,(method 317 182 (.agg #[.int .i64 i,.int .i64 j]) "deltaworks/progress.make").run Tryz.prog w=.ok (146,.agg #[.int .i64 i,.int .i64 j]) w:=fun _=>by kernel_rfl
 obtain ⟨n,r,hnr⟩:∃ n r,st.queue i j=n::r:=by
  cases hq:st.queue i j with
  | cons n r=>exact ⟨n,r,rfl⟩
  | nil=>exact absurd hq H3.out.2.2.2.2
 have HWM:=Y08 (Jfl w0 G W { st with script:=st.script.tail } i j n r w3 ⟨q,H3.out.1⟩ H3.out.2.2.1 H3.out.2.2.2.1 hW hnr)
 clear hnr
 go_wp2_with fail
 refine HWM.out.mono ?_
 rintro e w4 ⟨rfl,h4⟩
 have H4:=Y00 h4
 clear h4 HWM
 go_wp2_with fail
 go_ret
 unfold J6d
 rw [H3.out.2.1]
 exact ⟨rfl,H4.out⟩
namespace Mdl
abbrev Msg:=(Int × List Int) × Int
def J3g (N Wd workers:Int) (m:Msg):Bool:=decide (0≤m.1.1∧m.1.1<N)&&(decide ((m.1.2.length:Int)=Wd)&&(J42 1048576 m.1.2&&(decide (0≤m.2)&&decide (m.2<workers))))
def Ja7 (workers:Int) (n:Nat):Prop:=1≤workers∧workers≤4∧n≤8
instance (workers:Int) (n:Nat):Decidable (Ja7 workers n):=by unfold Ja7;infer_instance
structure Plan where
 N:Int
 Wd:Int
 E:List Ed
 workers:Int
 start:List Msg
def J0t (p:Plan):Option Ways :=
 match openedP p.N p.Wd p.E with
 | none=>none
 | some ways=>if Ja7 p.workers p.start.length∧p.start.all (J3g p.N p.Wd p.workers)=true then some ways else none
theorem J4i {p:Plan} {ways:Ways} (ho:openedP p.N p.Wd p.E=some ways) {m:Msg} (h:m ∈ p.start) (hb:J3g p.N p.Wd p.workers m=false):J0t p=none:=by
 unfold J0t
 rw [ho]
 simp only
 rw [if_neg]
 rintro ⟨_,h2⟩
 have:=List.all_eq_true.1 h2 m h
 rw [hb] at this;cases this
end Mdl
def kMs:Kd Msg:=Kd.pair (Kd.pair kI kLI) kI
theorem Jcp {w:World} {A:Option Addr} {l:List Msg} (h:kMs.C w A l.length l) {k:Nat} (hk:k<l.length) :
  ∃ ad sA sC,A=some ad∧w.cell? (ad.add (k*3))=some (.int .i64 l[k].1.1)∧w.cell? ⟨(ad.add (k*3)).block,(ad.add (k*3)).off+1,none⟩=some (.slice sA l[k].1.2.length sC)∧w.cell? ⟨(ad.add (k*3)).block,(ad.add (k*3)).off+2,none⟩=some (.int .i64 l[k].2)∧kI.C w sA l[k].1.2.length l[k].1.2∧l[k].1.2.length≤sC:=by
 obtain ⟨ad,c,e,hl,hK,hc⟩:=Kd.C_get h ((0,[]),0) (k:Int) (by omega) (by omega)
 rw [Y06,Y01,Y05 hk] at hK
 rw [Y06] at hc
 obtain ⟨_,c3,rfl,⟨c0,c1,rfl,h0,h1⟩,h2⟩:=hK
 cases h0;cases h2
 obtain ⟨sA,sC,rfl,hle,hC⟩:=h1
 refine ⟨ad,sA,sC,e,?_,?_,?_,hC,hle⟩
 ·have:=hc 0 _ rfl
  rwa [show kMs.sz=3 from rfl,Nat.add_zero] at this
 ·have:=hc 1 _ rfl
  rwa [show kMs.sz=3 from rfl,J1i _ _ _ (by omega)] at this
 have:=hc 2 _ rfl
 rwa [show kMs.sz=3 from rfl,J1i _ _ _ (by omega)] at this
def J1q (p:Plan) (eA:Option Addr) (eC:Nat) (mA:Option Addr) (mC:Nat):Value:=.agg #[.int .i64 p.N,.int .i64 p.Wd,.slice eA p.E.length eC,.int .i64 p.workers,.slice mA p.start.length mC]
structure J1v (w:World) (p:Plan) (eA mA:Option Addr):Prop where
 hE:kE.C w eA p.E.length p.E
 hS:kMs.C w mA p.start.length p.start
theorem J1v.below {w w':World} {p:Plan} {eA mA:Option Addr} (h:J1v w p eA mA) (hb:Below w.heap.size w w'):J1v w' p eA mA:=⟨Kd.c00 h.hE hb,Kd.c00 h.hS hb⟩
theorem Jbr (p:Plan) (eA mA:Option Addr) (eC mC:Nat) (w:World) (hp:J1v w p eA mA) :
  Calls Tryz.prog 37 #[J1q p eA eC mA mC] w (Jk2 w p.N p.Wd p.E (J0t p)):=by
 obtain ⟨N,Wd,E,wk,ms⟩:=p
 obtain ⟨hE,hS⟩:=hp
 simp only [J1q] at hE hS ⊢
 have hSm:=Kd.C_max hS
 have b1:=J02 w (.cells #[.int .i64 N,.int .i64 Wd,.slice eA E.length eC,.int .i64 wk,.slice mA ms.length mC] 27)
 have hbk:(w.alloc (.cells #[.int .i64 N,.int .i64 Wd,.slice eA E.length eC,.int .i64 wk,.slice mA ms.length mC] 27)).heap[w.heap.size]?=some (.cells #[.int .i64 N,.int .i64 Wd,.slice eA E.length eC,.int .i64 wk,.slice mA ms.length mC] 27 (0,0)):=Y0c w _
 have HO:=Y08 (opened_any N Wd E eA eC _ (Kd.c00 hE b1))
 have HS:=Y00 hS
 have H1:=Y00 (Y07 b1 hbk)
 clear hE hS b1 hbk
 go_enter Tryz.func37,Tryz.ntmps37
 go_upto_region 1 with fail
 generalize w.alloc (.cells #[.int .i64 N,.int .i64 Wd,.slice eA E.length eC,.int .i64 wk,.slice mA ms.length mC] 27)=w1 at *
 obtain ⟨p0,p1,p2,-,-⟩:=bc5 H1.out.2
 go_wp2_with fail
 refine HO.out.mono ?_
 rintro e w2 ⟨hb2,h2⟩
 cases ho:openedP N Wd E with
 | none =>
  rw [ho] at h2
  subst h2
  refine ⟨rfl,J01 H1.out.1 H1.out.1.size hb2,?_⟩
  rw [show J0t ⟨N,Wd,E,wk,ms⟩=none by simp only [J0t,ho]]
 | some ways=>?_
 rw [ho] at h2
 obtain ⟨gb,rfl,hgb,hG⟩:=h2
 have HG:=Y00 hG
 have H2:=Y00 (Y07 (J01 H1.out.1 H1.out.1.size hb2) (J04 H1.out.2 hb2))
 have HGB:=Y08 (show w.heap.size≤gb by have:=H1.out.1.size;omega)
 have HOP:=Y08 ho
 clear ho hb2 hG hgb p0 p1 p2 HO
 have p3:w2.cell? ⟨w.heap.size,3,none⟩=some (.int .i64 wk):=(J03 H2.out.2 3).trans rfl
 have p4:w2.cell? ⟨w.heap.size,4,none⟩=some (.slice mA ms.length mC):=(J03 H2.out.2 4).trans rfl
 have HBAD:=Y08 (fun (hn:¬ Ja7 wk ms.length)=>show J0t ⟨N,Wd,E,wk,ms⟩=none by simp only [J0t,HOP.out];rw [if_neg (fun h=>hn h.1)])
 by_cases g0:1≤wk
 rotate_left
 ·have f0:decide (1≤wk)=false:=by simp;omega
  have n0:wk<1:=by omega
  have HB:=Y08 (HBAD.out (fun h=>g0 h.1))
  clear g0
  go_wp2_with fail
  refine (J0r _ _).mono ?_
  rintro e wm ⟨rfl,rfl⟩
  refine ⟨rfl,H2.out.1,?_⟩
  rw [HB.out]
 by_cases g1:wk≤4
 rotate_left
 ·have f1:decide (wk≤4)=false:=by simp;omega
  have n1:4<wk:=by omega
  have HB:=Y08 (HBAD.out (fun h=>g1 h.2.1))
  clear g1
  go_wp2_with fail
  refine (J0r _ _).mono ?_
  rintro e wm ⟨rfl,rfl⟩
  refine ⟨rfl,H2.out.1,?_⟩
  rw [HB.out]
 by_cases g2:ms.length≤8
 rotate_left
 ·have f2:decide ((ms.length:Int)≤8)=false:=by simp;omega
  have n2:8<(ms.length:Int):=by omega
  have HB:=Y08 (HBAD.out (fun h=>g2 h.2.2))
  clear g2
  go_wp2_with fail
  refine (J0r _ _).mono ?_
  rintro e wm ⟨rfl,rfl⟩
  refine ⟨rfl,H2.out.1,?_⟩
  rw [HB.out]
 have g3:(ms.length:Int)≤8:=by omega
 go_wp2_with fail
 refine (J1w _ _).mono ?_
 rintro e wm ⟨rfl,rfl⟩
 go_wp2_with fail
 go_loopw [27] (fun i wr=>∃ k:Nat,k≤ms.length∧i=.int .i64 k∧J08 ((∀ m ∈ ms.take k,J3g N Wd wk m=true)∧Below w2.heap.size w2 wr)) (fun i _=>ms.length - (intOf i).toNat)
 case atStart=>exact ⟨0,Nat.zero_le _,rfl,⟨by simp,Y0f _ _⟩⟩
 obtain ⟨k,hk,rfl,hX⟩:=hrel
 by_cases hlt:k<ms.length
 rotate_left
 ·have hkE:¬ ((k:Int)<ms.length):=by omega
  have hall:ms.all (J3g N Wd wk)=true:=by
   have hkl:k=ms.length:=by omega
   have h:=hX.out.1
   rw [hkl,List.take_length] at h
   exact List.all_eq_true.2 h
  have HP:=Y08 (show J0t ⟨N,Wd,E,wk,ms⟩=some ways by simp only [J0t,HOP.out];rw [if_pos ⟨⟨g0,g1,g2⟩,hall⟩])
  go_wp2_with fail
  go_ret
  refine ⟨J01 H2.out.1 H2.out.1.size hX.out.2,?_⟩
  rw [HP.out]
  obtain ⟨eA',eC',c2,c2'⟩:=HG.out.c2
  obtain ⟨wA,wC,c3,c3'⟩:=HG.out.c3
  exact ⟨gb,rfl,HGB.out,J00 hX.out.2 HG.out.c0,J00 hX.out.2 HG.out.c1,⟨eA',eC',J00 hX.out.2 c2,Kd.c00 c2' hX.out.2⟩,⟨wA,wC,J00 hX.out.2 c3,Kd.c00 c3' hX.out.2⟩⟩
 obtain ⟨ad,sA,sC,rfl,he0,he1,he2,heL,heC⟩:=Jcp (Kd.c00 HS.out (J01 H2.out.1 H2.out.1.size hX.out.2)) hlt
 have hkE:(k:Int)<ms.length:=by omega
 have hk0:(0:Int)≤k:=by omega
 have HEK:=Y00 (show ms.take (k+1)=ms.take k++[ms[k]]∧ms[k] ∈ ms from ⟨Y0u hlt,Y0l _⟩)
 generalize ms[k]=mm at *
 have q3:=J00 hX.out.2 p3
 have q0:=J00 hX.out.2 HG.out.c0
 have q1:=J00 hX.out.2 HG.out.c1
 have HQ:=Y08 (Y07 q0 (Y07 q1 q3))
 clear q0 q1 q3
 go_upto_region 6 with fail
 have bE:=J02 wr (.cells #[.int .i64 mm.1.1,.slice sA mm.1.2.length sC,.int .i64 mm.2] 77)
 have e0:(wr.alloc (.cells #[.int .i64 mm.1.1,.slice sA mm.1.2.length sC,.int .i64 mm.2] 77)).cell? ⟨wr.heap.size,0,none⟩=some (.int .i64 mm.1.1):=J0a wr _ _ 0
 have e1:(wr.alloc (.cells #[.int .i64 mm.1.1,.slice sA mm.1.2.length sC,.int .i64 mm.2] 77)).cell? ⟨wr.heap.size,1,none⟩=some (.slice sA mm.1.2.length sC):=J0a wr _ _ 1
 have e2:(wr.alloc (.cells #[.int .i64 mm.1.1,.slice sA mm.1.2.length sC,.int .i64 mm.2] 77)).cell? ⟨wr.heap.size,2,none⟩=some (.int .i64 mm.2):=J0a wr _ _ 2
 have f0:=J00 bE HQ.out.1
 have f1:=J00 bE HQ.out.2.1
 have f3:=J00 bE HQ.out.2.2
 have HEL:=Y00 (Kd.c00 heL bE)
 have HB:=Y08 (J01 hX.out.2 hX.out.2.size bE)
 clear heL bE he0 he1 he2
 generalize wr.alloc (.cells #[.int .i64 mm.1.1,.slice sA mm.1.2.length sC,.int .i64 mm.2] 77)=wq at *
 have HPN:=Y08 (fun w' (h:Below wq.heap.size wq w')=>J01 (J01 H2.out.1 H2.out.1.size HB.out) (J01 H2.out.1 H2.out.1.size HB.out).size h)
 have HWI:=fun w' hb=>Y08 (J9d sA sC mm.1.2 1048576 w' (Kd.c00 HEL.out hb))
 refine sr1 36 (fun w'=>w'.cell? ⟨gb,0,none⟩=some (.int .i64 N)∧w'.cell? ⟨gb,1,none⟩=some (.int .i64 Wd)∧w'.cell? ⟨wr.heap.size,0,none⟩=some (.int .i64 mm.1.1)∧w'.cell? ⟨wr.heap.size,1,none⟩=some (.slice sA mm.1.2.length sC)∧w'.cell? ⟨wr.heap.size,2,none⟩=some (.int .i64 mm.2)∧w'.cell? ⟨w.heap.size,3,none⟩=some (.int .i64 wk)) [] ⟨f0,f1,e0,e1,e2,f3⟩ fun hJ0=>?_
 have HD:=Y00 (J05 (Y0f wq.heap.size wq))
 generalize wq.drew=wd at *
 refine pv 0 ?_
 refine pv 1 ?_
 refine pv 2 ?_
 refine tv6 3 ?_
 refine ov 4 fun K hK=>?_
 refine gs0 Tryz.func32 #[.pointer (some ⟨gb,0,none⟩),.int .i64 mm.1.1] ?_
 cases hF:decide (0≤mm.1.1∧mm.1.1<N)
 ·refine (J7i _ mm.1.1 N _ hJ0.1 (by have:=of_decide_eq_false hF;omega)).mono ?_
  rintro e w1 ⟨rfl,rfl⟩
  refine ⟨_,rfl,hK.out _ _ hJ0 (fun _=>?_)⟩
  clear hK K
  refine nm0 _ ?_
  refine pv 5 ?_
  refine uv 6 ?_
  refine uv 7 ?_
  refine uv 8 ?_
  refine uv 9 ?_
  refine uv 10 ?_
  refine uv 11 ?_
  refine uv 12 ?_
  refine uv 13 ?_
  refine uv 14 ?_
  refine uv 15 ?_
  refine pv 16 ?_
  refine pv 17 ?_
  refine uv 18 ?_
  refine uv 19 ?_
  refine uv 20 ?_
  refine uv 21 ?_
  refine pv 22 ?_
  refine pv 23 ?_
  refine uv 24 ?_
  refine uv 25 ?_
  refine uv 26 ?_
  refine pv 27 ?_
  refine pv 28 ?_
  refine uv 29 ?_
  refine uv 30 ?_
  refine uv 31 ?_
  refine uv 32 ?_
  refine uv 33 ?_
  refine pv 34 ?_
  refine ov 35 fun K hK=>?_
  refine ds0 Tryz.func31 #[.bool false,.int .i64 1] ?_
  refine (J0r _ _).mono ?_
  rintro e w1 ⟨rfl,rfl⟩
  refine ⟨_,rfl,?_⟩
  have hop:J0t ⟨N,Wd,E,wk,ms⟩=none:=J4i (p:=⟨N,Wd,E,wk,ms⟩) HOP.out HEK.out.2 (by simp only [J3g,hF,Bool.false_and,Bool.true_and,Bool.and_false])
  refine ⟨rfl,HPN.out _ HD.out,?_⟩
  rw [hop]
 skip
 have hF2:0≤mm.1.1∧mm.1.1<N:=of_decide_eq_true hF
 refine (J9r _ mm.1.1 N _ hJ0.1 hF2.1 hF2.2).mono ?_
 rintro e w1 ⟨rfl,rfl⟩
 refine ⟨_,rfl,hK.out _ _ hJ0 (fun _=>?_)⟩
 clear hK K
 refine nm0 _ ?_
 refine pv 5 ?_
 refine pv 6 ?_
 refine pv 7 ?_
 refine tv6 8 ?_
 refine pv 9 ?_
 refine pv 10 ?_
 refine pv 11 ?_
 refine pv 12 ?_
 refine pv 13 ?_
 refine tv6 14 ?_
 cases hL:decide ((mm.1.2.length:Int)=Wd)
 ·have hLb:((mm.1.2.length:Int) == Wd)=false:=by simpa using hL
  refine pv 15 ?_
  refine pv 16 ?_
  refine pv 17 ?_
  refine uv 18 ?_
  refine uv 19 ?_
  refine uv 20 ?_
  refine uv 21 ?_
  refine pv 22 ?_
  refine pv 23 ?_
  refine uv 24 ?_
  refine uv 25 ?_
  refine uv 26 ?_
  refine pv 27 ?_
  refine pv 28 ?_
  refine uv 29 ?_
  refine uv 30 ?_
  refine uv 31 ?_
  refine uv 32 ?_
  refine uv 33 ?_
  refine pv 34 ?_
  refine ov 35 fun K hK=>?_
  refine ds0 Tryz.func31 #[.bool false,.int .i64 1] ?_
  refine (J0r _ _).mono ?_
  rintro e w1 ⟨rfl,rfl⟩
  refine ⟨_,rfl,?_⟩
  have hop:J0t ⟨N,Wd,E,wk,ms⟩=none:=J4i (p:=⟨N,Wd,E,wk,ms⟩) HOP.out HEK.out.2 (by simp only [J3g,hF,hL,Bool.false_and,Bool.true_and,Bool.and_false])
  refine ⟨rfl,HPN.out _ HD.out,?_⟩
  rw [hop]
 skip
 have hLb:((mm.1.2.length:Int) == Wd)=true:=by simpa using hL
 refine pv 15 ?_
 refine pv 16 ?_
 refine pv 17 ?_
 refine pv 18 ?_
 refine pv 19 ?_
 refine tv6 20 ?_
 refine ov 21 fun K hK=>?_
 refine gs0 Tryz.func63 #[.slice sA mm.1.2.length sC,.int .i64 1048576] ?_
 cases hA:J42 1048576 mm.1.2
 ·rw [hA] at HWI
  refine (HWI _ HD.out).out.mono ?_
  rintro e w1 ⟨rfl,hb1⟩
  have HD:=Y00 (J01 HD.out HD.out.size hb1)
  refine ⟨_,rfl,hK.out _ _ (st6 hb1 hJ0) (fun hJ0=>?_)⟩
  clear hK K
  refine nm0 _ ?_
  refine pv 22 ?_
  refine pv 23 ?_
  refine uv 24 ?_
  refine uv 25 ?_
  refine uv 26 ?_
  refine pv 27 ?_
  refine pv 28 ?_
  refine uv 29 ?_
  refine uv 30 ?_
  refine uv 31 ?_
  refine uv 32 ?_
  refine uv 33 ?_
  refine pv 34 ?_
  refine ov 35 fun K hK=>?_
  refine ds0 Tryz.func31 #[.bool false,.int .i64 1] ?_
  refine (J0r _ _).mono ?_
  rintro e w1 ⟨rfl,rfl⟩
  refine ⟨_,rfl,?_⟩
  have hop:J0t ⟨N,Wd,E,wk,ms⟩=none:=J4i (p:=⟨N,Wd,E,wk,ms⟩) HOP.out HEK.out.2 (by simp only [J3g,hF,hL,hA,Bool.false_and,Bool.true_and,Bool.and_false])
  refine ⟨rfl,HPN.out _ HD.out,?_⟩
  rw [hop]
 skip
 rw [hA] at HWI
 refine (HWI _ HD.out).out.mono ?_
 rintro e w1 ⟨rfl,hb1⟩
 have HD:=Y00 (J01 HD.out HD.out.size hb1)
 refine ⟨_,rfl,hK.out _ _ (st6 hb1 hJ0) (fun hJ0=>?_)⟩
 clear hK K
 refine nm0 _ ?_
 refine pv 22 ?_
 refine pv 23 ?_
 refine pv 24 ?_
 refine tv6 25 ?_
 cases hV:decide (0≤mm.2)
 ·have hV2:mm.2<0:=by have:=of_decide_eq_false hV;omega
  refine pv 26 ?_
  refine pv 27 ?_
  refine pv 28 ?_
  refine uv 29 ?_
  refine uv 30 ?_
  refine uv 31 ?_
  refine uv 32 ?_
  refine uv 33 ?_
  refine pv 34 ?_
  refine ov 35 fun K hK=>?_
  refine ds0 Tryz.func31 #[.bool false,.int .i64 1] ?_
  refine (J0r _ _).mono ?_
  rintro e w1 ⟨rfl,rfl⟩
  refine ⟨_,rfl,?_⟩
  have hop:J0t ⟨N,Wd,E,wk,ms⟩=none:=J4i (p:=⟨N,Wd,E,wk,ms⟩) HOP.out HEK.out.2 (by simp only [J3g,hF,hL,hA,hV,Bool.false_and,Bool.true_and,Bool.and_false])
  refine ⟨rfl,HPN.out _ HD.out,?_⟩
  rw [hop]
 skip
 have hV2:0≤mm.2:=of_decide_eq_true hV
 refine pv 26 ?_
 refine pv 27 ?_
 refine pv 28 ?_
 refine pv 29 ?_
 refine tv6 30 ?_
 refine pv 31 ?_
 refine tv6 32 ?_
 cases hU:decide (mm.2<wk)
 ·have hU2:wk≤mm.2:=by have:=of_decide_eq_false hU;omega
  refine pv 33 ?_
  refine pv 34 ?_
  refine ov 35 fun K hK=>?_
  refine ds0 Tryz.func31 #[.bool false,.int .i64 1] ?_
  refine (J0r _ _).mono ?_
  rintro e w1 ⟨rfl,rfl⟩
  refine ⟨_,rfl,?_⟩
  have hop:J0t ⟨N,Wd,E,wk,ms⟩=none:=J4i (p:=⟨N,Wd,E,wk,ms⟩) HOP.out HEK.out.2 (by simp only [J3g,hF,hL,hA,hV,hU,Bool.false_and,Bool.true_and,Bool.and_false])
  refine ⟨rfl,HPN.out _ HD.out,?_⟩
  rw [hop]
 skip
 have hU2:mm.2<wk:=of_decide_eq_true hU
 refine pv 33 ?_
 refine pv 34 ?_
 refine ov 35 fun K hK=>?_
 refine gs0 Tryz.func31 #[.bool true,.int .i64 1] ?_
 refine (J1w _ _).mono ?_
 rintro e w3 ⟨rfl,rfl⟩
 refine ⟨_,rfl,hK.out _ _ hJ0 (fun _=>?_)⟩
 clear hK K
 refine nm0 _ ?_
 refine dn0 ?_
 have HX2:=Y00 (show (∀ m ∈ ms.take (k+1),J3g N Wd wk m=true)∧Below w2.heap.size w2 w1 from ⟨by
  rw [HEK.out.1]
  intro m hm
  rcases Y0m.1 hm with hm | hm
  ·exact hX.out.1 m hm
  rw [Y11.1 hm]
  simp only [J3g,hF,hL,hA,hV,hU,Bool.and_self],J01 HB.out HB.out.size HD.out⟩)
 go_wp2_with fail
 exact ⟨⟨k+1,by omega,by go_num,HX2⟩,by simp [intOf];omega⟩
end Go.Proofs.YtbkfnmgkcgnifaaGreat
namespace Go.Proofs.YtbkfnmgkcgnifaaGreat
abbrev pC (p:Mdl.Plan) (eA mA:Option Addr) (eC mC:Nat):Array Value:=#[.int .i64 p.N,.int .i64 p.Wd,.slice eA p.E.length eC,.int .i64 p.workers,.slice mA p.start.length mC]
end Go.Proofs.YtbkfnmgkcgnifaaGreat
namespace Go.Proofs.YtbkfnmgkcgnifaaGreat
open Go.RowKit Go.Shelf W1 W2 Mdl Go.ChangeMaps
namespace Mdl
def J0v (m:Msg):Mk:=(m.1.1,tmOf m.1.2)
def J17 (ms:List Msg):Led:=ms.foldl (fun L m=>J0j L (J0v m) 1) []
def J2c (hs:List Led) (m:Msg):List Led:=hs.set m.2.toNat (J0j (hs.getD m.2.toNat []) (J0v m) 1)
def J27 (W:Nat) (ms:List Msg):List Led:=ms.foldl J2c (List.replicate W [])
def J0s (W:Nat) (ms:List Msg) (script:List Int):St :=
 {led:=List.replicate W (J17 ms),has:=J27 W ms,notes:=List.replicate W (List.replicate W []),script:=script,works:=0,nts:=0,sent:=0 }
def J16 (p:Plan) (script:List Int) (n who:Int):Except Int Ways :=
 match J0t p with
 | none=>.error 1
 | some ways=>if script.length≤300 then if 0≤n∧0≤who∧who<p.workers then .ok ways else .error 2 else .error 3
theorem Jed {ms:List Msg} {k:Nat} (h:k<ms.length):J17 (ms.take (k+1))=J0j (J17 (ms.take k)) (J0v ms[k]) 1:=by
 unfold J17
 rw [Y0u h,List.foldl_append]
 rfl
theorem Jee {W:Nat} {ms:List Msg} {k:Nat} (h:k<ms.length):J27 W (ms.take (k+1))=J2c (J27 W (ms.take k)) ms[k]:=by
 unfold J27
 rw [Y0u h,List.foldl_append]
 rfl
theorem J5d {p:Plan} {ways:Ways} (h:J0t p=some ways):openedP p.N p.Wd p.E=some ways∧Ja7 p.workers p.start.length∧∀ m ∈ p.start,J3g p.N p.Wd p.workers m=true:=by
 unfold J0t at h
 cases ho:openedP p.N p.Wd p.E with
 | none=>rw [ho] at h;cases h
 | some w=>?_
 rw [ho] at h
 simp only at h
 split at h
 ·rename_i hc
  injection h with h
  subst h
  exact ⟨rfl,hc.1,fun m hm=>List.all_eq_true.1 hc.2 m hm⟩
 cases h
theorem J8v {N Wd workers:Int} {m:Msg} (h:J3g N Wd workers m=true):0≤m.2∧m.2<workers:=by
 simp only [J3g,Y0x,Y0y] at h
 exact ⟨h.2.2.2.1,h.2.2.2.2⟩
end Mdl
structure WG where
 wb:Nat
 lb:Nat
 hb:Nat
 nb:Nat
 nc:Nat
instance:Inhabited WG:=⟨⟨0,0,0,0,0⟩⟩
structure J5u (w:World) (W:Nat) (L:Led) (d:WG):Prop where
 wk:w.heap[d.wb]?=some (.cells #[.map (some d.lb),.map (some d.hb),.slice (some ⟨d.nb,0,none⟩) W d.nc] 97 (0,0))
 led:J1a w d.lb L
 has:J1a w d.hb []
 nbk:∃ cells,w.heap[d.nb]?=some (.cells cells 180 (0,0))∧∀ k,k<W→cells[k]?=some (.slice none 0 0)
theorem J5u.kept {w w':World} {W:Nat} {L:Led} {d:WG} {S:Nat→Prop} (h:J5u w W L d) (hk:Kept w w' S) (hS:¬ S d.wb∧¬ S d.lb∧¬ S d.hb∧¬ S d.nb):J5u w' W L d :=
 ⟨J0f h.wk hk hS.1,h.led.kept hk hS.2.1,h.has.kept hk hS.2.2.1,by obtain ⟨c,h1,h2⟩:=h.nbk;exact ⟨c,J0f h1 hk hS.2.2.2,h2⟩⟩
theorem J5u.below {w w':World} {W:Nat} {L:Led} {d:WG} (h:J5u w W L d) (hb:Below w.heap.size w w'):J5u w' W L d:=h.kept (Kept.of_below hb (fun _=>False)) ⟨id,id,id,id⟩
def Jnp (B:Nat) (d:WG):Prop:=B≤d.wb∧B≤d.lb∧B≤d.hb∧B≤d.nb
def Jnq (B:Nat) (d:WG):Prop:=d.wb<B∧d.lb<B∧d.hb<B∧d.nb<B
theorem J5u.t_nb {w:World} {W:Nat} {L:Led} {d:WG} (h:J5u w W L d):J0m w d.nb 180:=by
 obtain ⟨c,h1,_⟩:=h.nbk
 exact ⟨c,h1⟩
theorem J5u.high {w:World} {W:Nat} {L:Led} {d:WG} (h:J5u w W L d):Jnq w.heap.size d:=by
 obtain ⟨c,h1,_⟩:=h.nbk
 exact ⟨J0q h.wk,h.led.lt,h.has.lt,J0q h1⟩
theorem J5u.enter {w w':World} {W:Nat} {L L':Led} {d:WG} (h:J5u w W L d) (hg:w.grownBy w' (some d.lb)) (hL:J1a w' d.lb L') (hne:d.lb≠d.hb):J5u w' W L' d:=by
 have hk:Kept w w' (fun k=>k=d.lb):=⟨hg.size,fun i hi hn=>hg.block i hi (fun he=>hn (by injection he))⟩
 obtain ⟨c,h1,h2⟩:=h.nbk
 exact ⟨J0f h.wk hk (Ne.symm (J45 h.led ⟨_,h.wk⟩)),hL,h.has.kept hk (Ne.symm hne),c,J0f h1 hk (Ne.symm (J45 h.led h.t_nb)),h2⟩
def Jrr (d e:WG):Prop:=d.wb≠e.wb∧d.nb≠e.nb∧d.lb≠e.lb∧d.hb≠e.hb∧d.lb≠e.hb∧d.hb≠e.lb
structure J5v (B W lim:Nat) (L:Led) (ds:List WG) (w:World):Prop where
 one:∀ d ∈ ds,J5u w W L d∧Jnp B d∧Jnq lim d∧d.lb≠d.hb
 dis:ds.Pairwise Jrr
theorem J5v.kept {B W lim:Nat} {L:Led} {ds:List WG} {w w':World} {S:Nat→Prop} (h:J5v B W lim L ds w) (hk:Kept w w' S) (hS:∀ k,S k→lim≤k∨J0m w k 92∨J0m w k 93):J5v B W lim L ds w':=by
 refine ⟨fun d hd=>?_,h.dis⟩
 obtain ⟨h1,h2,h3,h4⟩:=h.one d hd
 have hn:∀ k,k<lim→¬ J0m w k 92→¬ J0m w k 93→¬ S k:=fun k hlt t1 t2 hs=>by
  rcases hS k hs with h | h | h
  ·omega
  ·exact t1 h
  exact t2 h
 exact ⟨h1.kept hk ⟨hn _ h3.1 (not_typed ⟨_,h1.wk⟩ rfl) (not_typed ⟨_,h1.wk⟩ rfl),hn _ h3.2.1 h1.led.not_typed h1.led.not_typed,hn _ h3.2.2.1 h1.has.not_typed h1.has.not_typed,hn _ h3.2.2.2 (not_typed h1.t_nb rfl) (not_typed h1.t_nb rfl)⟩,h2,h3,h4⟩
theorem J5v.below {B W lim:Nat} {L:Led} {ds:List WG} {w w':World} (h:J5v B W lim L ds w) (hb:Below w.heap.size w w'):J5v B W lim L ds w':=h.kept (Kept.of_below hb (fun _=>False)) (fun _ h=>h.elim)
theorem J5v.snoc {B W lim lim':Nat} {L:Led} {ds:List WG} {d:WG} {w:World} (h:J5v B W lim L ds w) (h1:J5u w W L d) (hB:B≤lim) (h2:Jnp lim d) (h3:Jnq lim' d) (h4:d.lb≠d.hb) (hl:lim≤lim'):J5v B W lim' L (ds++[d]) w:=by
 refine ⟨fun x hx=>?_,?_⟩
 ·rcases Y0m.1 hx with hx | hx
  ·obtain ⟨g1,g2,⟨g3,g4,g5,g6⟩,g7⟩:=h.one x hx
   exact ⟨g1,g2,⟨by omega,by omega,by omega,by omega⟩,g7⟩
  rw [Y11.1 hx]
  obtain ⟨g3,g4,g5,g6⟩:=h2
  exact ⟨h1,⟨by omega,by omega,by omega,by omega⟩,h3,h4⟩
 refine List.pairwise_append.2 ⟨h.dis,List.pairwise_singleton _ _,fun x hx y hy=>?_⟩
 rw [Y11.1 hy]
 obtain ⟨_,_,⟨g3,g4,g5,g6⟩,_⟩:=h.one x hx
 obtain ⟨k3,k4,k5,k6⟩:=h2
 exact ⟨by omega,by omega,by omega,by omega,by omega,by omega⟩
theorem Jq1 (b:Nat):(Value.pointer (some ⟨b,0,none⟩)).oneCell'=true:=rfl
abbrev kP:Kd Nat:=Kd.scalar (fun b=>.pointer (some ⟨b,0,none⟩)) Jq1
theorem Tryz.infoPworker:(Tryz.prog.info? 93).map (fun i=>(i.zero,i.size,i.bytes))=some (some (.pointer none),1,8):=by kernel_rfl
theorem Tryz.infoL2:(Tryz.prog.info? 180).map (fun i=>(i.zero,i.size,i.bytes))=some (some (.slice none 0 0),1,24):=by kernel_rfl
theorem Jg9 {z:Value} {m k:Nat} (h:k<m):(madeCells #[z] m)[k]?=some z:=by
 simp [madeCells,h,Nat.mod_one]
theorem Jqc (m:Nat) (h:m≤4):∀ W:World,(Instr.makeSlice 95 (.int .i64 (m:Int)) (.int .i64 (m:Int))).run Tryz.prog W=.ok (.slice (some ⟨W.heap.size,0,none⟩) m m) (W.alloc (.cells (madeCells #[.slice none 0 0] m) 180)) :=
 J8p 95 180 _ 24 Tryz.underlying95 Tryz.infoL2 rfl (by decide) m (by omega)
theorem Ja8 {α:Type} {R:α→α→Prop} {l:List α} (h:l.Pairwise R) {i j:Nat} (hij:i<j) (hj:j<l.length):R (l[i]'(by omega)) l[j]:=List.pairwise_iff_getElem.1 h i j (by omega) hj hij
def mkG (rb wa wc gb:Nat) (ds:List WG):RG :=
 {rb:=rb,wa:=wa,wc:=wc,gb:=gb,wb:=fun i=>(ds.getD i default).wb,lb:=fun i=>(ds.getD i default).lb,hb:=fun i=>(ds.getD i default).hb,nb:=fun i=>(ds.getD i default).nb,nc:=fun i=>(ds.getD i default).nc }
theorem J5v.run {w0 w:World} {W lim gb rb sC:Nat} {ms:List Msg} {script:List Int} {sA:Option Addr} {A:Option Addr} {c:Nat} {ds:List WG} {ok:Nat→Prop} (h:J5v w0.heap.size W lim (J17 ms) ds w) (hl:ds.length=W) (hW:1≤W) (hb:Below w0.heap.size w0 w)
  (hr:w.heap[rb]?=some (.cells (J31 0 0 0 gb (.slice A W c) (.slice sA script.length sC)) 92 (0,0))) (hrb:w0.heap.size≤rb) (hR:kP.R 93 w w0.heap.size ok (.slice A W c) (ds.map (·.wb))) (hC:kI.C w0 sA script.length script) (hc:script.length≤sC) :
  ∃ G:RG,G.rb=rb∧G.gb=gb∧J12 w0 G W lim { J0s W ms script with has:=J27 W [] } (fun _ _=>.slice none 0 0) w:=by
 have hlen:(ds.map (·.wb)).length=W:=by simpa using hl
 obtain ⟨g,cap,hv,hg1,hg2,cells,hcell⟩:=Kd.R_form hR (by rw [hlen];omega)
 injection hv with hv1 hv2 hv3
 subst hv1
 have hCC:=(Kd.c03 hR).2.2
 have hds:∀ i,(hi:i<W)→ds.getD i default=ds[i]'(by omega):=fun i hi=>by rw [Y01,Y05 (by omega)];rfl
 have hone:∀ i,i<W→J5u w W (J17 ms) (ds.getD i default)∧Jnp w0.heap.size (ds.getD i default)∧(ds.getD i default).lb≠(ds.getD i default).hb:=fun i hi=>by
  rw [hds i hi]
  obtain ⟨h1,h2,_,h4⟩:=h.one _ (Y0l (by omega:i<ds.length))
  exact ⟨h1,h2,h4⟩
 have hdis:∀ i j,i<W→j<W→i≠j→Jrr (ds.getD i default) (ds.getD j default):=fun i j hi hj hne=>by
  rw [hds i hi,hds j hj]
  rcases Nat.lt_or_gt_of_ne hne with hlt | hgt
  ·exact Ja8 h.dis hlt (by omega)
  obtain ⟨a1,a2,a3,a4,a5,a6⟩:=Ja8 h.dis hgt (by omega)
  exact ⟨a1.symm,a2.symm,a3.symm,a4.symm,a6.symm,a5.symm⟩
 have hrep:∀ i,i<W→(List.replicate W (J17 ms)).getD i []=J17 ms:=fun i hi=>by rw [Y01,List.getElem?_replicate,if_pos hi];rfl
 have hrep2:∀ i,(List.replicate W ([]:Led)).getD i []=[]:=fun i=>by
  rw [Y01,List.getElem?_replicate]
  split<;>rfl
 have hq:∀ i k,St.queue { J0s W ms script with has:=J27 W [] } i k=[]:=fun i k=>by
  simp only [St.queue,J0s]
  rw [Y01 (l:=List.replicate W (List.replicate W [])),List.getElem?_replicate]
  split
  ·rw [Option.getD_some,Y01,List.getElem?_replicate]
   split<;>rfl
  rfl
 refine ⟨mkG rb g cap gb ds,rfl,rfl,⟨hb,⟨sA,sC,by rw [hlen] at *;rw [hv3] at hr;exact hr,hC,hc⟩,⟨cells,hcell,fun i hi=>?_⟩,fun i hi=>(hone i hi).1.wk,fun i hi=>?_,fun i hi=>?_,fun i hi=>(hone i hi).1.nbk,fun i k _ _=>by rw [hq];exact QAt.nil _ _ _,fun _ _ _ _ _ _ _ _ _=>.inl rfl,
  fun i j hi hj he=>?_,fun i j hi hj he=>?_,fun i j hi hj he=>?_,fun i j hi hj he=>?_,fun i j hi hj he=>?_,⟨hrb,hg1,fun i hi=>(hone i hi).2.1⟩,⟨by simp [J0s],by simp [J27],by simp [J0s],fun r hr=>?_⟩,fun k cs hz=>hz.elim⟩⟩
 ·have hcc:kP.C w (some ⟨g,0,none⟩) (ds.map (·.wb)).length (ds.map (·.wb)):=hCC
  obtain ⟨ad,c1,e,_,hK,hcl⟩:=Kd.C_get hcc 0 (i:Int) (by omega) (by rw [hlen];omega)
  injection e with e
  subst e
  rw [Y06,Y01,List.getElem?_map,Y05 (by omega:i<ds.length)] at hK
  have hK:c1=[.pointer (some ⟨(ds[i]'(by omega)).wb,0,none⟩)]:=hK
  have:=hcl 0 (.pointer (some ⟨(ds[i]'(by omega)).wb,0,none⟩)) (by rw [hK];rfl)
  rw [Y06,show kP.sz=1 from rfl,Nat.mul_one,Nat.add_zero,Addr.add_lit,J03 hcell,Nat.zero_add] at this
  rw [this]
  show _=some (Value.pointer (some ⟨(ds.getD i default).wb,0,none⟩))
  rw [hds i hi]
 ·rw [show St.ledOf { J0s W ms script with has:=J27 W [] } i=J17 ms from hrep i hi]
  exact (hone i hi).1.led
 ·rw [show St.hasOf { J0s W ms script with has:=J27 W [] } i=[] from hrep2 i]
  exact (hone i hi).1.has
 ·exact Classical.byContradiction fun hne=>(hdis i j hi hj hne).1 he
 ·exact Classical.byContradiction fun hne=>(hdis i j hi hj hne).2.1 he
 ·exact Classical.byContradiction fun hne=>(hdis i j hi hj hne).2.2.1 he
 ·exact Classical.byContradiction fun hne=>(hdis i j hi hj hne).2.2.2.1 he
 ·by_cases hij:i=j
  ·subst hij
   exact (hone i hi).2.2 he
  exact (hdis i j hi hj hij).2.2.2.2.1 he
 have:=List.eq_of_mem_replicate (show r ∈ List.replicate W (List.replicate W []) from hr)
 subst this
 simp
structure J7c (w0:World) (W lim gb:Nat) (sv:Value) (L:Led) (ds:List WG) (A:Option Addr) (c:Nat) (w:World):Prop where
 below:Below w0.heap.size w0 w
 run:w.heap[w0.heap.size]?=some (.cells (J31 0 0 0 gb (.slice A ds.length c) sv) 92 (0,0))
 row:kP.R 93 w w0.heap.size (fun k=>k≠w0.heap.size) (.slice A ds.length c) (ds.map (·.wb))
 done:J5v w0.heap.size W lim L ds w
theorem Jns {w w':World} {base:Nat} {ok S:Nat→Prop} {v:Value} {xs:List Nat} (h:kP.R 93 w base ok v xs) (hk:Kept w w' S) (hS:∀ k,S k→¬ J0m w k 93):kP.R 93 w' base ok v xs:=by
 refine Kd.c06 (Kd.c0a (Kd.c05 h) hk (fun k hk' hs=>?_)) (fun _ h=>h.1)
 obtain ⟨_,_,_,q,hq,hc⟩:=hk'
 have hq:q=93:=by
  rw [show kP.E=[] from rfl] at hq
  simpa using hq
 subst hq
 exact hS k hs hc
theorem J7c.c08 {w0 w w':World} {W lim gb c:Nat} {sv:Value} {L:Led} {ds:List WG} {A:Option Addr} (h:J7c w0 W lim gb sv L ds A c w) (hb:Below w.heap.size w w'):J7c w0 W lim gb sv L ds A c w' :=
 ⟨J01 h.below h.below.size hb,J04 h.run hb,Kd.c01 h.row hb,h.done.below hb⟩
theorem J7c.enter {w0 w w':World} {W lim gb c b:Nat} {sv:Value} {L L':Led} {ds:List WG} {A:Option Addr} (h:J7c w0 W lim gb sv L ds A c w) (hg:w.grownBy w' (some b)) (hL:J1a w b L') (hb:lim≤b) (hlim:w0.heap.size≤lim):J7c w0 W lim gb sv L ds A c w':=by
 have hk:Kept w w' (fun k=>k=b):=⟨hg.size,fun i hi hn=>hg.block i hi (fun he=>hn (by injection he))⟩
 exact ⟨J0k h.below hg (by omega),J0f h.run hk (Ne.symm (J45 hL ⟨_,h.run⟩)),Jns h.row hk (fun k hk=>by subst hk;exact hL.not_typed),h.done.kept hk (fun k hk=>.inl (by omega))⟩
theorem J7c.cells {w0 w:World} {W lim gb c:Nat} {sv:Value} {L:Led} {ds:List WG} {A:Option Addr} (h:J7c w0 W lim gb sv L ds A c w):w.cell? ⟨w0.heap.size,4,none⟩=some (.slice A ds.length c)∧w.frozen? ⟨w0.heap.size,4,none⟩=false:=⟨(J03 h.run 4).trans rfl,J07 h.run 4⟩
theorem J7c.lift {w0 w:World} {W lim lim' gb c:Nat} {sv:Value} {L:Led} {ds:List WG} {A:Option Addr} (h:J7c w0 W lim gb sv L ds A c w) (hl:lim≤lim'):J7c w0 W lim' gb sv L ds A c w :=
 ⟨h.below,h.run,h.row,fun d hd=>by obtain ⟨h1,h2,⟨h3,h4,h5,h6⟩,h7⟩:=h.done.one d hd;exact ⟨h1,h2,⟨by omega,by omega,by omega,by omega⟩,h7⟩,h.done.dis⟩
theorem J7c.snoc {w0 w w1:World} {W lim gb c c1:Nat} {sv:Value} {L:Led} {ds:List WG} {d:WG} {A A1:Option Addr} {l1:Nat} (h:J7c w0 W lim gb sv L ds A c w) (h1:J5u w W L d) (hlim:w0.heap.size≤lim) (h2:Jnp lim d) (h4:d.lb≠d.hb) (hb1:Below w0.heap.size w0 w1)
  (hR:kP.R 93 w1 w0.heap.size (fun k=>k≠w0.heap.size) (.slice A1 l1 c1) (ds.map (·.wb)++[d.wb])) (hg:w.grownBy w1 (Value.slice A ds.length c).ownBlock) (hl:l1=ds.length+1) :
  J7c w0 W w.heap.size gb sv L (ds++[d]) A1 c1 (w1.setCell ⟨w0.heap.size,4,none⟩ (.slice A1 l1 c1)):=by
 have hk:Kept w w1 (fun k=>(Value.slice A ds.length c).ownBlock=some k):=⟨hg.size,fun i hi hn=>hg.block i hi (fun he=>hn he.symm)⟩
 have hown:∀ k,(Value.slice A ds.length c).ownBlock=some k→J0m w k 93:=fun k hk=>c07 (Kd.R_own h.row).choose_spec k hk
 have hrun:=J0f h.run hk (fun he=>not_typed (hown _ he) rfl ⟨_,h.run⟩)
 have hg2:w1.grownBy (w1.setCell ⟨w0.heap.size,4,none⟩ (.slice A1 l1 c1)) (some w0.heap.size):=J0e w0.heap.size [_] 4 w1
 have hk2:Kept w (w1.setCell ⟨w0.heap.size,4,none⟩ (.slice A1 l1 c1)) (fun k=>(Value.slice A ds.length c).ownBlock=some k∨k=w0.heap.size) :=
  Kept.then_ (S2:=fun b=>b=w0.heap.size) (hk.mono (fun _ hb=>.inl hb)) ⟨hg2.size,fun b hb hn=>hg2.block b hb (fun he=>hn (by injection he))⟩ (fun b hb=>.inl (.inr hb))
 have hS:∀ k,((Value.slice A ds.length c).ownBlock=some k∨k=w0.heap.size)→J0m w k 92∨J0m w k 93:=fun k hk=>by
  rcases hk with hk | hk
  ·exact .inr (hown k hk)
  subst hk;exact .inl ⟨_,h.run⟩
 have hn:∀ {t:TypeId} {k:Nat},J0m w k t→(92 == t)=false→(93 == t)=false→¬ ((Value.slice A ds.length c).ownBlock=some k∨k=w0.heap.size):=fun ht e1 e2 hk=>by
  rcases hS _ hk with hk | hk
  ·exact not_typed hk e1 ht
  exact not_typed hk e2 ht
 have hnl:∀ {L':Led} {k:Nat},J1a w k L'→¬ ((Value.slice A ds.length c).ownBlock=some k∨k=w0.heap.size):=fun hL hk=>by
  rcases hS _ hk with hk | hk
  ·exact hL.not_typed hk
  exact hL.not_typed hk
 have hhigh:lim≤w.heap.size:=by
  obtain ⟨h3,_⟩:=h1.high
  have:=h2.1;omega
 have hD:J5v w0.heap.size W w.heap.size L (ds++[d]) w:=h.done.snoc h1 hlim h2 h1.high h4 hhigh
 refine ⟨J0k hb1 hg2 (Y0e _),?_,?_,hD.kept hk2 (fun k hk=>.inr (hS k hk))⟩
 ·rw [Y02,Y10,← hl]
  exact J0d hrun 4 _ rfl
 rw [Y02,Y10,← hl,List.map_append]
 refine Jns hR (S:=fun b=>b=w0.heap.size) ⟨hg2.size,fun b hb hn=>hg2.block b hb (fun he=>hn (by injection he))⟩ (fun k hk=>?_)
 subst hk
 exact not_typed ⟨_,hrun⟩ rfl
def J30 (w:World) (p:Plan) (script:List Int) (n who:Int) (e:Ending) (w':World):Prop :=
 match J16 p script n who with
 | .error c=>e=.panicked (J4g c)∧Below w.heap.size w w'
 | .ok ways=>∃ (rb:Nat) (w0:World) (G:RG),e=.returned (.pointer (some ⟨rb,0,none⟩))∧G.rb=rb∧Below w.heap.size w w0∧w.heap.size≤G.gb∧J4v w0 G.gb p.N p.Wd p.E ways∧J6e w0 G p.workers.toNat (J0s p.workers.toNat p.start script) w'
theorem Jco (p:Plan) (eA mA sA:Option Addr) (eC mC sC:Nat) (script:List Int) (n who:Int) (w:World) (hp:J1v w p eA mA) (hsC:kI.C w sA script.length script) (hsl:script.length≤sC) :
  Calls Tryz.prog 60 #[J1q p eA eC mA mC,.slice sA script.length sC,.int .i64 n,.int .i64 who] w (J30 w p script n who):=by
 obtain ⟨N,Wd,E,wk,ms⟩:=p
 have hSm:=Kd.C_max hp.hS
 have hSc:=Kd.C_max hsC
 have b1:=J02 w (.cells #[.int .i64 N,.int .i64 Wd,.slice eA E.length eC,.int .i64 wk,.slice mA ms.length mC] 27)
 have hbk:(w.alloc (.cells #[.int .i64 N,.int .i64 Wd,.slice eA E.length eC,.int .i64 wk,.slice mA ms.length mC] 27)).heap[w.heap.size]?=some (.cells #[.int .i64 N,.int .i64 Wd,.slice eA E.length eC,.int .i64 wk,.slice mA ms.length mC] 27 (0,0)):=Y0c w _
 have HP:=Y08 (Jbr ⟨N,Wd,E,wk,ms⟩ eA mA eC mC _ (hp.below b1))
 simp only [J1q] at HP hp hSm ⊢
 have HS:=Y00 (Y07 hp.hS (Y07 hsC hsl))
 have H1:=Y00 (Y07 b1 hbk)
 clear hp b1 hbk hsC hsl
 go_enter Tryz.func60,Tryz.ntmps60
 go_upto_region 1 with fail
 generalize w.alloc (.cells #[.int .i64 N,.int .i64 Wd,.slice eA E.length eC,.int .i64 wk,.slice mA ms.length mC] 27)=w1 at *
 obtain ⟨p0,p1,p2,p3,p4⟩:=bc5 H1.out.2
 go_wp2_with fail
 refine HP.out.mono ?_
 rintro e w2 ⟨hb2,h2⟩
 cases ho:J0t ⟨N,Wd,E,wk,ms⟩ with
 | none =>
  rw [ho] at h2
  subst h2
  refine ⟨rfl,?_⟩
  unfold J30 J16
  rw [ho]
  exact ⟨rfl,J01 H1.out.1 H1.out.1.size hb2⟩
 | some ways=>?_
 rw [ho] at h2
 obtain ⟨gb,rfl,hgb,hG⟩:=h2
 have HG:=Y00 hG
 have H2:=Y00 (Y07 (J01 H1.out.1 H1.out.1.size hb2) (J04 H1.out.2 hb2))
 have HGB:=Y08 (show w.heap.size≤gb by have:=H1.out.1.size;omega)
 obtain ⟨ho1,⟨hw1,hw4,hw8⟩,hmsg⟩:=J5d ho
 simp only at hw1 hw4 hw8
 have HOP:=Y08 ho
 have HMS:=Y08 hmsg
 clear ho ho1 hb2 hG hgb p0 p1 p2 p3 p4 HP hmsg
 have p3:w2.cell? ⟨w.heap.size,3,none⟩=some (.int .i64 wk):=(J03 H2.out.2 3).trans rfl
 have p4:w2.cell? ⟨w.heap.size,4,none⟩=some (.slice mA ms.length mC):=(J03 H2.out.2 4).trans rfl
 by_cases g0:script.length≤300
 rotate_left
 ·have f0:decide ((script.length:Int)≤300)=false:=by simp;omega
  have n0:(300:Int)<(script.length:Int):=by omega
  have HB:=Y08 (show J16 ⟨N,Wd,E,wk,ms⟩ script n who=.error 3 by simp only [J16,HOP.out];rw [if_neg g0])
  clear g0
  go_wp2_with fail
  refine (J0r _ _).mono ?_
  rintro e wm ⟨rfl,rfl⟩
  refine ⟨rfl,?_⟩
  unfold J30
  rw [HB.out]
  exact ⟨rfl,H2.out.1⟩
 have g0b:(script.length:Int)≤300:=by omega
 by_cases g1:0≤n
 rotate_left
 ·have n1:n<0:=by omega
  have HB:=Y08 (show J16 ⟨N,Wd,E,wk,ms⟩ script n who=.error 2 by simp only [J16,HOP.out];rw [if_pos g0,if_neg (fun h=>g1 h.1)])
  clear g0 g1
  go_wp2_with fail
  refine (J1w _ _).mono ?_
  rintro e wm ⟨rfl,rfl⟩
  go_wp2_with fail
  refine (J0r _ _).mono ?_
  rintro e wm ⟨rfl,rfl⟩
  refine ⟨rfl,?_⟩
  unfold J30
  rw [HB.out]
  exact ⟨rfl,H2.out.1⟩
 by_cases g2:0≤who
 rotate_left
 ·have n1:who<0:=by omega
  have HB:=Y08 (show J16 ⟨N,Wd,E,wk,ms⟩ script n who=.error 2 by simp only [J16,HOP.out];rw [if_pos g0,if_neg (fun h=>g2 h.2.1)])
  clear g0 g2
  go_wp2_with fail
  refine (J1w _ _).mono ?_
  rintro e wm ⟨rfl,rfl⟩
  go_wp2_with fail
  refine (J0r _ _).mono ?_
  rintro e wm ⟨rfl,rfl⟩
  refine ⟨rfl,?_⟩
  unfold J30
  rw [HB.out]
  exact ⟨rfl,H2.out.1⟩
 by_cases g3:who<wk
 rotate_left
 ·have f3:decide (who<wk)=false:=by simp;omega
  have HB:=Y08 (show J16 ⟨N,Wd,E,wk,ms⟩ script n who=.error 2 by simp only [J16,HOP.out];rw [if_pos g0,if_neg (fun h=>g3 h.2.2)])
  clear g0 g3 hw1 hw4 hw8
  go_wp2_with fail
  refine (J1w _ _).mono ?_
  rintro e wm ⟨rfl,rfl⟩
  go_wp2_with fail
  refine (J0r _ _).mono ?_
  rintro e wm ⟨rfl,rfl⟩
  refine ⟨rfl,?_⟩
  unfold J30
  rw [HB.out]
  exact ⟨rfl,H2.out.1⟩
 have HB:=Y08 (show J16 ⟨N,Wd,E,wk,ms⟩ script n who=.ok ways by simp only [J16,HOP.out];rw [if_pos g0,if_pos ⟨g1,g2,g3⟩])
 clear g0
 obtain ⟨W,hWk⟩:∃ W:Nat,wk=W:=⟨wk.toNat,by omega⟩
 subst hWk
 have HS2:=Y00 (Y07 (Kd.c00 HS.out.1 H2.out.1) (Y07 (Kd.c00 HS.out.2.1 H2.out.1) HS.out.2.2))
 clear HS
 go_wp2_with fail
 refine (J1w _ _).mono ?_
 rintro e wm ⟨rfl,rfl⟩
 go_wp2_with fail
 refine (J1w _ _).mono ?_
 rintro e wm ⟨rfl,rfl⟩
 go_upto_region 5 with fail
 have b3:=J02 w2 (.cells #[.int .i64 0,.int .i64 0,.int .i64 0,.pointer (some ⟨gb,0,none⟩),.slice none 0 0,.slice sA script.length sC] 92)
 have hr3:(w2.alloc (.cells #[.int .i64 0,.int .i64 0,.int .i64 0,.pointer (some ⟨gb,0,none⟩),.slice none 0 0,.slice sA script.length sC] 92)).heap[w2.heap.size]?=some (.cells (J31 0 0 0 gb (.slice none 0 0) (.slice sA script.length sC)) 92 (0,0)):=Y0c w2 _
 have H3:=Y00 (show J7c w2 W (w2.alloc (.cells #[.int .i64 0,.int .i64 0,.int .i64 0,.pointer (some ⟨gb,0,none⟩),.slice none 0 0,.slice sA script.length sC] 92)).heap.size gb (.slice sA script.length sC) (J17 ms) [] none 0 (w2.alloc (.cells #[.int .i64 0,.int .i64 0,.int .i64 0,.pointer (some ⟨gb,0,none⟩),.slice none 0 0,.slice sA script.length sC] 92)) from
  ⟨b3,hr3,Kd.R_nil _ _ _ _ _,⟨fun d hd=>(List.not_mem_nil hd).elim,List.Pairwise.nil⟩⟩)
 have p3:=J00 b3 p3
 have P34:=Y08 (Y07 (show w2.cell? ⟨w.heap.size,3,none⟩=some (.int .i64 (W:Int)) from (J03 H2.out.2 3).trans rfl) (show w2.cell? ⟨w.heap.size,4,none⟩=some (.slice mA ms.length mC) from (J03 H2.out.2 4).trans rfl))
 clear b3 hr3 p4
 generalize w2.alloc (.cells #[.int .i64 0,.int .i64 0,.int .i64 0,.pointer (some ⟨gb,0,none⟩),.slice none 0 0,.slice sA script.length sC] 92)=w3 at *
 go_wp2_with fail
 clear p3
 go_loopw [41] (fun i wr=>∃ (j:Nat) (ds:List WG) (A:Option Addr) (c:Nat),j≤W∧i=.int .i64 j∧J08 (ds.length=j∧J7c w2 W wr.heap.size gb (.slice sA script.length sC) (J17 ms) ds A c wr)) (fun i _=>W - (intOf i).toNat)
 case atStart=>exact ⟨0,[],none,0,Nat.zero_le _,rfl,⟨rfl,H3.out⟩⟩
 clear H3
 obtain ⟨j,ds,A,c,hj,rfl,hX⟩:=hrel
 by_cases hlt:j<W
 rotate_left
 ·have hjW:¬ ((j:Int)<W):=by omega
  have hjW2:j=W:=by omega
  have hX2:=hX.out
  rw [hjW2] at hX2
  have hrun2:=hX2.2.run
  have hrow2:=hX2.2.row
  rw [hX2.1] at hrun2 hrow2
  obtain ⟨G,hGr,hGg,hRA⟩:=hX2.2.done.run hX2.1 (by omega) hX2.2.below hrun2 (Y0e _) hrow2 HS2.out.2.1 HS2.out.2.2
  have HRA:=Y00 (show ∃ lim,J12 w2 G W lim { J0s W ms script with has:=J27 W (ms.take 0) } (fun _ _=>.slice none 0 0) wr from ⟨_,hRA⟩)
  have HGR:=Y08 (Y07 hGr hGg)
  have q4:=J00 hX2.2.below P34.out.2
  clear hX2 hrun2 hrow2 hRA hX hGg hjW2
  rw [← hGr]
  clear hGr
  go_wp2_with fail
  clear q4
  go_loopw [85] (fun i wv=>∃ k:Nat,k≤ms.length∧i=.int .i64 k∧J08 (∃ lim,J12 w2 G W lim { J0s W ms script with has:=J27 W (ms.take k) } (fun _ _=>.slice none 0 0) wv)) (fun i _=>ms.length - (intOf i).toNat)
  case atStart=>exact ⟨0,Nat.zero_le _,rfl,HRA⟩
  clear HRA
  obtain ⟨k,hk,rfl,hY⟩:=hrel
  obtain ⟨lim,hY⟩:=hY.out
  have hY:=Y00 hY
  by_cases hkl:k<ms.length
  rotate_left
  ·have hkE:¬ ((k:Int)<ms.length):=by omega
   have hkl2:k=ms.length:=by omega
   have hY2:=hY.out
   rw [hkl2,List.take_length] at hY2
   have HY:=Y00 hY2
   clear hY hY2 hkl2
   go_wp2_with fail
   go_ret
   unfold J30
   rw [HB.out]
   refine ⟨_,w2,G,rfl,rfl,H2.out.1,by rw [HGR.out.2];exact HGB.out,by rw [HGR.out.2];exact HG.out,?_⟩
   simp only [Y06]
   exact ⟨_,HY.out.relim⟩
  obtain ⟨ad,tA,tC,rfl,he0,he1,he2,heL,heC⟩:=Jcp (Kd.c00 HS2.out.1 hY.out.below) hkl
  have hkE:(k:Int)<ms.length:=by omega
  have hk0:(0:Int)≤k:=by omega
  have HEK:=Y08 (Jee (W:=W) hkl)
  have hwho:=J8v (HMS.out _ (Y0l hkl))
  generalize ms[k]=mm at *
  obtain ⟨⟨nd,tl⟩,wh⟩:=mm
  simp only at he0 he1 he2 heL heC hwho
  obtain ⟨x,rfl⟩:∃ x:Nat,wh=x:=⟨wh.toNat,by omega⟩
  have hxW:x<W:=by omega
  have hx0:(0:Int)≤x:=hwho.1
  have hxWI:(x:Int)<W:=hwho.2
  clear hwho
  obtain ⟨_,_,_,_,_,_,_,_,_,r4,_⟩:=hY.out.cells
  obtain ⟨s1,s2,s3,s4⟩:=hY.out.wcells hxW
  clear s2 s4
  go_upto_region 18 with fail
  have bE:=J02 wr (.cells #[.int .i64 nd,.slice tA tl.length tC,.int .i64 x] 77)
  have e0:(wr.alloc (.cells #[.int .i64 nd,.slice tA tl.length tC,.int .i64 x] 77)).cell? ⟨wr.heap.size,0,none⟩=some (.int .i64 nd):=J0a wr _ _ 0
  have e1:(wr.alloc (.cells #[.int .i64 nd,.slice tA tl.length tC,.int .i64 x] 77)).cell? ⟨wr.heap.size,1,none⟩=some (.slice tA tl.length tC):=J0a wr _ _ 1
  have e2:(wr.alloc (.cells #[.int .i64 nd,.slice tA tl.length tC,.int .i64 x] 77)).cell? ⟨wr.heap.size,2,none⟩=some (.int .i64 x):=J0a wr _ _ 2
  have f4:=J00 bE r4
  have f1:=J00 bE s1
  have f3:=J00 bE s3
  have HEL:=Y00 (Kd.c00 heL bE)
  have HY1:=Y00 (hY.out.c08 bE)
  clear heL bE he0 he1 he2 r4 s1 s3 hY
  generalize wr.alloc (.cells #[.int .i64 nd,.slice tA tl.length tC,.int .i64 x] 77)=wq at *
  generalize wr.heap.size=be at *
  have TI:=fun w h=>Y08 (J6m tA tC tl w h)
  simp only [tmV] at TI
  refine sr1 20 (fun w'=>w'.cell? ⟨G.rb,4,none⟩=some (.slice (some ⟨G.wa,0,none⟩) W G.wc)∧w'.cell? ⟨G.wa,x,none⟩=some (.pointer (some ⟨G.wb x,0,none⟩))∧w'.cell? ⟨G.wb x,1,none⟩=some (.map (some (G.hb x)))∧w'.cell? ⟨be,0,none⟩=some (.int .i64 nd)∧w'.cell? ⟨be,1,none⟩=some (.slice tA tl.length tC)∧w'.cell? ⟨be,2,none⟩=some (.int .i64 x)) [19] ⟨f4,f1,f3,e0,e1,e2⟩ fun hJ0=>?_
  have HD:=Y00 (J05 (Y0f wq.heap.size wq))
  have HSH:=Y08 (fun V (hb:Below wq.heap.size wq V)=>(Y07 (J00 hb f4) (Y07 (J00 hb f1) (Y07 (J00 hb f3) (Y07 (J00 hb e0) (Y07 (J00 hb e1) (J00 hb e2)))))))
  clear f4 f1 f3 e0 e1 e2
  generalize wq.drew=wd2 at *
  refine pu 0 89 (bs 20 1) ?_
  refine pu 1 90 (bs 20 3) ?_
  refine pu 2 91 (bs 20 7) ?_
  refine tk6 3 92 (bs 20 15) hJ0 ?_
  refine pu 4 93 (bs 20 31) ?_
  refine tk6 5 94 (bs 20 63) hJ0 ?_
  refine pu 6 95 (bs 20 127) ?_
  refine tk6 7 96 (bs 20 255) hJ0 ?_
  refine pu 8 97 (bs 20 511) ?_
  refine pu 9 98 (bs 20 1023) ?_
  refine tk6 10 99 (bs 20 2047) hJ0 ?_
  refine pu 11 100 (bs 20 4095) ?_
  refine pu 12 101 (bs 20 8191) ?_
  refine tk6 13 102 (bs 20 16383) hJ0 ?_
  refine pu 14 103 (bs 20 32767) ?_
  refine pu 15 104 (bs 20 65535) ?_
  refine tk6 16 105 (bs 20 131071) hJ0 ?_
  refine on0 17 106 (bs 20 262143) fun K hK=>?_
  refine gs0 Tryz.func64 #[.slice tA tl.length tC] ?_
  refine (TI _ (Kd.c00 HEL.out HD.out)).out.mono ?_
  rintro e v6 ⟨rfl,hb6⟩
  have hB6:=J01 HD.out HD.out.size hb6
  refine ⟨_,rfl,hK.out _ _ (HSH.out _ hB6) (fun hJ0=>?_)⟩
  clear hK K
  refine nm0 _ ?_
  refine pu 18 107 (bs 20 524287) ?_
  refine la0 19 (bs 20 1048575) (N:=(some 108)) fun K hK=>?_
  refine gs0 Tryz.func46 #[.agg #[.map (some (G.hb x))],.agg #[.int .i64 nd,.int .i64 (tmOf tl).1,.int .i64 (tmOf tl).2.1,.int .i64 (tmOf tl).2.2],.int .i64 1] ?_
  have H6:=Y00 (HY1.out.c08 hB6)
  have EN:=J5o (G.hb x) _ (J0v ((nd,tl),(x:Int))) 1 v6 (H6.out.has x hxW)
  simp only [mkV,J0v] at EN
  refine EN.mono ?_
  clear EN
  rintro e w7 ⟨rfl,hg7,hL7⟩
  refine ⟨_,rfl,hK.out _ _ ?_⟩
  clear hK K hJ0
  refine dn0 ?_
  have h7:=H6.out.set_has hxW hg7 hL7
  have H7:=Y00 (show ∃ lim,J12 w2 G W lim { J0s W ms script with has:=J27 W (ms.take (k+1)) } (fun _ _=>.slice none 0 0) w7 from ⟨lim,by
   rw [HEK.out]
   unfold J2c
   simp only [Y06,J0v]
   exact h7⟩)
  clear hg7 hL7 h7 H6 hB6 hb6 HY1 HD HSH
  go_wp2_with fail
  exact ⟨⟨k+1,by omega,by go_num,H7⟩,by simp [intOf];omega⟩
 have hjW:(j:Int)<W:=by omega
 have hj0:(0:Int)≤j:=by omega
 have q3:=J00 hX.out.2.below P34.out.1
 go_upto_region 7 with fail
 have hmk:=Jqc W (by omega)
 have HD:=Y00 (J05 (Y0f wr.heap.size wr))
 refine sr1 8 (fun w'=>w'.cell? ⟨w.heap.size,3,none⟩=some (.int .i64 (W:Int))) [] q3 fun hJ0=>?_
 have HSZ:=Y08 (show wr.drew.heap.size=wr.heap.size from rfl)
 have HSH:=Y08 (fun V (hb:Below wr.heap.size wr V)=>J00 hb q3)
 clear q3
 generalize wr.drew=wd at *
 refine pu 2 45 (bs 8 4) ?_
 refine tk1 3 46 (bs 8 12) hJ0 ?_
 refine Jl1 3 #[true,true,true,true,true,false,false,false] (fun g:Nat × Nat × Nat=>[(43,.agg #[.map (some g.1)]),(44,.agg #[.map (some g.2.1)]),(47,.slice (some ⟨g.2.2,0,none⟩) W W)]) (fun g w'=>Below wr.heap.size wr w'∧J1a w' g.1 []∧J1a w' g.2.1 []∧g.1≠g.2.1∧w'.heap[g.2.2]?=some (.cells (madeCells #[.slice none 0 0] W) 180 (0,0))∧wr.heap.size≤g.1∧wr.heap.size≤g.2.1∧wr.heap.size≤g.2.2) ?_ ?_
 rotate_left
 ·intro hcont
  simp only [J2x,Act.put,List.setIfInBounds_toArray,List.set_cons_zero,List.set_cons_succ] at hcont
  have HCT:=Y08 hcont
  clear hcont hJ0
  have hB0:=HD.out
  refine two_ (i:=0) (j:=4) (Ni:=some 43) (Nj:=some 47) #[true,false,true,true,false,false,false,false] #[false,false,true,true,true,false,false,false] rfl rfl rfl rfl (by kernel_rfl) (by decide) (by decide) (fun K hK=>?_) (fun K hK=>?_)
  ·skip
   refine gs0 Tryz.func44 #[] ?_
   refine (J2q _).mono ?_
   rintro e v1 ⟨b0,rfl,hge0,hS1,hL0⟩
   have hB1:=J01 hB0 hB0.size hS1
   refine ⟨_,rfl,hK.out _ _ (HSH.out _ hB1) (fun hJ0=>?_)⟩
   clear hK K
   refine nm0 _ ?_
   refine two_ (i:=1) (j:=4) (Ni:=some 44) (Nj:=some 47) #[true,true,true,true,false,false,false,false] #[true,false,true,true,true,false,false,false] rfl rfl rfl rfl (by kernel_rfl) (by decide) (by decide) (fun K hK=>?_) (fun K hK=>?_)
   ·skip
    refine gs0 Tryz.func44 #[] ?_
    refine (J2q _).mono ?_
    rintro e v2 ⟨b1,rfl,hge1,hS2,hL1⟩
    have hB2:=J01 hB1 hB1.size hS2
    refine ⟨_,rfl,hK.out _ _ (HSH.out _ hB2) (fun hJ0=>?_)⟩
    clear hK K
    refine nm0 _ ?_
    refine one_ (i:=4) (N:=some 47) #[true,true,true,true,true,false,false,false] rfl rfl (by kernel_rfl) (by decide) (fun K hK=>?_)
    refine va0 ?_
    have hS3:=J02 v2 (.cells (madeCells #[.slice none 0 0] W) 180)
    have hM:=Y0c v2 (.cells (madeCells #[.slice none 0 0] W) 180)
    have hB3:=J01 hB2 hB2.size hS3
    have hgM:wr.heap.size≤v2.heap.size:=by have:=HSZ.out;have:=hB2.size;omega
    generalize v2.alloc (.cells (madeCells #[.slice none 0 0] W) 180)=v3 at *
    refine hK.out _ _ (HSH.out _ hB3) (fun hJ0=>?_)
    clear hK K
    refine nm0 _ ?_
    have hlt0:b0<v1.heap.size:=hL0.lt
    have hw0:wr.heap.size≤b0:=by have:=hB0.size;have:=HSZ.out;omega
    have hw1:wr.heap.size≤b1:=by have:=hB1.size;have:=HSZ.out;omega
    exact HCT.out (b0,b1,v2.heap.size) _ ⟨hB3,((hL0).below hS2).below hS3,(hL1).below hS3,by show b0≠b1;omega,hM,hw0,hw1,hgM⟩
   skip
   refine va0 ?_
   have hS2:=J02 v1 (.cells (madeCells #[.slice none 0 0] W) 180)
   have hM:=Y0c v1 (.cells (madeCells #[.slice none 0 0] W) 180)
   have hB2:=J01 hB1 hB1.size hS2
   have hgM:wr.heap.size≤v1.heap.size:=by have:=HSZ.out;have:=hB1.size;omega
   generalize v1.alloc (.cells (madeCells #[.slice none 0 0] W) 180)=v2 at *
   refine hK.out _ _ (HSH.out _ hB2) (fun hJ0=>?_)
   clear hK K
   refine nm0 _ ?_
   refine one_ (i:=1) (N:=some 44) #[true,true,true,true,true,false,false,false] rfl rfl (by kernel_rfl) (by decide) (fun K hK=>?_)
   refine gs0 Tryz.func44 #[] ?_
   refine (J2q _).mono ?_
   rintro e v3 ⟨b1,rfl,hge1,hS3,hL1⟩
   have hB3:=J01 hB2 hB2.size hS3
   refine ⟨_,rfl,hK.out _ _ (HSH.out _ hB3) (fun hJ0=>?_)⟩
   clear hK K
   refine nm0 _ ?_
   have hlt0:b0<v2.heap.size:=(hL0.below hS2).lt
   have hw0:wr.heap.size≤b0:=by have:=hB0.size;have:=HSZ.out;omega
   have hw1:wr.heap.size≤b1:=by have:=hB2.size;have:=HSZ.out;omega
   exact HCT.out (b0,b1,v1.heap.size) _ ⟨hB3,((hL0).below hS2).below hS3,hL1,by show b0≠b1;omega,J04 (hM) hS3,hw0,hw1,hgM⟩
  skip
  refine va0 ?_
  have hS1:=J02 wd (.cells (madeCells #[.slice none 0 0] W) 180)
  have hM:=Y0c wd (.cells (madeCells #[.slice none 0 0] W) 180)
  have hB1:=J01 hB0 hB0.size hS1
  have hgM:wr.heap.size≤wd.heap.size:=by have:=HSZ.out;have:=hB0.size;omega
  generalize wd.alloc (.cells (madeCells #[.slice none 0 0] W) 180)=v1 at *
  refine hK.out _ _ (HSH.out _ hB1) (fun hJ0=>?_)
  clear hK K
  refine nm0 _ ?_
  refine one_ (i:=0) (N:=some 43) #[true,false,true,true,true,false,false,false] rfl rfl (by kernel_rfl) (by decide) (fun K hK=>?_)
  refine gs0 Tryz.func44 #[] ?_
  refine (J2q _).mono ?_
  rintro e v2 ⟨b0,rfl,hge0,hS2,hL0⟩
  have hB2:=J01 hB1 hB1.size hS2
  refine ⟨_,rfl,hK.out _ _ (HSH.out _ hB2) (fun hJ0=>?_)⟩
  clear hK K
  refine nm0 _ ?_
  refine one_ (i:=1) (N:=some 44) #[true,true,true,true,true,false,false,false] rfl rfl (by kernel_rfl) (by decide) (fun K hK=>?_)
  refine gs0 Tryz.func44 #[] ?_
  refine (J2q _).mono ?_
  rintro e v3 ⟨b1,rfl,hge1,hS3,hL1⟩
  have hB3:=J01 hB2 hB2.size hS3
  refine ⟨_,rfl,hK.out _ _ (HSH.out _ hB3) (fun hJ0=>?_)⟩
  clear hK K
  refine nm0 _ ?_
  have hlt0:b0<v2.heap.size:=hL0.lt
  have hw0:wr.heap.size≤b0:=by have:=hB1.size;have:=HSZ.out;omega
  have hw1:wr.heap.size≤b1:=by have:=hB2.size;have:=HSZ.out;omega
  exact HCT.out (b0,b1,wd.heap.size) _ ⟨hB3,(hL0).below hS3,hL1,by show b0≠b1;omega,J04 (J04 (hM) hS2) hS3,hw0,hw1,hgM⟩
 rintro ⟨g1,g2,g3⟩ w4 ⟨hB4,hL1,hL2,hne,hM,hg1,hg2,hg3⟩
 simp only at hB4 hL1 hL2 hne hM hg1 hg2 hg3 ⊢
 refine Jkr (a':=?_) ?_ ?_
 rotate_left
 ·show J2x _ _=_
  simp only [J2x,Act.put,List.setIfInBounds_toArray,List.set_cons_zero,List.set_cons_succ]
  rfl
 have H4:=Y00 (Y07 hB4 (Y07 hL1 (Y07 hL2 (Y07 hne (Y07 hM (Y07 hg1 (Y07 hg2 hg3)))))))
 clear hB4 hL1 hL2 hne hM hg1 hg2 hg3 hJ0
 refine pu 5 48 (bs 8 63) ?_
 refine on0 6 49 (bs 8 127) fun K hK=>?_
 refine va0 ?_
 have b5:=J02 w4 (.cells #[.map (some g1),.map (some g2),.slice (some ⟨g3,0,none⟩) W W] 97)
 have hbk5:=Y0c w4 (.cells #[.map (some g1),.map (some g2),.slice (some ⟨g3,0,none⟩) W W] 97)
 have hB5:=J01 H4.out.1 H4.out.1.size b5
 have hOne:J5u (w4.alloc (.cells #[.map (some g1),.map (some g2),.slice (some ⟨g3,0,none⟩) W W] 97)) W [] ⟨w4.heap.size,g1,g2,g3,W⟩:=⟨hbk5,H4.out.2.1.below b5,H4.out.2.2.1.below b5,_,J04 H4.out.2.2.2.2.1 b5,fun k hk=>Jg9 hk⟩
 have HW:=Y08 (show Jnp wr.heap.size ⟨w4.heap.size,g1,g2,g3,W⟩∧g1≠g2 from ⟨⟨H4.out.1.size,H4.out.2.2.2.2.2⟩,H4.out.2.2.2.1⟩)
 have H5:=Y00 (Y07 (hX.out.2.c08 hB5) hOne)
 refine hK.out _ _ (HSH.out _ hB5) (fun hJ0=>?_)
 clear hK K
 refine nm0 _ ?_
 refine pu 7 11 (bs 8 255) ?_
 refine dn0 ?_
 have HJ:=Y08 hX.out.1
 have HWR:=Y08 hX.out.2.below.size
 clear hJ0 b5 hbk5 hB5 hOne H4 hX HD HSZ HSH hmk
 generalize w4.alloc (.cells #[.map (some g1),.map (some g2),.slice (some ⟨g3,0,none⟩) W W] 97)=w5 at *
 generalize w4.heap.size=bw at *
 generalize wr.heap.size=lim0 at *
 have q4:=J00 H5.out.1.below P34.out.2
 go_wp2_with fail
 clear q4
 go_loopw [53] (fun i wv=>∃ k:Nat,k≤ms.length∧i=.int .i64 k∧J08 (J7c w2 W lim0 gb (.slice sA script.length sC) (J17 ms) ds A c wv∧J5u wv W (J17 (ms.take k)) ⟨bw,g1,g2,g3,W⟩)) (fun i _=>ms.length - (intOf i).toNat)
 case atStart=>exact ⟨0,Nat.zero_le _,rfl,H5⟩
 clear H5
 obtain ⟨k,hk,rfl,hY⟩:=hrel
 by_cases hkl:k<ms.length
 rotate_left
 ·have hkE:¬ ((k:Int)<ms.length):=by omega
  have hkl2:k=ms.length:=by omega
  have hY2:=hY.out
  rw [hkl2,List.take_length] at hY2
  have HY:=Y00 hY2
  have y4:=hY2.1.cells.1
  rw [HJ.out] at y4
  clear hY hY2 hkl2
  go_upto_region 13 with fail
  go_wp2_with (at_builtin;go_must (refine Kd.R_append kP (w0:=w2) w2.heap.size rfl (.tmp 75) (.tmp 77) _ 93 _ 8 rfl Tryz.underlying90 Tryz.infoPworker rfl (by decide) (by decide) (.slice A j c) (ds.map (·.wb)) bw [.pointer (some ⟨bw,0,none⟩)] (fun k=>k≠w2.heap.size) (fun _=>False) rfl rfl rfl (fun _ h=>h.elim) (fun k hk=>by have:=J0q HY.out.1.run;omega) (by have:=HY.out.1.row;rw [HJ.out] at this;exact this) HY.out.1.below HY.out.1.below.size (by have:=HJ.out;simp;omega) ?_);intro v6 w6 hR6 hb6 hg6 hat6;obtain ⟨A6,c6,hv6⟩:=Kd.c02 hR6;have hg6':wr.grownBy w6 (Value.slice A ds.length c).ownBlock:=(by rw [HJ.out];exact hg6);have hbk6:=J0x HY.out.1.run hg6' (fun he=>HY.out.1.row.1 _ he.symm rfl);have H6:=Y00 (Y07 hR6 (Y07 hb6 hg6'));clear hR6 hb6 hg6 hg6' hat6;generalize hl6:(ds.map (·.wb)++[bw]).length=l6 at *;have HL6:=Y08 hl6;subst hv6;have k6:w6.cell? ⟨w2.heap.size,4,none⟩=some (.slice A j c):=(by rw [← HJ.out];exact (J03 hbk6 4).trans rfl);have kf6:w6.frozen? ⟨w2.heap.size,4,none⟩=false:=J07 hbk6 4;clear hbk6 hl6 y4)
  have hS:=HY.out.1.snoc (d:=⟨bw,g1,g2,g3,W⟩) HY.out.2 HWR.out HW.out.1 HW.out.2 H6.out.2.1 H6.out.1 H6.out.2.2 (by rw [← HL6.out];simp)
  have HS9:=Y00 hS
  clear hS
  have HGS:=Y08 (show wr.heap.size≤(w6.setCell ⟨w2.heap.size,4,none⟩ (.slice A6 l6 c6)).heap.size by have:=H6.out.2.2.size;simpa [World.setCell] using this)
  have HS10:=Y00 (HS9.out.lift HGS.out)
  clear HS9 HGS H6 HY
  generalize w6.setCell ⟨w2.heap.size,4,none⟩ (.slice A6 l6 c6)=w10 at *
  go_wp2_with fail
  exact ⟨⟨j+1,_,A6,c6,by omega,by go_num,⟨by have:=HJ.out;simp;omega,HS10.out⟩⟩,by simp [intOf];omega⟩
 obtain ⟨ad,tA,tC,rfl,he0,he1,he2,heL,heC⟩:=Jcp (Kd.c00 HS2.out.1 hY.out.1.below) hkl
 have hkE:(k:Int)<ms.length:=by omega
 have hk0:(0:Int)≤k:=by omega
 have HEK:=Y08 (Jed hkl)
 generalize ms[k]=mm at *
 have q0:wr.cell? ⟨bw,0,none⟩=some (.map (some g1)):=(J03 hY.out.2.wk 0).trans rfl
 go_upto_region 11 with fail
 have bE:=J02 wr (.cells #[.int .i64 mm.1.1,.slice tA mm.1.2.length tC,.int .i64 mm.2] 77)
 have e0:(wr.alloc (.cells #[.int .i64 mm.1.1,.slice tA mm.1.2.length tC,.int .i64 mm.2] 77)).cell? ⟨wr.heap.size,0,none⟩=some (.int .i64 mm.1.1):=J0a wr _ _ 0
 have e1:(wr.alloc (.cells #[.int .i64 mm.1.1,.slice tA mm.1.2.length tC,.int .i64 mm.2] 77)).cell? ⟨wr.heap.size,1,none⟩=some (.slice tA mm.1.2.length tC):=J0a wr _ _ 1
 have f0:=J00 bE q0
 have HEL:=Y00 (Kd.c00 heL bE)
 have HY1:=Y00 (Y07 (hY.out.1.c08 bE) (hY.out.2.below bE))
 clear heL bE he0 he1 he2 q0 hY
 generalize wr.alloc (.cells #[.int .i64 mm.1.1,.slice tA mm.1.2.length tC,.int .i64 mm.2] 77)=wq at *
 generalize wr.heap.size=be at *
 have TI:=fun w h=>Y08 (J6m tA tC mm.1.2 w h)
 simp only [tmV] at TI
 refine sr1 13 (fun w'=>w'.cell? ⟨bw,0,none⟩=some (.map (some g1))∧w'.cell? ⟨be,0,none⟩=some (.int .i64 mm.1.1)∧w'.cell? ⟨be,1,none⟩=some (.slice tA mm.1.2.length tC)) [12] ⟨f0,e0,e1⟩ fun hJ0=>?_
 have HD:=Y00 (J05 (Y0f wq.heap.size wq))
 have HSH:=Y08 (fun V (hb:Below wq.heap.size wq V)=>(Y07 (J00 hb f0) (Y07 (J00 hb e0) (J00 hb e1))))
 clear f0 e0 e1
 generalize wq.drew=wd2 at *
 refine pu 0 57 (bs 13 1) ?_
 refine pu 1 58 (bs 13 3) ?_
 refine pu 2 59 (bs 13 7) ?_
 refine tk3 3 60 (bs 13 15) hJ0 ?_
 refine pu 4 61 (bs 13 31) ?_
 refine pu 5 62 (bs 13 63) ?_
 refine tk3 6 63 (bs 13 127) hJ0 ?_
 refine pu 7 64 (bs 13 255) ?_
 refine pu 8 65 (bs 13 511) ?_
 refine tk3 9 66 (bs 13 1023) hJ0 ?_
 refine on0 10 67 (bs 13 2047) fun K hK=>?_
 refine gs0 Tryz.func64 #[.slice tA mm.1.2.length tC] ?_
 refine (TI _ (Kd.c00 HEL.out HD.out)).out.mono ?_
 rintro e v6 ⟨rfl,hb6⟩
 have hB6:=J01 HD.out HD.out.size hb6
 refine ⟨_,rfl,hK.out _ _ (HSH.out _ hB6) (fun hJ0=>?_)⟩
 clear hK K
 refine nm0 _ ?_
 refine pu 11 68 (bs 13 4095) ?_
 refine la0 12 (bs 13 8191) (N:=(some 69)) fun K hK=>?_
 refine gs0 Tryz.func46 #[.agg #[.map (some g1)],.agg #[.int .i64 mm.1.1,.int .i64 (tmOf mm.1.2).1,.int .i64 (tmOf mm.1.2).2.1,.int .i64 (tmOf mm.1.2).2.2],.int .i64 1] ?_
 have H6:=Y00 (Y07 (HY1.out.1.c08 hB6) (HY1.out.2.below hB6))
 have EN:=J5o g1 (J17 (ms.take k)) (J0v mm) 1 v6 H6.out.2.led
 simp only [mkV,J0v] at EN
 refine EN.mono ?_
 clear EN
 rintro e w7 ⟨rfl,hg7,hL7⟩
 refine ⟨_,rfl,hK.out _ _ ?_⟩
 clear hK K hJ0
 refine dn0 ?_
 have H7:=Y00 (Y07 (H6.out.1.enter hg7 H6.out.2.led HW.out.1.2.1 HWR.out) (show J5u w7 W (J17 (ms.take (k+1))) ⟨bw,g1,g2,g3,W⟩ by rw [HEK.out];exact H6.out.2.enter hg7 hL7 HW.out.2))
 clear hg7 hL7 H6 hB6 hb6 HY1 HD HSH
 go_wp2_with fail
 exact ⟨⟨k+1,by omega,by go_num,H7⟩,by simp [intOf];omega⟩
end Go.Proofs.YtbkfnmgkcgnifaaGreat
namespace Go.Proofs.YtbkfnmgkcgnifaaGreat.Mdl
theorem Jb9 {α:Type} (f:α→Nat) (x d:α):∀ (l:List α) (i:Nat),i<l.length→((l.set i x).map f).sum+f (l.getD i d)=(l.map f).sum+f x
 | y::l,0,_=>by simp;omega
 | y::l,i+1,h=>by
  have:=Jb9 f x d l i (by simpa using h)
  simp only [List.set_cons_succ,List.map_cons,List.sum_cons,List.getD_cons_succ]
  omega
theorem J4b {α:Type} (f:α→Nat) (d:α):∀ (l:List α) (i:Nat),i<l.length→f (l.getD i d)≤(l.map f).sum
 | y::l,0,_=>by simp
 | y::l,i+1,h=>by
  have:=J4b f d l i (by simpa using h)
  simp only [List.map_cons,List.sum_cons,List.getD_cons_succ]
  omega
def cnt (L:Led):Nat:=(L.map (fun e=>e.2.toNat)).sum
structure Pos (L:Led):Prop where
 nodup:(L.map (·.1)).Nodup
 pos:∀ e ∈ L,1≤e.2
theorem Jim {l m:List Nat} (h:l.Perm m):l.sum=m.sum:=h.sum_nat
theorem J7j {L L':Led} (h:L.Perm L'):cnt L=cnt L':=Jim (h.map _)
theorem Jf3 {L:Led} (hn:(L.map (·.1)).Nodup) {m:Mk} {v:Int} (h:(m,v) ∈ L):L.Perm ((m,v)::L.filter (fun e=>!(e.1 == m))):=by
 induction L with
 | nil=>cases h
 | cons y r ih =>
  rw [List.map_cons,List.nodup_cons] at hn
  rcases List.mem_cons.1 h with h | h
  ·subst h
   rw [List.filter_cons_of_neg (by simp),J3s (fun e he hk=>hn.1 (List.mem_map.2 ⟨e,he,hk⟩))]
  have hy:y.1≠m:=fun hk=>hn.1 (List.mem_map.2 ⟨(m,v),h,hk.symm⟩)
  rw [List.filter_cons_of_pos (by simpa using hy)]
  exact ((ih hn.2 h).cons y).trans (List.Perm.swap _ _ _)
theorem Jaa {L:Led} (p:Mk × Int→Bool) (hn:(L.map (·.1)).Nodup):((L.filter p).map (·.1)).Nodup:=hn.sublist (List.filter_sublist.map _)
theorem Jmu {L:Led} {m:Mk} (s:Int) (hn:(L.map (·.1)).Nodup) (hm:∀ e ∈ L,e.1≠m):((insK m s L).map (·.1)).Nodup:=by
 rw [((J1g m s L).map (·.1)).nodup_iff,List.map_cons,List.nodup_cons]
 exact ⟨fun h=>by obtain ⟨e,he,hk⟩:=List.mem_map.1 h;exact hm e he hk,hn⟩
theorem Jhz {L:Led} {m:Mk} : ∀ e ∈ L.filter (fun e=>!(e.1 == m)),e.1≠m:=fun e he=>by
 have:=(List.mem_filter.1 he).2
 simpa using this
theorem J1n {L:Led} (m:Mk) (n:Int) (hn:(L.map (·.1)).Nodup):((J0j L m n).map (·.1)).Nodup:=by
 unfold J0j
 split
 ·exact Jaa _ hn
 exact Jmu _ (Jaa _ hn) Jhz
theorem J1j {L:Led} {m:Mk} {n:Int} {e:Mk × Int} (h:e ∈ J0j L m n):e.1=m∨e ∈ L:=by
 unfold J0j at h
 split at h
 ·exact .inr (List.mem_filter.1 h).1
 rcases List.mem_cons.1 ((J1g _ _ _).mem_iff.1 h) with h | h
 ·exact .inl (by rw [h])
 exact .inr (List.mem_filter.1 h).1
theorem Jdv (L:Led) (m:Mk) (n:Int):(J0j L m n).length≤L.length+1:=by
 have h:=List.length_filter_le (fun e:Mk × Int=>!(e.1 == m)) L
 unfold J0j
 split
 ·omega
 rw [(J1g _ _ _).length_eq,Y0z];omega
theorem Jbn:∀ (note:Note) (L:Led),(J2h L note).length≤L.length+note.length
 | [],L=>by simp [J2h]
 | x::note,L=>by
  have h1:=Jbn note (J0j L x.1 x.2)
  have h2:=Jdv L x.1 x.2
  have e:J2h L (x::note)=J2h (J0j L x.1 x.2) note:=rfl
  rw [e,Y0z];omega
theorem J6v:∀ (note:Note) (L:Led) {e:Mk × Int},e ∈ J2h L note→(∃ x ∈ note,e.1=x.1)∨e ∈ L
 | [],L,e,h=>.inr h
 | x::note,L,e,h=>by
  rcases J6v note (J0j L x.1 x.2) h with ⟨y,hy,he⟩ | h
  ·exact .inl ⟨y,Y04 _ hy,he⟩
  rcases J1j h with h | h
  ·exact .inl ⟨x,Y03,h⟩
  exact .inr h
theorem J6b (e:Mk × Int) (L:Led):cnt (e::L)=e.2.toNat+cnt L:=by simp [cnt]
theorem J5h {L:Led} (h:∀ e ∈ L,1≤e.2):L.length≤cnt L:=by
 induction L with
 | nil=>exact Nat.zero_le _
 | cons y r ih =>
  have h1:=ih (fun e he=>h e (Y04 _ he))
  have h2:=h y Y03
  rw [J6b,Y0z];omega
theorem Pos.enter1 {L:Led} (h:Pos L) (m:Mk) (hc:cnt L≤1000000):Pos (J0j L m 1)∧cnt (J0j L m 1)=cnt L+1:=by
 by_cases hm:∃ v,(m,v) ∈ L
 ·obtain ⟨v,hv⟩:=hm
  have hp:=Jf3 h.nodup hv
  have hc2:=J7j hp
  rw [J6b] at hc2
  have h1:=h.pos _ hv
  simp only at h1 hc2
  have hg:getL L m=v:=J2e h.nodup hv
  have hw:w64 (getL L m+1)=v+1:=by rw [hg];exact J25 (by omega) (by omega)
  have e:J0j L m 1=insK m (v+1) (L.filter (fun e=>!(e.1 == m))):=by unfold J0j;rw [hw,if_neg (by omega)]
  refine ⟨⟨J1n m 1 h.nodup,fun x hx=>?_⟩,?_⟩
  ·rw [e] at hx
   rcases List.mem_cons.1 ((J1g _ _ _).mem_iff.1 hx) with hx | hx
   ·rw [hx];simp only;omega
   exact h.pos x (List.mem_filter.1 hx).1
  rw [e,J7j (J1g _ _ _),J6b]
  simp only
  omega
 have hk:∀ e ∈ L,e.1≠m:=fun e he hk=>hm ⟨e.2,by rw [← hk];exact he⟩
 have hw:w64 (getL L m+1)=1:=by rw [J3z hk];rfl
 have e:J0j L m 1=insK m 1 L:=by unfold J0j;rw [hw,if_neg (by omega),J3s hk]
 refine ⟨⟨J1n m 1 h.nodup,fun x hx=>?_⟩,?_⟩
 ·rw [e] at hx
  rcases List.mem_cons.1 ((J1g _ _ _).mem_iff.1 hx) with hx | hx
  ·rw [hx];simp
  exact h.pos x hx
 rw [e,J7j (J1g _ _ _),J6b]
 simp only
 omega
theorem Pos.enterN {L:Led} (h:Pos L) {m:Mk} {v:Int} (hv:(m,v) ∈ L) (hc:cnt L≤1000000):Pos (J0j L m (-1))∧cnt (J0j L m (-1))+1=cnt L:=by
 have hp:=Jf3 h.nodup hv
 have hc2:=J7j hp
 rw [J6b] at hc2
 have h1:=h.pos _ hv
 simp only at h1 hc2
 have hg:getL L m=v:=J2e h.nodup hv
 have hw:w64 (getL L m+-1)=v - 1:=by rw [hg];exact J25 (by omega) (by omega)
 by_cases h0:v=1
 ·have e:J0j L m (-1)=L.filter (fun e=>!(e.1 == m)):=by unfold J0j;rw [hw,if_pos (by omega)]
  refine ⟨⟨J1n m (-1) h.nodup,fun x hx=>?_⟩,?_⟩
  ·rw [e] at hx
   exact h.pos x (List.mem_filter.1 hx).1
  rw [e];omega
 have e:J0j L m (-1)=insK m (v - 1) (L.filter (fun e=>!(e.1 == m))):=by unfold J0j;rw [hw,if_neg (by omega)]
 refine ⟨⟨J1n m (-1) h.nodup,fun x hx=>?_⟩,?_⟩
 ·rw [e] at hx
  rcases List.mem_cons.1 ((J1g _ _ _).mem_iff.1 hx) with hx | hx
  ·rw [hx];simp only;omega
  exact h.pos x (List.mem_filter.1 hx).1
 rw [e,J7j (J1g _ _ _),J6b]
 simp only
 omega
def J1k (N:Int) (m:Mk):Prop:=0≤m.1∧m.1<N
def msgs (has:List Led):Nat:=(has.map cnt).sum
def J5c (ns:List (List (List Note))):Nat:=(ns.map (fun r=>(r.map List.length).sum)).sum
def J7r (r:List (List Note)):Nat:=(r.map (fun q=>(q.map List.length).sum)).sum
structure J2g (W:Nat) (N:Int) (has:List Led):Prop where
 len:has.length=W
 pos:∀ L ∈ has,Pos L
 node:∀ L ∈ has,∀ e ∈ L,J1k N e.1
structure Inv (W:Nat) (N:Int) (st:St):Prop where
 has:J2g W N st.has
 llen:st.led.length=W
 nlen:st.notes.length=W∧∀ r ∈ st.notes,r.length=W
 ledN:∀ L ∈ st.led,(L.map (·.1)).Nodup∧∀ e ∈ L,J1k N e.1
 noteN:∀ r ∈ st.notes,∀ q ∈ r,∀ note ∈ q,∀ x ∈ note,J1k N x.1
def phi (st:St):Nat:=4*st.script.length+4*msgs st.has+J5c st.notes
def psi (st:St) (i:Nat):Nat:=(st.ledOf i).length+J7r (st.notes.getD i [])+msgs st.has+2*st.script.length
theorem J0i {α:Type} {l:List α} {i:Nat} (h:i<l.length) (d:α):l.getD i d ∈ l:=by
 rw [Y01,Y05 h];exact Y0l h
theorem J2g.set {W:Nat} {N:Int} {has:List Led} (h:J2g W N has) (i:Nat) {L:Led} (hp:Pos L) (hn:∀ e ∈ L,J1k N e.1):J2g W N (has.set i L) :=
 ⟨by rw [Y0q];exact h.len,fun x hx=>by rcases List.mem_or_eq_of_mem_set hx with hx | rfl;exact h.pos x hx;exact hp,fun x hx=>by rcases List.mem_or_eq_of_mem_set hx with hx | rfl;exact h.node x hx;exact hn⟩
theorem J1d {has:List Led} {i:Nat} (hi:i<has.length):cnt (has.getD i [])≤msgs has:=J4b cnt [] has i hi
theorem J51 {has:List Led} {i:Nat} (L:Led) (hi:i<has.length):msgs (has.set i L)+cnt (has.getD i [])=msgs has+cnt L:=Jb9 cnt L [] has i hi
structure Js0 (W:Nat) (N:Int) (s s':WS):Prop where
 has:J2g W N s'.has
 msg:msgs s'.has+s'.script.length≤msgs s.has+s.script.length
 ent:s'.note.length+msgs s'.has+2*s'.script.length≤s.note.length+msgs s.has+2*s.script.length
 node:(∀ x ∈ s.note,J1k N x.1)→∀ x ∈ s'.note,J1k N x.1
theorem Jja (many:Int):numP [] many=0:=rfl
theorem Jcf {W:Nat} {N:Int} {m:Mk} {s:WS} {e:Ed} (h:J2g W N s.has) (hc:msgs s.has≤1000000) (he:0≤e.2.1∧e.2.1<N):Js0 W N s (J20 W m s e):=by
 unfold J20
 split
 ·split
  ·exact ⟨h,by simp only [List.length_tail];omega,by simp only [List.length_tail];omega,fun hx=>hx⟩
  rename_i h1 h0
  have hr:=J3q s.script (show (1:Int)≤(W:Int)+1 by omega)
  have hsc:1≤s.script.length:=by
   cases hs:s.script with
   | cons x r=>simp
   | nil=>rw [hs] at h0;exact absurd (Jja _) h0
  have hj:(numP s.script ((W:Int)+1) - 1).toNat<s.has.length:=by rw [h.len];omega
  generalize (numP s.script ((W:Int)+1) - 1).toNat=j at *
  have hP:=h.pos _ (J0i hj [])
  have hle:=J1d hj
  obtain ⟨g1,g2⟩:=hP.enter1 (e.2.1,J0l m.2 (tmOf e.2.2)) (by omega)
  have hms:=J51 (J0j (s.has.getD j []) (e.2.1,J0l m.2 (tmOf e.2.2)) 1) hj
  refine ⟨h.set j g1 (fun x hx=>?_),?_,?_,fun hn x hx=>?_⟩
  ·rcases J1j hx with hx | hx
   ·rw [hx];exact he
   exact h.node _ (J0i hj []) x hx
  ·simp only [List.length_tail];omega
  ·simp only [List.length_tail,Y02,Y10];omega
  rcases Y0m.1 hx with hx | hx
  ·exact hn x hx
  rw [Y11.1 hx];exact he
 exact ⟨h,Y0e _,Y0e _,fun hx=>hx⟩
theorem Jez {W:Nat} {N:Int} {m:Mk} : ∀ (E:List Ed) (s:WS),J2g W N s.has→msgs s.has+s.script.length≤1000000→(∀ e ∈ E,0≤e.2.1∧e.2.1<N)→Js0 W N s (E.foldl (J20 W m) s)
 | [],s,h,_,_=>⟨h,Y0e _,Y0e _,fun hx=>hx⟩
 | e::E,s,h,hc,he=>by
  have h1:=Jcf (m:=m) h (by omega) (he e Y03)
  have h2:=Jez (m:=m) E (J20 W m s e) h1.has (by have:=h1.msg;omega) (fun x hx=>he x (Y04 _ hx))
  exact ⟨h2.has,by have:=h1.msg;have:=h2.msg;rw [List.foldl_cons];omega,by have:=h1.ent;have:=h2.ent;rw [List.foldl_cons];omega,fun hx=>h2.node (h1.node hx)⟩
theorem Jek {ns:List (List (List Note))} {i k:Nat} {q:List Note} {W:Nat} (h:ns.length=W∧∀ r ∈ ns,r.length=W) (hi:i<W):(putQ ns i k q).length=W∧∀ r ∈ putQ ns i k q,r.length=W:=by
 refine ⟨by simp only [putQ,Y0q];exact h.1,fun r hr=>?_⟩
 simp only [putQ] at hr
 rcases List.mem_or_eq_of_mem_set hr with hr | rfl
 ·exact h.2 r hr
 rw [Y0q];exact h.2 _ (J0i (by rw [h.1];exact hi) [])
theorem J7f {ns:List (List (List Note))} {i k:Nat} (q:List Note) {W:Nat} (h:ns.length=W∧∀ r ∈ ns,r.length=W) (hi:i<W) (hk:k<W):J5c (putQ ns i k q)+(qOf ns i k).length=J5c ns+q.length:=by
 have h1:=Jb9 (fun r:List (List Note)=>(r.map List.length).sum) ((ns.getD i []).set k q) [] ns i (by rw [h.1];exact hi)
 have h2:=Jb9 (List.length (α:=Note)) q [] (ns.getD i []) k (by rw [h.2 _ (J0i (by rw [h.1];exact hi) [])];exact hk)
 simp only [J5c,putQ,qOf]
 omega
theorem J63 {ns:List (List (List Note))} {i j k:Nat} (q:List Note) (h:i≠j):(putQ ns i k q).getD j []=ns.getD j []:=by
 unfold putQ;exact getD_set_ne _ _ _ h
theorem Jj1 {ns:List (List (List Note))} {i k:Nat} (q:List Note) {W:Nat} (h:ns.length=W∧∀ r ∈ ns,r.length=W) (hi:i<W) (hk:k<W):J7r ((putQ ns i k q).getD i [])+((qOf ns i k).map List.length).sum=J7r (ns.getD i [])+(q.map List.length).sum:=by
 have e:(putQ ns i k q).getD i []=(ns.getD i []).set k q:=by unfold putQ;exact J0o _ _ _ _ (by rw [h.1];exact hi)
 have h2:=Jb9 (fun q:List Note=>(q.map List.length).sum) q [] (ns.getD i []) k (by rw [h.2 _ (J0i (by rw [h.1];exact hi) [])];exact hk)
 rw [e]
 simp only [J7r,qOf]
 omega
theorem Jje {ns:List (List (List Note))} {i k:Nat} {q:List Note} {N:Int} (h:∀ r ∈ ns,∀ q ∈ r,∀ note ∈ q,∀ x ∈ note,J1k N x.1) (hq:∀ note ∈ q,∀ x ∈ note,J1k N x.1) (hi:i<ns.length):∀ r ∈ putQ ns i k q,∀ q ∈ r,∀ note ∈ q,∀ x ∈ note,J1k N x.1:=by
 intro r hr p hp
 simp only [putQ] at hr
 rcases List.mem_or_eq_of_mem_set hr with hr | rfl
 ·exact h r hr p hp
 rcases List.mem_or_eq_of_mem_set hp with hp | rfl
 ·exact h _ (J0i hi []) p hp
 exact hq
theorem Jix {ns:List (List (List Note))} {i k:Nat} {N:Int} (h:∀ r ∈ ns,∀ q ∈ r,∀ note ∈ q,∀ x ∈ note,J1k N x.1):∀ note ∈ qOf ns i k,∀ x ∈ note,J1k N x.1:=by
 intro note hn
 unfold qOf at hn
 by_cases hi:i<ns.length
 ·by_cases hk:k<(ns.getD i []).length
  ·exact h _ (J0i hi []) _ (J0i hk []) note hn
  rw [Y01 (l:=ns.getD i []),Y0w (by omega)] at hn
  cases hn
 rw [Y01 (l:=ns),Y0w (by omega)] at hn
 simp at hn
structure Jsr (W:Nat) (N:Int) (i:Nat) (note:Note) (n:Nat) (ns ns':List (List (List Note))):Prop where
 len:ns'.length=W∧∀ r ∈ ns',r.length=W
 tot:J5c ns'+(if i<n then 1 else 0)≤J5c ns+n
 row:∀ j,J7r (ns'.getD j [])≤J7r (ns.getD j [])+(if j<n∧j≠i then note.length else 0)
 node:∀ r ∈ ns',∀ q ∈ r,∀ note ∈ q,∀ x ∈ note,J1k N x.1
theorem Jj4 {W:Nat} {N:Int} {i:Nat} {note:Note} {ns:List (List (List Note))} (hi:i<W) (h:ns.length=W∧∀ r ∈ ns,r.length=W) (hn:∀ r ∈ ns,∀ q ∈ r,∀ note ∈ q,∀ x ∈ note,J1k N x.1) (hx:∀ x ∈ note,J1k N x.1) :
  ∀ n,n≤W→Jsr W N i note n ns ((List.range n).foldl (J0y i note) ns)
 | 0,_=>⟨h,by simp,fun j=>by simp,hn⟩
 | n+1,hW=>by
  have ih:=Jj4 hi h hn hx n (by omega)
  rw [List.range_succ,List.foldl_append]
  generalize (List.range n).foldl (J0y i note) ns=ns1 at *
  simp only [List.foldl_cons,List.foldl_nil]
  unfold J0y
  by_cases hni:n=i
  ·subst hni
   rw [if_pos rfl]
   refine ⟨ih.len,?_,fun j=>?_,ih.node⟩
   ·have:=ih.tot
    rw [if_neg (by omega)] at this
    rw [if_pos (by omega)];omega
   have:=ih.row j
   by_cases hj:j<n∧j≠n
   ·rw [if_pos hj] at this;rw [if_pos ⟨by omega,hj.2⟩];exact this
   rw [if_neg hj] at this
   exact Nat.le_trans this (Nat.le_add_right _ _)
  rw [if_neg hni]
  have hq:(ns1.getD n []).getD i []=qOf ns1 n i:=rfl
  rw [hq]
  refine ⟨Jek ih.len (by omega),?_,fun j=>?_,Jje ih.node (fun p hp=>?_) (by rw [ih.len.1];omega)⟩
  ·have h1:=J7f (qOf ns1 n i++[note]) ih.len (show n<W by omega) hi
   rw [Y02,Y10] at h1
   have:=ih.tot
   by_cases hin:i<n
   ·rw [if_pos hin] at this;rw [if_pos (by omega)];omega
   rw [if_neg hin] at this;rw [if_neg (by omega)];omega
  ·by_cases hj:n=j
   ·subst hj
    have h1:=Jj1 (qOf ns1 n i++[note]) ih.len (show n<W by omega) hi
    rw [List.map_append,List.sum_append] at h1
    simp only [List.map_cons,List.map_nil,List.sum_cons,List.sum_nil] at h1
    have:=ih.row n
    rw [if_neg (by omega)] at this
    rw [if_pos ⟨by omega,hni⟩];omega
   rw [J63 _ hj]
   have:=ih.row j
   by_cases hj2:j<n∧j≠i
   ·rw [if_pos hj2] at this;rw [if_pos ⟨by omega,hj2.2⟩];exact this
   rw [if_neg hj2] at this
   exact Nat.le_trans this (Nat.le_add_right _ _)
  rcases Y0m.1 hp with hp | hp
  ·exact Jix ih.node p hp
  rw [Y11.1 hp];exact hx
structure Jpf (W:Nat) (N:Int) (st st':St):Prop where
 inv:Inv W N st'
 phi:phi st'<phi st
 psi:∀ i,i<W→psi st' i≤psi st i
theorem J8y {st:St} {W:Nat} (hl:st.led.length=W) {i j:Nat} (hi:i<W) (L:Led):(st.led.set i L).getD j []=if j=i then L else st.ledOf j:=by
 by_cases h:j=i
 ·subst h;rw [if_pos rfl];exact J0o _ _ _ _ (by rw [hl];exact hi)
 rw [if_neg h];exact getD_set_ne _ _ _ (Ne.symm h)
theorem Jbm:∀ (note:Note) (L:Led),(L.map (·.1)).Nodup→((J2h L note).map (·.1)).Nodup
 | [],_,h=>h
 | x::note,L,h=>Jbm note (J0j L x.1 x.2) (J1n x.1 x.2 h)
theorem Jjh {W:Nat} {N:Int} {st:St} (h:Inv W N st) {i:Nat} {note:Note} (hi:i<W) (hx:∀ x ∈ note,J1k N x.1):∀ L ∈ st.led.set i (J2h (st.ledOf i) note),(L.map (·.1)).Nodup∧∀ e ∈ L,J1k N e.1:=by
 intro L hL
 rcases List.mem_or_eq_of_mem_set hL with hL | rfl
 ·exact h.ledN L hL
 have hm:=h.ledN _ (J0i (l:=st.led) (by rw [h.llen];exact hi) [])
 refine ⟨Jbm _ _ hm.1,fun e he=>?_⟩
 rcases J6v _ _ he with ⟨x,hx2,hk⟩ | he
 ·rw [hk];exact hx x hx2
 exact hm.2 e he
theorem Jlx {W:Nat} {N:Int} {E:List Ed} {st:St} (h:Inv W N st) (hW:W≤4) (hE:∀ e ∈ E,0≤e.2.1∧e.2.1<N) (hc:msgs st.has+st.script.length≤1000000) {i:Nat} {m:Mk} (hi:i<W) (hm:∃ v,(m,v) ∈ st.hasOf i):Jpf W N st (J33 E W st i m):=by
 obtain ⟨v,hv⟩:=hm
 have hil:i<st.has.length:=by rw [h.has.len];exact hi
 have hmem:=J0i hil ([]:Led)
 have hle:=J1d hil
 obtain ⟨g1,g2⟩:=(h.has.pos _ hmem).enterN hv (by omega)
 have hms:=J51 (J0j (st.has.getD i []) m (-1)) hil
 have hmn:J1k N m:=h.has.node _ hmem _ hv
 have h0:J2g W N (st.has.set i (J0j (st.hasOf i) m (-1))):=h.has.set i g1 (fun x hx=>by
  rcases J1j hx with hx | hx
  ·rw [hx];exact hmn
  exact h.has.node _ hmem x hx)
 have hI:=Jez (W:=W) (N:=N) (m:=m) E ⟨st.has.set i (J0j (st.hasOf i) m (-1)),st.script,st.sent,[(m,-1)]⟩ h0 (by
  simp only;have:(st.has.getD i [])=st.hasOf i:=rfl;rw [this] at hms g2 hle;omega) hE
 have hW2:E.foldl (J20 W m) ⟨st.has.set i (J0j (st.hasOf i) m (-1)),st.script,st.sent,[(m,-1)]⟩=J4w E W st i m:=rfl
 rw [hW2] at hI
 generalize hsF:J4w E W st i m=sF at *
 have hx:∀ x ∈ sF.note,J1k N x.1:=hI.node (fun x hx=>by rw [Y11.1 hx];exact hmn)
 have hP:=Jj4 (N:=N) (note:=sF.note) hi h.nlen h.noteN hx W (Y0e _)
 have hI1:=hI.msg
 have hI2:=hI.ent
 have hP1:=hP.tot
 rw [if_pos hi] at hP1
 simp only [Y10] at hI1 hI2
 have e1:(st.has.getD i [])=st.hasOf i:=rfl
 rw [e1] at hms g2 hle
 refine ⟨⟨?_,?_,?_,?_,?_⟩,?_,fun j hj=>?_⟩
 ·simp only [J33,hsF];exact hI.has
 ·simp only [J33,hsF,Y0q];exact h.llen
 ·simp only [J33,hsF];exact hP.len
 ·simp only [J33,hsF];exact Jjh h hi hx
 ·simp only [J33,hsF];exact hP.node
 ·simp only [phi,J33,hsF,J9l]
  omega
 have hr:=hP.row j
 have hl:((J33 E W st i m).ledOf j).length≤(st.ledOf j).length+(if j=i then sF.note.length else 0):=by
  simp only [St.ledOf,J33,hsF]
  rw [J8y h.llen hi]
  split
  ·rename_i hji
   subst hji
   exact Jbn _ _
  exact Y0e _
 have hsum:(if j<W∧j≠i then sF.note.length else 0)+(if j=i then sF.note.length else 0)=sF.note.length:=by
  by_cases hji:j=i
  ·subst hji;simp
  rw [if_pos ⟨hj,hji⟩,if_neg hji];rfl
 unfold psi
 have e2:(J33 E W st i m).notes=(List.range W).foldl (J0y i sF.note) st.notes:=by simp only [J33,hsF,J9l]
 have e3:(J33 E W st i m).has=sF.has:=by simp only [J33,hsF]
 have e4:(J33 E W st i m).script=sF.script:=by simp only [J33,hsF]
 rw [e2,e3,e4]
 omega
theorem Jm4 {W:Nat} {N:Int} {st:St} (h:Inv W N st) {i k:Nat} (hi:i<W) (hk:k<W) (hq:st.queue i k≠[]):Jpf W N st (J9g st i k):=by
 have hq2:qOf st.notes i k=st.queue i k:=rfl
 cases hqq:st.queue i k with
 | nil=>exact absurd hqq hq
 | cons note q=>?_
 have hnode:=Jix (i:=i) (k:=k) h.noteN
 rw [hq2,hqq] at hnode
 have hx:∀ x ∈ note,J1k N x.1:=hnode note Y03
 have h1:=J7f q h.nlen hi hk
 have h2:=Jj1 q h.nlen hi hk
 rw [hq2,hqq] at h1 h2
 simp only [Y0z,List.map_cons,List.sum_cons] at h1 h2
 have et:J9g st i k={ st with led:=st.led.set i (J2h (st.ledOf i) note),notes:=putQ st.notes i k q,nts:=w64 (st.nts+1) }:=by
  unfold J9g;rw [hqq];rfl
 rw [et]
 refine ⟨⟨h.has,by simp only [Y0q];exact h.llen,Jek h.nlen hi,Jjh h hi hx,Jje h.noteN (fun p hp=>hnode p (Y04 _ hp)) (by rw [h.nlen.1];exact hi)⟩,?_,fun j hj=>?_⟩
 ·simp only [phi];omega
 unfold psi
 simp only [St.ledOf]
 rw [J8y h.llen hi]
 by_cases hji:j=i
 ·subst hji
  rw [if_pos rfl]
  have:=Jbn note (st.led.getD j [])
  have e9:st.ledOf j=st.led.getD j []:=rfl
  omega
 rw [if_neg hji,J63 _ (Ne.symm hji)]
 exact Y0e _
theorem Jg7 {W:Nat} {N:Int} {E:List Ed} {st:St} (h:Inv W N st) (hW:W≤4) (hE:∀ e ∈ E,0≤e.2.1∧e.2.1<N) (hc:phi st≤1000000) {mv:Mv} (hm:MvOk W st mv):Jpf W N st (Jkv E W st mv):=by
 cases mv with
 | take i k=>exact Jm4 h hm.1 hm.2.1 hm.2.2
 | work i m=>exact Jlx h hW hE (by unfold phi at hc;omega) hm.1 hm.2
theorem MvOk.script {W:Nat} {st:St} {mv:Mv} (h:MvOk W st mv) (sc:List Int):MvOk W { st with script:=sc } mv:=by
 cases mv<;>exact h
theorem J49 {α:Type} {l:List α} {i:Nat} {d x:α} (hd:d ∈ l) (h:l.getD i d=x):x ∈ l:=by
 by_cases hi:i<l.length
 ·rw [← h];exact J0i hi d
 rw [Y01,Y0w (by omega)] at h
 rw [← h];exact hd
theorem Jm9 {W:Nat} {N:Int} {E:List Ed} {st st':St} (h:Inv W N st) (hW:W≤4) (hE:∀ e ∈ E,0≤e.2.1∧e.2.1<N) (hc:phi st≤1000000) (hs:J2j E W st=some st'):Jpf W N st st':=by
 unfold J2j at hs
 cases hm:J28 W st with
 | nil=>rw [hm] at hs;cases hs
 | cons a l=>?_
 rw [hm] at hs
 simp only [Option.some.injEq] at hs
 generalize hmv:(a::l).getD (numP st.script ((l.length:Int)+1)).toNat a=mv at *
 have hmem:mv ∈ J28 W st:=by rw [hm];exact J49 Y03 hmv
 have hok:=(J6w hmem).script st.script.tail
 have h2:Inv W N { st with script:=st.script.tail }:=⟨h.has,h.llen,h.nlen,h.ledN,h.noteN⟩
 have hp2:phi { st with script:=st.script.tail }≤phi st:=by simp only [phi,List.length_tail];omega
 have:=Jg7 (E:=E) h2 hW hE (by omega) hok
 rw [hs] at this
 refine ⟨this.inv,by have:=this.phi;omega,fun i hi=>Nat.le_trans (this.psi i hi) ?_⟩
 simp only [psi,List.length_tail,St.ledOf];omega
structure Reach (W:Nat) (N:Int) (st:St):Prop where
 inv:Inv W N st
 phi:phi st≤1232
 psi:∀ i,i<W→psi st i≤616
theorem Reach.step {W:Nat} {N:Int} {E:List Ed} {st st':St} (h:Reach W N st) (hW:W≤4) (hE:∀ e ∈ E,0≤e.2.1∧e.2.1<N) (hs:J2j E W st=some st'):Reach W N st'∧Mdl.phi st'<Mdl.phi st:=by
 have hm:=Jm9 h.inv hW hE (by have:=h.phi;omega) hs
 exact ⟨⟨hm.inv,by have:=h.phi;have:=hm.phi;omega,fun i hi=>Nat.le_trans (hm.psi i hi) (h.psi i hi)⟩,hm.phi⟩
theorem Reach.hasOk {W:Nat} {N:Int} {st:St} (h:Reach W N st) (hN:N≤8):Jnv W st:=by
 refine ⟨fun i hi e he=>?_,fun i hi=>?_⟩
 ·have:=h.inv.has.node _ (J0i (by rw [h.inv.has.len];exact hi) []) e he
  unfold J1k at this
  unfold okM;omega
 have h1:=J5h (h.inv.has.pos _ (J0i (l:=st.has) (i:=i) (by rw [h.inv.has.len];exact hi) [])).pos
 have h2:=J1d (has:=st.has) (i:=i) (by rw [h.inv.has.len];exact hi)
 have h3:=h.phi
 unfold Mdl.phi at h3
 show (st.has.getD i []).length≤_
 omega
theorem Reach.queue {W:Nat} {N:Int} {st:St} (h:Reach W N st) (j k:Nat):(st.queue j k).length≤1232:=by
 by_cases hj:j<st.notes.length
 ·by_cases hk:k<(st.notes.getD j []).length
  ·have h1:=J4b (List.length (α:=Note)) [] (st.notes.getD j []) k hk
   have h2:=J4b (fun r:List (List Note)=>(r.map List.length).sum) [] st.notes j hj
   have h3:=h.phi
   unfold Mdl.phi J5c at h3
   show ((st.notes.getD j []).getD k []).length≤_
   omega
  show ((st.notes.getD j []).getD k []).length≤_
  rw [Y01 (l:=st.notes.getD j []),Y0w (by omega)]
  simp
 show ((st.notes.getD j []).getD k []).length≤_
 rw [Y01 (l:=st.notes),Y0w (by omega)]
 simp
theorem J91 {α β:Type} (f:α→List β) (K:Nat):∀ l:List α,(∀ x ∈ l,(f x).length≤K)→(l.flatMap f).length≤l.length*K
 | [],_=>by simp
 | x::l,h=>by
  have h1:=J91 f K l (fun y hy=>h y (Y04 _ hy))
  have h2:=h x Y03
  rw [List.flatMap_cons,Y02,Y0z,Nat.succ_mul];omega
theorem J6q (l:List Mk):(J61 l).length=l.length:=(J2a ordN (l:=l) (fun _ _=>trivial)).2.length_eq
theorem Reach.moves {W:Nat} {N:Int} {st:St} (h:Reach W N st) (hW:W≤4):(J28 W st).length≤1000000:=by
 rw [J8w,Y02]
 have h1:=J91 (fW st) 308 (List.range W) (fun i hi=>by
  have hi:=Y12.1 hi
  unfold fW
  rw [Y0g,J6q,Y0g]
  have h1:=J5h (h.inv.has.pos _ (J0i (l:=st.has) (i:=i) (by rw [h.inv.has.len];exact hi) [])).pos
  have h2:=J1d (has:=st.has) (i:=i) (by rw [h.inv.has.len];exact hi)
  have h3:=h.phi
  unfold Mdl.phi at h3
  show (st.has.getD i []).length≤_
  omega)
 have h2:=J91 (fT W st) 4 (List.range W) (fun i _=>by
  unfold fT
  have:=J91 (gT st i) 1 (List.range W) (fun k _=>by unfold gT;split<;>simp)
  rw [List.length_range] at this;omega)
 rw [List.length_range] at h1 h2
 have:W*308≤4*308:=Nat.mul_le_mul_right _ hW
 have:W*4≤4*4:=Nat.mul_le_mul_right _ hW
 omega
theorem Reach.led_len {W:Nat} {N:Int} {st:St} (h:Reach W N st) {i:Nat} (hi:i<W):(st.ledOf i).length≤616:=by
 have:=h.psi i hi
 unfold Mdl.psi at this;omega
theorem Ja4 {N:Int} : ∀ (ms:List Msg) (L:Led),(L.map (·.1)).Nodup→(∀ e ∈ L,J1k N e.1)→(∀ m ∈ ms,J1k N (J0v m)) →
  (((ms.foldl (fun L m=>J0j L (J0v m) 1) L).map (·.1)).Nodup∧(∀ e ∈ ms.foldl (fun L m=>J0j L (J0v m) 1) L,J1k N e.1))∧(ms.foldl (fun L m=>J0j L (J0v m) 1) L).length≤L.length+ms.length
 | [],L,h1,h2,_=>⟨⟨h1,h2⟩,Y0e _⟩
 | m::ms,L,h1,h2,hm=>by
  have h:=Ja4 ms (J0j L (J0v m) 1) (J1n _ _ h1) (fun e he=>by
   rcases J1j he with he | he
   ·rw [he];exact hm m Y03
   exact h2 e he) (fun x hx=>hm x (Y04 _ hx))
  refine ⟨h.1,Nat.le_trans h.2 ?_⟩
  have:=Jdv L (J0v m) 1
  rw [Y0z];omega
theorem J6p {W:Nat} {N:Int} : ∀ (ms:List Msg) (has:List Led),J2g W N has→msgs has+ms.length≤1000→(∀ m ∈ ms,J1k N (J0v m)∧m.2.toNat<W) →
  J2g W N (ms.foldl J2c has)∧msgs (ms.foldl J2c has)=msgs has+ms.length
 | [],has,h,_,_=>⟨h,rfl⟩
 | m::ms,has,h,hc,hm=>by
  obtain ⟨hn,hw⟩:=hm m Y03
  have hl:m.2.toNat<has.length:=by rw [h.len];exact hw
  have hle:=J1d hl
  rw [Y0z] at hc
  obtain ⟨g1,g2⟩:=(h.pos _ (J0i hl [])).enter1 (J0v m) (by omega)
  have hms:=J51 (J0j (has.getD m.2.toNat []) (J0v m) 1) hl
  have h2:J2g W N (J2c has m):=h.set _ g1 (fun e he=>by
   rcases J1j he with he | he
   ·rw [he];exact hn
   exact h.node _ (J0i hl []) e he)
  have e2:msgs (J2c has m)=msgs has+1:=by unfold J2c;omega
  have ih:=J6p ms (J2c has m) h2 (by omega) (fun x hx=>hm x (Y04 _ hx))
  exact ⟨ih.1,by rw [List.foldl_cons,ih.2,e2,Y0z];omega⟩
theorem J5f {N Wd workers:Int} {m:Msg} (h:J3g N Wd workers m=true):J1k N (J0v m):=by
 simp only [J3g,Y0x,Y0y] at h
 exact h.1
theorem J46 {α:Type} (f:α→Nat):∀ l:List α,(∀ x ∈ l,f x=0)→(l.map f).sum=0
 | [],_=>rfl
 | x::l,h=>by
  rw [List.map_cons,List.sum_cons,h x Y03,J46 f l (fun y hy=>h y (Y04 _ hy))]
theorem J8d {p:Plan} {ways:Ways} {script:List Int} {W:Nat} (h:J0t p=some ways) (hs:script.length≤300) (hW:p.workers=W):Reach W p.N (J0s W p.start script):=by
 obtain ⟨_,⟨h1,h4,h8⟩,hm⟩:=J5d h
 have hnode:∀ m ∈ p.start,J1k p.N (J0v m):=fun m hx=>J5f (hm m hx)
 obtain ⟨⟨a1,a2⟩,a3⟩:=Ja4 p.start [] List.nodup_nil (fun e he=>by cases he) hnode
 have h0:J2g W p.N (List.replicate W []):=⟨by simp,fun L hL=>by rw [List.eq_of_mem_replicate hL];exact ⟨List.nodup_nil,fun e he=>by cases he⟩,fun L hL=>by rw [List.eq_of_mem_replicate hL];exact fun e he=>by cases he⟩
 have hm0:msgs (List.replicate W ([]:Led))=0:=J46 _ _ (fun L hL=>by rw [List.eq_of_mem_replicate hL];rfl)
 obtain ⟨b1,b2⟩:=J6p p.start _ h0 (by omega) (fun m hx=>⟨hnode m hx,by have:=J8v (hm m hx);omega⟩)
 have hq0:J5c (List.replicate W (List.replicate W []))=0:=J46 _ _ (fun r hr=>by rw [List.eq_of_mem_replicate hr];exact J46 _ _ (fun q hq=>by rw [List.eq_of_mem_replicate hq];rfl))
 have hle:(J17 p.start).length≤8:=by
  have:(J17 p.start).length≤([]:Led).length+p.start.length:=a3
  simp at this;omega
 refine ⟨⟨b1,by simp [J0s],⟨by simp [J0s],fun r hr=>?_⟩,fun L hL=>?_,fun r hr q hq note hn=>?_⟩,?_,fun i hi=>?_⟩
 ·rw [List.eq_of_mem_replicate (show r ∈ List.replicate W (List.replicate W []) from hr)];simp
 ·rw [List.eq_of_mem_replicate (show L ∈ List.replicate W (J17 p.start) from hL)]
  exact ⟨a1,a2⟩
 ·rw [List.eq_of_mem_replicate (show r ∈ List.replicate W (List.replicate W []) from hr)] at hq
  rw [List.eq_of_mem_replicate hq] at hn
  cases hn
 ·simp only [phi,J0s,hq0]
  have:msgs (J27 W p.start)=0+p.start.length:=by rw [← hm0];exact b2
  omega
 have hl:((J0s W p.start script).ledOf i).length≤8:=by
  show ((List.replicate W (J17 p.start)).getD i []).length≤8
  rw [Y01,List.getElem?_replicate,if_pos hi]
  exact hle
 have hq:J7r ((J0s W p.start script).notes.getD i [])=0:=by
  show J7r ((List.replicate W (List.replicate W [])).getD i [])=0
  rw [Y01,List.getElem?_replicate,if_pos hi]
  exact J46 _ _ (fun q hq=>by rw [List.eq_of_mem_replicate hq];rfl)
 have hmm:msgs (J0s W p.start script).has=p.start.length:=by
  have:msgs (J27 W p.start)=0+p.start.length:=by rw [← hm0];exact b2
  show msgs (J27 W p.start)=_;omega
 have hsc:(J0s W p.start script).script=script:=rfl
 unfold psi
 rw [hq,hmm,hsc]
 omega
theorem J4j {W:Nat} {N:Int} {E:List Ed} (hW:W≤4) (hE:∀ e ∈ E,0≤e.2.1∧e.2.1<N):∀ (n:Nat) (st:St),Reach W N st→Reach W N (J24 E W n st)
 | 0,_,h=>h
 | n+1,st,h=>by
  unfold J24
  cases hs:J2j E W st with
  | some st'=>exact J4j hW hE n st' (h.step hW hE hs).1
  | none=>exact h
theorem Jgx {N Wd:Int} {e:Ed} (h:J1l N Wd e=true):0≤e.2.1∧e.2.1<N:=by
 simp only [J1l,Y0x,Y0y] at h
 omega
theorem opened_ok {N Wd:Int} {E:List Ed} {ways:Ways} (h:openedP N Wd E=some ways):J7x N Wd E.length∧(∀ e ∈ E,J1l N Wd e=true)∧(List.range N.toNat).mapM (fromP E N.toNat)=some ways:=by
 unfold openedP at h
 split at h
 ·rename_i hc
  exact ⟨hc.1,fun e he=>List.all_eq_true.1 hc.2 e he,h⟩
 cases h
theorem Jjg {α β:Type} {f:α→Option β} : ∀ {l:List α} {r:List β},l.mapM f=some r→r.length=l.length∧∀ y ∈ r,∃ x ∈ l,f x=some y
 | [],r,h=>by
  simp at h
  subst h
  exact ⟨rfl,fun y hy=>by cases hy⟩
 | x::l,r,h=>by
  rw [List.mapM_cons] at h
  cases hx:f x with
  | none=>rw [hx] at h;cases h
  | some y=>?_
  cases hl:l.mapM f with
  | none=>rw [hx,hl] at h;cases h
  | some ys=>?_
  rw [hx,hl] at h
  injection h with h
  subst h
  obtain ⟨h1,h2⟩:=Jjg hl
  refine ⟨by simp [h1],fun z hz=>?_⟩
  rcases List.mem_cons.1 hz with rfl | hz
  ·exact ⟨x,Y03,hx⟩
  obtain ⟨a,b,c⟩:=h2 z hz
  exact ⟨a,Y04 _ b,c⟩
theorem Jm0:∀ {a b:Nat},a≤b→wT a≤wT b
 | 0,_,_=>Nat.zero_le _
 | a+1,b+1,h=>by
  have:=Jm0 (show a≤b by omega)
  simp only [wT];omega
theorem Jly {N Wd:Int} {E:List Ed} {ways:Ways} (h:openedP N Wd E=some ways):J9b N.toNat 286331153 ways:=by
 obtain ⟨⟨h1,h8,_,_,h16⟩,he,hm⟩:=opened_ok h
 obtain ⟨m1,m2⟩:=Jjg hm
 rw [List.length_range] at m1
 have hrow:∀ r ∈ ways,r.length=N.toNat∧∀ l ∈ r,l.length≤286331153:=by
  intro r hr
  obtain ⟨x,hx,hf⟩:=m2 r hr
  have hx:=Y12.1 hx
  unfold fromP at hf
  obtain ⟨rows,hw,hrows⟩:=Option.map_eq_some_iff.1 hf
  obtain ⟨g1,g2⟩:=J8g E _ h16 _ _ _ _ _ _ 0 (fun e hE=>by
   have:=Jgx (he e hE)
   rw [Y0j];omega) (by rw [Y0j];exact hx) (fun r hr=>by rw [List.eq_of_mem_replicate hr];exact Y0e _) hw
  rw [Y0j] at g1
  subst hrows
  refine ⟨by rw [Y0g];exact g1,fun l hl=>?_⟩
  obtain ⟨l0,hl0,rfl⟩:=List.mem_map.1 hl
  have a1:=J7w l0
  have a2:=g2 l0 hl0
  have a3:wT N.toNat≤wT 8:=Jm0 (by omega)
  have a4:wT 8=286331153:=by decide
  omega
 exact ⟨m1,fun r hr=>(hrow r hr).1,fun r hr=>(hrow r hr).2⟩
end Go.Proofs.YtbkfnmgkcgnifaaGreat.Mdl
namespace Go.Proofs.YtbkfnmgkcgnifaaGreat
open Go.RowKit Go.Shelf W1 W2 Mdl Go.ChangeMaps
namespace Mdl
structure Jr0 (p:Plan) (script:List Int) (n who:Int) (ways:Ways) (W:Nat):Prop where
 plan:J0t p=some ways
 wk:p.workers=W
 w1:1≤W
 w4:W≤4
 n0:0≤n
 who0:0≤who
 whoW:who<W
 N1:1≤p.N
 N8:p.N≤8
 Wd1:1≤p.Wd
 Wd3:p.Wd≤3
 E16:p.E.length≤16
 E:∀ e ∈ p.E,0≤e.2.1∧e.2.1<p.N
 ways:J9b p.N.toNat 286331153 ways
 reach:Reach W p.N (J0s W p.start script)
theorem begun_ok {p:Plan} {script:List Int} {n who:Int} {ways:Ways} (h:J16 p script n who=.ok ways):Jr0 p script n who ways p.workers.toNat:=by
 unfold J16 at h
 cases hp:J0t p with
 | none=>rw [hp] at h;cases h
 | some w=>?_
 rw [hp] at h
 simp only at h
 split at h
 ·rename_i hs
  split at h
  ·rename_i hn
   injection h with h
   subst h
   obtain ⟨ho,⟨h1,h4,h8⟩,hm⟩:=J5d hp
   obtain ⟨⟨a1,a2,a3,a4,a5⟩,he,_⟩:=opened_ok ho
   have hw:p.workers=(p.workers.toNat:Int):=by omega
   exact ⟨hp,hw,by omega,by omega,hn.1,hn.2.1,by omega,a1,a2,a3,a4,a5,fun e hE=>Jgx (he e hE),Jly ho,J8d hp hs hw⟩
  cases h
 cases h
theorem Jdo {E:List Ed} {W:Nat} {st:St} (h:J2j E W st=none):∀ n,J24 E W n st=st
 | 0=>rfl
 | n+1=>by unfold J24;rw [h]
theorem Jdn {E:List Ed} {W:Nat} {st st':St} (h:J2j E W st=some st') (n:Nat):J24 E W (n+1) st=J24 E W n st':=by
 conv=>lhs;unfold J24
 rw [h]
end Mdl
def J41 (w:World) (p:Plan) (script:List Int) (n who:Int) (e:Ending) (w':World):Prop :=
 match J16 p script n who with
 | .error c=>e=.panicked (J4g c)∧Below w.heap.size w w'
 | .ok ways=>∃ (rb:Nat) (w0:World) (G:RG),e=.returned (.pointer (some ⟨rb,0,none⟩))∧G.rb=rb∧Below w.heap.size w w0∧w.heap.size≤G.gb∧J4v w0 G.gb p.N p.Wd p.E ways∧J6e w0 G p.workers.toNat (J24 p.E p.workers.toNat n.toNat (J0s p.workers.toNat p.start script)) w'
theorem J9a (p:Plan) (eA mA sA:Option Addr) (eC mC sC:Nat) (script:List Int) (n who:Int) (hn64:n≤9223372036854775807) (w:World) (hp:J1v w p eA mA) (hsC:kI.C w sA script.length script) (hsl:script.length≤sC) :
  Calls Tryz.prog 43 #[J1q p eA eC mA mC,.slice sA script.length sC,.int .i64 n,.int .i64 who] w (J41 w p script n who):=by
 have b1:=J02 w (.cells (pC p eA mA eC mC) 27)
 have hbk:(w.alloc (.cells (pC p eA mA eC mC) 27)).heap[w.heap.size]?=some (.cells (pC p eA mA eC mC) 27 (0,0)):=Y0c w _
 have HBG:=Y08 (Jco p eA mA sA eC mC sC script n who _ (hp.below b1) (Kd.c00 hsC b1) hsl)
 have hSm:=Kd.C_max hp.hS
 have hEm:=Kd.C_max hp.hE
 have hSc:=Kd.C_max hsC
 have H1:=Y00 (Y07 b1 hbk)
 clear hp hsC hsl b1 hbk
 simp only [J1q] at HBG ⊢
 go_enter Tryz.func43,Tryz.ntmps43
 go_upto_region 1 with fail
 generalize w.alloc (.cells (pC p eA mA eC mC) 27)=w1 at *
 obtain ⟨p0,p1,p2,p3,p4⟩:=bc5 H1.out.2
 go_wp2_with fail
 refine HBG.out.mono ?_
 rintro e w2 h2
 unfold J30 at h2
 cases ho:J16 p script n who with
 | error c =>
  rw [ho] at h2
  obtain ⟨rfl,hb2⟩:=h2
  refine ⟨rfl,?_⟩
  unfold J41
  rw [ho]
  exact ⟨rfl,J01 H1.out.1 H1.out.1.size hb2⟩
 | ok ways=>?_
 rw [ho] at h2
 obtain ⟨rb,w0,G,rfl,hrb,hb0,hgb,hG,hR⟩:=h2
 have HO:=Y08 ho
 have HB:=Y08 (begun_ok ho)
 have HG:=Y00 hG
 have HB0:=Y08 (Y07 (J01 H1.out.1 H1.out.1.size hb0) (show w.heap.size≤G.gb by have:=H1.out.1.size;omega))
 have HRB:=Y08 hrb
 have HR:=Y00 hR
 have n0:=HB.out.n0
 obtain ⟨n,rfl⟩:∃ m:Nat,n=m:=⟨n.toNat,by omega⟩
 clear ho hG hR hb0 hgb p0 p1 p2 p3 p4 HBG
 subst hrb
 generalize hWk:p.workers.toNat=W at *
 have HWK:=Y08 hWk
 clear hWk
 go_wp2_with fail
 go_loopw [16] (fun i wr=>∃ k:Nat,k≤n∧i=.int .i64 k∧J08 (∃ st,J6e w0 G W st wr∧Mdl.Reach W p.N st∧J24 p.E W (n - k) st=J24 p.E W n (J0s W p.start script))) (fun i _=>n - (intOf i).toNat)
 case atStart=>exact ⟨0,Nat.zero_le _,rfl,⟨_,HR.out,HB.out.reach,rfl⟩⟩
 clear HR
 obtain ⟨k,hk,rfl,hX⟩:=hrel
 obtain ⟨st,hR,hRe,hit⟩:=hX.out
 have HR:=Y00 (Y07 hR (Y07 hRe hit))
 clear hX hR hRe hit
 by_cases hlt:k<n
 rotate_left
 ·have hkn:¬ ((k:Int)<n):=by omega
  have hkn2:n - k=0:=by omega
  have HF:=Y08 (show J24 p.E W n (J0s W p.start script)=st by rw [← HR.out.2.2,hkn2];rfl)
  clear hkn2
  go_wp2_with fail
  go_ret
  unfold J41
  rw [HO.out]
  refine ⟨_,w0,G,rfl,rfl,HB0.out.1,HB0.out.2,HG.out,?_⟩
  rw [HWK.out,Y06,HF.out]
  exact HR.out.1
 have hkn:(k:Int)<n:=by omega
 have HS:=Y08 (Jec w0 G W st p.N p.Wd p.E ways wr HR.out.1 HG.out HB.out.w4 HB.out.E16 (fun j k=>Nat.le_trans (HR.out.2.1.queue j k) (by decide)) (HR.out.2.1.hasOk HB.out.N8) (HR.out.2.1.moves HB.out.w4))
 have HD:=Y08 (show n - k=(n - (k+1))+1 by omega)
 go_wp2_with fail
 refine HS.out.mono ?_
 rintro e w3 h3
 unfold J6d at h3
 cases hs:J2j p.E W st with
 | some st' =>
  rw [hs] at h3
  obtain ⟨rfl,hR3⟩:=h3
  have HR3:=Y00 (show ∃ st,J6e w0 G W st w3∧Mdl.Reach W p.N st∧J24 p.E W (n - (k+1)) st=J24 p.E W n (J0s W p.start script) from ⟨st',hR3,(HR.out.2.1.step HB.out.w4 HB.out.E hs).1,by rw [← HR.out.2.2,HD.out,Jdn hs]⟩)
  clear hs hR3
  go_wp2_with fail
  exact ⟨⟨k+1,by omega,by go_num,HR3⟩,by simp [intOf];omega⟩
 | none=>?_
 rw [hs] at h3
 obtain ⟨rfl,hR3⟩:=h3
 have HF:=Y08 (show J24 p.E W n (J0s W p.start script)=st by rw [← HR.out.2.2];exact Jdo hs _)
 have HR3:=Y00 hR3
 clear hs hR3
 go_wp2_with fail
 go_ret
 unfold J41
 rw [HO.out]
 refine ⟨_,w0,G,rfl,rfl,HB0.out.1,HB0.out.2,HG.out,?_⟩
 rw [HWK.out,Y06,HF.out]
 exact HR3.out
end Go.Proofs.YtbkfnmgkcgnifaaGreat
namespace Go.Proofs.YtbkfnmgkcgnifaaGreat
open Go.RowKit Go.Shelf W1 W2 Mdl
abbrev kLLI:Kd (List (List Int)):=Kd.slice 36 kLI
theorem Tryz.infoLli:(Tryz.prog.info? 28).map (fun i=>(i.zero,i.size,i.bytes))=some (some (.slice none 0 0),1,24):=by kernel_rfl
theorem Jnl {w:World} {A:Option Addr} {l:List (List Tm)} (h:J23.C w A l.length l) {k:Nat} (hk:k<l.length) :
  ∃ ad sA sC,A=some ad∧w.cell? (ad.add k)=some (.slice sA l[k].length sC)∧kT.C w sA l[k].length l[k]∧l[k].length≤sC:=by
 obtain ⟨ad,c,e,hl,hK,hc⟩:=Kd.C_get h [] (k:Int) (by omega) (by omega)
 rw [Y06,Y01,Y05 hk] at hK
 rw [Y06] at hc
 obtain ⟨sA,sC,rfl,hle,hC⟩:=hK
 refine ⟨ad,sA,sC,e,?_,hC,hle⟩
 have:=hc 0 _ rfl
 rwa [show J23.sz=1 from rfl,Nat.mul_one,Nat.add_zero] at this
theorem Jil (rb gb wide:Nat) (A:Option Addr) (c:Nat) (l:List (List Tm)) (w:World) (hr:w.cell? ⟨rb,3,none⟩=some (.pointer (some ⟨gb,0,none⟩))) (hg:w.cell? ⟨gb,1,none⟩=some (.int .i64 wide)) (h1:1≤wide) (h3:wide≤3) (hl:J23.C w A l.length l) (hn:l.length*24≤140737488355328) (hin:∀ r ∈ l,r.length*24≤140737488355328) :
  Calls Tryz.prog 47 #[.pointer (some ⟨rb,0,none⟩),.slice A l.length c] w fun e w'=>∃ v,e=.returned v∧kLLI.R 28 w' w.heap.size (fun _=>True) v (l.map (List.map (J0g wide)))∧Below w.heap.size w w':=by
 have HL:=Y00 hl
 have HIN:=Y08 hin
 have hm:=Kd.C_max hl
 clear hl hin
 go_enter Tryz.func47,Tryz.ntmps47
 go_wp2_with fail
 go_loopw [4,9] (fun o i wr=>∃ k:Nat,k≤l.length∧i=.int .i64 k∧kLLI.R 28 wr w.heap.size (fun _=>True) o ((l.take k).map (List.map (J0g wide)))∧Below w.heap.size w wr) (fun _ i _=>l.length - (intOf i).toNat)
 case atStart=>exact ⟨0,Nat.zero_le _,rfl,Kd.R_nil _ _ _ _ _,Y0f _ _⟩
 obtain ⟨k,hk,rfl,hR,hb⟩:=hrel
 by_cases hlt:k<l.length
 ·obtain ⟨ad,sA,sC,rfl,hc0,hcC,hcl⟩:=Jnl (Kd.c00 HL.out hb) hlt
  have HR:=Y00 hR
  clear hR
  have hrr:=J00 hb hr
  have HNU:=Y08 (Jbt gb wide sA sC l[k] wr (J00 hb hg) h1 h3 hcC (HIN.out _ (Y0l hlt)))
  have hlm:((l.take k).map (List.map (J0g wide))).length=k:=by simp;omega
  have HLM:=Y08 hlm
  have HX:=Y08 (show (l.take (k+1)).map (List.map (J0g wide))=(l.take k).map (List.map (J0g wide))++[l[k].map (J0g wide)] by rw [Y0u hlt,List.map_append];rfl)
  clear hlm hcC
  generalize l[k].map (J0g wide)=lk at *
  generalize l[k].length=nk at *
  go_wp2_with fail
  refine HNU.out.mono ?_
  rintro e w4 ⟨v4,rfl,hR4,hb4⟩
  obtain ⟨A4,c4,rfl⟩:=Kd.c02 hR4
  have hRX:=Kd.c01 HR.out hb4
  have hb5:=J01 hb hb.size hb4
  have HRX:=Y00 hRX
  have HMn:=Y00 (Kd.c04 (Kd.c06 (Kd.R_newR hR4 HR.out) (fun _ h=>h.2)) (base':=w.heap.size) hb.size)
  clear hRX hR4
  go_wp2_with (at_builtin;go_must (refine Kd.R_append kLLI (w0:=w) w.heap.size rfl (.tmp 13) (.tmp 20) _ 28 _ 24 rfl Tryz.underlying38 Tryz.infoLli rfl (by decide) (by decide) _ ((l.take k).map (List.map (J0g wide))) lk _ (fun _=>True) (fun k=>some k≠u4.ownBlock) rfl rfl ⟨_,rfl,HMn.out⟩ (fun _ h=>⟨trivial,h⟩) (fun _ _=>trivial) HRX.out hb5 hb5.size (by rw [HLM.out];omega) ?_);intro v6 w6 hR6 hb6 hg6 hat6)
  refine ⟨⟨k+1,by omega,by go_num,?_,hb6⟩,by simp [intOf];omega⟩
  rw [HX.out]
  exact hR6
 have HR:=Y00 hR
 clear hR
 go_wp2
 go_ret
 have hkl:k=l.length:=by omega
 subst hkl
 have h:=HR.out
 rw [List.take_length] at h
 exact ⟨_,rfl,h,hb⟩
theorem Jrn {w:World} {g:Nat} {t:Tm} (h0:w.cell? ⟨g,1,none⟩=some (.int .i64 t.1)) (h1:w.cell? ⟨g,2,none⟩=some (.int .i64 t.2.1)) (h2:w.cell? ⟨g,3,none⟩=some (.int .i64 t.2.2)) {wide:Nat} (hw:wide≤3) :
  kI.C w (some ⟨g,1,none⟩) (J0g wide t).length (J0g wide t):=by
 refine ⟨rfl,by rw [J0u t hw];omega,fun _=>⟨_,rfl,fun j p hj=>⟨[.int .i64 p],rfl,rfl,fun i u hu=>?_⟩⟩⟩
 cases i with
 | succ i=>simp at hu
 | zero=>?_
 have hu:Value.int .i64 p=u:=by simpa using hu
 subst hu
 rw [Addr.add_lit]
 have hj3:j<3:=by
  have:=(Y0h.1 hj).1
  rw [J0u t hw] at this;omega
 simp only [J0g,List.getElem?_take] at hj
 split at hj
 ·match j,hj3 with
  | 0,_=>simp at hj;subst hj;exact h0
  | 1,_=>simp at hj;subst hj;exact h1
  | 2,_=>simp at hj;subst hj;exact h2
 cases hj
theorem Jdf (rb gb wide:Nat) (m:Mk) (w:World) (hr:w.cell? ⟨rb,3,none⟩=some (.pointer (some ⟨gb,0,none⟩))) (hg:w.cell? ⟨gb,1,none⟩=some (.int .i64 wide)) (h1:1≤wide) (h3:wide≤3) :
  Calls Tryz.prog 57 #[.pointer (some ⟨rb,0,none⟩),mkV m] w fun e w'=>∃ v,e=.returned (.agg #[.int .i64 m.1,v])∧kI.R 3 w' w.heap.size (fun _=>True) v (J0g wide m.2)∧Below w.heap.size w w':=by
 have hsl:∀ a w,(Instr.sliceAt 99 (.pointer (some a)) none (some (.int .i64 wide)) none).run Tryz.prog w=.ok (.slice (some a) wide 3) w:=by
  obtain rfl | rfl | rfl:wide=1∨wide=2∨wide=3:=by omega
  ·exact fun _ _=>by kernel_rfl
  ·exact fun _ _=>by kernel_rfl
  exact fun _ _=>by kernel_rfl
 have b2:Below w.heap.size w ((w.alloc (.cells #[.int .i64 m.1,.int .i64 m.2.1,.int .i64 m.2.2.1,.int .i64 m.2.2.2] 101)).alloc (.cells #[.int .i64 0,.slice none 0 0] 57)):=J15
 have e0:=J00 (J02 _ (.cells #[.int .i64 0,.slice none 0 0] 57)) (J0a w #[.int .i64 m.1,.int .i64 m.2.1,.int .i64 m.2.2.1,.int .i64 m.2.2.2] 101 0)
 have e1:=J00 (J02 _ (.cells #[.int .i64 0,.slice none 0 0] 57)) (J0a w #[.int .i64 m.1,.int .i64 m.2.1,.int .i64 m.2.2.1,.int .i64 m.2.2.2] 101 1)
 have e2:=J00 (J02 _ (.cells #[.int .i64 0,.slice none 0 0] 57)) (J0a w #[.int .i64 m.1,.int .i64 m.2.1,.int .i64 m.2.2.1,.int .i64 m.2.2.2] 101 2)
 have e3:=J00 (J02 _ (.cells #[.int .i64 0,.slice none 0 0] 57)) (J0a w #[.int .i64 m.1,.int .i64 m.2.1,.int .i64 m.2.2.1,.int .i64 m.2.2.2] 101 3)
 simp only [mkV]
 go_enter Tryz.func57,Tryz.ntmps57
 go_upto_region 1 with fail
 have hrb:(w.alloc (.cells #[.int .i64 m.1,.int .i64 m.2.1,.int .i64 m.2.2.1,.int .i64 m.2.2.2] 101)).heap.size=w.heap.size+1:=by simp
 have hbk:=Y0c (w.alloc (.cells #[.int .i64 m.1,.int .i64 m.2.1,.int .i64 m.2.2.1,.int .i64 m.2.2.2] 101)) (.cells #[.int .i64 0,.slice none 0 0] 57)
 rw [hrb] at hbk
 have r3:=J00 b2 hr
 have g1:=J00 b2 hg
 have HB2:=Y08 b2
 have HBK:=Y08 (J04 hbk (J05 (Y0f _ _)))
 clear b2 hbk hrb hr hg
 generalize (w.alloc (.cells #[.int .i64 m.1,.int .i64 m.2.1,.int .i64 m.2.2.1,.int .i64 m.2.2.2] 101)).alloc (.cells #[.int .i64 0,.slice none 0 0] 57)=w2 at *
 have HC:=fun V (hb:Below w2.heap.size w2 V)=>Y08 (Jh4 ⟨w.heap.size,1,none⟩ 3 (J0g wide m.2) V (Jrn (t:=m.2) (J00 hb e1) (J00 hb e2) (J00 hb e3) h3) (by rw [J0u _ h3];omega))
 rw [J0u _ h3] at HC
 refine sr1 15 (fun w'=>w'.cell? ⟨w.heap.size,0,none⟩=some (.int .i64 m.1)∧w'.cell? ⟨rb,3,none⟩=some (.pointer (some ⟨gb,0,none⟩))∧w'.cell? ⟨gb,1,none⟩=some (.int .i64 wide)) [14] ⟨e0,r3,g1⟩ fun hJ0=>?_
 have HD:=Y00 (J05 (Y0f w2.heap.size w2))
 have HSH:=Y08 (fun V (hb:Below w2.heap.size w2 V)=>(Y07 (J00 hb e0) (Y07 (J00 hb r3) (J00 hb g1))))
 have HBD:=Y08 (J01 HB2.out HB2.out.size HD.out)
 clear e0 e1 e2 e3 r3 g1
 generalize w2.drew=wd at *
 refine pv 0 ?_
 refine tv3 1 ?_
 refine pv 2 ?_
 refine pv 3 ?_
 refine pv 4 ?_
 refine pv 5 ?_
 refine tv3 6 ?_
 refine pv 7 ?_
 refine pv 8 ?_
 refine pv 9 ?_
 refine tv3 10 ?_
 refine pv 11 ?_
 refine ov 12 fun K hK=>?_
 refine gs0 Tryz.func70 #[.slice (some ⟨w.heap.size,1,none⟩) wide 3] ?_
 refine (HC _ HD.out).out.mono ?_
 rintro e w3 ⟨v3,rfl,hR3,hb3⟩
 obtain ⟨A3,c3,rfl⟩:=Kd.c02 hR3
 rw [J0u _ h3] at hR3 ⊢
 have H3:=Y00 (Y07 hR3 (Y07 hb3 (J04 HBK.out hb3)))
 obtain ⟨z0,z1⟩:=bq2 H3.out.2.2 (.int .i64 0) (.slice none 0 0)
 obtain ⟨y0,y1⟩:=bf2 H3.out.2.2
 clear hR3
 refine ⟨_,rfl,hK.out _ _ (HSH.out _ (J01 HD.out HD.out.size hb3)) (fun hJ0=>?_)⟩
 clear hb3
 clear hK K
 refine nm0 _ ?_
 refine pv 13 ?_
 refine la0 14 (bs 15 32767) (N:=none) fun K hK=>?_
 refine sk0 ?_
 refine hK.out _ _ ?_
 clear hK K hJ0
 refine dn0 ?_
 have hg4:w3.grownBy ((w3.setCell ⟨w.heap.size+1,0,none⟩ (.int .i64 m.1)).setCell ⟨w.heap.size+1,1,none⟩ (.slice A3 wide c3)) (some (w.heap.size+1)):=J0e (w.heap.size+1) [_,_] 0 w3
 have hb4:((w3.setCell ⟨w.heap.size+1,0,none⟩ (.int .i64 m.1)).setCell ⟨w.heap.size+1,1,none⟩ (.slice A3 wide c3)).heap[w.heap.size+1]?=some (.cells #[.int .i64 m.1,.slice A3 wide c3] 57 (0,0)):=J0d (J0d H3.out.2.2 0 _ rfl) 1 _ rfl
 have H4:=Y00 (Y07 hg4 hb4)
 clear y0 y1 z0 z1 hg4 hb4
 generalize (w3.setCell ⟨w.heap.size+1,0,none⟩ (.int .i64 m.1)).setCell ⟨w.heap.size+1,1,none⟩ (.slice A3 wide c3)=w4 at *
 obtain ⟨z0,z1⟩:=bq2 H4.out.2 (.int .i64 m.1) (.slice A3 wide c3)
 go_wp2_with fail
 refine bodyPost_ret (v:=.agg #[.int .i64 m.1,.slice A3 wide c3]) (by simp [results,Tryz.results57,go_sem,z0,z1]) rfl ⟨_,rfl,?_,?_⟩
 ·have hlow:w.heap.size+1<wd.heap.size:=J0q HBK.out
  refine Kd.c06 (Kd.R_grown (Kd.c04 (Kd.c05 H3.out.1) HBD.out.size) H4.out.1 (fun k hk he=>?_)) (fun _ _=>trivial)
  injection he with he
  have:=hk.2.1
  omega
 have h5:=J01 HBD.out HBD.out.size H3.out.2.1
 exact h5.grown H4.out.1 h5.size (fun k hk=>by injection hk with hk;omega)
namespace Mdl
def J3t (N:Int) (ways:Ways) (st:St) (who:Nat):List (List Tm):=J1u N.toNat ways (posL (st.ledOf who))
def Jg4 (N:Int) (ways:Ways) (st:St) (who:Nat) (m:Mk):Bool:=!((J3t N ways st who).getD m.1.toNat []).any (fun t=>leT t m.2)
theorem Jfv {n M:Nat} {ways:Ways} (h:J9b n M ways) {xs:List Mk} (hx:∀ y ∈ xs,0≤y.1∧y.1<n):∀ r ∈ J1u n ways xs,r.length≤xs.length*M:=by
 intro r hr
 obtain ⟨k,hk,rfl⟩:=List.mem_map.1 hr
 exact Nat.le_trans (J7w _) (Jap h (Y12.1 hk) xs hx)
theorem Jel {L:Led} : ∀ y ∈ posL L,∃ e ∈ L,e.1=y:=fun y hy=>by
 obtain ⟨e,he,rfl⟩:=List.mem_map.1 hy
 exact ⟨e,(List.mem_filter.1 he).1,rfl⟩
theorem Jem (L:Led):(posL L).length≤L.length:=by
 unfold posL
 rw [Y0g]
 exact List.length_filter_le _ _
theorem Jc9 (n:Nat) (ways:Ways) (xs:List Mk):(J1u n ways xs).length=n:=by simp [J1u]
end Mdl
theorem J4v.below {w w':World} {gb:Nat} {N Wd:Int} {E:List Ed} {ways:Ways} (h:J4v w gb N Wd E ways) (hb:Below w.heap.size w w'):J4v w' gb N Wd E ways:=by
 obtain ⟨eA,eC,c2,c2'⟩:=h.c2
 obtain ⟨wA,wC,c3,c3'⟩:=h.c3
 exact ⟨J00 hb h.c0,J00 hb h.c1,⟨eA,eC,J00 hb c2,Kd.c00 c2' hb⟩,⟨wA,wC,J00 hb c3,Kd.c00 c3' hb⟩⟩
theorem Jmp (o t:Tm) (a:Nat) (w:World) (c0:w.cell? ⟨a,1,none⟩=some (.int .i64 t.1)) (c1:w.cell? ⟨a,2,none⟩=some (.int .i64 t.2.1)) (c2:w.cell? ⟨a,3,none⟩=some (.int .i64 t.2.2)) :
  Calls Tryz.prog 85 #[tmV o,.pointer (some ⟨a,0,none⟩)] w fun e w'=>e=.returned (.bool (leT o t))∧Below w.heap.size w w':=by
 have H:=fun w=>Y08 (Jgy o t w)
 simp only [tmV] at H ⊢
 have d0:=fun o=>J00 (J02 w o) c0
 have d1:=fun o=>J00 (J02 w o) c1
 have d2:=fun o=>J00 (J02 w o) c2
 go_enter Tryz.func85,Tryz.ntmps85
 go_wp2_with fail
 refine (H _).out.mono ?_
 rintro e w1 ⟨rfl,hb⟩
 go_wp2_with fail
 go_ret
 exact ⟨rfl,J01 (J02 _ _) (J02 _ _).size hb⟩
theorem Joj (w0:World) (G:RG) (W:Nat) (st:St) (N Wd:Int) (E:List Ed) (ways:Ways) (who:Nat) (m:Mk) (w:World) (h:J6e w0 G W st w) (hG:J4v w0 G.gb N Wd E ways) (hR:Mdl.Reach W N st) (hN1:1≤N) (hN8:N≤8) (hW:J9b N.toNat 286331153 ways) (hwho:who<W) (hW4:W≤4) (hm:J1k N m) :
  Calls Tryz.prog 65 #[.pointer (some ⟨G.rb,0,none⟩),.int .i64 who,mkV m] w fun e w'=>e=.returned (.bool (Jg4 N ways st who m))∧J6e w0 G W st w':=by
 obtain ⟨q,h⟩:=h
 obtain ⟨n,rfl⟩:∃ n:Nat,N=n:=⟨N.toNat,by omega⟩
 rw [Y06] at hW
 obtain ⟨m1,mt⟩:=m
 obtain ⟨hm0,hm1⟩:=hm
 simp only at hm0 hm1
 obtain ⟨x,rfl⟩:∃ x:Nat,m1=x:=⟨m1.toNat,by omega⟩
 have bE:=J02 w (.cells #[.int .i64 x,.int .i64 mt.1,.int .i64 mt.2.1,.int .i64 mt.2.2] 101)
 have e0:(w.alloc (.cells #[.int .i64 x,.int .i64 mt.1,.int .i64 mt.2.1,.int .i64 mt.2.2] 101)).cell? ⟨w.heap.size,0,none⟩=some (.int .i64 x):=J0a w _ _ 0
 have e1:(w.alloc (.cells #[.int .i64 x,.int .i64 mt.1,.int .i64 mt.2.1,.int .i64 mt.2.2] 101)).cell? ⟨w.heap.size,1,none⟩=some (.int .i64 mt.1):=J0a w _ _ 1
 have e2:(w.alloc (.cells #[.int .i64 x,.int .i64 mt.1,.int .i64 mt.2.1,.int .i64 mt.2.2] 101)).cell? ⟨w.heap.size,2,none⟩=some (.int .i64 mt.2.1):=J0a w _ _ 2
 have e3:(w.alloc (.cells #[.int .i64 x,.int .i64 mt.1,.int .i64 mt.2.1,.int .i64 mt.2.2] 101)).cell? ⟨w.heap.size,3,none⟩=some (.int .i64 mt.2.2):=J0a w _ _ 3
 have H1:=Y00 (h.c08 bE)
 have HG:=Y00 hG
 clear h hG bE
 simp only [mkV]
 go_enter Tryz.func65,Tryz.ntmps65
 go_upto_region 1 with fail
 generalize w.alloc (.cells #[.int .i64 x,.int .i64 mt.1,.int .i64 mt.2.1,.int .i64 mt.2.2] 101)=w1 at *
 generalize w.heap.size=mb at *
 obtain ⟨A,c,_,_,_,_,_,_,r3,r4,_⟩:=H1.out.cells
 obtain ⟨s1,s2,s3,s4⟩:=H1.out.wcells hwho
 clear s3 s4
 have hw0:(0:Int)≤who:=by omega
 have hwW:(who:Int)<W:=by omega
 refine sr1 21 (fun w'=>w'.cell? ⟨mb,0,none⟩=some (.int .i64 x)∧w'.cell? ⟨G.rb,3,none⟩=some (.pointer (some ⟨G.gb,0,none⟩))∧w'.cell? ⟨G.rb,4,none⟩=some (.slice (some ⟨G.wa,0,none⟩) W G.wc)∧w'.cell? ⟨G.wa,who,none⟩=some (.pointer (some ⟨G.wb who,0,none⟩))∧w'.cell? ⟨G.wb who,0,none⟩=some (.map (some (G.lb who)))) [] ⟨e0,r3,r4,s1,s2⟩ fun hJ0=>?_
 have HD:=Y00 (J05 (Y0f w1.heap.size w1))
 have HSH:=Y08 (fun V (hb:Below w1.heap.size w1 V)=>(Y07 (J00 hb e0) (Y07 (J00 hb r3) (Y07 (J00 hb r4) (Y07 (J00 hb s1) (J00 hb s2))))))
 have HE:=Y08 (Y07 e1 (Y07 e2 e3))
 clear e0 e1 e2 e3 r3 r4 s1 s2
 generalize w1.drew=wd at *
 have H2:=Y00 (H1.out.c08 HD.out)
 have HF:=Y08 (J69 G.gb n Wd E ways (G.lb who) (st.ledOf who) wd (HG.out.below H2.out.below) (by omega) (by omega) 286331153 hW (fun e he=>(hR.inv.ledN _ (J0i (l:=st.led) (by rw [hR.inv.llen];exact hwho) [])).2 e he) (by have:=hR.led_len hwho;omega) (H2.out.led who hwho))
 refine pv 0 ?_
 refine pv 1 ?_
 refine pv 2 ?_
 refine tv5 3 ?_
 refine pv 4 ?_
 refine pv 5 ?_
 refine pv 6 ?_
 refine tv5 7 ?_
 refine pv 8 ?_
 refine pv 9 ?_
 refine tv5 10 ?_
 refine pv 11 ?_
 refine pv 12 ?_
 refine tv5 13 ?_
 refine pv 14 ?_
 refine pv 16 ?_
 refine tv5 17 ?_
 refine ov 15 fun K hK=>?_
 refine gs0 Tryz.func48 #[.pointer (some ⟨G.gb,0,none⟩),.func (.func 45) #[.agg #[.map (some (G.lb who))]] #[]] ?_
 refine HF.out.mono ?_
 rintro e w3 ⟨v3,xs,rfl,hxs,hR3,hb3⟩
 rw [J8c n ways hxs] at hR3
 have hfl:=Jc9 n ways (posL (st.ledOf who))
 have HBP:=Y08 (show J3t n ways st who=J1u n ways (posL (st.ledOf who)) by unfold J3t;rw [Y06])
 generalize J1u n ways (posL (st.ledOf who))=fr at *
 obtain ⟨ga,cap,hv,hga1,hga2,_⟩:=Kd.R_form hR3 (by rw [hfl];omega)
 rw [hfl] at hv
 subst hv
 have hC3:=(Kd.c03 hR3).2.2
 rw [hfl] at hC3
 obtain ⟨ad,sA,sC,had,hac,hrC,hrc⟩:=Jnl (l:=fr) (by rw [hfl];exact hC3) (show x<fr.length by omega)
 injection had with had
 subst had
 rw [Addr.add_lit,Nat.zero_add] at hac
 have HB3:=Y08 (J01 HD.out HD.out.size hb3)
 have HR3:=Y00 (Y07 (H2.out.c08 hb3) hrC)
 have HOV:=Y08 (show Jg4 n ways st who ((x:Int),mt)=!fr[x].any (fun t=>leT t mt) by
  unfold Jg4
  rw [HBP.out,Y06,Y01,Y05 (by omega)];rfl)
 generalize fr[x]=rx at *
 have hxn:(x:Int)<n:=hm1
 refine ⟨_,rfl,hK.out _ _ (HSH.out _ HB3.out) (fun hJ0=>?_)⟩
 clear hxs hR3 hfl hga1 hga2 hC3 hrC hb3
 clear hK K
 refine nm0 _ ?_
 refine pv 18 ?_
 refine ov 19 fun K hK=>?_
 refine va0 ?_
 refine hK.out _ _ hJ0 (fun hJ0=>?_)
 clear hK K
 refine nm0 _ ?_
 refine pv 20 ?_
 refine dn0 ?_
 have HP:Hid (Jcv 85 #[.pointer (some ⟨mb,0,none⟩)] tmV (fun o=>leT o mt) w3):=Y08 (fun x w' hb' =>
  Jmp x mt _ w' (J00 hb' (J00 HB3.out HE.out.1)) (J00 hb' (J00 HB3.out HE.out.2.1)) (J00 hb' (J00 HB3.out HE.out.2.2)))
 have HC:=Y08 (J96 sA sC rx 85 #[.pointer (some ⟨mb,0,none⟩)] (fun o=>leT o mt) w3 HR3.out.2 HP.out (enters_of Tryz.func85 (by kernel_rfl) rfl))
 generalize rx.any (fun t=>leT t mt)=bb at *
 clear hJ0 hac
 go_wp2_with fail
 refine HC.out.mono ?_
 rintro e w5 ⟨rfl,hb5⟩
 have H5:=Y00 (HR3.out.1.c08 hb5)
 go_wp2_with fail
 go_ret
 exact ⟨by rw [HOV.out];rfl,_,H5.out.relim⟩
theorem J2i (p:Addr) (w:World):Calls Tryz.prog 29 #[.nilIface,.pointer (some p)] w fun e w'=>e=.returned (.tuple #[])∧w'=w:=by
 have hnil:∀ w:World,(binOp .eql 20 .nilIface .nilIface).run Tryz.prog w=.ok (.bool true) w:=fun _=>by kernel_rfl
 go_enter Tryz.func29,Tryz.ntmps29
 go_wp2_with fail
 exact bodyPost_ret (v:=.tuple #[]) (by simp [results,Tryz.results29,go_sem]) rfl ⟨rfl,rfl⟩
theorem J26 (p:Addr) (x c:Int) (w:World) (hc:w.cell? p=some (.int .i64 x)) (hz:w.frozen? p=false) :
  Calls Tryz.prog 29 #[.iface 126 (.agg #[.int .i64 c]),.pointer (some p)] w fun e w'=>e=.returned (.tuple #[])∧w'=(w.alloc (.cells #[.int .i64 c] 126)).setCell p (.int .i64 c):=by
 have hnil:∀ w:World,(binOp .eql 20 (.iface 126 (.agg #[.int .i64 c])) .nilIface).run Tryz.prog w=.ok (.bool false) w:=fun _=>by kernel_rfl
 have hta:∀ w:World,(Instr.typeAssert (.iface 126 (.agg #[.int .i64 c])) 20 126 true).run Tryz.prog w=.ok (.tuple #[.agg #[.int .i64 c],.bool true]) w:=fun _=>by kernel_rfl
 have h1:=J00 (J02 w (.cells #[.int .i64 c] 126)) hc
 have h2:(w.alloc (.cells #[.int .i64 c] 126)).frozen? p=false:=(frozen?_alloc_cells w _ _ p).trans hz
 have h3:(w.alloc (.cells #[.int .i64 c] 126)).cell? ⟨w.heap.size,0,none⟩=some (.int .i64 c):=J0a w _ _ 0
 go_enter Tryz.func29,Tryz.ntmps29
 go_wp2_with fail
 go_end0
 exact ⟨rfl,rfl⟩
theorem J4p (p:Addr) (x c:Int) (w:World) (hc:w.cell? p=some (.int .i64 x)) (hz:w.frozen? p=false) :
  CallsD Tryz.prog 28 #[.pointer (some p)] (.panicking (J4g c)) w fun e u' w'=>e=.returned (.tuple #[])∧u'=.panicking [{ v:=.iface 126 (.agg #[.int .i64 c]),recovered:=true }]∧w'=(w.alloc (.cells #[.int .i64 c] 126)).setCell p (.int .i64 c):=by
 refine callsD_of_wpS Tryz.func28 rfl fun c₀ cs hu=>?_
 apply wpS_region
 simp [wpOpsS,go_sem,recoverD,hu,Tryz.ntmps28,Exit.thenS,J4g]
 refine (J26 p x c w hc hz).mono ?_
 rintro e w' ⟨rfl,rfl⟩
 simp [bodyPostS,results,Tryz.results28,go_sem]
theorem Jcm (p:Addr) (w:World) :
  CallsD Tryz.prog 28 #[.pointer (some p)] .returning w fun e u' w'=>e=.returned (.tuple #[])∧u'=.returning∧w'=w:=by
 refine callsD_of_wpS Tryz.func28 rfl fun c₀ cs hu=>?_
 apply wpS_region
 simp [wpOpsS,go_sem,recoverD,hu,Tryz.ntmps28,Exit.thenS]
 refine (J2i p w).mono ?_
 rintro e w' ⟨rfl,rfl⟩
 cases c₀
 simp_all [bodyPostS,results,Tryz.results28,go_sem]
theorem Jcl (p:Addr) (x c:Int) (w:World) (hc:w.cell? p=some (.int .i64 x)) (hz:w.frozen? p=false) :
  CallsD Tryz.prog 36 #[.pointer (some p)] (.panicking (J4g c)) w fun e u' w'=>e=.returned (.tuple #[])∧u'=.panicking [{ v:=.iface 126 (.agg #[.int .i64 c]),recovered:=true }]∧w'=(w.alloc (.cells #[.int .i64 c] 126)).setCell p (.int .i64 c):=by
 refine callsD_of_wpS Tryz.func36 rfl fun c₀ cs hu=>?_
 apply wpS_region
 simp [wpOpsS,go_sem,recoverD,hu,Tryz.ntmps36,Exit.thenS,J4g]
 refine (J26 p x c w hc hz).mono ?_
 rintro e w' ⟨rfl,rfl⟩
 simp [bodyPostS,results,Tryz.results36,go_sem]
theorem Jcn (p:Addr) (w:World) :
  CallsD Tryz.prog 36 #[.pointer (some p)] .returning w fun e u' w'=>e=.returned (.tuple #[])∧u'=.returning∧w'=w:=by
 refine callsD_of_wpS Tryz.func36 rfl fun c₀ cs hu=>?_
 apply wpS_region
 simp [wpOpsS,go_sem,recoverD,hu,Tryz.ntmps36,Exit.thenS]
 refine (J2i p w).mono ?_
 rintro e w' ⟨rfl,rfl⟩
 cases c₀
 simp_all [bodyPostS,results,Tryz.results36,go_sem]
theorem Jaj (p:Addr) (x c:Int) (w:World) (hc:w.cell? p=some (.int .i64 x)) (hz:w.frozen? p=false) :
  CallsD Tryz.prog 53 #[.pointer (some p)] (.panicking (J4g c)) w fun e u' w'=>e=.returned (.tuple #[])∧u'=.panicking [{ v:=.iface 126 (.agg #[.int .i64 c]),recovered:=true }]∧w'=(w.alloc (.cells #[.int .i64 c] 126)).setCell p (.int .i64 c):=by
 refine callsD_of_wpS Tryz.func53 rfl fun c₀ cs hu=>?_
 apply wpS_region
 simp [wpOpsS,go_sem,recoverD,hu,Tryz.ntmps53,Exit.thenS,J4g]
 refine (J26 p x c w hc hz).mono ?_
 rintro e w' ⟨rfl,rfl⟩
 simp [bodyPostS,results,Tryz.results53,go_sem]
theorem Jal (p:Addr) (w:World) :
  CallsD Tryz.prog 53 #[.pointer (some p)] .returning w fun e u' w'=>e=.returned (.tuple #[])∧u'=.returning∧w'=w:=by
 refine callsD_of_wpS Tryz.func53 rfl fun c₀ cs hu=>?_
 apply wpS_region
 simp [wpOpsS,go_sem,recoverD,hu,Tryz.ntmps53,Exit.thenS]
 refine (J2i p w).mono ?_
 rintro e w' ⟨rfl,rfl⟩
 cases c₀
 simp_all [bodyPostS,results,Tryz.results53,go_sem]
theorem Jf8 (p:Addr) (x c:Int) (w:World) (hc:w.cell? p=some (.int .i64 x)) (hz:w.frozen? p=false) :
  CallsD Tryz.prog 59 #[.pointer (some p)] (.panicking (J4g c)) w fun e u' w'=>e=.returned (.tuple #[])∧u'=.panicking [{ v:=.iface 126 (.agg #[.int .i64 c]),recovered:=true }]∧w'=(w.alloc (.cells #[.int .i64 c] 126)).setCell p (.int .i64 c):=by
 refine callsD_of_wpS Tryz.func59 rfl fun c₀ cs hu=>?_
 apply wpS_region
 simp [wpOpsS,go_sem,recoverD,hu,Tryz.ntmps59,Exit.thenS,J4g]
 refine (J26 p x c w hc hz).mono ?_
 rintro e w' ⟨rfl,rfl⟩
 simp [bodyPostS,results,Tryz.results59,go_sem]
theorem Jf9 (p:Addr) (w:World) :
  CallsD Tryz.prog 59 #[.pointer (some p)] .returning w fun e u' w'=>e=.returned (.tuple #[])∧u'=.returning∧w'=w:=by
 refine callsD_of_wpS Tryz.func59 rfl fun c₀ cs hu=>?_
 apply wpS_region
 simp [wpOpsS,go_sem,recoverD,hu,Tryz.ntmps59,Exit.thenS]
 refine (J2i p w).mono ?_
 rintro e w' ⟨rfl,rfl⟩
 cases c₀
 simp_all [bodyPostS,results,Tryz.results59,go_sem]
theorem J80 (p:Addr) (x c:Int) (w:World) (hc:w.cell? p=some (.int .i64 x)) (hz:w.frozen? p=false) :
  CallsD Tryz.prog 62 #[.pointer (some p)] (.panicking (J4g c)) w fun e u' w'=>e=.returned (.tuple #[])∧u'=.panicking [{ v:=.iface 126 (.agg #[.int .i64 c]),recovered:=true }]∧w'=(w.alloc (.cells #[.int .i64 c] 126)).setCell p (.int .i64 c):=by
 refine callsD_of_wpS Tryz.func62 rfl fun c₀ cs hu=>?_
 apply wpS_region
 simp [wpOpsS,go_sem,recoverD,hu,Tryz.ntmps62,Exit.thenS,J4g]
 refine (J26 p x c w hc hz).mono ?_
 rintro e w' ⟨rfl,rfl⟩
 simp [bodyPostS,results,Tryz.results62,go_sem]
theorem J81 (p:Addr) (w:World) :
  CallsD Tryz.prog 62 #[.pointer (some p)] .returning w fun e u' w'=>e=.returned (.tuple #[])∧u'=.returning∧w'=w:=by
 refine callsD_of_wpS Tryz.func62 rfl fun c₀ cs hu=>?_
 apply wpS_region
 simp [wpOpsS,go_sem,recoverD,hu,Tryz.ntmps62,Exit.thenS]
 refine (J2i p w).mono ?_
 rintro e w' ⟨rfl,rfl⟩
 cases c₀
 simp_all [bodyPostS,results,Tryz.results62,go_sem]
theorem Jai (p:Addr) (x c:Int) (w:World) (hc:w.cell? p=some (.int .i64 x)) (hz:w.frozen? p=false) :
  CallsD Tryz.prog 55 #[.pointer (some p)] (.panicking (J4g c)) w fun e u' w'=>e=.returned (.tuple #[])∧u'=.panicking [{ v:=.iface 126 (.agg #[.int .i64 c]),recovered:=true }]∧w'=(w.alloc (.cells #[.int .i64 c] 126)).setCell p (.int .i64 c):=by
 refine callsD_of_wpS Tryz.func55 rfl fun c₀ cs hu=>?_
 apply wpS_region
 simp [wpOpsS,go_sem,recoverD,hu,Tryz.ntmps55,Exit.thenS,J4g]
 refine (J26 p x c w hc hz).mono ?_
 rintro e w' ⟨rfl,rfl⟩
 simp [bodyPostS,results,Tryz.results55,go_sem]
theorem Jak (p:Addr) (w:World) :
  CallsD Tryz.prog 55 #[.pointer (some p)] .returning w fun e u' w'=>e=.returned (.tuple #[])∧u'=.returning∧w'=w:=by
 refine callsD_of_wpS Tryz.func55 rfl fun c₀ cs hu=>?_
 apply wpS_region
 simp [wpOpsS,go_sem,recoverD,hu,Tryz.ntmps55,Exit.thenS]
 refine (J2i p w).mono ?_
 rintro e w' ⟨rfl,rfl⟩
 cases c₀
 simp_all [bodyPostS,results,Tryz.results55,go_sem]
theorem Jd4 (p:Addr) (x c:Int) (w:World) (hc:w.cell? p=some (.int .i64 x)) (hz:w.frozen? p=false) :
  CallsD Tryz.prog 58 #[.pointer (some p)] (.panicking (J4g c)) w fun e u' w'=>e=.returned (.tuple #[])∧u'=.panicking [{ v:=.iface 126 (.agg #[.int .i64 c]),recovered:=true }]∧w'=(w.alloc (.cells #[.int .i64 c] 126)).setCell p (.int .i64 c):=by
 refine callsD_of_wpS Tryz.func58 rfl fun c₀ cs hu=>?_
 apply wpS_region
 simp [wpOpsS,go_sem,recoverD,hu,Tryz.ntmps58,Exit.thenS,J4g]
 refine (J26 p x c w hc hz).mono ?_
 rintro e w' ⟨rfl,rfl⟩
 simp [bodyPostS,results,Tryz.results58,go_sem]
theorem Jd5 (p:Addr) (w:World) :
  CallsD Tryz.prog 58 #[.pointer (some p)] .returning w fun e u' w'=>e=.returned (.tuple #[])∧u'=.returning∧w'=w:=by
 refine callsD_of_wpS Tryz.func58 rfl fun c₀ cs hu=>?_
 apply wpS_region
 simp [wpOpsS,go_sem,recoverD,hu,Tryz.ntmps58,Exit.thenS]
 refine (J2i p w).mono ?_
 rintro e w' ⟨rfl,rfl⟩
 cases c₀
 simp_all [bodyPostS,results,Tryz.results58,go_sem]
def Mdl.checkP (p:Plan):Int:=match J0t p with
 | none=>1
 | some _=>0
theorem Jnh (p:Plan) (eA mA:Option Addr) (eC mC:Nat) (w:World) (hp:J1v w p eA mA) :
  Calls Tryz.prog 8 #[J1q p eA eC mA mC] w fun e w'=>e=.returned (.int .i64 (checkP p))∧Below w.heap.size w w':=by
 have hmf:=hmf0
 have hz1:(w.alloc (.cells (pC p eA mA eC mC) 27)).heap.size=w.heap.size+1:=by simp
 have b2:Below w.heap.size w ((w.alloc (.cells (pC p eA mA eC mC) 27)).alloc (.cells #[.int .i64 0] 29)):=J15
 have hbk:((w.alloc (.cells (pC p eA mA eC mC) 27)).alloc (.cells #[.int .i64 0] 29)).heap[w.heap.size]?=some (.cells (pC p eA mA eC mC) 27 (0,0)):=J04 (Y0c w _) (J02 _ _)
 have hbr:=Y0c (w.alloc (.cells (pC p eA mA eC mC) 27)) (.cells #[.int .i64 0] 29)
 rw [hz1] at hbr
 have HPL:=Y08 (Jbr p eA mA eC mC _ (hp.below b2))
 have hSm:=Kd.C_max hp.hS
 have hEm:=Kd.C_max hp.hE
 have H1:=Y00 (Y07 b2 (Y07 hbk hbr))
 clear hp hz1 hbk hbr b2
 simp only [J1q] at HPL ⊢
 go_enter_defers Tryz.func8,Tryz.ntmps8
 go_upto_region 1 with fail
 generalize (w.alloc (.cells (pC p eA mA eC mC) 27)).alloc (.cells #[.int .i64 0] 29)=w2 at *
 obtain ⟨p0,p1,p2,p3,p4⟩:=bc5 H1.out.2.1
 go_wp2_with fail
 refine HPL.out.mono ?_
 rintro e w3 ⟨hb3,h3⟩
 have hbr:=J04 H1.out.2.2 hb3
 have hb:=J01 H1.out.1 H1.out.1.size hb3
 cases ho:J0t p with
 | none =>
  rw [ho] at h3
  subst h3
  have HC:=Y08 (show checkP p=1 by simp only [checkP,ho])
  refine leaves_cons (f:=36) (args:=#[.pointer (some ⟨w.heap.size+1,0,none⟩)]) (by simp) (by simp [go_sem]) ?_
  refine (Jcl ⟨w.heap.size+1,0,none⟩ 0 1 w3 ((J03 hbr 0).trans rfl) (J07 hbr 0)).mono ?_
  rintro e u' w'' ⟨rfl,rfl,rfl⟩
  have hbx:=J0d (J04 hbr (J02 w3 (.cells #[.int .i64 1] 126))) 0 (.int .i64 1) rfl
  have hcx:=(J03 hbx 0).trans rfl
  simp [Leaves,settle,results,Tryz.results8,go_sem,hcx,HC.out]
  have hb5:=J01 hb hb.size (J02 w3 (.cells #[.int .i64 1] 126))
  exact hb5.setCell (by simp) _
 | some ways=>?_
 rw [ho] at h3
 obtain ⟨gb,rfl,_,_⟩:=h3
 have HC:=Y08 (show checkP p=0 by simp only [checkP,ho])
 have hz:=J07 hbr 0
 have hc:w3.cell? ⟨w.heap.size+1,0,none⟩=some (.int .i64 0):=(J03 hbr 0).trans rfl
 have H3:=Y00 (Y07 hb hbr)
 clear hb3 hb hbr HPL p0 p1 p2 p3 p4 ho
 go_wp2_with fail
 refine leaves_cons (f:=36) (args:=#[.pointer (some ⟨w.heap.size+1,0,none⟩)]) (by simp) (by simp [go_sem]) ?_
 refine (Jcn ⟨w.heap.size+1,0,none⟩ _).mono ?_
 rintro e u' w'' ⟨rfl,rfl,rfl⟩
 have hbx:=J0d H3.out.2 0 (.int .i64 0) rfl
 have hcx:=(J03 hbx 0).trans rfl
 simp [Leaves,settle,results,Tryz.results8,go_sem,hcx,HC.out]
 exact H3.out.1.setCell (by simp) _
namespace Mdl
def J7v (N Wd:Int) (E:List Ed) (a b:Int):Except Int (List Tm):=match openedP N Wd E with
 | none=>.error 1
 | some ways=>if (0≤a∧a<N)∧0≤b∧b<N then .ok (J7p ways a b.toNat) else .error 2
def J1f {α:Type} (r:Except Int (List α)):List α × Int:=match r with
 | .ok l=>(l,0)
 | .error c=>([],c)
end Mdl
theorem Jp8 {w:World} {A:Option Addr} {l:List (List (List Tm))} (h:Jge.C w A l.length l) {k:Nat} (hk:k<l.length) :
  ∃ ad sA sC,A=some ad∧w.cell? (ad.add k)=some (.slice sA l[k].length sC)∧J23.C w sA l[k].length l[k]∧l[k].length≤sC:=by
 obtain ⟨ad,c,e,hl,hK,hc⟩:=Kd.C_get h [] (k:Int) (by omega) (by omega)
 rw [Y06,Y01,Y05 hk] at hK
 rw [Y06] at hc
 obtain ⟨sA,sC,rfl,hle,hC⟩:=hK
 refine ⟨ad,sA,sC,e,?_,hC,hle⟩
 have:=hc 0 _ rfl
 rwa [show Jge.sz=1 from rfl,Nat.mul_one,Nat.add_zero] at this
theorem J7b {α:Type} {d:Kd α} {e base b' g j:Nat} {ok:Nat→Prop} {w:World} {v u:Value} {xs:List α} (h:d.R e w base ok v xs) (hlt:g<base) (hb':b'≤base):d.R e (w.setCell ⟨g,j,none⟩ u) b' (fun _=>True) v xs :=
 Kd.c06 (Kd.R_grown (Kd.c04 (Kd.c05 h) hb') (J0e g [u] j w) (fun k hk he=>by
  injection he with he
  have:=hk.2.1
  omega)) (fun _ _=>trivial)
theorem Jg3 (N Wd:Int) (E:List Ed) (eA:Option Addr) (eC:Nat) (x y:Int) (w:World) (hE:kE.C w eA E.length E) :
  Calls Tryz.prog 6 #[.agg #[.int .i64 N,.int .i64 Wd,.slice eA E.length eC],.int .i64 x,.int .i64 y] w fun e w'=>∃ v,e=.returned (.tuple #[v,.int .i64 (J1f (J7v N Wd E x y)).2])∧kLI.R 36 w' w.heap.size (fun _=>True) v ((J1f (J7v N Wd E x y)).1.map (J0g Wd.toNat))∧Below w.heap.size w w':=by
 have hmf:=hmf0
 have hz1:(w.alloc (.cells #[.int .i64 N,.int .i64 Wd,.slice eA E.length eC] 24)).heap.size=w.heap.size+1:=by simp
 have b2:Below w.heap.size w ((w.alloc (.cells #[.int .i64 N,.int .i64 Wd,.slice eA E.length eC] 24)).alloc (.cells #[.int .i64 0] 29)):=J15
 have hbk:((w.alloc (.cells #[.int .i64 N,.int .i64 Wd,.slice eA E.length eC] 24)).alloc (.cells #[.int .i64 0] 29)).heap[w.heap.size]?=some (.cells #[.int .i64 N,.int .i64 Wd,.slice eA E.length eC] 24 (0,0)):=J04 (Y0c w _) (J02 _ _)
 have hbr:=Y0c (w.alloc (.cells #[.int .i64 N,.int .i64 Wd,.slice eA E.length eC] 24)) (.cells #[.int .i64 0] 29)
 rw [hz1] at hbr
 have HOP:=Y08 (opened_any N Wd E eA eC _ (Kd.c00 hE b2))
 have hEm:=Kd.C_max hE
 have H1:=Y00 (Y07 b2 (Y07 hbk hbr))
 clear hE hz1 hbk hbr b2
 go_enter_defers Tryz.func6,Tryz.ntmps6
 go_upto_region 1 with fail
 generalize (w.alloc (.cells #[.int .i64 N,.int .i64 Wd,.slice eA E.length eC] 24)).alloc (.cells #[.int .i64 0] 29)=w2 at *
 obtain ⟨p0,p1,p2⟩:=bc3 H1.out.2.1
 go_wp2_with fail
 refine HOP.out.mono ?_
 rintro e w3 ⟨hb3,h3⟩
 have hbr:=J04 H1.out.2.2 hb3
 have hb:=J01 H1.out.1 H1.out.1.size hb3
 cases ho:openedP N Wd E with
 | none =>
  rw [ho] at h3
  subst h3
  have HC:=Y08 (show J7v N Wd E x y=.error 1 by simp only [J7v,ho])
  refine leaves_cons (f:=28) (args:=#[.pointer (some ⟨w.heap.size+1,0,none⟩)]) (by simp) (by simp [go_sem]) ?_
  refine (J4p ⟨w.heap.size+1,0,none⟩ 0 1 w3 ((J03 hbr 0).trans rfl) (J07 hbr 0)).mono ?_
  rintro e u' w'' ⟨rfl,rfl,rfl⟩
  have hbx:=J0d (J04 hbr (J02 w3 (.cells #[.int .i64 1] 126))) 0 (.int .i64 1) rfl
  have hcx:=(J03 hbx 0).trans rfl
  have hb5:=J01 hb hb.size (J02 w3 (.cells #[.int .i64 1] 126))
  rw [HC.out]
  simp [Leaves,settle,results,Tryz.results6,go_sem,hcx,J1f]
  exact ⟨Kd.R_nil _ _ _ _ _,hb5.setCell (by simp) _⟩
 | some ways=>?_
 rw [ho] at h3
 obtain ⟨gb,rfl,_,hG⟩:=h3
 obtain ⟨⟨n1,n8,wd1,wd3,_⟩,_,_⟩:=opened_ok ho
 have HWO:=Y08 (Jly ho)
 have HO:=Y08 ho
 have H3:=Y00 (Y07 hb (Y07 hbr hG))
 have hz:=J07 hbr 0
 have hc:w3.cell? ⟨w.heap.size+1,0,none⟩=some (.int .i64 0):=(J03 hbr 0).trans rfl
 clear hb3 hb hbr HOP p0 p1 p2 ho hG
 have HOUT:=Y08 (fun (hn:¬ ((0≤x∧x<N)∧0≤y∧y<N))=>show J7v N Wd E x y=.error 2 by simp only [J7v,HO.out];rw [if_neg hn])
 have c0:=H3.out.2.2.c0
 have c1:=H3.out.2.2.c1
 by_cases gx:0≤x∧x<N
 rotate_left
 ·have HC:=Y08 (HOUT.out (fun h=>gx h.1))
  go_wp2_with fail
  refine (J7i _ x N _ c0 (by omega)).mono ?_
  rintro e wm ⟨rfl,rfl⟩
  clear c0 c1 hz hc
  go_wp2_with fail
  refine (J0r _ _).mono ?_
  rintro e wm ⟨rfl,rfl⟩
  refine leaves_cons (f:=28) (args:=#[.pointer (some ⟨w.heap.size+1,0,none⟩)]) (by simp) (by simp [go_sem]) ?_
  refine (J4p ⟨w.heap.size+1,0,none⟩ 0 2 w3 ((J03 H3.out.2.1 0).trans rfl) (J07 H3.out.2.1 0)).mono ?_
  rintro e u' w'' ⟨rfl,rfl,rfl⟩
  have hbx:=J0d (J04 H3.out.2.1 (J02 w3 (.cells #[.int .i64 2] 126))) 0 (.int .i64 2) rfl
  have hcx:=(J03 hbx 0).trans rfl
  have hb5:=J01 H3.out.1 H3.out.1.size (J02 w3 (.cells #[.int .i64 2] 126))
  rw [HC.out]
  simp [Leaves,settle,results,Tryz.results6,go_sem,hcx,J1f]
  exact ⟨Kd.R_nil _ _ _ _ _,hb5.setCell (by simp) _⟩
 obtain ⟨gx0,gx1⟩:=gx
 go_wp2_with fail
 refine (J9r _ x N _ c0 gx0 gx1).mono ?_
 rintro e wm ⟨rfl,rfl⟩
 by_cases gy:0≤y∧y<N
 rotate_left
 ·have HC:=Y08 (HOUT.out (fun h=>gy h.2))
  go_wp2_with fail
  refine (J7i _ y N _ c0 (by omega)).mono ?_
  rintro e wm ⟨rfl,rfl⟩
  clear c0 c1 hz hc
  go_wp2_with fail
  refine (J0r _ _).mono ?_
  rintro e wm ⟨rfl,rfl⟩
  refine leaves_cons (f:=28) (args:=#[.pointer (some ⟨w.heap.size+1,0,none⟩)]) (by simp) (by simp [go_sem]) ?_
  refine (J4p ⟨w.heap.size+1,0,none⟩ 0 2 w3 ((J03 H3.out.2.1 0).trans rfl) (J07 H3.out.2.1 0)).mono ?_
  rintro e u' w'' ⟨rfl,rfl,rfl⟩
  have hbx:=J0d (J04 H3.out.2.1 (J02 w3 (.cells #[.int .i64 2] 126))) 0 (.int .i64 2) rfl
  have hcx:=(J03 hbx 0).trans rfl
  have hb5:=J01 H3.out.1 H3.out.1.size (J02 w3 (.cells #[.int .i64 2] 126))
  rw [HC.out]
  simp [Leaves,settle,results,Tryz.results6,go_sem,hcx,J1f]
  exact ⟨Kd.R_nil _ _ _ _ _,hb5.setCell (by simp) _⟩
 obtain ⟨gy0,gy1⟩:=gy
 go_wp2_with fail
 refine (J9r _ y N _ c0 gy0 gy1).mono ?_
 rintro e wm ⟨rfl,rfl⟩
 have HC:=Y08 (show J7v N Wd E x y=.ok (J7p ways x y.toNat) by simp only [J7v,HO.out];rw [if_pos ⟨⟨gx0,gx1⟩,gy0,gy1⟩])
 obtain ⟨n,rfl⟩:∃ n:Nat,N=n:=⟨N.toNat,by omega⟩
 obtain ⟨a,rfl⟩:∃ a:Nat,x=a:=⟨x.toNat,by omega⟩
 obtain ⟨b,rfl⟩:∃ b:Nat,y=b:=⟨y.toNat,by omega⟩
 obtain ⟨wd,rfl⟩:∃ wd:Nat,Wd=wd:=⟨Wd.toNat,by omega⟩
 rw [Y06] at HWO
 obtain ⟨hm,hr,hwe,hwl⟩:=HWO.out.at_ (m:=(a:Int)) gx0 gx1 (k:=b) (by omega)
 simp only [Y06] at hm hr hwe
 have hlen:=HWO.out.len
 have hrow:=HWO.out.row _ (Y0l hm)
 obtain ⟨wA,wC,c3,c3'⟩:=H3.out.2.2.c3
 obtain ⟨ad,rA,rC,rfl,d1,dC,dl⟩:=Jp8 c3' hm
 obtain ⟨ad2,sA,sC,rfl,d2,dC2,dl2⟩:=Jnl dC hr
 have HNU:=Y08 (Jbt gb wd sA sC _ w3 c1 (by omega) (by omega) dC2 (by rw [← hwe];omega))
 rw [hlen] at c3
 have HCL:=Y08 (Y07 dl (Y07 dl2 hwe))
 rw [hrow] at d1
 have HR2:=Y08 (Y07 hlen hrow)
 clear dl dl2 c3' dC dC2 hwl c0 c1 hlen hrow hwe
 generalize ways[a][b]=way at *
 generalize ways[a]=wrow at *
 clear hr hm
 go_wp2_with fail
 refine (J1w _ _).mono ?_
 rintro e wm ⟨rfl,rfl⟩
 go_wp2_with fail
 refine HNU.out.mono ?_
 rintro e w4 ⟨v4,rfl,hR4,hb4⟩
 have hbr4:=J04 H3.out.2.1 hb4
 have hz4:=J07 hbr4 0
 have hc4:w4.cell? ⟨w.heap.size+1,0,none⟩=some (.int .i64 0):=(J03 hbr4 0).trans rfl
 have H4:=Y00 (Y07 (J01 H3.out.1 H3.out.1.size hb4) (Y07 hbr4 hR4))
 obtain ⟨A4,c4',rfl⟩:=Kd.c02 hR4
 clear hR4 hb4 hbr4 hz hc HNU c3 d1 d2
 generalize (way.map (J0g wd)).length=n4 at *
 go_wp2_with fail
 refine leaves_cons (f:=28) (args:=#[.pointer (some ⟨w.heap.size+1,0,none⟩)]) (by simp) (by simp [go_sem]) ?_
 refine (Jcm ⟨w.heap.size+1,0,none⟩ _).mono ?_
 rintro e u' w'' ⟨rfl,rfl,rfl⟩
 have hbx:=J0d H4.out.2.1 0 (.int .i64 0) rfl
 have hcx:=(J03 hbx 0).trans rfl
 rw [HC.out]
 have hR9:=J7b (j:=0) (u:=.int .i64 0) H4.out.2.2 (J0q H3.out.2.1) H3.out.1.size
 have hB9:Below w.heap.size w (w4.setCell ⟨w.heap.size+1,0,none⟩ (.int .i64 0)):=H4.out.1.setCell (by simp) _
 have hE9:(J1f (Except.ok (J7p ways (a:Int) (b:Int).toNat):Except Int (List Tm))).1.map (J0g (wd:Int).toNat)=way.map (J0g wd):=by
  rw [Y06,Y06]
  show (J7p ways (a:Int) b).map _=_
  rw [HCL.out.2.2]
 rw [hE9]
 simp [Leaves,settle,results,Tryz.results6,go_sem,hcx,J1f]
 exact ⟨hR9,hB9⟩
namespace Mdl
def J2d (p:Plan) (script:List Int) (n who:Int):Except Int (List (List Tm)):=match J16 p script n who with
 | .error c=>.error c
 | .ok ways=>.ok (J3t p.N ways (J24 p.E p.workers.toNat n.toNat (J0s p.workers.toNat p.start script)) who.toNat)
end Mdl
theorem J9z (p:Plan) (eA mA sA:Option Addr) (eC mC sC:Nat) (script:List Int) (n who:Int) (hn64:n≤9223372036854775807) (w:World) (hp:J1v w p eA mA) (hsC:kI.C w sA script.length script) (hsl:script.length≤sC) :
  Calls Tryz.prog 15 #[J1q p eA eC mA mC,.slice sA script.length sC,.int .i64 n,.int .i64 who] w fun e w'=>∃ v,e=.returned (.tuple #[v,.int .i64 (J1f (J2d p script n who)).2])∧kLLI.R 28 w' w.heap.size (fun _=>True) v ((J1f (J2d p script n who)).1.map (List.map (J0g p.Wd.toNat)))∧Below w.heap.size w w':=by
 have hmf:=hmf0
 have hz1:(w.alloc (.cells (pC p eA mA eC mC) 27)).heap.size=w.heap.size+1:=by simp
 have b2:Below w.heap.size w ((w.alloc (.cells (pC p eA mA eC mC) 27)).alloc (.cells #[.int .i64 0] 29)):=J15
 have hbk:((w.alloc (.cells (pC p eA mA eC mC) 27)).alloc (.cells #[.int .i64 0] 29)).heap[w.heap.size]?=some (.cells (pC p eA mA eC mC) 27 (0,0)):=J04 (Y0c w _) (J02 _ _)
 have hbr:=Y0c (w.alloc (.cells (pC p eA mA eC mC) 27)) (.cells #[.int .i64 0] 29)
 rw [hz1] at hbr
 have HAF:=Y08 (J9a p eA mA sA eC mC sC script n who hn64 _ (hp.below b2) (Kd.c00 hsC b2) hsl)
 have hSm:=Kd.C_max hp.hS
 have hEm:=Kd.C_max hp.hE
 have hSc:=Kd.C_max hsC
 have H1:=Y00 (Y07 b2 (Y07 hbk hbr))
 clear hp hsC hsl hz1 hbk hbr b2
 simp only [J1q] at HAF ⊢
 go_enter_defers Tryz.func15,Tryz.ntmps15
 go_upto_region 1 with fail
 generalize (w.alloc (.cells (pC p eA mA eC mC) 27)).alloc (.cells #[.int .i64 0] 29)=w2 at *
 obtain ⟨p0,p1,p2,p3,p4⟩:=bc5 H1.out.2.1
 go_wp2_with fail
 refine HAF.out.mono ?_
 rintro e w3 h3
 unfold J41 at h3
 cases ho:J16 p script n who with
 | error c =>
  rw [ho] at h3
  obtain ⟨rfl,hb3⟩:=h3
  have HC:=Y08 (show J2d p script n who=.error c by simp only [J2d,ho])
  have hbr:=J04 H1.out.2.2 hb3
  have hb:=J01 H1.out.1 H1.out.1.size hb3
  refine leaves_cons (f:=53) (args:=#[.pointer (some ⟨w.heap.size+1,0,none⟩)]) (by simp) (by simp [go_sem]) ?_
  refine (Jaj ⟨w.heap.size+1,0,none⟩ 0 c w3 ((J03 hbr 0).trans rfl) (J07 hbr 0)).mono ?_
  rintro e u' w'' ⟨rfl,rfl,rfl⟩
  have hbx:=J0d (J04 hbr (J02 w3 (.cells #[.int .i64 c] 126))) 0 (.int .i64 c) rfl
  have hcx:=(J03 hbx 0).trans rfl
  have hb5:=J01 hb hb.size (J02 w3 (.cells #[.int .i64 c] 126))
  rw [HC.out]
  simp [Leaves,settle,results,Tryz.results15,go_sem,hcx,J1f]
  exact ⟨Kd.R_nil _ _ _ _ _,hb5.setCell (by simp) _⟩
 | ok ways=>?_
 rw [ho] at h3
 obtain ⟨rb,w0,G,rfl,hrb,hb0,hgb,hG,q,hR⟩:=h3
 have hb3:=J01 hb0 hb0.size hR.below
 have hb:=J01 H1.out.1 H1.out.1.size hb3
 have hbr:=J04 H1.out.2.2 hb3
 have HC:=Y08 (show J2d p script n who=.ok (J3t p.N ways (J24 p.E p.workers.toNat n.toNat (J0s p.workers.toNat p.start script)) who.toNat) by simp only [J2d,ho])
 have HB:=Y08 (begun_ok ho)
 have HG:=Y00 hG
 have HR:=Y00 hR
 have HH:=Y00 (Y07 hb (Y07 hbr hb0))
 clear ho hG hR hb3 hb hbr hb0 hgb p0 p1 p2 p3 p4 HAF
 subst hrb
 have hN1:=HB.out.N1
 have hN8:=HB.out.N8
 have hWd1:=HB.out.Wd1
 have hWd3:=HB.out.Wd3
 have hwho0:=HB.out.who0
 have hwhoW:=HB.out.whoW
 have hRe:=J4j (n:=n.toNat) HB.out.w4 HB.out.E _ HB.out.reach
 generalize J24 p.E p.workers.toNat n.toNat (J0s p.workers.toNat p.start script)=st at *
 have HRE:=Y08 hRe
 clear hRe
 generalize p.workers.toNat=W at *
 obtain ⟨nd,hnd⟩:∃ m:Nat,p.N=m:=⟨p.N.toNat,by omega⟩
 obtain ⟨wd,hwd⟩:∃ m:Nat,p.Wd=m:=⟨p.Wd.toNat,by omega⟩
 obtain ⟨x,rfl⟩:∃ x:Nat,who=x:=⟨who.toNat,by omega⟩
 have hxW:x<W:=by omega
 have HNW:=Y08 (Y07 hnd hwd)
 have hnd1:1≤nd∧nd≤8∧1≤wd∧wd≤3:=by omega
 obtain ⟨hd1,hd8,hd1',hd3⟩:=hnd1
 clear hnd hwd hN1 hN8 hWd1 hWd3
 obtain ⟨A,c,_,_,_,_,_,_,r3,r4,_⟩:=HR.out.cells
 obtain ⟨s1,s2,_,_⟩:=HR.out.wcells hxW
 have t0:w3.cell? ⟨w.heap.size+1,0,none⟩=some (.int .i64 0):=(J03 HH.out.2.1 0).trans rfl
 go_upto_region 3 with fail
 refine wp_region_noPanic ?_
 refine sr1 20 (fun w'=>w'.cell? ⟨G.rb,3,none⟩=some (.pointer (some ⟨G.gb,0,none⟩))∧w'.cell? ⟨G.rb,4,none⟩=some (.slice (some ⟨G.wa,0,none⟩) W G.wc)∧w'.cell? ⟨G.wa,x,none⟩=some (.pointer (some ⟨G.wb x,0,none⟩))∧w'.cell? ⟨G.wb x,0,none⟩=some (.map (some (G.lb x)))) [19] ⟨r3,r4,s1,s2⟩ fun hJ0=>?_
 have HD:=Y00 (J05 (Y0f w3.heap.size w3))
 have HSH:=Y08 (fun V (hb:Below w3.heap.size w3 V)=>(Y07 (J00 hb r3) (Y07 (J00 hb r4) (Y07 (J00 hb s1) (J00 hb s2)))))
 clear r3 r4 s1 s2 t0
 generalize w3.drew=wdr at *
 have H2:=Y00 (HR.out.c08 HD.out)
 have HF:=Y08 (J69 G.gb nd p.Wd p.E ways (G.lb x) (st.ledOf x) wdr (by have:=HG.out.below H2.out.below;rwa [HNW.out.1] at this) (by omega) (by omega) 286331153 (by have:=HB.out.ways;rwa [HNW.out.1,Y06] at this) (fun e he=>by have:=(HRE.out.inv.ledN _ (J0i (l:=st.led) (by rw [HRE.out.inv.llen];exact hxW) [])).2 e he;unfold J1k at this;rwa [HNW.out.1] at this) (by have:=HRE.out.led_len hxW;omega) (H2.out.led x hxW))
 refine pv 0 ?_
 refine pv 1 ?_
 refine pv 2 ?_
 refine pv 3 ?_
 refine tv4 4 ?_
 refine pv 5 ?_
 refine pv 6 ?_
 refine pv 7 ?_
 refine tv4 8 ?_
 refine pv 9 ?_
 refine pv 10 ?_
 refine tv4 11 ?_
 refine pv 12 ?_
 refine pv 13 ?_
 refine tv4 14 ?_
 refine pv 15 ?_
 refine ov 16 fun K hK=>?_
 refine gs0 Tryz.func48 #[.pointer (some ⟨G.gb,0,none⟩),.func (.func 45) #[.agg #[.map (some (G.lb x))]] #[]] ?_
 refine HF.out.mono ?_
 rintro e w4 ⟨v4,xs,rfl,hxs,hR4,hb4⟩
 have hlx:xs.length≤616:=by have:=hxs.length_eq;have:=Jem (st.ledOf x);have:=HRE.out.led_len hxW;omega
 have hfr:∀ r ∈ J1u nd ways xs,r.length≤xs.length*286331153:=Jfv (by have:=HB.out.ways;rwa [HNW.out.1,Y06] at this) (fun y hy=>by
  obtain ⟨e,he,rfl⟩:=Jel y (hxs.mem_iff.1 hy)
  have:=(HRE.out.inv.ledN _ (J0i (l:=st.led) (by rw [HRE.out.inv.llen];exact hxW) [])).2 e he
  unfold J1k at this
  rwa [HNW.out.1] at this)
 rw [J8c nd ways hxs] at hR4 hfr
 have hfl:=Jc9 nd ways (posL (st.ledOf x))
 have HBP:=Y08 (show J3t p.N ways st x=J1u nd ways (posL (st.ledOf x)) by unfold J3t;rw [HNW.out.1,Y06])
 generalize J1u nd ways (posL (st.ledOf x))=fr at *
 obtain ⟨A4,c4,rfl⟩:=Kd.c02 hR4
 have HB4:=Y08 (J01 HD.out HD.out.size hb4)
 have hc1:=(HG.out.below (J01 HR.out.below HR.out.below.size HB4.out)).c1
 rw [HNW.out.2] at hc1
 have HTD:=Y08 (Jil G.rb G.gb wd A4 c4 fr w4 (HSH.out _ HB4.out).1 hc1 (by omega) (by omega) (Kd.c03 hR4).2.2 (by omega) (fun r hr=>by have:=hfr r hr;have:xs.length*286331153≤616*286331153:=Nat.mul_le_mul_right _ hlx;omega))
 refine ⟨_,rfl,hK.out _ _ (HSH.out _ HB4.out) (fun hJ0=>?_)⟩
 clear hxs hR4 hfr hlx hb4 hc1 hfl
 clear hK K
 refine nm0 _ ?_
 refine ov 17 fun K hK=>?_
 refine gs0 Tryz.func47 #[.pointer (some ⟨G.rb,0,none⟩),.slice A4 fr.length c4] ?_
 refine HTD.out.mono ?_
 rintro e w5 ⟨v5,rfl,hR5,hb5⟩
 obtain ⟨A5,c5,rfl⟩:=Kd.c02 hR5
 have HB5:=Y08 (J01 HB4.out HB4.out.size hb5)
 have H5:=Y00 (Y07 (Kd.c04 hR5 HB4.out.size) (J04 HH.out.2.1 HB5.out))
 generalize (fr.map (List.map (J0g wd))).length=n5 at *
 have y0:=J07 H5.out.2 0
 have z0:w5.cell? ⟨w.heap.size+1,0,none⟩=some (.int .i64 0):=(J03 H5.out.2 0).trans rfl
 refine ⟨_,rfl,hK.out _ _ (HSH.out _ HB5.out) (fun hJ0=>?_)⟩
 clear hR5 hb5
 clear hK K
 refine nm0 _ ?_
 refine pv 18 ?_
 refine la0 19 (bs 20 1048575) (N:=none) fun K hK=>?_
 refine sk0 ?_
 refine hK.out _ _ ?_
 clear hK K hJ0
 refine dn0 ?_
 refine NoPanic.normal ?_
 go_wp2_with fail
 refine leaves_cons (f:=53) (args:=#[.pointer (some ⟨w.heap.size+1,0,none⟩)]) (by simp) (by simp [go_sem]) ?_
 refine (Jal ⟨w.heap.size+1,0,none⟩ _).mono ?_
 rintro e u' w'' ⟨rfl,rfl,rfl⟩
 have hbx:=J0d H5.out.2 0 (.int .i64 0) rfl
 have hcx:=(J03 hbx 0).trans rfl
 have hR9:=J7b (j:=0) (u:=.int .i64 0) H5.out.1 (J0q HH.out.2.1) HH.out.1.size
 have hB9:Below w.heap.size w (w5.setCell ⟨w.heap.size+1,0,none⟩ (.int .i64 0)):=(J01 HH.out.1 HH.out.1.size HB5.out).setCell (by simp) _
 rw [HC.out]
 have hE9:(J1f (Except.ok (J3t p.N ways st (x:Int).toNat):Except Int (List (List Tm)))).1.map (List.map (J0g p.Wd.toNat))=fr.map (List.map (J0g wd)):=by
  rw [Y06,HNW.out.2,Y06]
  show (J3t p.N ways st x).map _=_
  rw [HBP.out]
 rw [hE9]
 simp [Leaves,settle,results,Tryz.results15,go_sem,hcx,J1f]
 exact ⟨hR9,hB9⟩
namespace Mdl
def Jd3 (wd:Nat) (L:Led) (m:Mk):Msg:=((m.1,J0g wd m.2),getL L m)
def J11 (wd:Nat) (L:Led):List Msg:=(J61 (L.map (·.1))).map (Jd3 wd L)
def J2l (p:Plan) (script:List Int) (n who:Int):Except Int (List Msg):=match J16 p script n who with
 | .error c=>.error c
 | .ok ways=>.ok (J11 p.Wd.toNat ((J24 p.E p.workers.toNat n.toNat (J0s p.workers.toNat p.start script)).ledOf who.toNat))
end Mdl
theorem Tryz.infoCnt:(Tryz.prog.info? 83).map (fun i=>(i.zero,i.size,i.bytes))=some (some (.agg #[.int .i64 0,.slice none 0 0,.int .i64 0]),3,40):=by kernel_rfl
theorem Jdl (p:Plan) (eA mA sA:Option Addr) (eC mC sC:Nat) (script:List Int) (n who:Int) (hn64:n≤9223372036854775807) (w:World) (hp:J1v w p eA mA) (hsC:kI.C w sA script.length script) (hsl:script.length≤sC) :
  Calls Tryz.prog 18 #[J1q p eA eC mA mC,.slice sA script.length sC,.int .i64 n,.int .i64 who] w fun e w'=>∃ v,e=.returned (.tuple #[v,.int .i64 (J1f (J2l p script n who)).2])∧kMs.R 83 w' w.heap.size (fun _=>True) v (J1f (J2l p script n who)).1∧Below w.heap.size w w':=by
 have hmf:=hmf0
 have hz1:(w.alloc (.cells (pC p eA mA eC mC) 27)).heap.size=w.heap.size+1:=by simp
 have b2:Below w.heap.size w ((w.alloc (.cells (pC p eA mA eC mC) 27)).alloc (.cells #[.int .i64 0] 29)):=J15
 have hbk:((w.alloc (.cells (pC p eA mA eC mC) 27)).alloc (.cells #[.int .i64 0] 29)).heap[w.heap.size]?=some (.cells (pC p eA mA eC mC) 27 (0,0)):=J04 (Y0c w _) (J02 _ _)
 have hbr:=Y0c (w.alloc (.cells (pC p eA mA eC mC) 27)) (.cells #[.int .i64 0] 29)
 rw [hz1] at hbr
 have HAF:=Y08 (J9a p eA mA sA eC mC sC script n who hn64 _ (hp.below b2) (Kd.c00 hsC b2) hsl)
 have hSm:=Kd.C_max hp.hS
 have hEm:=Kd.C_max hp.hE
 have hSc:=Kd.C_max hsC
 have H1:=Y00 (Y07 b2 (Y07 hbk hbr))
 clear hp hsC hsl hz1 hbk hbr b2
 simp only [J1q] at HAF ⊢
 go_enter_defers Tryz.func18,Tryz.ntmps18
 go_upto_region 1 with fail
 generalize (w.alloc (.cells (pC p eA mA eC mC) 27)).alloc (.cells #[.int .i64 0] 29)=w2 at *
 obtain ⟨p0,p1,p2,p3,p4⟩:=bc5 H1.out.2.1
 go_wp2_with fail
 refine HAF.out.mono ?_
 rintro e w3 h3
 unfold J41 at h3
 cases ho:J16 p script n who with
 | error c =>
  rw [ho] at h3
  obtain ⟨rfl,hb3⟩:=h3
  have HC:=Y08 (show J2l p script n who=.error c by simp only [J2l,ho])
  have hbr:=J04 H1.out.2.2 hb3
  have hb:=J01 H1.out.1 H1.out.1.size hb3
  refine leaves_cons (f:=55) (args:=#[.pointer (some ⟨w.heap.size+1,0,none⟩)]) (by simp) (by simp [go_sem]) ?_
  refine (Jai ⟨w.heap.size+1,0,none⟩ 0 c w3 ((J03 hbr 0).trans rfl) (J07 hbr 0)).mono ?_
  rintro e u' w'' ⟨rfl,rfl,rfl⟩
  have hbx:=J0d (J04 hbr (J02 w3 (.cells #[.int .i64 c] 126))) 0 (.int .i64 c) rfl
  have hcx:=(J03 hbx 0).trans rfl
  have hb5:=J01 hb hb.size (J02 w3 (.cells #[.int .i64 c] 126))
  rw [HC.out]
  simp [Leaves,settle,results,Tryz.results18,go_sem,hcx,J1f]
  exact ⟨Kd.R_nil _ _ _ _ _,hb5.setCell (by simp) _⟩
 | ok ways=>?_
 rw [ho] at h3
 obtain ⟨rb,w0,G,rfl,hrb,hb0,hgb,hG,q,hR⟩:=h3
 have hb3:=J01 hb0 hb0.size hR.below
 have hb:=J01 H1.out.1 H1.out.1.size hb3
 have hbr:=J04 H1.out.2.2 hb3
 have HC:=Y08 (show J2l p script n who=.ok (J11 p.Wd.toNat ((J24 p.E p.workers.toNat n.toNat (J0s p.workers.toNat p.start script)).ledOf who.toNat)) by simp only [J2l,ho])
 have HB:=Y08 (begun_ok ho)
 have HG:=Y00 hG
 have HR:=Y00 hR
 have HH:=Y00 (Y07 hb (Y07 hbr hb0))
 clear ho hG hR hb3 hb hbr hb0 hgb p0 p1 p2 p3 p4 HAF
 subst hrb
 have hN1:=HB.out.N1
 have hN8:=HB.out.N8
 have hWd1:=HB.out.Wd1
 have hWd3:=HB.out.Wd3
 have hwho0:=HB.out.who0
 have hwhoW:=HB.out.whoW
 have hRe:=J4j (n:=n.toNat) HB.out.w4 HB.out.E _ HB.out.reach
 generalize J24 p.E p.workers.toNat n.toNat (J0s p.workers.toNat p.start script)=st at *
 have HRE:=Y08 hRe
 clear hRe
 generalize p.workers.toNat=W at *
 obtain ⟨nd,hnd⟩:∃ m:Nat,p.N=m:=⟨p.N.toNat,by omega⟩
 obtain ⟨wd,hwd⟩:∃ m:Nat,p.Wd=m:=⟨p.Wd.toNat,by omega⟩
 obtain ⟨x,rfl⟩:∃ x:Nat,who=x:=⟨who.toNat,by omega⟩
 have hxW:x<W:=by omega
 have HNW:=Y08 (Y07 hnd hwd)
 have hnd1:1≤nd∧nd≤8∧1≤wd∧wd≤3:=by omega
 obtain ⟨hd1,hd8,hd1',hd3⟩:=hnd1
 clear hnd hwd hN1 hN8 hWd1 hWd3
 obtain ⟨A,c,_,_,_,_,_,_,r3,r4,_⟩:=HR.out.cells
 obtain ⟨s1,s2,_,_⟩:=HR.out.wcells hxW
 have hkeys:∀ e ∈ st.ledOf x,okM e.1:=fun e he=>by
  have:=(HRE.out.inv.ledN _ (J0i (l:=st.led) (by rw [HRE.out.inv.llen];exact hxW) [])).2 e he
  have h8:=HB.out.N8
  unfold J1k at this
  unfold okM;omega
 have HMA:=Y08 (Jbv (G.lb x) (st.ledOf x) w3 (HR.out.led x hxW) hkeys (by have:=HRE.out.led_len hxW;omega))
 clear hkeys
 go_wp2_with fail
 refine HMA.out.mono ?_
 rintro e w4 ⟨v4,rfl,hR4,hb4⟩
 obtain ⟨ks,hks⟩:∃ ks,J61 ((st.ledOf x).map (·.1))=ks:=⟨_,rfl⟩
 have hkl:ks.length≤616:=by
  have h1:=J6q ((st.ledOf x).map (·.1))
  rw [Y0g,hks] at h1
  have:=HRE.out.led_len hxW;omega
 rw [hks] at hR4
 obtain ⟨A4,c4,rfl⟩:=Kd.c02 hR4
 have HKS:=Y08 hks
 have H4:=Y00 (Y07 (HR.out.c08 hb4) (Y07 (Kd.c03 hR4).2.2 (J04 HH.out.2.1 hb4)))
 have HB4:=Y08 hb4
 clear hks hR4 hb4 r3 r4 s1 s2
 obtain ⟨nk,hnk⟩:∃ nk,ks.length=nk:=⟨_,rfl⟩
 rw [hnk]
 have HNK:=Y08 hnk
 have hkn616:nk≤616:=by omega
 clear hnk
 go_wp2_with fail
 go_loopw [12,34] (fun o i wr=>∃ k:Nat,k≤nk∧i=.int .i64 k∧J08 (kMs.R 83 wr w4.heap.size (fun _=>True) o ((ks.take k).map (Jd3 wd (st.ledOf x)))∧Below w4.heap.size w4 wr)) (fun _ i _=>nk - (intOf i).toNat)
 case atStart=>exact ⟨0,Nat.zero_le _,rfl,⟨Kd.R_nil _ _ _ _ _,Y0f _ _⟩⟩
 obtain ⟨k,hk,rfl,hX⟩:=hrel
 by_cases hlt:k<nk
 rotate_left
 ·have hkE:¬ ((k:Int)<nk):=by omega
  have hkn:k=nk:=by omega
  have hX2:=hX.out
  rw [hkn,← HNK.out,List.take_length] at hX2
  have HX:=Y00 (Y07 hX2.1 (Y07 hX2.2 (J04 H4.out.2.2 hX2.2)))
  have y0:=J07 HX.out.2.2 0
  have z0:wr.cell? ⟨w.heap.size+1,0,none⟩=some (.int .i64 0):=(J03 HX.out.2.2 0).trans rfl
  clear hX hX2 hkn
  go_wp2_with fail
  refine leaves_cons (f:=55) (args:=#[.pointer (some ⟨w.heap.size+1,0,none⟩)]) (by simp) (by simp [go_sem]) ?_
  refine (Jak ⟨w.heap.size+1,0,none⟩ _).mono ?_
  rintro e u' w'' ⟨rfl,rfl,rfl⟩
  have hbx:=J0d HX.out.2.2 0 (.int .i64 0) rfl
  have hcx:=(J03 hbx 0).trans rfl
  have hBw4:=J01 HH.out.1 HH.out.1.size HB4.out
  have hR9:=J7b (b':=w.heap.size) (j:=0) (u:=.int .i64 0) HX.out.1 (J0q H4.out.2.2) hBw4.size
  have hB9:Below w.heap.size w (wr.setCell ⟨w.heap.size+1,0,none⟩ (.int .i64 0)):=(J01 hBw4 hBw4.size HX.out.2.1).setCell (by simp) _
  rw [HC.out]
  have hE9:(J1f (Except.ok (J11 p.Wd.toNat (st.ledOf (x:Int).toNat)):Except Int (List Msg))).1=ks.map (Jd3 wd (st.ledOf x)):=by
   rw [Y06,HNW.out.2,Y06]
   show J11 wd (st.ledOf x)=_
   unfold J11
   rw [HKS.out]
  rw [hE9]
  simp [Leaves,settle,results,Tryz.results18,go_sem,hcx,J1f]
  exact ⟨hR9,hB9⟩
 have hlt2:k<ks.length:=by have:=HNK.out;omega
 obtain ⟨ad,rfl,m0,m1,m2,m3⟩:=Jqw (Kd.c00 H4.out.2.1 hX.out.2) hlt2
 have hkE:(k:Int)<nk:=by omega
 have hk0:(0:Int)≤k:=by omega
 have HEK:=Y08 (show (ks.take (k+1)).map (Jd3 wd (st.ledOf x))=(ks.take k).map (Jd3 wd (st.ledOf x))++[Jd3 wd (st.ledOf x) ks[k]] by rw [Y0u hlt2,List.map_append];rfl)
 have hlm:((ks.take k).map (Jd3 wd (st.ledOf x))).length≤616:=by have:=HNK.out;simp;omega
 have HLM:=Y08 hlm
 clear hlm
 generalize ks[k]=mk at *
 clear hlt2
 have hL:=(H4.out.1.led x hxW).below hX.out.2
 obtain ⟨s1,s2,_,_⟩:=H4.out.1.wcells hxW
 have s2:=J00 hX.out.2 s2
 clear s1
 go_upto_region 8 with fail
 refine wp_region_noPanic ?_
 have bE:=J02 wr (.cells #[.int .i64 mk.1,.int .i64 mk.2.1,.int .i64 mk.2.2.1,.int .i64 mk.2.2.2] 101)
 have e0:(wr.alloc (.cells #[.int .i64 mk.1,.int .i64 mk.2.1,.int .i64 mk.2.2.1,.int .i64 mk.2.2.2] 101)).cell? ⟨wr.heap.size,0,none⟩=some (.int .i64 mk.1):=J0a wr _ _ 0
 have e1:(wr.alloc (.cells #[.int .i64 mk.1,.int .i64 mk.2.1,.int .i64 mk.2.2.1,.int .i64 mk.2.2.2] 101)).cell? ⟨wr.heap.size,1,none⟩=some (.int .i64 mk.2.1):=J0a wr _ _ 1
 have e2:(wr.alloc (.cells #[.int .i64 mk.1,.int .i64 mk.2.1,.int .i64 mk.2.2.1,.int .i64 mk.2.2.2] 101)).cell? ⟨wr.heap.size,2,none⟩=some (.int .i64 mk.2.2.1):=J0a wr _ _ 2
 have e3:(wr.alloc (.cells #[.int .i64 mk.1,.int .i64 mk.2.1,.int .i64 mk.2.2.1,.int .i64 mk.2.2.2] 101)).cell? ⟨wr.heap.size,3,none⟩=some (.int .i64 mk.2.2.2):=J0a wr _ _ 3
 have f2:=J00 bE s2
 have HSH:=Y08 (fun V (hb:Below (wr.alloc (.cells #[.int .i64 mk.1,.int .i64 mk.2.1,.int .i64 mk.2.2.1,.int .i64 mk.2.2.2] 101)).heap.size (wr.alloc (.cells #[.int .i64 mk.1,.int .i64 mk.2.1,.int .i64 mk.2.2.1,.int .i64 mk.2.2.2] 101)) V)=>show V.cell? ⟨wr.heap.size,0,none⟩=some (.int .i64 mk.1)∧V.cell? ⟨wr.heap.size,1,none⟩=some (.int .i64 mk.2.1)∧V.cell? ⟨wr.heap.size,2,none⟩=some (.int .i64 mk.2.2.1)∧V.cell? ⟨wr.heap.size,3,none⟩=some (.int .i64 mk.2.2.2)∧V.cell? ⟨G.wb x,0,none⟩=some (.map (some (G.lb x)))∧(Instr.lookup 86 (.map (some (G.lb x))) (.agg #[.int .i64 mk.1,.int .i64 mk.2.1,.int .i64 mk.2.2.1,.int .i64 mk.2.2.2]) false).run Tryz.prog V=.ok (.int .i64 (getL (st.ledOf x) mk)) V from
  ⟨J00 hb e0,J00 hb e1,J00 hb e2,J00 hb e3,J00 hb f2,J1z ((hL.below bE).below hb) mk⟩)
 have HX:=Y00 (Y07 (Kd.c01 hX.out.1 bE) (J01 hX.out.2 hX.out.2.size bE))
 clear e0 e1 e2 e3 f2 s2 hL m0 m1 m2 m3 hX bE
 generalize wr.alloc (.cells #[.int .i64 mk.1,.int .i64 mk.2.1,.int .i64 mk.2.2.1,.int .i64 mk.2.2.2] 101)=wq at *
 generalize wr.heap.size=be at *
 have HD:=Y00 (J05 (Y0f wq.heap.size wq))
 refine sr1 15 (fun V=>V.cell? ⟨be,0,none⟩=some (.int .i64 mk.1)∧V.cell? ⟨be,1,none⟩=some (.int .i64 mk.2.1)∧V.cell? ⟨be,2,none⟩=some (.int .i64 mk.2.2.1)∧V.cell? ⟨be,3,none⟩=some (.int .i64 mk.2.2.2)∧V.cell? ⟨G.wb x,0,none⟩=some (.map (some (G.lb x)))∧(Instr.lookup 86 (.map (some (G.lb x))) (.agg #[.int .i64 mk.1,.int .i64 mk.2.1,.int .i64 mk.2.2.1,.int .i64 mk.2.2.2]) false).run Tryz.prog V=.ok (.int .i64 (getL (st.ledOf x) mk)) V) [13] (HSH.out wq.drew HD.out) fun hJ0=>?_
 generalize wq.drew=wdr at *
 refine pv 0 ?_
 refine pv 1 ?_
 refine tv6 2 ?_
 refine pv 4 ?_
 refine pv 5 ?_
 refine pv 6 ?_
 refine pv 7 ?_
 refine tv6 8 ?_
 refine tv6 9 ?_
 refine tv6 10 ?_
 have hrb:wdr.cell? ⟨G.rb,3,none⟩=some (.pointer (some ⟨G.gb,0,none⟩)):=by
  obtain ⟨_,_,_,_,_,_,_,_,r3,_⟩:=H4.out.1.cells
  exact J00 HD.out (J00 HX.out.2 r3)
 have hgb:wdr.cell? ⟨G.gb,1,none⟩=some (.int .i64 wd):=by
  have h:=(HG.out.below H4.out.1.below).c1
  rw [HNW.out.2] at h
  exact J00 HD.out (J00 HX.out.2 h)
 have HPU:=Jdf G.rb G.gb wd mk wdr hrb hgb (by omega) (by omega)
 simp only [mkV] at HPU
 have HPU:=Y08 HPU
 clear hrb hgb
 refine ov 3 fun K hK=>?_
 refine gs0 Tryz.func57 #[.pointer (some ⟨G.rb,0,none⟩),.agg #[.int .i64 mk.1,.int .i64 mk.2.1,.int .i64 mk.2.2.1,.int .i64 mk.2.2.2]] ?_
 refine HPU.out.mono ?_
 rintro e v5 ⟨pv,rfl,hR5,hb5⟩
 obtain ⟨A5,c5,rfl⟩:=Kd.c02 hR5
 have HB5:=Y08 (J01 HD.out HD.out.size hb5)
 have hbase:=HX.out.2.size
 have HOld:=Y00 (Y07 (Kd.c01 HX.out.1 HB5.out) (J01 HX.out.2 HX.out.2.size HB5.out))
 have HMn:=Y00 (Kd.c04 (Kd.c06 (Kd.R_newR hR5 (Kd.c01 HX.out.1 HD.out)) (fun _ h=>h.2)) (base':=w4.heap.size) (by have:=HD.out.size;omega))
 refine ⟨_,rfl,hK.out _ _ (HSH.out _ HB5.out) (fun hJ0=>?_)⟩
 clear hR5 hb5 hbase
 generalize (J0g wd mk.2).length=n5 at *
 clear hK K
 refine nm0 _ ?_
 refine pv 11 ?_
 refine ov 12 fun K hK=>?_
 refine va0 ?_
 refine hK.out _ _ (HSH.out _ (J01 HB5.out HB5.out.size (J02 v5 _))) (fun hJ0=>?_)
 clear hK K
 refine nm0 _ ?_
 refine la0 13 (bs 15 16383) (N:=(some 51)) fun K hK=>?_
 refine Kd.R_append_step kMs (w0:=w4) w4.heap.size (by rfl) (.tmp 38) (.tmp 50) 43 83 _ 40 rfl Tryz.underlying43 Tryz.infoCnt rfl (by decide) (by decide) u12 ((ks.take k).map (Jd3 wd (st.ledOf x))) (Jd3 wd (st.ledOf x) mk) [.int .i64 mk.1,.slice A5 n5 c5,.int .i64 (getL (st.ledOf x) mk)] (fun _=>True) (fun k=>some k≠u12.ownBlock) rfl rfl ⟨[_,_],[_],rfl,⟨[_],[_],rfl,rfl,⟨_,rfl,HMn.out⟩⟩,rfl⟩ (fun _ h=>⟨trivial,h⟩) (fun _ _=>trivial) HOld.out.1 HOld.out.2 HOld.out.2.size (by have:=HLM.out;omega) ?_
 intro v6 w6 hR6 hb6 hg6 hat6
 refine hK.out _ _ ?_
 clear hK K
 refine nm0 _ ?_
 refine pv 14 ?_
 refine dn0 ?_
 refine NoPanic.normal ?_
 have HX6:=Y00 (show kMs.R 83 w6 w4.heap.size (fun _=>True) v6 ((ks.take (k+1)).map (Jd3 wd (st.ledOf x)))∧Below w4.heap.size w4 w6 from ⟨by rw [HEK.out];exact hR6,hb6⟩)
 clear hR6 hb6 hg6 hat6 hJ0
 go_wp2_with fail
 exact ⟨⟨k+1,by omega,by go_num,HX6⟩,by simp [intOf];omega⟩
namespace Mdl
def J0h (wd:Nat) (m:Mk):Int × List Int:=(m.1,J0g wd m.2)
def J2b (wd:Nat) (L:Led):List (Int × List Int):=(J61 (L.map (·.1))).flatMap fun m=>List.replicate (getL L m).toNat (J0h wd m)
def J71 (p:Plan) (script:List Int) (n who:Int):Except Int (List (Int × List Int)):=match J16 p script n who with
 | .error c=>.error c
 | .ok ways=>.ok (J2b p.Wd.toNat ((J24 p.E p.workers.toNat n.toNat (J0s p.workers.toNat p.start script)).hasOf who.toNat))
theorem Ji4 {L:Led} (h:Pos L) {m:Mk} (hm:m ∈ L.map (·.1)):0≤getL L m∧(getL L m).toNat≤cnt L:=by
 obtain ⟨e,he,rfl⟩:=List.mem_map.1 hm
 have hg:getL L e.1=e.2:=J2e h.nodup (by exact he)
 have hc:=J7j (Jf3 h.nodup (m:=e.1) (v:=e.2) (by exact he))
 rw [J6b] at hc
 have:=h.pos e he
 rw [hg]
 simp only at hc
 omega
end Mdl
abbrev kMk:Kd (Int × List Int):=Kd.pair kI kLI
theorem Tryz.infoAmark:(Tryz.prog.info? 57).map (fun i=>(i.zero,i.size,i.bytes))=some (some (.agg #[.int .i64 0,.slice none 0 0]),2,32):=by kernel_rfl
theorem Jjk (p:Plan) (eA mA sA:Option Addr) (eC mC sC:Nat) (script:List Int) (n who:Int) (hn64:n≤9223372036854775807) (w:World) (hp:J1v w p eA mA) (hsC:kI.C w sA script.length script) (hsl:script.length≤sC) :
  Calls Tryz.prog 20 #[J1q p eA eC mA mC,.slice sA script.length sC,.int .i64 n,.int .i64 who] w fun e w'=>∃ v,e=.returned (.tuple #[v,.int .i64 (J1f (J71 p script n who)).2])∧kMk.R 57 w' w.heap.size (fun _=>True) v (J1f (J71 p script n who)).1∧Below w.heap.size w w':=by
 have hmf:=hmf0
 have hz1:(w.alloc (.cells (pC p eA mA eC mC) 27)).heap.size=w.heap.size+1:=by simp
 have b2:Below w.heap.size w ((w.alloc (.cells (pC p eA mA eC mC) 27)).alloc (.cells #[.int .i64 0] 29)):=J15
 have hbk:((w.alloc (.cells (pC p eA mA eC mC) 27)).alloc (.cells #[.int .i64 0] 29)).heap[w.heap.size]?=some (.cells (pC p eA mA eC mC) 27 (0,0)):=J04 (Y0c w _) (J02 _ _)
 have hbr:=Y0c (w.alloc (.cells (pC p eA mA eC mC) 27)) (.cells #[.int .i64 0] 29)
 rw [hz1] at hbr
 have HAF:=Y08 (J9a p eA mA sA eC mC sC script n who hn64 _ (hp.below b2) (Kd.c00 hsC b2) hsl)
 have hSm:=Kd.C_max hp.hS
 have hEm:=Kd.C_max hp.hE
 have hSc:=Kd.C_max hsC
 have H1:=Y00 (Y07 b2 (Y07 hbk hbr))
 clear hp hsC hsl hz1 hbk hbr b2
 simp only [J1q] at HAF ⊢
 go_enter_defers Tryz.func20,Tryz.ntmps20
 go_upto_region 1 with fail
 generalize (w.alloc (.cells (pC p eA mA eC mC) 27)).alloc (.cells #[.int .i64 0] 29)=w2 at *
 obtain ⟨p0,p1,p2,p3,p4⟩:=bc5 H1.out.2.1
 go_wp2_with fail
 refine HAF.out.mono ?_
 rintro e w3 h3
 unfold J41 at h3
 cases ho:J16 p script n who with
 | error c =>
  rw [ho] at h3
  obtain ⟨rfl,hb3⟩:=h3
  have HC:=Y08 (show J71 p script n who=.error c by simp only [J71,ho])
  have hbr:=J04 H1.out.2.2 hb3
  have hb:=J01 H1.out.1 H1.out.1.size hb3
  refine leaves_cons (f:=58) (args:=#[.pointer (some ⟨w.heap.size+1,0,none⟩)]) (by simp) (by simp [go_sem]) ?_
  refine (Jd4 ⟨w.heap.size+1,0,none⟩ 0 c w3 ((J03 hbr 0).trans rfl) (J07 hbr 0)).mono ?_
  rintro e u' w'' ⟨rfl,rfl,rfl⟩
  have hbx:=J0d (J04 hbr (J02 w3 (.cells #[.int .i64 c] 126))) 0 (.int .i64 c) rfl
  have hcx:=(J03 hbx 0).trans rfl
  have hb5:=J01 hb hb.size (J02 w3 (.cells #[.int .i64 c] 126))
  rw [HC.out]
  simp [Leaves,settle,results,Tryz.results20,go_sem,hcx,J1f]
  exact ⟨Kd.R_nil _ _ _ _ _,hb5.setCell (by simp) _⟩
 | ok ways=>?_
 rw [ho] at h3
 obtain ⟨rb,w0,G,rfl,hrb,hb0,hgb,hG,q,hR⟩:=h3
 have hb3:=J01 hb0 hb0.size hR.below
 have hb:=J01 H1.out.1 H1.out.1.size hb3
 have hbr:=J04 H1.out.2.2 hb3
 have HC:=Y08 (show J71 p script n who=.ok (J2b p.Wd.toNat ((J24 p.E p.workers.toNat n.toNat (J0s p.workers.toNat p.start script)).hasOf who.toNat)) by simp only [J71,ho])
 have HB:=Y08 (begun_ok ho)
 have HG:=Y00 hG
 have HR:=Y00 hR
 have HH:=Y00 (Y07 hb (Y07 hbr hb0))
 clear ho hG hR hb3 hb hbr hb0 hgb p0 p1 p2 p3 p4 HAF
 subst hrb
 have hN1:=HB.out.N1
 have hN8:=HB.out.N8
 have hWd1:=HB.out.Wd1
 have hWd3:=HB.out.Wd3
 have hwho0:=HB.out.who0
 have hwhoW:=HB.out.whoW
 have hRe:=J4j (n:=n.toNat) HB.out.w4 HB.out.E _ HB.out.reach
 generalize J24 p.E p.workers.toNat n.toNat (J0s p.workers.toNat p.start script)=st at *
 have HRE:=Y08 hRe
 clear hRe
 generalize p.workers.toNat=W at *
 obtain ⟨nd,hnd⟩:∃ m:Nat,p.N=m:=⟨p.N.toNat,by omega⟩
 obtain ⟨wd,hwd⟩:∃ m:Nat,p.Wd=m:=⟨p.Wd.toNat,by omega⟩
 obtain ⟨x,rfl⟩:∃ x:Nat,who=x:=⟨who.toNat,by omega⟩
 have hxW:x<W:=by omega
 have HNW:=Y08 (Y07 hnd hwd)
 have hnd1:1≤nd∧nd≤8∧1≤wd∧wd≤3:=by omega
 obtain ⟨hd1,hd8,hd1',hd3⟩:=hnd1
 clear hnd hwd hN1 hN8 hWd1 hWd3
 obtain ⟨A,c,_,_,_,_,_,_,r3,r4,_⟩:=HR.out.cells
 obtain ⟨s1,_,s2,_⟩:=HR.out.wcells hxW
 go_upto_region 5 with fail
 have bL:=J02 w3 (.cells #[.map (some (G.hb x))] 88)
 have l0:(w3.alloc (.cells #[.map (some (G.hb x))] 88)).cell? ⟨w3.heap.size,0,none⟩=some (.map (some (G.hb x))):=J0a w3 _ _ 0
 have HR3:=Y00 (Y07 (HR.out.c08 bL) (Y07 (J01 HH.out.1 HH.out.1.size bL) (J04 HH.out.2.1 bL)))
 clear r3 r4 s1 s2 bL
 generalize w3.alloc (.cells #[.map (some (G.hb x))] 88)=w3b at *
 generalize w3.heap.size=lbx at *
 have hmemL:=J0i (l:=st.has) (i:=x) (by rw [HRE.out.inv.has.len];exact hxW) []
 have hkeys:∀ e ∈ st.hasOf x,okM e.1:=fun e he=>by
  have:=HRE.out.inv.has.node _ hmemL e he
  have h8:=HB.out.N8
  unfold J1k at this
  unfold okM;omega
 have hPos:Pos (st.hasOf x):=HRE.out.inv.has.pos _ hmemL
 have hcnt:cnt (st.hasOf x)≤308:=by
  have h2:=J1d (has:=st.has) (i:=x) (by rw [HRE.out.inv.has.len];exact hxW)
  have h3:=HRE.out.phi
  unfold Mdl.phi at h3
  show cnt (st.has.getD x [])≤308
  omega
 have hlen:=J5h hPos.pos
 have HMA:=Y08 (Jbv (G.hb x) (st.hasOf x) w3b (HR3.out.1.has x hxW) hkeys (by omega))
 have HPC:=Y08 (Y07 hPos hcnt)
 clear hkeys hPos hmemL hcnt
 go_wp2_with fail
 refine HMA.out.mono ?_
 rintro e w4 ⟨v4,rfl,hR4,hb4⟩
 obtain ⟨ks,hks⟩:∃ ks,J61 ((st.hasOf x).map (·.1))=ks:=⟨_,rfl⟩
 have hkl:ks.length≤308:=by
  have h1:=J6q ((st.hasOf x).map (·.1))
  rw [Y0g,hks] at h1
  have:=HPC.out.2;omega
 have HKM:=Y08 (show ∀ m ∈ ks,0≤getL (st.hasOf x) m∧(getL (st.hasOf x) m).toNat≤308 from fun m hm=>by
  rw [← hks] at hm
  have h:=Ji4 HPC.out.1 (Jfq.1 hm)
  have:=HPC.out.2
  omega)
 rw [hks] at hR4
 obtain ⟨A4,c4,rfl⟩:=Kd.c02 hR4
 have HKS:=Y08 hks
 have H4:=Y00 (Y07 (HR3.out.1.c08 hb4) (Y07 (Kd.c03 hR4).2.2 (Y07 (J04 HR3.out.2.2 hb4) (Y07 (J00 hb4 l0) (J01 HR3.out.2.1 HR3.out.2.1.size hb4)))))
 clear hks hR4 hb4 l0 hlen
 obtain ⟨nk,hnk⟩:∃ nk,ks.length=nk:=⟨_,rfl⟩
 rw [hnk]
 have HNK:=Y08 hnk
 have hkn308:nk≤308:=by omega
 clear hnk
 go_wp2_with fail
 go_loopw [12,34] (fun o i wr=>∃ k:Nat,k≤nk∧i=.int .i64 k∧J08 (kMk.R 57 wr w4.heap.size (fun _=>True) o ((ks.take k).flatMap fun m=>List.replicate (getL (st.hasOf x) m).toNat (J0h wd m))∧Below w4.heap.size w4 wr)) (fun _ i _=>nk - (intOf i).toNat)
 case atStart=>exact ⟨0,Nat.zero_le _,rfl,⟨Kd.R_nil _ _ _ _ _,Y0f _ _⟩⟩
 obtain ⟨k,hk,rfl,hX⟩:=hrel
 by_cases hlt:k<nk
 rotate_left
 ·have hkE:¬ ((k:Int)<nk):=by omega
  have hkn:k=nk:=by omega
  have hX2:=hX.out
  rw [hkn,← HNK.out,List.take_length] at hX2
  have HX:=Y00 (Y07 hX2.1 (Y07 hX2.2 (J04 H4.out.2.2.1 hX2.2)))
  have y0:=J07 HX.out.2.2 0
  have z0:wr.cell? ⟨w.heap.size+1,0,none⟩=some (.int .i64 0):=(J03 HX.out.2.2 0).trans rfl
  clear hX hX2 hkn
  go_wp2_with fail
  refine leaves_cons (f:=58) (args:=#[.pointer (some ⟨w.heap.size+1,0,none⟩)]) (by simp) (by simp [go_sem]) ?_
  refine (Jd5 ⟨w.heap.size+1,0,none⟩ _).mono ?_
  rintro e u' w'' ⟨rfl,rfl,rfl⟩
  have hbx:=J0d HX.out.2.2 0 (.int .i64 0) rfl
  have hcx:=(J03 hbx 0).trans rfl
  have hBw4:=H4.out.2.2.2.2
  have hR9:=J7b (b':=w.heap.size) (j:=0) (u:=.int .i64 0) HX.out.1 (J0q H4.out.2.2.1) hBw4.size
  have hB9:Below w.heap.size w (wr.setCell ⟨w.heap.size+1,0,none⟩ (.int .i64 0)):=(J01 hBw4 hBw4.size HX.out.2.1).setCell (by simp) _
  rw [HC.out]
  have hE9:(J1f (Except.ok (J2b p.Wd.toNat (st.hasOf (x:Int).toNat)):Except Int (List (Int × List Int)))).1=ks.flatMap fun m=>List.replicate (getL (st.hasOf x) m).toNat (J0h wd m):=by
   rw [Y06,HNW.out.2,Y06]
   show J2b wd (st.hasOf x)=_
   unfold J2b
   rw [HKS.out]
  rw [hE9]
  simp [Leaves,settle,results,Tryz.results20,go_sem,hcx,J1f]
  exact ⟨hR9,hB9⟩
 have hlt2:k<ks.length:=by have:=HNK.out;omega
 obtain ⟨ad,rfl,m0,m1,m2,m3⟩:=Jqw (Kd.c00 H4.out.2.1 hX.out.2) hlt2
 have hkE:(k:Int)<nk:=by omega
 have hk0:(0:Int)≤k:=by omega
 have HEK:=Y08 (show ((ks.take (k+1)).flatMap fun m=>List.replicate (getL (st.hasOf x) m).toNat (J0h wd m))=((ks.take k).flatMap fun m=>List.replicate (getL (st.hasOf x) m).toNat (J0h wd m))++List.replicate (getL (st.hasOf x) ks[k]).toNat (J0h wd ks[k]) by rw [Y0u hlt2,List.flatMap_append];simp)
 have HLM:=Y08 (show ((ks.take k).flatMap fun m=>List.replicate (getL (st.hasOf x) m).toNat (J0h wd m)).length≤308*308 from by
  have h1:=J91 (fun m=>List.replicate (getL (st.hasOf x) m).toNat (J0h wd m)) 308 (ks.take k) (fun m hm=>by rw [Y0j];exact (HKM.out m (List.mem_of_mem_take hm)).2)
  have h2:(ks.take k).length*308≤308*308:=Nat.mul_le_mul_right _ (by rw [Y0o];omega)
  omega)
 have hcv:=HKM.out _ (Y0l hlt2)
 generalize ks[k]=mk at *
 clear hlt2
 obtain ⟨cv,hcve⟩:∃ cv:Nat,getL (st.hasOf x) mk=cv:=⟨(getL (st.hasOf x) mk).toNat,by omega⟩
 have hcv308:cv≤308:=by rw [hcve] at hcv;simpa using hcv.2
 generalize hpre:((ks.take k).flatMap fun m=>List.replicate (getL (st.hasOf x) m).toNat (J0h wd m))=pre at *
 have hL:=(H4.out.1.has x hxW).below hX.out.2
 have bE:=J02 wr (.cells #[.int .i64 mk.1,.int .i64 mk.2.1,.int .i64 mk.2.2.1,.int .i64 mk.2.2.2] 101)
 have hlk:(Instr.lookup 86 (.map (some (G.hb x))) (.agg #[.int .i64 mk.1,.int .i64 mk.2.1,.int .i64 mk.2.2.1,.int .i64 mk.2.2.2]) false).run Tryz.prog (wr.alloc (.cells #[.int .i64 mk.1,.int .i64 mk.2.1,.int .i64 mk.2.2.1,.int .i64 mk.2.2.2] 101))=.ok (.int .i64 cv) (wr.alloc (.cells #[.int .i64 mk.1,.int .i64 mk.2.1,.int .i64 mk.2.2.1,.int .i64 mk.2.2.2] 101)):=by
  rw [← hcve];exact J1z (hL.below bE) mk
 have HCV:=Y08 hcve
 have HPRE:=Y08 hpre
 clear hcv hcve hpre hL
 have l0:=J00 bE (J00 hX.out.2 H4.out.2.2.2.1)
 have e0:(wr.alloc (.cells #[.int .i64 mk.1,.int .i64 mk.2.1,.int .i64 mk.2.2.1,.int .i64 mk.2.2.2] 101)).cell? ⟨wr.heap.size,0,none⟩=some (.int .i64 mk.1):=J0a wr _ _ 0
 have e1:(wr.alloc (.cells #[.int .i64 mk.1,.int .i64 mk.2.1,.int .i64 mk.2.2.1,.int .i64 mk.2.2.2] 101)).cell? ⟨wr.heap.size,1,none⟩=some (.int .i64 mk.2.1):=J0a wr _ _ 1
 have e2:(wr.alloc (.cells #[.int .i64 mk.1,.int .i64 mk.2.1,.int .i64 mk.2.2.1,.int .i64 mk.2.2.2] 101)).cell? ⟨wr.heap.size,2,none⟩=some (.int .i64 mk.2.2.1):=J0a wr _ _ 2
 have e3:(wr.alloc (.cells #[.int .i64 mk.1,.int .i64 mk.2.1,.int .i64 mk.2.2.1,.int .i64 mk.2.2.2] 101)).cell? ⟨wr.heap.size,3,none⟩=some (.int .i64 mk.2.2.2):=J0a wr _ _ 3
 have HX:=Y00 (Y07 (Kd.c01 hX.out.1 bE) (J01 hX.out.2 hX.out.2.size bE))
 have HE:=Y08 (Y0c wr (.cells #[.int .i64 mk.1,.int .i64 mk.2.1,.int .i64 mk.2.2.1,.int .i64 mk.2.2.2] 101))
 clear hX bE
 go_upto_region 8 with fail
 generalize wr.alloc (.cells #[.int .i64 mk.1,.int .i64 mk.2.1,.int .i64 mk.2.2.1,.int .i64 mk.2.2.2] 101)=wq at *
 generalize wr.heap.size=be at *
 clear m0 m1 m2 m3
 go_wp2_with fail
 clear l0 hlk e0 e1 e2 e3
 go_loopw [12,42] (fun o i wv=>∃ j:Nat,j≤cv∧i=.int .i64 j∧J08 (kMk.R 57 wv w4.heap.size (fun _=>True) o (pre++List.replicate j (J0h wd mk))∧Below w4.heap.size w4 wv∧wv.heap[be]?=some (.cells #[.int .i64 mk.1,.int .i64 mk.2.1,.int .i64 mk.2.2.1,.int .i64 mk.2.2.2] 101 (0,0)))) (fun _ i _=>cv - (intOf i).toNat)
 case atStart=>exact ⟨0,Nat.zero_le _,rfl,⟨by rw [List.replicate_zero,List.append_nil];exact HX.out.1,HX.out.2,HE.out⟩⟩
 obtain ⟨j,hj,rfl,hY⟩:=hrel
 by_cases hjl:j<cv
 rotate_left
 ·have hjE:¬ ((j:Int)<cv):=by omega
  have hjc:j=cv:=by omega
  have hY2:=hY.out
  have HK2:=Y08 (show pre++List.replicate j (J0h wd mk)=(ks.take (k+1)).flatMap fun m=>List.replicate (getL (st.hasOf x) m).toNat (J0h wd m) by rw [HEK.out,HCV.out,Y06,hjc])
  have HX2:=Y00 (Y07 (show kMk.R 57 wr w4.heap.size (fun _=>True) u12 ((ks.take (k+1)).flatMap fun m=>List.replicate (getL (st.hasOf x) m).toNat (J0h wd m)) by rw [← HK2.out];exact hY2.1) hY2.2.1)
  clear hY hY2 hjc
  go_wp2_with fail
  exact ⟨⟨k+1,by omega,by go_num,HX2⟩,by simp [intOf];omega⟩
 have hjE:(j:Int)<cv:=by omega
 have hj0:(0:Int)≤j:=by omega
 have HY:=Y00 hY.out
 obtain ⟨e0,e1,e2,e3⟩:=bc4 HY.out.2.2
 have hrb:wr.cell? ⟨G.rb,3,none⟩=some (.pointer (some ⟨G.gb,0,none⟩)):=by
  obtain ⟨_,_,_,_,_,_,_,_,r3,_⟩:=H4.out.1.cells
  exact J00 HY.out.2.1 r3
 have hgb:wr.cell? ⟨G.gb,1,none⟩=some (.int .i64 wd):=by
  have h:=(HG.out.below H4.out.1.below).c1
  rw [HNW.out.2] at h
  exact J00 HY.out.2.1 h
 have HPU:=Jdf G.rb G.gb wd mk wr hrb hgb (by omega) (by omega)
 simp only [mkV] at HPU
 have HPU:=Y08 HPU
 have HRS:=Y08 (show pre++List.replicate (j+1) (J0h wd mk)=(pre++List.replicate j (J0h wd mk))++[J0h wd mk] by rw [Y0d,← List.replicate_succ'])
 clear hrb hgb hY
 go_wp2_with fail
 refine HPU.out.mono ?_
 rintro e v5 ⟨pv,rfl,hR5,hb5⟩
 obtain ⟨A5,c5,rfl⟩:=Kd.c02 hR5
 have HOld:=Y00 (Y07 (Kd.c01 HY.out.1 hb5) (Y07 (J01 HY.out.2.1 HY.out.2.1.size hb5) (J04 HY.out.2.2 hb5)))
 have HMn:=Y00 (Kd.c04 (Kd.c06 (Kd.R_newR hR5 HY.out.1) (fun _ h=>h.2)) (base':=w4.heap.size) HY.out.2.1.size)
 clear hR5 hb5 e0 e1 e2 e3
 generalize (J0g wd mk.2).length=n5 at *
 go_wp2_with (at_builtin;go_must (refine Kd.R_append kMk (w0:=w4) w4.heap.size rfl (.tmp 44) (.tmp 48) _ 57 _ 32 rfl Tryz.underlying46 Tryz.infoAmark rfl (by decide) (by decide) _ (pre++List.replicate j (J0h wd mk)) (J0h wd mk) _ (fun _=>True) (fun k=>some k≠u12.ownBlock) rfl rfl ⟨[_],[_],rfl,rfl,⟨_,rfl,HMn.out⟩⟩ (fun _ h=>⟨trivial,h⟩) (fun _ _=>trivial) HOld.out.1 HOld.out.2.1 HOld.out.2.1.size (by have:=HLM.out;rw [Y02,Y0j];omega) ?_);intro v6 w6 hR6 hb6 hg6 hat6)
 have hg6':v5.grownBy w6 u12.ownBlock:=hg6
 have HY6:=Y00 (show kMk.R 57 w6 w4.heap.size (fun _=>True) v6 (pre++List.replicate (j+1) (J0h wd mk))∧Below w4.heap.size w4 w6∧w6.heap[be]?=some (.cells #[.int .i64 mk.1,.int .i64 mk.2.1,.int .i64 mk.2.2.1,.int .i64 mk.2.2.2] 101 (0,0)) from ⟨by rw [HRS.out];exact hR6,hb6,J0x HOld.out.2.2 hg6' (Kd.R_ne HOld.out.1 HOld.out.2.2 (by decide))⟩)
 clear hR6 hb6 hg6 hat6 hg6'
 exact ⟨⟨j+1,by omega,by go_num,HY6⟩,by simp [intOf];omega⟩
namespace Mdl
def endS (E:List Ed) (W:Nat) (st:St):St:=J24 E W 1233 st
def runX (p:Plan) (script:List Int):Except Int (Int × Int × Int):=match J16 p script 0 0 with
 | .error c=>.error c
 | .ok _=>.ok ((endS p.E p.workers.toNat (J0s p.workers.toNat p.start script)).works,(endS p.E p.workers.toNat (J0s p.workers.toNat p.start script)).nts,(endS p.E p.workers.toNat (J0s p.workers.toNat p.start script)).sent)
def J8m (r:Except Int (Int × Int × Int)):(Int × Int × Int) × Int:=match r with
 | .ok x=>(x,0)
 | .error c=>((0,0,0),c)
end Mdl
theorem Jmj (p:Plan) (eA mA sA:Option Addr) (eC mC sC:Nat) (script:List Int) (w:World) (hp:J1v w p eA mA) (hsC:kI.C w sA script.length script) (hsl:script.length≤sC) :
  Calls Tryz.prog 22 #[J1q p eA eC mA mC,.slice sA script.length sC] w fun e w'=>e=.returned (.tuple #[.agg #[.int .i64 (J8m (runX p script)).1.1,.int .i64 (J8m (runX p script)).1.2.1,.int .i64 (J8m (runX p script)).1.2.2],.int .i64 (J8m (runX p script)).2])∧Below w.heap.size w w':=by
 have hmf:=hmf0
 have hz1:(w.alloc (.cells (pC p eA mA eC mC) 27)).heap.size=w.heap.size+1:=by simp
 have hz2:((w.alloc (.cells (pC p eA mA eC mC) 27)).alloc (.cells #[.int .i64 0,.int .i64 0,.int .i64 0] 50)).heap.size=w.heap.size+2:=by simp
 have b2:Below w.heap.size w (((w.alloc (.cells (pC p eA mA eC mC) 27)).alloc (.cells #[.int .i64 0,.int .i64 0,.int .i64 0] 50)).alloc (.cells #[.int .i64 0] 29)):=Jb7
 have hbk:(((w.alloc (.cells (pC p eA mA eC mC) 27)).alloc (.cells #[.int .i64 0,.int .i64 0,.int .i64 0] 50)).alloc (.cells #[.int .i64 0] 29)).heap[w.heap.size]?=some (.cells (pC p eA mA eC mC) 27 (0,0)):=J04 (Y0c w _) J15
 have hbc:(((w.alloc (.cells (pC p eA mA eC mC) 27)).alloc (.cells #[.int .i64 0,.int .i64 0,.int .i64 0] 50)).alloc (.cells #[.int .i64 0] 29)).heap[w.heap.size+1]?=some (.cells #[.int .i64 0,.int .i64 0,.int .i64 0] 50 (0,0)):=by
  have:=Y0c (w.alloc (.cells #[.int .i64 p.N,.int .i64 p.Wd,.slice eA p.E.length eC,.int .i64 p.workers,.slice mA p.start.length mC] 27)) (.cells #[.int .i64 0,.int .i64 0,.int .i64 0] 50)
  rw [hz1] at this
  exact J04 this (J02 _ _)
 have hbr:=Y0c ((w.alloc (.cells (pC p eA mA eC mC) 27)).alloc (.cells #[.int .i64 0,.int .i64 0,.int .i64 0] 50)) (.cells #[.int .i64 0] 29)
 rw [hz2] at hbr
 have HAF:=Y08 (Jco p eA mA sA eC mC sC script 0 0 _ (hp.below b2) (Kd.c00 hsC b2) hsl)
 have hSm:=Kd.C_max hp.hS
 have hEm:=Kd.C_max hp.hE
 have hSc:=Kd.C_max hsC
 have H1:=Y00 (Y07 b2 (Y07 hbk (Y07 hbc hbr)))
 clear hp hsC hsl hz1 hz2 hbk hbr hbc b2
 simp only [J1q] at HAF ⊢
 go_enter_defers Tryz.func22,Tryz.ntmps22
 go_upto_region 1 with fail
 generalize (((w.alloc (.cells (pC p eA mA eC mC) 27)).alloc (.cells #[.int .i64 0,.int .i64 0,.int .i64 0] 50)).alloc (.cells #[.int .i64 0] 29))=w2 at *
 obtain ⟨p0,p1,p2,p3,p4⟩:=bc5 H1.out.2.1
 go_wp2_with fail
 refine HAF.out.mono ?_
 rintro e w3 h3
 unfold J30 at h3
 cases ho:J16 p script 0 0 with
 | error c =>
  rw [ho] at h3
  obtain ⟨rfl,hb3⟩:=h3
  have HC:=Y08 (show runX p script=.error c by simp only [runX,ho])
  have hbr:=J04 H1.out.2.2.2 hb3
  have hbc:=J04 H1.out.2.2.1 hb3
  have hb:=J01 H1.out.1 H1.out.1.size hb3
  refine leaves_cons (f:=59) (args:=#[.pointer (some ⟨w.heap.size+2,0,none⟩)]) (by simp) (by simp [go_sem]) ?_
  refine (Jf8 ⟨w.heap.size+2,0,none⟩ 0 c w3 ((J03 hbr 0).trans rfl) (J07 hbr 0)).mono ?_
  rintro e u' w'' ⟨rfl,rfl,rfl⟩
  have hbx:=J0d (J04 hbr (J02 w3 (.cells #[.int .i64 c] 126))) 0 (.int .i64 c) rfl
  have hcx:=(J03 hbx 0).trans rfl
  have hg:(w3.alloc (.cells #[.int .i64 c] 126)).grownBy ((w3.alloc (.cells #[.int .i64 c] 126)).setCell ⟨w.heap.size+2,0,none⟩ (.int .i64 c)) (some (w.heap.size+2)):=J0e (w.heap.size+2) [_] 0 _
  have hbc2:=J0x (J04 hbc (J02 w3 (.cells #[.int .i64 c] 126))) hg (by simp)
  obtain ⟨hc0,hc1,hc2⟩:=bc3 hbc2
  have hb5:=J01 hb hb.size (J02 w3 (.cells #[.int .i64 c] 126))
  rw [HC.out]
  simp [Leaves,settle,results,Tryz.results22,go_sem,hcx,hc0,hc1,hc2,J8m]
  exact hb5.setCell (by simp) _
 | ok ways=>?_
 rw [ho] at h3
 obtain ⟨rb,w0,G,rfl,hrb,hb0,hgb,hG,hR⟩:=h3
 have HC:=Y08 (show runX p script=.ok ((endS p.E p.workers.toNat (J0s p.workers.toNat p.start script)).works,(endS p.E p.workers.toNat (J0s p.workers.toNat p.start script)).nts,(endS p.E p.workers.toNat (J0s p.workers.toNat p.start script)).sent) by simp only [runX,ho])
 have HB:=Y08 (begun_ok ho)
 have HG:=Y00 hG
 have HR:=Y00 hR
 have HH:=Y00 hb0
 clear ho hG hR hb0 hgb p0 p1 p2 p3 p4 HAF
 subst hrb
 generalize p.workers.toNat=W at *
 go_wp2_with fail
 go_loopg [] 1233 (fun k wr=>J08 (∃ st,Mdl.phi st<k∧J6e w0 G W st wr∧Mdl.Reach W p.N st∧J24 p.E W k st=endS p.E W (J0s W p.start script)))
 case atStart=>exact ⟨_,by have:=HB.out.reach.phi;omega,HR.out,HB.out.reach,rfl⟩
 clear HR
 obtain ⟨st,hph,hR,hRe,hit⟩:=hrel.out
 have HR:=Y00 (Y07 hR (Y07 hRe (Y07 hit hph)))
 have HS:=Y08 (Jec w0 G W st p.N p.Wd p.E ways wr hR HG.out HB.out.w4 HB.out.E16 (fun j k=>Nat.le_trans (hRe.queue j k) (by decide)) (hRe.hasOk HB.out.N8) (hRe.moves HB.out.w4))
 clear hrel hR hRe hit hph
 go_wp2_with fail
 refine HS.out.mono ?_
 rintro e w4 h4
 unfold J6d at h4
 cases hs:J2j p.E W st with
 | some st' =>
  rw [hs] at h4
  obtain ⟨rfl,hR4⟩:=h4
  obtain ⟨hst1,hst2⟩:=HR.out.2.1.step HB.out.w4 HB.out.E hs
  obtain ⟨k',rfl⟩:∃ k',gk=k'+1:=⟨gk - 1,by have:=HR.out.2.2.2;omega⟩
  have HX:=Y00 (show ∃ st,Mdl.phi st<k'∧J6e w0 G W st w4∧Mdl.Reach W p.N st∧J24 p.E W k' st=endS p.E W (J0s W p.start script) from ⟨st',by have:=HR.out.2.2.2;omega,hR4,hst1,by rw [← HR.out.2.2.1,Jdn hs]⟩)
  clear hs hR4 hst1 hst2 HS HR
  go_wp2_with fail
  go_roundg k'
  case measure=>omega
  exact HX
 | none=>?_
 rw [hs] at h4
 obtain ⟨rfl,q,hR4⟩:=h4
 have HF:=Y08 (show endS p.E W (J0s W p.start script)=st by rw [← HR.out.2.2.1];exact Jdo hs _)
 have hb4:=J01 HH.out HH.out.size hR4.below
 have HX:=Y00 (Y07 (J01 H1.out.1 H1.out.1.size hb4) (Y07 (J04 H1.out.2.2.1 hb4) (J04 H1.out.2.2.2 hb4)))
 obtain ⟨A,c,_,_,_,r0,r1,r2,_⟩:=hR4.cells
 clear hs hR4 hb4 HS
 obtain ⟨y0,y1,y2⟩:=bf3 HX.out.2.1
 have y3:=J07 HX.out.2.2 0
 obtain ⟨z0,z1,z2⟩:=bc3 HX.out.2.1
 have z3:w4.cell? ⟨w.heap.size+2,0,none⟩=some (.int .i64 0):=(J03 HX.out.2.2 0).trans rfl
 go_wp2_with fail
 have hk1:=J0d (J0d (J0d HX.out.2.1 0 (.int .i64 st.works) rfl) 1 (.int .i64 st.nts) rfl) 2 (.int .i64 st.sent) rfl
 have hg1:w4.grownBy (((w4.setCell ⟨w.heap.size+1,0,none⟩ (.int .i64 st.works)).setCell ⟨w.heap.size+1,1,none⟩ (.int .i64 st.nts)).setCell ⟨w.heap.size+1,2,none⟩ (.int .i64 st.sent)) (some (w.heap.size+1)):=J0e (w.heap.size+1) [_,_,_] 0 w4
 have hr1:=J0x HX.out.2.2 hg1 (by simp)
 have hB1:=HX.out.1.grown hg1 HX.out.1.size (fun k hk=>by injection hk with hk;omega)
 generalize ((w4.setCell ⟨w.heap.size+1,0,none⟩ (.int .i64 st.works)).setCell ⟨w.heap.size+1,1,none⟩ (.int .i64 st.nts)).setCell ⟨w.heap.size+1,2,none⟩ (.int .i64 st.sent)=w5 at *
 have hg2:w5.grownBy (w5.setCell ⟨w.heap.size+2,0,none⟩ (.int .i64 0)) (some (w.heap.size+2)):=J0e (w.heap.size+2) [_] 0 w5
 have hk2:=J0x hk1 hg2 (by simp)
 have hr2:=J0d hr1 0 (.int .i64 0) rfl
 have hB2:=hB1.grown hg2 hB1.size (fun k hk=>by injection hk with hk;omega)
 have hW6:=(show w5.setCell ⟨w.heap.size+1+1,0,none⟩ (.int .i64 0)=w5.setCell ⟨w.heap.size+2,0,none⟩ (.int .i64 0) from rfl)
 rw [hW6]
 generalize w5.setCell ⟨w.heap.size+2,0,none⟩ (.int .i64 0)=w6 at *
 refine leaves_cons (f:=59) (args:=#[.pointer (some ⟨w.heap.size+2,0,none⟩)]) (by simp) (by simp [go_sem]) ?_
 refine (Jf9 ⟨w.heap.size+2,0,none⟩ _).mono ?_
 rintro e u' w'' ⟨rfl,rfl,rfl⟩
 obtain ⟨hc0,hc1,hc2⟩:=bc3 hk2
 have hcx:=(J03 hr2 0).trans rfl
 rw [HC.out,HF.out]
 simp [Leaves,settle,results,Tryz.results22,go_sem,hcx,hc0,hc1,hc2,J8m]
 exact hB2
end Go.Proofs.YtbkfnmgkcgnifaaGreat
